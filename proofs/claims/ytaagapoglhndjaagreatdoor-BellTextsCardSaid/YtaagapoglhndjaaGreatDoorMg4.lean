/- Bell: a stroke of words, walked. -/
import Derived.Test.YtaagapoglhndjaaGreatDoorMg3
import Derived.Deep.RegionHeld3
import Derived.Deep.RegionHeld2
import Derived.Deep.RegionWith
namespace Go.VE
open Go.RowKit Go.Proofs Go.Shelf
set_option maxRecDepth 100000
set_option maxHeartbeats 4000000
theorem stroke_no (x:List UInt8) (A n c:Nat) (w:World) (h0:w.cell? ⟨A,0,none⟩=some (.string ⟨x.toArray⟩)) (hn:1≤n)
  (hk:kindI x=0):Calls Tryz.prog 65 #[.slice (some ⟨A,0,none⟩) n c] w fun e w'=>Below w.heap.size w w'∧e=.panicked [{ v:=wrongV,recovered:=false }]:=by
 have hlt:A < w.heap.size:=cellLt h0
 have hn':(0:Int) < (n:Int):=by omega
 have hn0:0 < n:=hn
 go_enter Tryz.func65,Tryz.ntmps65
 go_wp2
 go_region_held3 (fun w'=>w'.cell? ⟨A,0,none⟩=some (.string ⟨x.toArray⟩)) (first | go_keep | (refine (Below.cell (by assumption) (by simp;omega)).trans ?_;first | assumption | (simp;omega)))
  ((go_at_call 95;refine (wordOf_c _).mono ?_;rintro e w1 ⟨v,rfl,hv,hb⟩;have hlk:=look_c hv x;have hbw:Below w.heap.size w w1:=(((Below.refl _ w).alloc (Nat.le_refl _) _).drew).trans (hb.mono (by simp))))
 all_goals go_wp2
 all_goals exact ⟨rfl,hbw,rfl⟩
theorem Laid.d {w:World} (h:Laid w):Laid w.drew:=h.below ((Below.refl _ w).drew)
theorem Laid.a {w:World} (h:Laid w) (o:Obj):Laid (w.alloc o):=h.below ((Below.refl _ w).alloc (Nat.le_refl _) o)
def outc (s:List UInt8):Ending:=match numP s with
 | some n=>.returned (.int .i64 n)
 | none=>.panicked [{ v:=wrongV,recovered:=false }]
theorem b_al {B:Nat} {w W:World} (h:Below B w W) (hB:B≤w.heap.size) (x:Obj):Below B w (W.alloc x):=h.alloc (Nat.le_trans hB h.size) x
theorem bl_tr {w W w2:World} (h:Below w.heap.size w W) (d:Below W.heap.size W w2):Below w.heap.size w w2:=h.trans (d.mono h.size)
def Four (w:World) (N:Nat) (a b c d:Value):Prop:=(w.cell? ⟨N,0,none⟩=some a∧w.cell? ⟨N,1,none⟩=some b∧w.cell? ⟨N,2,none⟩=some c∧w.cell? ⟨N,3,none⟩=some d)∧∀ j,w.frozen? ⟨N,j,none⟩=false
theorem Four.keep {W w2:World} {N:Nat} {a b c d:Value} (h:Four W N a b c d) (hb:Below W.heap.size W w2):Four w2 N a b c d:=by
 obtain ⟨⟨h0,h1,h2,h3⟩,hf⟩:=h
 have hN:N < W.heap.size:=cellLt h0
 exact ⟨⟨(hb.cell (p:=⟨N,0,none⟩) hN).trans h0,(hb.cell (p:=⟨N,1,none⟩) hN).trans h1,(hb.cell (p:=⟨N,2,none⟩) hN).trans h2,(hb.cell (p:=⟨N,3,none⟩) hN).trans h3⟩,fun j=>(hb.frozen (p:=⟨N,j,none⟩) hN).trans (hf j)⟩
theorem Four.new {W w2:World} {a b c d:Value} (hb:Below (W.alloc (.cells #[a,b,c,d] 84)).heap.size (W.alloc (.cells #[a,b,c,d] 84)) w2):Four w2 W.heap.size a b c d:=by
 have h2:=(MapKept.heap_alloc W (.cells #[a,b,c,d] 84)).1
 refine Four.keep ⟨⟨?_,?_,?_,?_⟩,fun j=>?_⟩ hb
 ·exact (Go.Joins.cell_of_block h2 0).trans rfl
 ·exact (Go.Joins.cell_of_block h2 1).trans rfl
 ·exact (Go.Joins.cell_of_block h2 2).trans rfl
 ·exact (Go.Joins.cell_of_block h2 3).trans rfl
 ·unfold World.frozen?
  show (match (W.alloc (.cells #[a,b,c,d] 84)).heap[W.heap.size]? with | some (.cells _ _ (lo,hi))=>decide (lo≤j)&&decide (j < hi) | _=>false)=false
  rw [h2]
  simp
theorem Four.newd {W w2:World} {a b c d:Value} (hb:Below (W.alloc (.cells #[a,b,c,d] 84)).drew.heap.size (W.alloc (.cells #[a,b,c,d] 84)).drew w2):Four w2 W.heap.size a b c d :=
 Four.new (((Below.refl _ (W.alloc (.cells #[a,b,c,d] 84))).drew).trans hb)
theorem b_ad (w:World) (x:Obj):Below w.heap.size w (w.alloc x).drew:=((Below.refl _ w).alloc (Nat.le_refl _) x).drew
theorem num_o (s:List UInt8) (hs:s.length≤1000000) (w:World) (hL:Laid w):Calls Tryz.prog 96 #[.string ⟨s.toArray⟩] w fun e w'=>e=outc s∧Below w.heap.size w w':=by
 refine (num_c s hs w hL).mono ?_
 rintro e w' ⟨h1,h2⟩
 refine ⟨?_,h1⟩
 unfold outc
 cases h:numP s<;>rw [h] at h2<;>exact h2
theorem outc_s {s:List UInt8} {n:Nat} (h:numP s=some n):outc s=.returned (.int .i64 n):=by rw [outc,h]
theorem outc_n {s:List UInt8} (h:numP s=none):outc s=.panicked [{ v:=wrongV,recovered:=false }]:=by rw [outc,h]
def Cel (w:World) (N:Nat) (a b c d:Value):Prop:=w.cell? ⟨N,0,none⟩=some a∧w.cell? ⟨N,1,none⟩=some b∧w.cell? ⟨N,2,none⟩=some c∧w.cell? ⟨N,3,none⟩=some d
theorem Cel.one {w:World} {N:Nat} {a b c d:Value} (h:Cel w N a b c d) (i:Nat) (hi:i < 4) (v:Value):Cel (w.setCell ⟨N,i,none⟩ v) N (if i=0 then v else a) (if i=1 then v else b) (if i=2 then v else c) (if i=3 then v else d):=by
 obtain ⟨h0,h1,h2,h3⟩:=h
 have ot:∀ j,i≠j→(w.setCell ⟨N,i,none⟩ v).cell? ⟨N,j,none⟩=w.cell? ⟨N,j,none⟩:=fun j hj=>World.cell?_setCell_other _ _ _ _ (fun e=>hj (congrArg Addr.off e))
 match i,hi with
 | 0,_=>exact ⟨World.cell?_setCell_same _ _ _ h0,(ot 1 (by decide)).trans h1,(ot 2 (by decide)).trans h2,(ot 3 (by decide)).trans h3⟩
 | 1,_=>exact ⟨(ot 0 (by decide)).trans h0,World.cell?_setCell_same _ _ _ h1,(ot 2 (by decide)).trans h2,(ot 3 (by decide)).trans h3⟩
 | 2,_=>exact ⟨(ot 0 (by decide)).trans h0,(ot 1 (by decide)).trans h1,World.cell?_setCell_same _ _ _ h2,(ot 3 (by decide)).trans h3⟩
 | 3,_=>exact ⟨(ot 0 (by decide)).trans h0,(ot 1 (by decide)).trans h1,(ot 2 (by decide)).trans h2,World.cell?_setCell_same _ _ _ h3⟩
theorem Cel.set {w:World} {N:Nat} {a b c d:Value} (h:Cel w N a b c d) (x y z u:Value):Cel ((((w.setCell ⟨N,0,none⟩ x).setCell ⟨N,1,none⟩ y).setCell ⟨N,2,none⟩ z).setCell ⟨N,3,none⟩ u) N x y z u :=
 (((h.one 0 (by decide) x).one 1 (by decide) y).one 2 (by decide) z).one 3 (by decide) u
theorem Cel.other {w:World} {N M:Nat} {a b c d:Value} (h:Cel w N a b c d) (hne:M≠N) (i:Nat) (v:Value):Cel (w.setCell ⟨M,i,none⟩ v) N a b c d:=by
 have ot:∀ j,(w.setCell ⟨M,i,none⟩ v).cell? ⟨N,j,none⟩=w.cell? ⟨N,j,none⟩:=fun j=>World.cell?_setCell_other _ _ _ _ (fun e=>hne (congrArg Addr.block e))
 obtain ⟨h0,h1,h2,h3⟩:=h
 exact ⟨(ot 0).trans h0,(ot 1).trans h1,(ot 2).trans h2,(ot 3).trans h3⟩
theorem Cel.below {w w':World} {N:Nat} {a b c d:Value} (h:Cel w N a b c d) (hb:Below w.heap.size w w'):Cel w' N a b c d:=by
 obtain ⟨h0,h1,h2,h3⟩:=h
 have hN:=cellLt h0
 exact ⟨(hb.cell (p:=⟨N,0,none⟩) hN).trans h0,(hb.cell (p:=⟨N,1,none⟩) hN).trans h1,(hb.cell (p:=⟨N,2,none⟩) hN).trans h2,(hb.cell (p:=⟨N,3,none⟩) hN).trans h3⟩
theorem Cel.alloc {w:World} {N:Nat} {a b c d:Value} (h:Cel w N a b c d) (x:Obj):Cel (w.alloc x) N a b c d:=h.below ((Below.refl _ w).alloc (Nat.le_refl _) x)
theorem Four.set {w:World} {N:Nat} {a b c d:Value} (h:Four w N a b c d) (x y z u:Value):Four ((((w.setCell ⟨N,0,none⟩ x).setCell ⟨N,1,none⟩ y).setCell ⟨N,2,none⟩ z).setCell ⟨N,3,none⟩ u) N x y z u:=⟨Cel.set h.1 x y z u,fun j=>by simp only [World.frozen?_setCell];exact h.2 j⟩
theorem Four.two {w:World} {N:Nat} {a b c d:Value} (h:Four w N a b c d) (x:Value):Four (w.setCell ⟨N,2,none⟩ x) N a b x d:=⟨Cel.one h.1 2 (by decide) x,fun j=>by simp only [World.frozen?_setCell];exact h.2 j⟩
theorem Four.other {w:World} {N M:Nat} {a b c d:Value} (h:Four w N a b c d) (hne:M≠N) (i:Nat) (v:Value):Four (w.setCell ⟨M,i,none⟩ v) N a b c d:=⟨Cel.other h.1 hne i v,fun j=>by simp only [World.frozen?_setCell];exact h.2 j⟩
theorem Four.all {w:World} {N M:Nat} {a b c d:Value} (h:Four w N a b c d) (hne:M≠N) (x y z u:Value):Four ((((w.setCell ⟨M,0,none⟩ x).setCell ⟨M,1,none⟩ y).setCell ⟨M,2,none⟩ z).setCell ⟨M,3,none⟩ u) N a b c d:=(((h.other hne 0 x).other hne 1 y).other hne 2 z).other hne 3 u
theorem b_set {B:Nat} {w w':World} (h:Below B w w') {M:Nat} (hM:B≤M) (x y z u:Value):Below B w ((((w'.setCell ⟨M,0,none⟩ x).setCell ⟨M,1,none⟩ y).setCell ⟨M,2,none⟩ z).setCell ⟨M,3,none⟩ u):=(((h.setCell (p:=⟨M,0,none⟩) hM x).setCell (p:=⟨M,1,none⟩) hM y).setCell (p:=⟨M,2,none⟩) hM z).setCell (p:=⟨M,3,none⟩) hM u
theorem Four.cel {w:World} {N:Nat} {a b c d:Value} (h:Four w N a b c d):Cel w N a b c d:=h.1
theorem Four.mk_ {w:World} {a b c d:Value}:Four (w.alloc (.cells #[a,b,c,d] 84)) w.heap.size a b c d:=Four.new (Below.refl _ _)
theorem res65 {T:Array Value} {W:World} {N:Nat} {a b c d:Value} {R:Ending→World→Prop} (ht:T.getD 2 undef=.pointer (some ⟨N,0,none⟩)) (h:Cel W N a b c d) (hR:R (.returned (.agg #[a,b,c,d])) W):bodyPost Tryz.prog Tryz.f65 R .ret { tmps:=T,defers:=[] } W:=by
 obtain ⟨h0,h1,h2,h3⟩:=h
 refine bodyPost_ret ?_ rfl hR
 have ht':T[2]?.getD undef=.pointer (some ⟨N,0,none⟩):=by simpa using ht
 simp [results,Tryz.results65,go_sem,ht',h0,h1,h2,h3]
theorem stroke_2 (x a c:List UInt8) (ha:a.length≤1000000) (hc:c.length≤1000000) (A C:Nat) (w:World) (hL:Laid w) (h0:w.cell? ⟨A,0,none⟩=some (.string ⟨x.toArray⟩)) (h1:w.cell? ⟨A,1,none⟩=some (.string ⟨a.toArray⟩)) (h2:w.cell? ⟨A,2,none⟩=some (.string ⟨c.toArray⟩))
  (k:Int) (hk:kindI x=k) (hk0:(k==0)=false) (hk1:(k==1)=false) (hk3:(k==3)=false) (n:Nat) (m:Nat) (hna:numP a=some n) (hnc:numP c=some m) :
  Calls Tryz.prog 65 #[.slice (some ⟨A,0,none⟩) 3 C] w fun e w'=>Below w.heap.size w w'∧e=.returned (.agg #[.int .i64 k,.int .i64 n,.int .i64 0,.int .i64 m]):=by
 have hlt:A < w.heap.size:=cellLt h0
 go_enter Tryz.func65,Tryz.ntmps65
 go_wp2
 go_region_held3 (fun w'=>w'.cell? ⟨A,0,none⟩=some (.string ⟨x.toArray⟩)) (first | go_keep | (refine (Below.cell (by assumption) (by simp;omega)).trans ?_;first | assumption | (simp;omega)))
  ((go_at_call 95;refine (wordOf_c _).mono ?_;rintro e w1 ⟨v,rfl,hv,hb⟩;have hlk:=look_c hv x;have hbw:Below w.heap.size w w1:=(((Below.refl _ w).alloc (Nat.le_refl _) _).drew).trans (hb.mono (by simp))))
 all_goals
  have hL1:=hL.below hbw
  have F1:=Four.newd hb
  have g1:=(hbw.cell (p:=⟨A,1,none⟩) hlt).trans h1
  have g2:=(hbw.cell (p:=⟨A,2,none⟩) hlt).trans h2
  have hlt1:A < w1.heap.size:=Nat.lt_of_lt_of_le hlt hbw.size
  have AB:Aside (Below w.heap.size w w1):=hbw
  clear h0 h1 h2 hL hb hv hlk hbw hlt
  have hoa:=outc_s hna
  have hoc:=outc_s hnc
  clear hna hnc
  have hd0:Below w1.heap.size w1 w1.drew:=(Below.refl _ _).drew
  have hn1:w1.heap.size≠A:=Nat.ne_of_gt hlt1
  have wr2:IntKind.i64.wrap 2=2:=by decide
  have wr3:IntKind.i64.wrap 3=3:=by decide
 all_goals
  go_wp2
  go_region_held3 (fun w'=>w'.cell? ⟨A,1,none⟩=some (.string ⟨a.toArray⟩)∧w'.cell? ⟨A,2,none⟩=some (.string ⟨c.toArray⟩)) (first | go_keep | exact ⟨by assumption,by assumption⟩)
   ((go_at_call 96;refine (num_o _ (by first | exact ha | exact hc | exact hb0) _ (hL1.below (by first | assumption | exact b_ad _ _ | exact b_al (by assumption) (Nat.le_refl _) _))).mono ?_;first | (rintro e w2 ⟨he,hw2⟩;rw [hoa] at he;subst he;have hBw2:Below w1.heap.size w1 w2:=bl_tr (by first | assumption | exact b_ad _ _ | exact b_al (by assumption) (Nat.le_refl _) _) hw2;have g3w2:=(hBw2.cell (p:=⟨A,1,none⟩) hlt1).trans g1;have g4w2:=(hBw2.cell (p:=⟨A,2,none⟩) hlt1).trans g2;have hnw2:w2.heap.size≠A:=Nat.ne_of_gt (Nat.lt_of_lt_of_le hlt1 hBw2.size);(first | (have hA:=Four.newd hw2;obtain ⟨⟨hA0,hA1,hA2,hA3⟩,hA4⟩:=id hA) | skip)) | (rintro e w3 ⟨he,hw3⟩;rw [hoc] at he;subst he;have hBw3:Below w1.heap.size w1 w3:=bl_tr (by first | assumption | exact b_ad _ _ | exact b_al (by assumption) (Nat.le_refl _) _) hw3;have g3w3:=(hBw3.cell (p:=⟨A,1,none⟩) hlt1).trans g1;have g4w3:=(hBw3.cell (p:=⟨A,2,none⟩) hlt1).trans g2;have hnw3:w3.heap.size≠A:=Nat.ne_of_gt (Nat.lt_of_lt_of_le hlt1 hBw3.size);(first | (have hC:=Four.keep hA hw3;clear hA0 hA1 hA2 hA3 hA4;obtain ⟨⟨hC0,hC1,hC2,hC3⟩,hC4⟩:=id hC) | ((first | have hC:=Four.new hw3 | have hC:=Four.newd hw3);obtain ⟨⟨hC0,hC1,hC2,hC3⟩,hC4⟩:=id hC) | skip))))
 all_goals
  have F3:=F1.keep hBw3
  have hlw:w.heap.size < w1.heap.size:=cellLt F1.1.1
  have hls:w.heap.size < w3.heap.size:=Nat.lt_of_lt_of_le hlw hBw3.size
  have hn3:w3.heap.size≠w.heap.size:=Nat.ne_of_gt hls
  have hn2:w2.heap.size≠w.heap.size:=Nat.ne_of_gt (Nat.lt_of_lt_of_le hlw hBw2.size)
  have hn1':w1.heap.size≠w.heap.size:=Nat.ne_of_gt hlw
  obtain ⟨⟨F30,F31,F32,F33⟩,F34⟩:=id F3
  have hb3:Below w.heap.size w w3:=AB.out.trans (hBw3.mono AB.out.size)
  have le1:w.heap.size≤w1.heap.size:=Nat.le_of_lt hlw
  have le2:w.heap.size≤w2.heap.size:=Nat.le_trans le1 hBw2.size
  have le3:w.heap.size≤w3.heap.size:=Nat.le_of_lt hls
  go_wp2
  refine res65 rfl (by
   have F3':Cel w3 w.heap.size (.int .i64 0) (.int .i64 0) (.int .i64 0) (.int .i64 0):=F3.1
   first
    | (with_reducible exact (F3'.set _ _ _ _).alloc _)
    | (with_reducible exact ((((F3'.other hn3 _ _).other hn3 _ _).other hn3 _ _).other hn3 _ _).set _ _ _ _)
    | (with_reducible exact ((((F3'.other hn2 _ _).other hn2 _ _).other hn2 _ _).other hn2 _ _).set _ _ _ _)
    | (with_reducible exact ((((F3'.other hn1' _ _).other hn1' _ _).other hn1' _ _).other hn1' _ _).set _ _ _ _)) ⟨?_,rfl⟩
  repeat with_reducible first
   | exact hb3
   | refine Below.setCell ?_ (by first | exact Nat.le_refl _ | exact le1 | exact le2 | exact le3) _
   | refine Below.alloc ?_ (by simp;omega) _
theorem stroke_2a (x a c:List UInt8) (ha:a.length≤1000000) (hc:c.length≤1000000) (A C:Nat) (w:World) (hL:Laid w) (h0:w.cell? ⟨A,0,none⟩=some (.string ⟨x.toArray⟩)) (h1:w.cell? ⟨A,1,none⟩=some (.string ⟨a.toArray⟩)) (h2:w.cell? ⟨A,2,none⟩=some (.string ⟨c.toArray⟩))
  (k:Int) (hk:kindI x=k) (hk0:(k==0)=false) (hk1:(k==1)=false) (hk3:(k==3)=false) (hna:numP a=none) :
  Calls Tryz.prog 65 #[.slice (some ⟨A,0,none⟩) 3 C] w fun e w'=>Below w.heap.size w w'∧e=.panicked [{ v:=wrongV,recovered:=false }]:=by
 have hlt:A < w.heap.size:=cellLt h0
 go_enter Tryz.func65,Tryz.ntmps65
 go_wp2
 go_region_held3 (fun w'=>w'.cell? ⟨A,0,none⟩=some (.string ⟨x.toArray⟩)) (first | go_keep | (refine (Below.cell (by assumption) (by simp;omega)).trans ?_;first | assumption | (simp;omega)))
  ((go_at_call 95;refine (wordOf_c _).mono ?_;rintro e w1 ⟨v,rfl,hv,hb⟩;have hlk:=look_c hv x;have hbw:Below w.heap.size w w1:=(((Below.refl _ w).alloc (Nat.le_refl _) _).drew).trans (hb.mono (by simp))))
 all_goals
  have hL1:=hL.below hbw
  have F1:=Four.newd hb
  have g1:=(hbw.cell (p:=⟨A,1,none⟩) hlt).trans h1
  have g2:=(hbw.cell (p:=⟨A,2,none⟩) hlt).trans h2
  have hlt1:A < w1.heap.size:=Nat.lt_of_lt_of_le hlt hbw.size
  have AB:Aside (Below w.heap.size w w1):=hbw
  clear h0 h1 h2 hL hb hv hlk hbw hlt
  have hoa:=outc_n hna
  clear hna
  have hd0:Below w1.heap.size w1 w1.drew:=(Below.refl _ _).drew
  have hn1:w1.heap.size≠A:=Nat.ne_of_gt hlt1
  have wr2:IntKind.i64.wrap 2=2:=by decide
  have wr3:IntKind.i64.wrap 3=3:=by decide
 all_goals
  go_wp2
  refine wp_region_held_drew (S:=(fun w'=>w'.cell? ⟨A,1,none⟩=some (.string ⟨a.toArray⟩)∧w'.cell? ⟨A,2,none⟩=some (.string ⟨c.toArray⟩))) (by kernel_rfl) (by exact ⟨by simpa using g1,by simpa using g2⟩) (fun hHeld=>?_)
  refine wpAnyH_take (i:=0) (oi:=⟨some 27,.move (.tmp 3),3, "ring.go:270",#[],none⟩) (v:=.int .i64 k) rfl (by kernel_rfl) (by kernel_rfl) (by kernel_rfl) (fun _ _ _ h=>h) (Or.inl ⟨by rfl,?_⟩) (by assumption) ?_
  ·(intro w hSw;(try dsimp only at hSw);go_simp)
  simp only [Act.put,List.setIfInBounds_toArray,List.set_cons_zero,List.set_cons_succ]
  refine wpAnyH_take (i:=1) (oi:=⟨some 28,.move (.tmp 0),124, "ring.go:270",#[],none⟩) (v:=.slice (some ⟨A,0,none⟩) 3 C) rfl (by kernel_rfl) (by kernel_rfl) (by kernel_rfl) (fun _ _ _ h=>h) (Or.inl ⟨by rfl,?_⟩) (by assumption) ?_
  ·(intro w hSw;(try dsimp only at hSw);go_simp)
  simp only [Act.put,List.setIfInBounds_toArray,List.set_cons_zero,List.set_cons_succ]
  refine wpAnyH_take (i:=2) (oi:=⟨some 29,.indexAddr 124 (.tmp 28) (.const (.int .i64 1)),0, "ring.go:270",#[⟨1,.data⟩],none⟩) (v:=.pointer (some ⟨A,1,none⟩)) rfl (by kernel_rfl) (by kernel_rfl) (by kernel_rfl) (fun _ _ _ h=>h) (Or.inl ⟨by rfl,?_⟩) (by assumption) ?_
  ·(intro w hSw;(try dsimp only at hSw);go_simp)
  simp only [Act.put,List.setIfInBounds_toArray,List.set_cons_zero,List.set_cons_succ]
  refine wpAnyH_take (i:=3) (oi:=⟨some 30,.load 9 (.tmp 29),9, "ring.go:270",#[⟨2,.data⟩],none⟩) (v:=.string ⟨a.toArray⟩) rfl (by kernel_rfl) (by kernel_rfl) (by kernel_rfl) (fun _ _ _ h=>h) (Or.inl ⟨by rfl,?_⟩) (by assumption) ?_
  ·(intro w hSw;(try dsimp only at hSw);go_simp)
  simp only [Act.put,List.setIfInBounds_toArray,List.set_cons_zero,List.set_cons_succ]
  refine wpAnyH_take (i:=5) (oi:=⟨some 32,.move (.tmp 0),124, "ring.go:270",#[],none⟩) (v:=.slice (some ⟨A,0,none⟩) 3 C) rfl (by kernel_rfl) (by kernel_rfl) (by kernel_rfl) (fun _ _ _ h=>h) (Or.inl ⟨by rfl,?_⟩) (by assumption) ?_
  ·(intro w hSw;(try dsimp only at hSw);go_simp)
  simp only [Act.put,List.setIfInBounds_toArray,List.set_cons_zero,List.set_cons_succ]
  refine wpAnyH_take (i:=6) (oi:=⟨some 33,.move (.tmp 4),3, "ring.go:270",#[],none⟩) (v:=.int .i64 3) rfl (by kernel_rfl) (by kernel_rfl) (by kernel_rfl) (fun _ _ _ h=>h) (Or.inl ⟨by rfl,?_⟩) (by assumption) ?_
  ·(intro w hSw;(try dsimp only at hSw);go_simp)
  simp only [Act.put,List.setIfInBounds_toArray,List.set_cons_zero,List.set_cons_succ]
  refine wpAnyH_take (i:=7) (oi:=⟨some 34,.binOp .sub 3 (.tmp 33) (.const (.int .i64 1)) 3,3, "ring.go:270",#[⟨6,.data⟩],none⟩) (v:=.int .i64 2) rfl (by kernel_rfl) (by kernel_rfl) (by kernel_rfl) (fun _ _ _ h=>h) (Or.inl ⟨by rfl,?_⟩) (by assumption) ?_
  ·(intro w hSw;(try dsimp only at hSw);go_simp)
  simp only [Act.put,List.setIfInBounds_toArray,List.set_cons_zero,List.set_cons_succ]
  refine wpAnyH_take (i:=8) (oi:=⟨some 35,.indexAddr 124 (.tmp 32) (.tmp 34),0, "ring.go:270",#[⟨5,.data⟩,⟨7,.data⟩],none⟩) (v:=.pointer (some ⟨A,2,none⟩)) rfl (by kernel_rfl) (by kernel_rfl) (by kernel_rfl) (fun _ _ _ h=>h) (Or.inl ⟨by rfl,?_⟩) (by assumption) ?_
  ·(intro w hSw;(try dsimp only at hSw);go_simp)
  simp only [Act.put,List.setIfInBounds_toArray,List.set_cons_zero,List.set_cons_succ]
  refine wpAnyH_take (i:=9) (oi:=⟨some 36,.load 9 (.tmp 35),9, "ring.go:270",#[⟨8,.data⟩],none⟩) (v:=.string ⟨c.toArray⟩) rfl (by kernel_rfl) (by kernel_rfl) (by kernel_rfl) (fun _ _ _ h=>h) (Or.inl ⟨by rfl,?_⟩) (by assumption) ?_
  ·(intro w hSw;(try dsimp only at hSw);go_simp)
  simp only [Act.put,List.setIfInBounds_toArray,List.set_cons_zero,List.set_cons_succ]
  refine wpAnyH_ready (rs:=[4,12]) (by kernel_rfl) (by simp) (AllReadyH.cons (o:=⟨some 31,.call { callee:=.value (.func 96),args:=#[(.tmp 30)],argTypes:=#[9] },3, "ring.go:270",#[⟨3,.data⟩],none⟩) rfl (fun K hK=>?_) (AllReadyH.cons (o:=⟨some 5,.alloc 84,0, "ring.go:270",#[],none⟩) rfl (fun K hK=>?_) AllReadyH.nil))
  ·try go_simp
   go_wp2_with (go_at_call 96;refine (num_o _ (by first | exact ha | exact hc) _ (hL1.below hd0)).mono ?_;rintro e w' ⟨he,hw'⟩;rw [hoa] at he;subst he)
   exact ⟨rfl,AB.out.trans ((Below.trans hd0 (hw'.mono (Below.size hd0))).mono AB.out.size),rfl⟩
  ·try go_simp
   refine hK.out _ _ (by first | go_keep | exact ⟨by assumption,by assumption⟩) (fun hHeld=>?_)
   try simp only [Act.put,List.setIfInBounds_toArray,List.set_cons_zero,List.set_cons_succ]
   refine wpAnyH_ready (rs:=[4]) (by kernel_rfl) (by simp) (AllReadyH.cons (o:=⟨some 31,.call { callee:=.value (.func 96),args:=#[(.tmp 30)],argTypes:=#[9] },3, "ring.go:270",#[⟨3,.data⟩],none⟩) rfl (fun K hK=>?_) AllReadyH.nil)
   try go_simp
   go_wp2_with (go_at_call 96;refine (num_o _ (by first | exact ha | exact hc) _ (hL1.below (b_ad _ _))).mono ?_;rintro e w' ⟨he,hw'⟩;rw [hoa] at he;subst he)
   exact ⟨rfl,AB.out.trans ((Below.trans (b_ad _ _) (hw'.mono (Below.size (b_ad _ _)))).mono AB.out.size),rfl⟩
theorem stroke_2c (x a c:List UInt8) (ha:a.length≤1000000) (hc:c.length≤1000000) (A C:Nat) (w:World) (hL:Laid w) (h0:w.cell? ⟨A,0,none⟩=some (.string ⟨x.toArray⟩)) (h1:w.cell? ⟨A,1,none⟩=some (.string ⟨a.toArray⟩)) (h2:w.cell? ⟨A,2,none⟩=some (.string ⟨c.toArray⟩))
  (k:Int) (hk:kindI x=k) (hk0:(k==0)=false) (hk1:(k==1)=false) (hk3:(k==3)=false) (n:Nat) (hna:numP a=some n) (hnc:numP c=none) :
  Calls Tryz.prog 65 #[.slice (some ⟨A,0,none⟩) 3 C] w fun e w'=>Below w.heap.size w w'∧e=.panicked [{ v:=wrongV,recovered:=false }]:=by
 have hlt:A < w.heap.size:=cellLt h0
 go_enter Tryz.func65,Tryz.ntmps65
 go_wp2
 go_region_held3 (fun w'=>w'.cell? ⟨A,0,none⟩=some (.string ⟨x.toArray⟩)) (first | go_keep | (refine (Below.cell (by assumption) (by simp;omega)).trans ?_;first | assumption | (simp;omega)))
  ((go_at_call 95;refine (wordOf_c _).mono ?_;rintro e w1 ⟨v,rfl,hv,hb⟩;have hlk:=look_c hv x;have hbw:Below w.heap.size w w1:=(((Below.refl _ w).alloc (Nat.le_refl _) _).drew).trans (hb.mono (by simp))))
 all_goals
  have hL1:=hL.below hbw
  have F1:=Four.newd hb
  have g1:=(hbw.cell (p:=⟨A,1,none⟩) hlt).trans h1
  have g2:=(hbw.cell (p:=⟨A,2,none⟩) hlt).trans h2
  have hlt1:A < w1.heap.size:=Nat.lt_of_lt_of_le hlt hbw.size
  have AB:Aside (Below w.heap.size w w1):=hbw
  clear h0 h1 h2 hL hb hv hlk hbw hlt
  have hoa:=outc_s hna
  have hoc:=outc_n hnc
  clear hna hnc
  have hd0:Below w1.heap.size w1 w1.drew:=(Below.refl _ _).drew
  have hn1:w1.heap.size≠A:=Nat.ne_of_gt hlt1
  have wr2:IntKind.i64.wrap 2=2:=by decide
  have wr3:IntKind.i64.wrap 3=3:=by decide
 all_goals
  go_wp2
  refine wp_region_held_drew (S:=(fun w'=>w'.cell? ⟨A,1,none⟩=some (.string ⟨a.toArray⟩)∧w'.cell? ⟨A,2,none⟩=some (.string ⟨c.toArray⟩))) (by kernel_rfl) (by exact ⟨by simpa using g1,by simpa using g2⟩) (fun hHeld=>?_)
  refine wpAnyH_take (i:=0) (oi:=⟨some 27,.move (.tmp 3),3, "ring.go:270",#[],none⟩) (v:=.int .i64 k) rfl (by kernel_rfl) (by kernel_rfl) (by kernel_rfl) (fun _ _ _ h=>h) (Or.inl ⟨by rfl,?_⟩) (by assumption) ?_
  ·(intro w hSw;(try dsimp only at hSw);go_simp)
  simp only [Act.put,List.setIfInBounds_toArray,List.set_cons_zero,List.set_cons_succ]
  refine wpAnyH_take (i:=1) (oi:=⟨some 28,.move (.tmp 0),124, "ring.go:270",#[],none⟩) (v:=.slice (some ⟨A,0,none⟩) 3 C) rfl (by kernel_rfl) (by kernel_rfl) (by kernel_rfl) (fun _ _ _ h=>h) (Or.inl ⟨by rfl,?_⟩) (by assumption) ?_
  ·(intro w hSw;(try dsimp only at hSw);go_simp)
  simp only [Act.put,List.setIfInBounds_toArray,List.set_cons_zero,List.set_cons_succ]
  refine wpAnyH_take (i:=2) (oi:=⟨some 29,.indexAddr 124 (.tmp 28) (.const (.int .i64 1)),0, "ring.go:270",#[⟨1,.data⟩],none⟩) (v:=.pointer (some ⟨A,1,none⟩)) rfl (by kernel_rfl) (by kernel_rfl) (by kernel_rfl) (fun _ _ _ h=>h) (Or.inl ⟨by rfl,?_⟩) (by assumption) ?_
  ·(intro w hSw;(try dsimp only at hSw);go_simp)
  simp only [Act.put,List.setIfInBounds_toArray,List.set_cons_zero,List.set_cons_succ]
  refine wpAnyH_take (i:=3) (oi:=⟨some 30,.load 9 (.tmp 29),9, "ring.go:270",#[⟨2,.data⟩],none⟩) (v:=.string ⟨a.toArray⟩) rfl (by kernel_rfl) (by kernel_rfl) (by kernel_rfl) (fun _ _ _ h=>h) (Or.inl ⟨by rfl,?_⟩) (by assumption) ?_
  ·(intro w hSw;(try dsimp only at hSw);go_simp)
  simp only [Act.put,List.setIfInBounds_toArray,List.set_cons_zero,List.set_cons_succ]
  refine wpAnyH_take (i:=5) (oi:=⟨some 32,.move (.tmp 0),124, "ring.go:270",#[],none⟩) (v:=.slice (some ⟨A,0,none⟩) 3 C) rfl (by kernel_rfl) (by kernel_rfl) (by kernel_rfl) (fun _ _ _ h=>h) (Or.inl ⟨by rfl,?_⟩) (by assumption) ?_
  ·(intro w hSw;(try dsimp only at hSw);go_simp)
  simp only [Act.put,List.setIfInBounds_toArray,List.set_cons_zero,List.set_cons_succ]
  refine wpAnyH_take (i:=6) (oi:=⟨some 33,.move (.tmp 4),3, "ring.go:270",#[],none⟩) (v:=.int .i64 3) rfl (by kernel_rfl) (by kernel_rfl) (by kernel_rfl) (fun _ _ _ h=>h) (Or.inl ⟨by rfl,?_⟩) (by assumption) ?_
  ·(intro w hSw;(try dsimp only at hSw);go_simp)
  simp only [Act.put,List.setIfInBounds_toArray,List.set_cons_zero,List.set_cons_succ]
  refine wpAnyH_take (i:=7) (oi:=⟨some 34,.binOp .sub 3 (.tmp 33) (.const (.int .i64 1)) 3,3, "ring.go:270",#[⟨6,.data⟩],none⟩) (v:=.int .i64 2) rfl (by kernel_rfl) (by kernel_rfl) (by kernel_rfl) (fun _ _ _ h=>h) (Or.inl ⟨by rfl,?_⟩) (by assumption) ?_
  ·(intro w hSw;(try dsimp only at hSw);go_simp)
  simp only [Act.put,List.setIfInBounds_toArray,List.set_cons_zero,List.set_cons_succ]
  refine wpAnyH_take (i:=8) (oi:=⟨some 35,.indexAddr 124 (.tmp 32) (.tmp 34),0, "ring.go:270",#[⟨5,.data⟩,⟨7,.data⟩],none⟩) (v:=.pointer (some ⟨A,2,none⟩)) rfl (by kernel_rfl) (by kernel_rfl) (by kernel_rfl) (fun _ _ _ h=>h) (Or.inl ⟨by rfl,?_⟩) (by assumption) ?_
  ·(intro w hSw;(try dsimp only at hSw);go_simp)
  simp only [Act.put,List.setIfInBounds_toArray,List.set_cons_zero,List.set_cons_succ]
  refine wpAnyH_take (i:=9) (oi:=⟨some 36,.load 9 (.tmp 35),9, "ring.go:270",#[⟨8,.data⟩],none⟩) (v:=.string ⟨c.toArray⟩) rfl (by kernel_rfl) (by kernel_rfl) (by kernel_rfl) (fun _ _ _ h=>h) (Or.inl ⟨by rfl,?_⟩) (by assumption) ?_
  ·(intro w hSw;(try dsimp only at hSw);go_simp)
  simp only [Act.put,List.setIfInBounds_toArray,List.set_cons_zero,List.set_cons_succ]
  refine wpAnyH_ready (rs:=[4,12]) (by kernel_rfl) (by simp) (AllReadyH.cons (o:=⟨some 31,.call { callee:=.value (.func 96),args:=#[(.tmp 30)],argTypes:=#[9] },3, "ring.go:270",#[⟨3,.data⟩],none⟩) rfl (fun K hK=>?_) (AllReadyH.cons (o:=⟨some 5,.alloc 84,0, "ring.go:270",#[],none⟩) rfl (fun K hK=>?_) AllReadyH.nil))
  ·try go_simp
   go_wp2_with (go_at_call 96;refine (num_o _ (by first | exact ha | exact hc) _ (hL1.below hd0)).mono ?_;rintro e w2 ⟨he,hw2⟩;rw [hoa] at he;subst he)
   have hB2:Below w1.heap.size w1 w2:=Below.trans hd0 (hw2.mono (Below.size hd0))
   refine hK.out _ _ ⟨(hB2.cell (p:=⟨A,1,none⟩) hlt1).trans g1,(hB2.cell (p:=⟨A,2,none⟩) hlt1).trans g2⟩ (fun hHeld=>?_)
   try simp only [Act.put,List.setIfInBounds_toArray,List.set_cons_zero,List.set_cons_succ]
   refine wpAnyH_ready (rs:=[10,12]) (by kernel_rfl) (by simp) (AllReadyH.cons (o:=⟨some 37,.call { callee:=.value (.func 96),args:=#[(.tmp 36)],argTypes:=#[9] },3, "ring.go:270",#[⟨9,.data⟩,⟨4,.chain⟩],none⟩) rfl (fun K hK=>?_) (AllReadyH.cons (o:=⟨some 5,.alloc 84,0, "ring.go:270",#[],none⟩) rfl (fun K hK=>?_) AllReadyH.nil))
   ·try go_simp
    go_wp2_with (go_at_call 96;refine (num_o _ (by first | exact ha | exact hc) _ (hL1.below hB2)).mono ?_;rintro e w' ⟨he,hw'⟩;rw [hoc] at he;subst he)
    exact ⟨rfl,AB.out.trans ((Below.trans hB2 (hw'.mono (Below.size hB2))).mono AB.out.size),rfl⟩
   ·try go_simp
    refine hK.out _ _ (by first | go_keep | exact ⟨by assumption,by assumption⟩) (fun hHeld=>?_)
    try simp only [Act.put,List.setIfInBounds_toArray,List.set_cons_zero,List.set_cons_succ]
    refine wpAnyH_ready (rs:=[10]) (by kernel_rfl) (by simp) (AllReadyH.cons (o:=⟨some 37,.call { callee:=.value (.func 96),args:=#[(.tmp 36)],argTypes:=#[9] },3, "ring.go:270",#[⟨9,.data⟩,⟨4,.chain⟩],none⟩) rfl (fun K hK=>?_) AllReadyH.nil)
    try go_simp
    go_wp2_with (go_at_call 96;refine (num_o _ (by first | exact ha | exact hc) _ (hL1.below (b_al hB2 (Nat.le_refl _) _))).mono ?_;rintro e w' ⟨he,hw'⟩;rw [hoc] at he;subst he)
    exact ⟨rfl,AB.out.trans ((Below.trans (b_al hB2 (Nat.le_refl _) _) (hw'.mono (Below.size (b_al hB2 (Nat.le_refl _) _)))).mono AB.out.size),rfl⟩
  ·try go_simp
   refine hK.out _ _ (by first | go_keep | exact ⟨by assumption,by assumption⟩) (fun hHeld=>?_)
   try simp only [Act.put,List.setIfInBounds_toArray,List.set_cons_zero,List.set_cons_succ]
   refine wpAnyH_ready (rs:=[4]) (by kernel_rfl) (by simp) (AllReadyH.cons (o:=⟨some 31,.call { callee:=.value (.func 96),args:=#[(.tmp 30)],argTypes:=#[9] },3, "ring.go:270",#[⟨3,.data⟩],none⟩) rfl (fun K hK=>?_) AllReadyH.nil)
   try go_simp
   go_wp2_with (go_at_call 96;refine (num_o _ (by first | exact ha | exact hc) _ (hL1.below (b_ad _ _))).mono ?_;rintro e w2 ⟨he,hw2⟩;rw [hoa] at he;subst he)
   have hB2:Below w1.heap.size w1 w2:=Below.trans (b_ad _ _) (hw2.mono (Below.size (b_ad _ _)))
   refine hK.out _ _ ⟨(hB2.cell (p:=⟨A,1,none⟩) hlt1).trans g1,(hB2.cell (p:=⟨A,2,none⟩) hlt1).trans g2⟩ (fun hHeld=>?_)
   try simp only [Act.put,List.setIfInBounds_toArray,List.set_cons_zero,List.set_cons_succ]
   refine wpAnyH_ready (rs:=[10]) (by kernel_rfl) (by simp) (AllReadyH.cons (o:=⟨some 37,.call { callee:=.value (.func 96),args:=#[(.tmp 36)],argTypes:=#[9] },3, "ring.go:270",#[⟨9,.data⟩,⟨4,.chain⟩],none⟩) rfl (fun K hK=>?_) AllReadyH.nil)
   try go_simp
   go_wp2_with (go_at_call 96;refine (num_o _ (by first | exact ha | exact hc) _ (hL1.below hB2)).mono ?_;rintro e w' ⟨he,hw'⟩;rw [hoc] at he;subst he)
   exact ⟨rfl,AB.out.trans ((Below.trans hB2 (hw'.mono (Below.size hB2))).mono AB.out.size),rfl⟩
theorem stroke_4 (x a b c:List UInt8) (ha:a.length≤1000000) (hc:c.length≤1000000) (hb0:b.length≤1000000) (A C:Nat) (w:World) (hL:Laid w) (h0:w.cell? ⟨A,0,none⟩=some (.string ⟨x.toArray⟩)) (h1:w.cell? ⟨A,1,none⟩=some (.string ⟨a.toArray⟩)) (h2:w.cell? ⟨A,3,none⟩=some (.string ⟨c.toArray⟩)) (h5:w.cell? ⟨A,2,none⟩=some (.string ⟨b.toArray⟩))
  (k:Int) (hk:kindI x=k) (hk0:(k==0)=false) (hk13:k=1∨k=3) (n:Nat) (m:Nat) (q:Nat) (hna:numP a=some n) (hnc:numP c=some m) (hnb:numP b=some q) :
  Calls Tryz.prog 65 #[.slice (some ⟨A,0,none⟩) 4 C] w fun e w'=>Below w.heap.size w w'∧e=.returned (.agg #[.int .i64 k,.int .i64 n,.int .i64 q,.int .i64 m]):=by
 have hlt:A < w.heap.size:=cellLt h0
 obtain ⟨kb,hkb⟩:∃ kb,(k==1)=kb:=⟨_,rfl⟩
 have hkb3:kb=false→(k==3)=true:=by rintro rfl;rcases hk13 with rfl | rfl<;>simp_all
 clear hk13
 cases kb
 ·have hk3:=hkb3 rfl
  clear hkb3
  go_enter Tryz.func65,Tryz.ntmps65
  go_wp2
  go_region_held3 (fun w'=>w'.cell? ⟨A,0,none⟩=some (.string ⟨x.toArray⟩)) (first | go_keep | (refine (Below.cell (by assumption) (by simp;omega)).trans ?_;first | assumption | (simp;omega)))
   ((go_at_call 95;refine (wordOf_c _).mono ?_;rintro e w1 ⟨v,rfl,hv,hb⟩;have hlk:=look_c hv x;have hbw:Below w.heap.size w w1:=(((Below.refl _ w).alloc (Nat.le_refl _) _).drew).trans (hb.mono (by simp))))
  all_goals
   have hL1:=hL.below hbw
   have F1:=Four.newd hb
   have g1:=(hbw.cell (p:=⟨A,1,none⟩) hlt).trans h1
   have g2:=(hbw.cell (p:=⟨A,3,none⟩) hlt).trans h2
   have g5:=(hbw.cell (p:=⟨A,2,none⟩) hlt).trans h5
   have hlt1:A < w1.heap.size:=Nat.lt_of_lt_of_le hlt hbw.size
   have AB:Aside (Below w.heap.size w w1):=hbw
   clear h0 h1 h2 h5 hL hb hv hlk hbw hlt
   have hoa:=outc_s hna
   have hoc:=outc_s hnc
   clear hna hnc
   have hd0:Below w1.heap.size w1 w1.drew:=(Below.refl _ _).drew
   have hn1:w1.heap.size≠A:=Nat.ne_of_gt hlt1
   have wr2:IntKind.i64.wrap 2=2:=by decide
   have wr3:IntKind.i64.wrap 3=3:=by decide
  all_goals
   go_wp2
   go_region_held3 (fun w'=>w'.cell? ⟨A,1,none⟩=some (.string ⟨a.toArray⟩)∧w'.cell? ⟨A,3,none⟩=some (.string ⟨c.toArray⟩)) (first | go_keep | exact ⟨by assumption,by assumption⟩)
    ((go_at_call 96;refine (num_o _ (by first | exact ha | exact hc | exact hb0) _ (hL1.below (by first | assumption | exact b_ad _ _ | exact b_al (by assumption) (Nat.le_refl _) _))).mono ?_;first | (rintro e w2 ⟨he,hw2⟩;rw [hoa] at he;subst he;have hBw2:Below w1.heap.size w1 w2:=bl_tr (by first | assumption | exact b_ad _ _ | exact b_al (by assumption) (Nat.le_refl _) _) hw2;have g3w2:=(hBw2.cell (p:=⟨A,1,none⟩) hlt1).trans g1;have g4w2:=(hBw2.cell (p:=⟨A,3,none⟩) hlt1).trans g2;have hnw2:w2.heap.size≠A:=Nat.ne_of_gt (Nat.lt_of_lt_of_le hlt1 hBw2.size);(first | (have hA:=Four.newd hw2;obtain ⟨⟨hA0,hA1,hA2,hA3⟩,hA4⟩:=id hA) | skip)) | (rintro e w3 ⟨he,hw3⟩;rw [hoc] at he;subst he;have hBw3:Below w1.heap.size w1 w3:=bl_tr (by first | assumption | exact b_ad _ _ | exact b_al (by assumption) (Nat.le_refl _) _) hw3;have g3w3:=(hBw3.cell (p:=⟨A,1,none⟩) hlt1).trans g1;have g4w3:=(hBw3.cell (p:=⟨A,3,none⟩) hlt1).trans g2;have hnw3:w3.heap.size≠A:=Nat.ne_of_gt (Nat.lt_of_lt_of_le hlt1 hBw3.size);(first | (have hC:=Four.keep hA hw3;clear hA0 hA1 hA2 hA3 hA4;obtain ⟨⟨hC0,hC1,hC2,hC3⟩,hC4⟩:=id hC) | ((first | have hC:=Four.new hw3 | have hC:=Four.newd hw3);obtain ⟨⟨hC0,hC1,hC2,hC3⟩,hC4⟩:=id hC) | skip))))
  all_goals
   have F3:=F1.keep hBw3
   have hlw:w.heap.size < w1.heap.size:=cellLt F1.1.1
   have hls:w.heap.size < w3.heap.size:=Nat.lt_of_lt_of_le hlw hBw3.size
   have hn3:w3.heap.size≠w.heap.size:=Nat.ne_of_gt hls
   have hn2:w2.heap.size≠w.heap.size:=Nat.ne_of_gt (Nat.lt_of_lt_of_le hlw hBw2.size)
   have hn1':w1.heap.size≠w.heap.size:=Nat.ne_of_gt hlw
   obtain ⟨⟨F30,F31,F32,F33⟩,F34⟩:=id F3
   have hb3:Below w.heap.size w w3:=AB.out.trans (hBw3.mono AB.out.size)
   have le1:w.heap.size≤w1.heap.size:=Nat.le_of_lt hlw
   have le2:w.heap.size≤w2.heap.size:=Nat.le_trans le1 hBw2.size
   have le3:w.heap.size≤w3.heap.size:=Nat.le_of_lt hls
  all_goals
   have bb0:b.length≤1000000:=hb0
  ·have cW:Four (w3.alloc (.cells #[.int .i64 k,.int .i64 n,.int .i64 0,.int .i64 m] 84)) w3.heap.size (.int .i64 k) (.int .i64 n) (.int .i64 0) (.int .i64 m):=Four.mk_
   have rW:Four (w3.alloc (.cells #[.int .i64 k,.int .i64 n,.int .i64 0,.int .i64 m] 84)) w.heap.size (.int .i64 0) (.int .i64 0) (.int .i64 0) (.int .i64 0):=Four.keep F3 ((Below.refl _ w3).alloc (Nat.le_refl _) _)
   have bW:Below w1.heap.size w1 (w3.alloc (.cells #[.int .i64 k,.int .i64 n,.int .i64 0,.int .i64 m] 84)):=hBw3.alloc hBw3.size _
   have hNR:w3.heap.size≠w.heap.size:=hn3
   have leN:w.heap.size≤w3.heap.size:=le3
   have nA:w3.heap.size≠A:=hnw3
   try clear hA
   try clear hC
   generalize w3.alloc (.cells #[.int .i64 k,.int .i64 n,.int .i64 0,.int .i64 m] 84)=W at *
   have g5W:=(bW.cell (p:=⟨A,2,none⟩) hlt1).trans g5
   obtain ⟨⟨cW0,cW1,cW2,cW3⟩,fW⟩:=id cW
   have hNW:w3.heap.size < W.heap.size:=cellLt cW0
   go_wp2_with (go_at_call 96;refine (num_o _ hb0 _ (hL1.below bW)).mono ?_;rintro e w4 ⟨he,hw4⟩;rw [outc_s hnb] at he;subst he;have cX:=Four.keep cW hw4;obtain ⟨⟨cX0,cX1,cX2,cX3⟩,fX⟩:=id cX;have rX:=Four.keep rW hw4;obtain ⟨⟨rX0,rX1,rX2,rX3⟩,gX⟩:=id rX)
   have bX:Below w.heap.size w w4:=AB.out.trans ((bW.trans (hw4.mono bW.size)).mono AB.out.size)
   refine res65 rfl (by
    first
     | (with_reducible exact Four.cel (Four.set (Four.other rX hNR _ _) _ _ _ _))
     | (with_reducible exact Four.cel (Four.other (Four.set rX _ _ _ _) hNR _ _))) ⟨?_,rfl⟩
   repeat with_reducible first
    | exact bX
    | refine Below.setCell ?_ (by first | exact Nat.le_refl _ | exact leN) _
    | refine Below.alloc ?_ (by simp;omega) _
  ·have cW:Four ((((w3.setCell ⟨w2.heap.size,0,none⟩ (.int .i64 k)).setCell ⟨w2.heap.size,1,none⟩ (.int .i64 n)).setCell ⟨w2.heap.size,2,none⟩ (.int .i64 0)).setCell ⟨w2.heap.size,3,none⟩ (.int .i64 m)) w2.heap.size (.int .i64 k) (.int .i64 n) (.int .i64 0) (.int .i64 m):=Four.set hC _ _ _ _
   have rW:Four ((((w3.setCell ⟨w2.heap.size,0,none⟩ (.int .i64 k)).setCell ⟨w2.heap.size,1,none⟩ (.int .i64 n)).setCell ⟨w2.heap.size,2,none⟩ (.int .i64 0)).setCell ⟨w2.heap.size,3,none⟩ (.int .i64 m)) w.heap.size (.int .i64 0) (.int .i64 0) (.int .i64 0) (.int .i64 0):=Four.all F3 hn2 _ _ _ _
   have bW:Below w1.heap.size w1 ((((w3.setCell ⟨w2.heap.size,0,none⟩ (.int .i64 k)).setCell ⟨w2.heap.size,1,none⟩ (.int .i64 n)).setCell ⟨w2.heap.size,2,none⟩ (.int .i64 0)).setCell ⟨w2.heap.size,3,none⟩ (.int .i64 m)):=b_set hBw3 hBw2.size _ _ _ _
   have hNR:w2.heap.size≠w.heap.size:=hn2
   have leN:w.heap.size≤w2.heap.size:=le2
   have nA:w2.heap.size≠A:=hnw2
   try clear hA
   try clear hC
   generalize (((w3.setCell ⟨w2.heap.size,0,none⟩ (.int .i64 k)).setCell ⟨w2.heap.size,1,none⟩ (.int .i64 n)).setCell ⟨w2.heap.size,2,none⟩ (.int .i64 0)).setCell ⟨w2.heap.size,3,none⟩ (.int .i64 m)=W at *
   have g5W:=(bW.cell (p:=⟨A,2,none⟩) hlt1).trans g5
   obtain ⟨⟨cW0,cW1,cW2,cW3⟩,fW⟩:=id cW
   have hNW:w2.heap.size < W.heap.size:=cellLt cW0
   go_wp2_with (go_at_call 96;refine (num_o _ hb0 _ (hL1.below bW)).mono ?_;rintro e w4 ⟨he,hw4⟩;rw [outc_s hnb] at he;subst he;have cX:=Four.keep cW hw4;obtain ⟨⟨cX0,cX1,cX2,cX3⟩,fX⟩:=id cX;have rX:=Four.keep rW hw4;obtain ⟨⟨rX0,rX1,rX2,rX3⟩,gX⟩:=id rX)
   have bX:Below w.heap.size w w4:=AB.out.trans ((bW.trans (hw4.mono bW.size)).mono AB.out.size)
   refine res65 rfl (by
    first
     | (with_reducible exact Four.cel (Four.set (Four.other rX hNR _ _) _ _ _ _))
     | (with_reducible exact Four.cel (Four.other (Four.set rX _ _ _ _) hNR _ _))) ⟨?_,rfl⟩
   repeat with_reducible first
    | exact bX
    | refine Below.setCell ?_ (by first | exact Nat.le_refl _ | exact leN) _
    | refine Below.alloc ?_ (by simp;omega) _
  ·have cW:Four ((((w3.setCell ⟨w1.heap.size,0,none⟩ (.int .i64 k)).setCell ⟨w1.heap.size,1,none⟩ (.int .i64 n)).setCell ⟨w1.heap.size,2,none⟩ (.int .i64 0)).setCell ⟨w1.heap.size,3,none⟩ (.int .i64 m)) w1.heap.size (.int .i64 k) (.int .i64 n) (.int .i64 0) (.int .i64 m):=Four.set hC _ _ _ _
   have rW:Four ((((w3.setCell ⟨w1.heap.size,0,none⟩ (.int .i64 k)).setCell ⟨w1.heap.size,1,none⟩ (.int .i64 n)).setCell ⟨w1.heap.size,2,none⟩ (.int .i64 0)).setCell ⟨w1.heap.size,3,none⟩ (.int .i64 m)) w.heap.size (.int .i64 0) (.int .i64 0) (.int .i64 0) (.int .i64 0):=Four.all F3 hn1' _ _ _ _
   have bW:Below w1.heap.size w1 ((((w3.setCell ⟨w1.heap.size,0,none⟩ (.int .i64 k)).setCell ⟨w1.heap.size,1,none⟩ (.int .i64 n)).setCell ⟨w1.heap.size,2,none⟩ (.int .i64 0)).setCell ⟨w1.heap.size,3,none⟩ (.int .i64 m)):=b_set hBw3 (Nat.le_refl _) _ _ _ _
   have hNR:w1.heap.size≠w.heap.size:=hn1'
   have leN:w.heap.size≤w1.heap.size:=le1
   have nA:w1.heap.size≠A:=hn1
   try clear hA
   try clear hC
   generalize (((w3.setCell ⟨w1.heap.size,0,none⟩ (.int .i64 k)).setCell ⟨w1.heap.size,1,none⟩ (.int .i64 n)).setCell ⟨w1.heap.size,2,none⟩ (.int .i64 0)).setCell ⟨w1.heap.size,3,none⟩ (.int .i64 m)=W at *
   have g5W:=(bW.cell (p:=⟨A,2,none⟩) hlt1).trans g5
   obtain ⟨⟨cW0,cW1,cW2,cW3⟩,fW⟩:=id cW
   have hNW:w1.heap.size < W.heap.size:=cellLt cW0
   go_wp2_with (go_at_call 96;refine (num_o _ hb0 _ (hL1.below bW)).mono ?_;rintro e w4 ⟨he,hw4⟩;rw [outc_s hnb] at he;subst he;have cX:=Four.keep cW hw4;obtain ⟨⟨cX0,cX1,cX2,cX3⟩,fX⟩:=id cX;have rX:=Four.keep rW hw4;obtain ⟨⟨rX0,rX1,rX2,rX3⟩,gX⟩:=id rX)
   have bX:Below w.heap.size w w4:=AB.out.trans ((bW.trans (hw4.mono bW.size)).mono AB.out.size)
   refine res65 rfl (by
    first
     | (with_reducible exact Four.cel (Four.set (Four.other rX hNR _ _) _ _ _ _))
     | (with_reducible exact Four.cel (Four.other (Four.set rX _ _ _ _) hNR _ _))) ⟨?_,rfl⟩
   repeat with_reducible first
    | exact bX
    | refine Below.setCell ?_ (by first | exact Nat.le_refl _ | exact leN) _
    | refine Below.alloc ?_ (by simp;omega) _
 ·clear hkb3
  go_enter Tryz.func65,Tryz.ntmps65
  go_wp2
  go_region_held3 (fun w'=>w'.cell? ⟨A,0,none⟩=some (.string ⟨x.toArray⟩)) (first | go_keep | (refine (Below.cell (by assumption) (by simp;omega)).trans ?_;first | assumption | (simp;omega)))
   ((go_at_call 95;refine (wordOf_c _).mono ?_;rintro e w1 ⟨v,rfl,hv,hb⟩;have hlk:=look_c hv x;have hbw:Below w.heap.size w w1:=(((Below.refl _ w).alloc (Nat.le_refl _) _).drew).trans (hb.mono (by simp))))
  all_goals
   have hL1:=hL.below hbw
   have F1:=Four.newd hb
   have g1:=(hbw.cell (p:=⟨A,1,none⟩) hlt).trans h1
   have g2:=(hbw.cell (p:=⟨A,3,none⟩) hlt).trans h2
   have g5:=(hbw.cell (p:=⟨A,2,none⟩) hlt).trans h5
   have hlt1:A < w1.heap.size:=Nat.lt_of_lt_of_le hlt hbw.size
   have AB:Aside (Below w.heap.size w w1):=hbw
   clear h0 h1 h2 h5 hL hb hv hlk hbw hlt
   have hoa:=outc_s hna
   have hoc:=outc_s hnc
   clear hna hnc
   have hd0:Below w1.heap.size w1 w1.drew:=(Below.refl _ _).drew
   have hn1:w1.heap.size≠A:=Nat.ne_of_gt hlt1
   have wr2:IntKind.i64.wrap 2=2:=by decide
   have wr3:IntKind.i64.wrap 3=3:=by decide
  all_goals
   go_wp2
   go_region_held3 (fun w'=>w'.cell? ⟨A,1,none⟩=some (.string ⟨a.toArray⟩)∧w'.cell? ⟨A,3,none⟩=some (.string ⟨c.toArray⟩)) (first | go_keep | exact ⟨by assumption,by assumption⟩)
    ((go_at_call 96;refine (num_o _ (by first | exact ha | exact hc | exact hb0) _ (hL1.below (by first | assumption | exact b_ad _ _ | exact b_al (by assumption) (Nat.le_refl _) _))).mono ?_;first | (rintro e w2 ⟨he,hw2⟩;rw [hoa] at he;subst he;have hBw2:Below w1.heap.size w1 w2:=bl_tr (by first | assumption | exact b_ad _ _ | exact b_al (by assumption) (Nat.le_refl _) _) hw2;have g3w2:=(hBw2.cell (p:=⟨A,1,none⟩) hlt1).trans g1;have g4w2:=(hBw2.cell (p:=⟨A,3,none⟩) hlt1).trans g2;have hnw2:w2.heap.size≠A:=Nat.ne_of_gt (Nat.lt_of_lt_of_le hlt1 hBw2.size);(first | (have hA:=Four.newd hw2;obtain ⟨⟨hA0,hA1,hA2,hA3⟩,hA4⟩:=id hA) | skip)) | (rintro e w3 ⟨he,hw3⟩;rw [hoc] at he;subst he;have hBw3:Below w1.heap.size w1 w3:=bl_tr (by first | assumption | exact b_ad _ _ | exact b_al (by assumption) (Nat.le_refl _) _) hw3;have g3w3:=(hBw3.cell (p:=⟨A,1,none⟩) hlt1).trans g1;have g4w3:=(hBw3.cell (p:=⟨A,3,none⟩) hlt1).trans g2;have hnw3:w3.heap.size≠A:=Nat.ne_of_gt (Nat.lt_of_lt_of_le hlt1 hBw3.size);(first | (have hC:=Four.keep hA hw3;clear hA0 hA1 hA2 hA3 hA4;obtain ⟨⟨hC0,hC1,hC2,hC3⟩,hC4⟩:=id hC) | ((first | have hC:=Four.new hw3 | have hC:=Four.newd hw3);obtain ⟨⟨hC0,hC1,hC2,hC3⟩,hC4⟩:=id hC) | skip))))
  all_goals
   have F3:=F1.keep hBw3
   have hlw:w.heap.size < w1.heap.size:=cellLt F1.1.1
   have hls:w.heap.size < w3.heap.size:=Nat.lt_of_lt_of_le hlw hBw3.size
   have hn3:w3.heap.size≠w.heap.size:=Nat.ne_of_gt hls
   have hn2:w2.heap.size≠w.heap.size:=Nat.ne_of_gt (Nat.lt_of_lt_of_le hlw hBw2.size)
   have hn1':w1.heap.size≠w.heap.size:=Nat.ne_of_gt hlw
   obtain ⟨⟨F30,F31,F32,F33⟩,F34⟩:=id F3
   have hb3:Below w.heap.size w w3:=AB.out.trans (hBw3.mono AB.out.size)
   have le1:w.heap.size≤w1.heap.size:=Nat.le_of_lt hlw
   have le2:w.heap.size≤w2.heap.size:=Nat.le_trans le1 hBw2.size
   have le3:w.heap.size≤w3.heap.size:=Nat.le_of_lt hls
  all_goals
   have bb0:b.length≤1000000:=hb0
  ·have cW:Four (w3.alloc (.cells #[.int .i64 k,.int .i64 n,.int .i64 0,.int .i64 m] 84)) w3.heap.size (.int .i64 k) (.int .i64 n) (.int .i64 0) (.int .i64 m):=Four.mk_
   have rW:Four (w3.alloc (.cells #[.int .i64 k,.int .i64 n,.int .i64 0,.int .i64 m] 84)) w.heap.size (.int .i64 0) (.int .i64 0) (.int .i64 0) (.int .i64 0):=Four.keep F3 ((Below.refl _ w3).alloc (Nat.le_refl _) _)
   have bW:Below w1.heap.size w1 (w3.alloc (.cells #[.int .i64 k,.int .i64 n,.int .i64 0,.int .i64 m] 84)):=hBw3.alloc hBw3.size _
   have hNR:w3.heap.size≠w.heap.size:=hn3
   have leN:w.heap.size≤w3.heap.size:=le3
   have nA:w3.heap.size≠A:=hnw3
   try clear hA
   try clear hC
   generalize w3.alloc (.cells #[.int .i64 k,.int .i64 n,.int .i64 0,.int .i64 m] 84)=W at *
   have g5W:=(bW.cell (p:=⟨A,2,none⟩) hlt1).trans g5
   obtain ⟨⟨cW0,cW1,cW2,cW3⟩,fW⟩:=id cW
   have hNW:w3.heap.size < W.heap.size:=cellLt cW0
   go_wp2_with (go_at_call 96;refine (num_o _ hb0 _ (hL1.below bW)).mono ?_;rintro e w4 ⟨he,hw4⟩;rw [outc_s hnb] at he;subst he;have cX:=Four.keep cW hw4;obtain ⟨⟨cX0,cX1,cX2,cX3⟩,fX⟩:=id cX;have rX:=Four.keep rW hw4;obtain ⟨⟨rX0,rX1,rX2,rX3⟩,gX⟩:=id rX)
   have bX:Below w.heap.size w w4:=AB.out.trans ((bW.trans (hw4.mono bW.size)).mono AB.out.size)
   refine res65 rfl (by
    first
     | (with_reducible exact Four.cel (Four.set (Four.other rX hNR _ _) _ _ _ _))
     | (with_reducible exact Four.cel (Four.other (Four.set rX _ _ _ _) hNR _ _))) ⟨?_,rfl⟩
   repeat with_reducible first
    | exact bX
    | refine Below.setCell ?_ (by first | exact Nat.le_refl _ | exact leN) _
    | refine Below.alloc ?_ (by simp;omega) _
  ·have cW:Four ((((w3.setCell ⟨w2.heap.size,0,none⟩ (.int .i64 k)).setCell ⟨w2.heap.size,1,none⟩ (.int .i64 n)).setCell ⟨w2.heap.size,2,none⟩ (.int .i64 0)).setCell ⟨w2.heap.size,3,none⟩ (.int .i64 m)) w2.heap.size (.int .i64 k) (.int .i64 n) (.int .i64 0) (.int .i64 m):=Four.set hC _ _ _ _
   have rW:Four ((((w3.setCell ⟨w2.heap.size,0,none⟩ (.int .i64 k)).setCell ⟨w2.heap.size,1,none⟩ (.int .i64 n)).setCell ⟨w2.heap.size,2,none⟩ (.int .i64 0)).setCell ⟨w2.heap.size,3,none⟩ (.int .i64 m)) w.heap.size (.int .i64 0) (.int .i64 0) (.int .i64 0) (.int .i64 0):=Four.all F3 hn2 _ _ _ _
   have bW:Below w1.heap.size w1 ((((w3.setCell ⟨w2.heap.size,0,none⟩ (.int .i64 k)).setCell ⟨w2.heap.size,1,none⟩ (.int .i64 n)).setCell ⟨w2.heap.size,2,none⟩ (.int .i64 0)).setCell ⟨w2.heap.size,3,none⟩ (.int .i64 m)):=b_set hBw3 hBw2.size _ _ _ _
   have hNR:w2.heap.size≠w.heap.size:=hn2
   have leN:w.heap.size≤w2.heap.size:=le2
   have nA:w2.heap.size≠A:=hnw2
   try clear hA
   try clear hC
   generalize (((w3.setCell ⟨w2.heap.size,0,none⟩ (.int .i64 k)).setCell ⟨w2.heap.size,1,none⟩ (.int .i64 n)).setCell ⟨w2.heap.size,2,none⟩ (.int .i64 0)).setCell ⟨w2.heap.size,3,none⟩ (.int .i64 m)=W at *
   have g5W:=(bW.cell (p:=⟨A,2,none⟩) hlt1).trans g5
   obtain ⟨⟨cW0,cW1,cW2,cW3⟩,fW⟩:=id cW
   have hNW:w2.heap.size < W.heap.size:=cellLt cW0
   go_wp2_with (go_at_call 96;refine (num_o _ hb0 _ (hL1.below bW)).mono ?_;rintro e w4 ⟨he,hw4⟩;rw [outc_s hnb] at he;subst he;have cX:=Four.keep cW hw4;obtain ⟨⟨cX0,cX1,cX2,cX3⟩,fX⟩:=id cX;have rX:=Four.keep rW hw4;obtain ⟨⟨rX0,rX1,rX2,rX3⟩,gX⟩:=id rX)
   have bX:Below w.heap.size w w4:=AB.out.trans ((bW.trans (hw4.mono bW.size)).mono AB.out.size)
   refine res65 rfl (by
    first
     | (with_reducible exact Four.cel (Four.set (Four.other rX hNR _ _) _ _ _ _))
     | (with_reducible exact Four.cel (Four.other (Four.set rX _ _ _ _) hNR _ _))) ⟨?_,rfl⟩
   repeat with_reducible first
    | exact bX
    | refine Below.setCell ?_ (by first | exact Nat.le_refl _ | exact leN) _
    | refine Below.alloc ?_ (by simp;omega) _
  ·have cW:Four ((((w3.setCell ⟨w1.heap.size,0,none⟩ (.int .i64 k)).setCell ⟨w1.heap.size,1,none⟩ (.int .i64 n)).setCell ⟨w1.heap.size,2,none⟩ (.int .i64 0)).setCell ⟨w1.heap.size,3,none⟩ (.int .i64 m)) w1.heap.size (.int .i64 k) (.int .i64 n) (.int .i64 0) (.int .i64 m):=Four.set hC _ _ _ _
   have rW:Four ((((w3.setCell ⟨w1.heap.size,0,none⟩ (.int .i64 k)).setCell ⟨w1.heap.size,1,none⟩ (.int .i64 n)).setCell ⟨w1.heap.size,2,none⟩ (.int .i64 0)).setCell ⟨w1.heap.size,3,none⟩ (.int .i64 m)) w.heap.size (.int .i64 0) (.int .i64 0) (.int .i64 0) (.int .i64 0):=Four.all F3 hn1' _ _ _ _
   have bW:Below w1.heap.size w1 ((((w3.setCell ⟨w1.heap.size,0,none⟩ (.int .i64 k)).setCell ⟨w1.heap.size,1,none⟩ (.int .i64 n)).setCell ⟨w1.heap.size,2,none⟩ (.int .i64 0)).setCell ⟨w1.heap.size,3,none⟩ (.int .i64 m)):=b_set hBw3 (Nat.le_refl _) _ _ _ _
   have hNR:w1.heap.size≠w.heap.size:=hn1'
   have leN:w.heap.size≤w1.heap.size:=le1
   have nA:w1.heap.size≠A:=hn1
   try clear hA
   try clear hC
   generalize (((w3.setCell ⟨w1.heap.size,0,none⟩ (.int .i64 k)).setCell ⟨w1.heap.size,1,none⟩ (.int .i64 n)).setCell ⟨w1.heap.size,2,none⟩ (.int .i64 0)).setCell ⟨w1.heap.size,3,none⟩ (.int .i64 m)=W at *
   have g5W:=(bW.cell (p:=⟨A,2,none⟩) hlt1).trans g5
   obtain ⟨⟨cW0,cW1,cW2,cW3⟩,fW⟩:=id cW
   have hNW:w1.heap.size < W.heap.size:=cellLt cW0
   go_wp2_with (go_at_call 96;refine (num_o _ hb0 _ (hL1.below bW)).mono ?_;rintro e w4 ⟨he,hw4⟩;rw [outc_s hnb] at he;subst he;have cX:=Four.keep cW hw4;obtain ⟨⟨cX0,cX1,cX2,cX3⟩,fX⟩:=id cX;have rX:=Four.keep rW hw4;obtain ⟨⟨rX0,rX1,rX2,rX3⟩,gX⟩:=id rX)
   have bX:Below w.heap.size w w4:=AB.out.trans ((bW.trans (hw4.mono bW.size)).mono AB.out.size)
   refine res65 rfl (by
    first
     | (with_reducible exact Four.cel (Four.set (Four.other rX hNR _ _) _ _ _ _))
     | (with_reducible exact Four.cel (Four.other (Four.set rX _ _ _ _) hNR _ _))) ⟨?_,rfl⟩
   repeat with_reducible first
    | exact bX
    | refine Below.setCell ?_ (by first | exact Nat.le_refl _ | exact leN) _
    | refine Below.alloc ?_ (by simp;omega) _
theorem stroke_4a (x a b c:List UInt8) (ha:a.length≤1000000) (hc:c.length≤1000000) (hb0:b.length≤1000000) (A C:Nat) (w:World) (hL:Laid w) (h0:w.cell? ⟨A,0,none⟩=some (.string ⟨x.toArray⟩)) (h1:w.cell? ⟨A,1,none⟩=some (.string ⟨a.toArray⟩)) (h2:w.cell? ⟨A,3,none⟩=some (.string ⟨c.toArray⟩)) (h5:w.cell? ⟨A,2,none⟩=some (.string ⟨b.toArray⟩))
  (k:Int) (hk:kindI x=k) (hk0:(k==0)=false) (hk13:k=1∨k=3) (hna:numP a=none) :
  Calls Tryz.prog 65 #[.slice (some ⟨A,0,none⟩) 4 C] w fun e w'=>Below w.heap.size w w'∧e=.panicked [{ v:=wrongV,recovered:=false }]:=by
 have hlt:A < w.heap.size:=cellLt h0
 obtain ⟨kb,hkb⟩:∃ kb,(k==1)=kb:=⟨_,rfl⟩
 have hkb3:kb=false→(k==3)=true:=by rintro rfl;rcases hk13 with rfl | rfl<;>simp_all
 clear hk13
 cases kb
 ·have hk3:=hkb3 rfl
  clear hkb3
  go_enter Tryz.func65,Tryz.ntmps65
  go_wp2
  go_region_held3 (fun w'=>w'.cell? ⟨A,0,none⟩=some (.string ⟨x.toArray⟩)) (first | go_keep | (refine (Below.cell (by assumption) (by simp;omega)).trans ?_;first | assumption | (simp;omega)))
   ((go_at_call 95;refine (wordOf_c _).mono ?_;rintro e w1 ⟨v,rfl,hv,hb⟩;have hlk:=look_c hv x;have hbw:Below w.heap.size w w1:=(((Below.refl _ w).alloc (Nat.le_refl _) _).drew).trans (hb.mono (by simp))))
  all_goals
   have hL1:=hL.below hbw
   have F1:=Four.newd hb
   have g1:=(hbw.cell (p:=⟨A,1,none⟩) hlt).trans h1
   have g2:=(hbw.cell (p:=⟨A,3,none⟩) hlt).trans h2
   have g5:=(hbw.cell (p:=⟨A,2,none⟩) hlt).trans h5
   have hlt1:A < w1.heap.size:=Nat.lt_of_lt_of_le hlt hbw.size
   have AB:Aside (Below w.heap.size w w1):=hbw
   clear h0 h1 h2 h5 hL hb hv hlk hbw hlt
   have hoa:=outc_n hna
   clear hna
   have hd0:Below w1.heap.size w1 w1.drew:=(Below.refl _ _).drew
   have hn1:w1.heap.size≠A:=Nat.ne_of_gt hlt1
   have wr2:IntKind.i64.wrap 2=2:=by decide
   have wr3:IntKind.i64.wrap 3=3:=by decide
  all_goals
   go_wp2
   refine wp_region_held_drew (S:=(fun w'=>w'.cell? ⟨A,1,none⟩=some (.string ⟨a.toArray⟩)∧w'.cell? ⟨A,3,none⟩=some (.string ⟨c.toArray⟩))) (by kernel_rfl) (by exact ⟨by simpa using g1,by simpa using g2⟩) (fun hHeld=>?_)
   refine wpAnyH_take (i:=0) (oi:=⟨some 27,.move (.tmp 3),3, "ring.go:270",#[],none⟩) (v:=.int .i64 k) rfl (by kernel_rfl) (by kernel_rfl) (by kernel_rfl) (fun _ _ _ h=>h) (Or.inl ⟨by rfl,?_⟩) (by assumption) ?_
   ·(intro w hSw;(try dsimp only at hSw);go_simp)
   simp only [Act.put,List.setIfInBounds_toArray,List.set_cons_zero,List.set_cons_succ]
   refine wpAnyH_take (i:=1) (oi:=⟨some 28,.move (.tmp 0),124, "ring.go:270",#[],none⟩) (v:=.slice (some ⟨A,0,none⟩) 4 C) rfl (by kernel_rfl) (by kernel_rfl) (by kernel_rfl) (fun _ _ _ h=>h) (Or.inl ⟨by rfl,?_⟩) (by assumption) ?_
   ·(intro w hSw;(try dsimp only at hSw);go_simp)
   simp only [Act.put,List.setIfInBounds_toArray,List.set_cons_zero,List.set_cons_succ]
   refine wpAnyH_take (i:=2) (oi:=⟨some 29,.indexAddr 124 (.tmp 28) (.const (.int .i64 1)),0, "ring.go:270",#[⟨1,.data⟩],none⟩) (v:=.pointer (some ⟨A,1,none⟩)) rfl (by kernel_rfl) (by kernel_rfl) (by kernel_rfl) (fun _ _ _ h=>h) (Or.inl ⟨by rfl,?_⟩) (by assumption) ?_
   ·(intro w hSw;(try dsimp only at hSw);go_simp)
   simp only [Act.put,List.setIfInBounds_toArray,List.set_cons_zero,List.set_cons_succ]
   refine wpAnyH_take (i:=3) (oi:=⟨some 30,.load 9 (.tmp 29),9, "ring.go:270",#[⟨2,.data⟩],none⟩) (v:=.string ⟨a.toArray⟩) rfl (by kernel_rfl) (by kernel_rfl) (by kernel_rfl) (fun _ _ _ h=>h) (Or.inl ⟨by rfl,?_⟩) (by assumption) ?_
   ·(intro w hSw;(try dsimp only at hSw);go_simp)
   simp only [Act.put,List.setIfInBounds_toArray,List.set_cons_zero,List.set_cons_succ]
   refine wpAnyH_take (i:=5) (oi:=⟨some 32,.move (.tmp 0),124, "ring.go:270",#[],none⟩) (v:=.slice (some ⟨A,0,none⟩) 4 C) rfl (by kernel_rfl) (by kernel_rfl) (by kernel_rfl) (fun _ _ _ h=>h) (Or.inl ⟨by rfl,?_⟩) (by assumption) ?_
   ·(intro w hSw;(try dsimp only at hSw);go_simp)
   simp only [Act.put,List.setIfInBounds_toArray,List.set_cons_zero,List.set_cons_succ]
   refine wpAnyH_take (i:=6) (oi:=⟨some 33,.move (.tmp 4),3, "ring.go:270",#[],none⟩) (v:=.int .i64 4) rfl (by kernel_rfl) (by kernel_rfl) (by kernel_rfl) (fun _ _ _ h=>h) (Or.inl ⟨by rfl,?_⟩) (by assumption) ?_
   ·(intro w hSw;(try dsimp only at hSw);go_simp)
   simp only [Act.put,List.setIfInBounds_toArray,List.set_cons_zero,List.set_cons_succ]
   refine wpAnyH_take (i:=7) (oi:=⟨some 34,.binOp .sub 3 (.tmp 33) (.const (.int .i64 1)) 3,3, "ring.go:270",#[⟨6,.data⟩],none⟩) (v:=.int .i64 3) rfl (by kernel_rfl) (by kernel_rfl) (by kernel_rfl) (fun _ _ _ h=>h) (Or.inl ⟨by rfl,?_⟩) (by assumption) ?_
   ·(intro w hSw;(try dsimp only at hSw);go_simp)
   simp only [Act.put,List.setIfInBounds_toArray,List.set_cons_zero,List.set_cons_succ]
   refine wpAnyH_take (i:=8) (oi:=⟨some 35,.indexAddr 124 (.tmp 32) (.tmp 34),0, "ring.go:270",#[⟨5,.data⟩,⟨7,.data⟩],none⟩) (v:=.pointer (some ⟨A,3,none⟩)) rfl (by kernel_rfl) (by kernel_rfl) (by kernel_rfl) (fun _ _ _ h=>h) (Or.inl ⟨by rfl,?_⟩) (by assumption) ?_
   ·(intro w hSw;(try dsimp only at hSw);go_simp)
   simp only [Act.put,List.setIfInBounds_toArray,List.set_cons_zero,List.set_cons_succ]
   refine wpAnyH_take (i:=9) (oi:=⟨some 36,.load 9 (.tmp 35),9, "ring.go:270",#[⟨8,.data⟩],none⟩) (v:=.string ⟨c.toArray⟩) rfl (by kernel_rfl) (by kernel_rfl) (by kernel_rfl) (fun _ _ _ h=>h) (Or.inl ⟨by rfl,?_⟩) (by assumption) ?_
   ·(intro w hSw;(try dsimp only at hSw);go_simp)
   simp only [Act.put,List.setIfInBounds_toArray,List.set_cons_zero,List.set_cons_succ]
   refine wpAnyH_ready (rs:=[4,12]) (by kernel_rfl) (by simp) (AllReadyH.cons (o:=⟨some 31,.call { callee:=.value (.func 96),args:=#[(.tmp 30)],argTypes:=#[9] },3, "ring.go:270",#[⟨3,.data⟩],none⟩) rfl (fun K hK=>?_) (AllReadyH.cons (o:=⟨some 5,.alloc 84,0, "ring.go:270",#[],none⟩) rfl (fun K hK=>?_) AllReadyH.nil))
   ·try go_simp
    go_wp2_with (go_at_call 96;refine (num_o _ (by first | exact ha | exact hc) _ (hL1.below hd0)).mono ?_;rintro e w' ⟨he,hw'⟩;rw [hoa] at he;subst he)
    exact ⟨rfl,AB.out.trans ((Below.trans hd0 (hw'.mono (Below.size hd0))).mono AB.out.size),rfl⟩
   ·try go_simp
    refine hK.out _ _ (by first | go_keep | exact ⟨by assumption,by assumption⟩) (fun hHeld=>?_)
    try simp only [Act.put,List.setIfInBounds_toArray,List.set_cons_zero,List.set_cons_succ]
    refine wpAnyH_ready (rs:=[4]) (by kernel_rfl) (by simp) (AllReadyH.cons (o:=⟨some 31,.call { callee:=.value (.func 96),args:=#[(.tmp 30)],argTypes:=#[9] },3, "ring.go:270",#[⟨3,.data⟩],none⟩) rfl (fun K hK=>?_) AllReadyH.nil)
    try go_simp
    go_wp2_with (go_at_call 96;refine (num_o _ (by first | exact ha | exact hc) _ (hL1.below (b_ad _ _))).mono ?_;rintro e w' ⟨he,hw'⟩;rw [hoa] at he;subst he)
    exact ⟨rfl,AB.out.trans ((Below.trans (b_ad _ _) (hw'.mono (Below.size (b_ad _ _)))).mono AB.out.size),rfl⟩
 ·clear hkb3
  go_enter Tryz.func65,Tryz.ntmps65
  go_wp2
  go_region_held3 (fun w'=>w'.cell? ⟨A,0,none⟩=some (.string ⟨x.toArray⟩)) (first | go_keep | (refine (Below.cell (by assumption) (by simp;omega)).trans ?_;first | assumption | (simp;omega)))
   ((go_at_call 95;refine (wordOf_c _).mono ?_;rintro e w1 ⟨v,rfl,hv,hb⟩;have hlk:=look_c hv x;have hbw:Below w.heap.size w w1:=(((Below.refl _ w).alloc (Nat.le_refl _) _).drew).trans (hb.mono (by simp))))
  all_goals
   have hL1:=hL.below hbw
   have F1:=Four.newd hb
   have g1:=(hbw.cell (p:=⟨A,1,none⟩) hlt).trans h1
   have g2:=(hbw.cell (p:=⟨A,3,none⟩) hlt).trans h2
   have g5:=(hbw.cell (p:=⟨A,2,none⟩) hlt).trans h5
   have hlt1:A < w1.heap.size:=Nat.lt_of_lt_of_le hlt hbw.size
   have AB:Aside (Below w.heap.size w w1):=hbw
   clear h0 h1 h2 h5 hL hb hv hlk hbw hlt
   have hoa:=outc_n hna
   clear hna
   have hd0:Below w1.heap.size w1 w1.drew:=(Below.refl _ _).drew
   have hn1:w1.heap.size≠A:=Nat.ne_of_gt hlt1
   have wr2:IntKind.i64.wrap 2=2:=by decide
   have wr3:IntKind.i64.wrap 3=3:=by decide
  all_goals
   go_wp2
   refine wp_region_held_drew (S:=(fun w'=>w'.cell? ⟨A,1,none⟩=some (.string ⟨a.toArray⟩)∧w'.cell? ⟨A,3,none⟩=some (.string ⟨c.toArray⟩))) (by kernel_rfl) (by exact ⟨by simpa using g1,by simpa using g2⟩) (fun hHeld=>?_)
   refine wpAnyH_take (i:=0) (oi:=⟨some 27,.move (.tmp 3),3, "ring.go:270",#[],none⟩) (v:=.int .i64 k) rfl (by kernel_rfl) (by kernel_rfl) (by kernel_rfl) (fun _ _ _ h=>h) (Or.inl ⟨by rfl,?_⟩) (by assumption) ?_
   ·(intro w hSw;(try dsimp only at hSw);go_simp)
   simp only [Act.put,List.setIfInBounds_toArray,List.set_cons_zero,List.set_cons_succ]
   refine wpAnyH_take (i:=1) (oi:=⟨some 28,.move (.tmp 0),124, "ring.go:270",#[],none⟩) (v:=.slice (some ⟨A,0,none⟩) 4 C) rfl (by kernel_rfl) (by kernel_rfl) (by kernel_rfl) (fun _ _ _ h=>h) (Or.inl ⟨by rfl,?_⟩) (by assumption) ?_
   ·(intro w hSw;(try dsimp only at hSw);go_simp)
   simp only [Act.put,List.setIfInBounds_toArray,List.set_cons_zero,List.set_cons_succ]
   refine wpAnyH_take (i:=2) (oi:=⟨some 29,.indexAddr 124 (.tmp 28) (.const (.int .i64 1)),0, "ring.go:270",#[⟨1,.data⟩],none⟩) (v:=.pointer (some ⟨A,1,none⟩)) rfl (by kernel_rfl) (by kernel_rfl) (by kernel_rfl) (fun _ _ _ h=>h) (Or.inl ⟨by rfl,?_⟩) (by assumption) ?_
   ·(intro w hSw;(try dsimp only at hSw);go_simp)
   simp only [Act.put,List.setIfInBounds_toArray,List.set_cons_zero,List.set_cons_succ]
   refine wpAnyH_take (i:=3) (oi:=⟨some 30,.load 9 (.tmp 29),9, "ring.go:270",#[⟨2,.data⟩],none⟩) (v:=.string ⟨a.toArray⟩) rfl (by kernel_rfl) (by kernel_rfl) (by kernel_rfl) (fun _ _ _ h=>h) (Or.inl ⟨by rfl,?_⟩) (by assumption) ?_
   ·(intro w hSw;(try dsimp only at hSw);go_simp)
   simp only [Act.put,List.setIfInBounds_toArray,List.set_cons_zero,List.set_cons_succ]
   refine wpAnyH_take (i:=5) (oi:=⟨some 32,.move (.tmp 0),124, "ring.go:270",#[],none⟩) (v:=.slice (some ⟨A,0,none⟩) 4 C) rfl (by kernel_rfl) (by kernel_rfl) (by kernel_rfl) (fun _ _ _ h=>h) (Or.inl ⟨by rfl,?_⟩) (by assumption) ?_
   ·(intro w hSw;(try dsimp only at hSw);go_simp)
   simp only [Act.put,List.setIfInBounds_toArray,List.set_cons_zero,List.set_cons_succ]
   refine wpAnyH_take (i:=6) (oi:=⟨some 33,.move (.tmp 4),3, "ring.go:270",#[],none⟩) (v:=.int .i64 4) rfl (by kernel_rfl) (by kernel_rfl) (by kernel_rfl) (fun _ _ _ h=>h) (Or.inl ⟨by rfl,?_⟩) (by assumption) ?_
   ·(intro w hSw;(try dsimp only at hSw);go_simp)
   simp only [Act.put,List.setIfInBounds_toArray,List.set_cons_zero,List.set_cons_succ]
   refine wpAnyH_take (i:=7) (oi:=⟨some 34,.binOp .sub 3 (.tmp 33) (.const (.int .i64 1)) 3,3, "ring.go:270",#[⟨6,.data⟩],none⟩) (v:=.int .i64 3) rfl (by kernel_rfl) (by kernel_rfl) (by kernel_rfl) (fun _ _ _ h=>h) (Or.inl ⟨by rfl,?_⟩) (by assumption) ?_
   ·(intro w hSw;(try dsimp only at hSw);go_simp)
   simp only [Act.put,List.setIfInBounds_toArray,List.set_cons_zero,List.set_cons_succ]
   refine wpAnyH_take (i:=8) (oi:=⟨some 35,.indexAddr 124 (.tmp 32) (.tmp 34),0, "ring.go:270",#[⟨5,.data⟩,⟨7,.data⟩],none⟩) (v:=.pointer (some ⟨A,3,none⟩)) rfl (by kernel_rfl) (by kernel_rfl) (by kernel_rfl) (fun _ _ _ h=>h) (Or.inl ⟨by rfl,?_⟩) (by assumption) ?_
   ·(intro w hSw;(try dsimp only at hSw);go_simp)
   simp only [Act.put,List.setIfInBounds_toArray,List.set_cons_zero,List.set_cons_succ]
   refine wpAnyH_take (i:=9) (oi:=⟨some 36,.load 9 (.tmp 35),9, "ring.go:270",#[⟨8,.data⟩],none⟩) (v:=.string ⟨c.toArray⟩) rfl (by kernel_rfl) (by kernel_rfl) (by kernel_rfl) (fun _ _ _ h=>h) (Or.inl ⟨by rfl,?_⟩) (by assumption) ?_
   ·(intro w hSw;(try dsimp only at hSw);go_simp)
   simp only [Act.put,List.setIfInBounds_toArray,List.set_cons_zero,List.set_cons_succ]
   refine wpAnyH_ready (rs:=[4,12]) (by kernel_rfl) (by simp) (AllReadyH.cons (o:=⟨some 31,.call { callee:=.value (.func 96),args:=#[(.tmp 30)],argTypes:=#[9] },3, "ring.go:270",#[⟨3,.data⟩],none⟩) rfl (fun K hK=>?_) (AllReadyH.cons (o:=⟨some 5,.alloc 84,0, "ring.go:270",#[],none⟩) rfl (fun K hK=>?_) AllReadyH.nil))
   ·try go_simp
    go_wp2_with (go_at_call 96;refine (num_o _ (by first | exact ha | exact hc) _ (hL1.below hd0)).mono ?_;rintro e w' ⟨he,hw'⟩;rw [hoa] at he;subst he)
    exact ⟨rfl,AB.out.trans ((Below.trans hd0 (hw'.mono (Below.size hd0))).mono AB.out.size),rfl⟩
   ·try go_simp
    refine hK.out _ _ (by first | go_keep | exact ⟨by assumption,by assumption⟩) (fun hHeld=>?_)
    try simp only [Act.put,List.setIfInBounds_toArray,List.set_cons_zero,List.set_cons_succ]
    refine wpAnyH_ready (rs:=[4]) (by kernel_rfl) (by simp) (AllReadyH.cons (o:=⟨some 31,.call { callee:=.value (.func 96),args:=#[(.tmp 30)],argTypes:=#[9] },3, "ring.go:270",#[⟨3,.data⟩],none⟩) rfl (fun K hK=>?_) AllReadyH.nil)
    try go_simp
    go_wp2_with (go_at_call 96;refine (num_o _ (by first | exact ha | exact hc) _ (hL1.below (b_ad _ _))).mono ?_;rintro e w' ⟨he,hw'⟩;rw [hoa] at he;subst he)
    exact ⟨rfl,AB.out.trans ((Below.trans (b_ad _ _) (hw'.mono (Below.size (b_ad _ _)))).mono AB.out.size),rfl⟩
theorem stroke_4c (x a b c:List UInt8) (ha:a.length≤1000000) (hc:c.length≤1000000) (hb0:b.length≤1000000) (A C:Nat) (w:World) (hL:Laid w) (h0:w.cell? ⟨A,0,none⟩=some (.string ⟨x.toArray⟩)) (h1:w.cell? ⟨A,1,none⟩=some (.string ⟨a.toArray⟩)) (h2:w.cell? ⟨A,3,none⟩=some (.string ⟨c.toArray⟩)) (h5:w.cell? ⟨A,2,none⟩=some (.string ⟨b.toArray⟩))
  (k:Int) (hk:kindI x=k) (hk0:(k==0)=false) (hk13:k=1∨k=3) (n:Nat) (hna:numP a=some n) (hnc:numP c=none) :
  Calls Tryz.prog 65 #[.slice (some ⟨A,0,none⟩) 4 C] w fun e w'=>Below w.heap.size w w'∧e=.panicked [{ v:=wrongV,recovered:=false }]:=by
 have hlt:A < w.heap.size:=cellLt h0
 obtain ⟨kb,hkb⟩:∃ kb,(k==1)=kb:=⟨_,rfl⟩
 have hkb3:kb=false→(k==3)=true:=by rintro rfl;rcases hk13 with rfl | rfl<;>simp_all
 clear hk13
 cases kb
 ·have hk3:=hkb3 rfl
  clear hkb3
  go_enter Tryz.func65,Tryz.ntmps65
  go_wp2
  go_region_held3 (fun w'=>w'.cell? ⟨A,0,none⟩=some (.string ⟨x.toArray⟩)) (first | go_keep | (refine (Below.cell (by assumption) (by simp;omega)).trans ?_;first | assumption | (simp;omega)))
   ((go_at_call 95;refine (wordOf_c _).mono ?_;rintro e w1 ⟨v,rfl,hv,hb⟩;have hlk:=look_c hv x;have hbw:Below w.heap.size w w1:=(((Below.refl _ w).alloc (Nat.le_refl _) _).drew).trans (hb.mono (by simp))))
  all_goals
   have hL1:=hL.below hbw
   have F1:=Four.newd hb
   have g1:=(hbw.cell (p:=⟨A,1,none⟩) hlt).trans h1
   have g2:=(hbw.cell (p:=⟨A,3,none⟩) hlt).trans h2
   have g5:=(hbw.cell (p:=⟨A,2,none⟩) hlt).trans h5
   have hlt1:A < w1.heap.size:=Nat.lt_of_lt_of_le hlt hbw.size
   have AB:Aside (Below w.heap.size w w1):=hbw
   clear h0 h1 h2 h5 hL hb hv hlk hbw hlt
   have hoa:=outc_s hna
   have hoc:=outc_n hnc
   clear hna hnc
   have hd0:Below w1.heap.size w1 w1.drew:=(Below.refl _ _).drew
   have hn1:w1.heap.size≠A:=Nat.ne_of_gt hlt1
   have wr2:IntKind.i64.wrap 2=2:=by decide
   have wr3:IntKind.i64.wrap 3=3:=by decide
  all_goals
   go_wp2
   refine wp_region_held_drew (S:=(fun w'=>w'.cell? ⟨A,1,none⟩=some (.string ⟨a.toArray⟩)∧w'.cell? ⟨A,3,none⟩=some (.string ⟨c.toArray⟩))) (by kernel_rfl) (by exact ⟨by simpa using g1,by simpa using g2⟩) (fun hHeld=>?_)
   refine wpAnyH_take (i:=0) (oi:=⟨some 27,.move (.tmp 3),3, "ring.go:270",#[],none⟩) (v:=.int .i64 k) rfl (by kernel_rfl) (by kernel_rfl) (by kernel_rfl) (fun _ _ _ h=>h) (Or.inl ⟨by rfl,?_⟩) (by assumption) ?_
   ·(intro w hSw;(try dsimp only at hSw);go_simp)
   simp only [Act.put,List.setIfInBounds_toArray,List.set_cons_zero,List.set_cons_succ]
   refine wpAnyH_take (i:=1) (oi:=⟨some 28,.move (.tmp 0),124, "ring.go:270",#[],none⟩) (v:=.slice (some ⟨A,0,none⟩) 4 C) rfl (by kernel_rfl) (by kernel_rfl) (by kernel_rfl) (fun _ _ _ h=>h) (Or.inl ⟨by rfl,?_⟩) (by assumption) ?_
   ·(intro w hSw;(try dsimp only at hSw);go_simp)
   simp only [Act.put,List.setIfInBounds_toArray,List.set_cons_zero,List.set_cons_succ]
   refine wpAnyH_take (i:=2) (oi:=⟨some 29,.indexAddr 124 (.tmp 28) (.const (.int .i64 1)),0, "ring.go:270",#[⟨1,.data⟩],none⟩) (v:=.pointer (some ⟨A,1,none⟩)) rfl (by kernel_rfl) (by kernel_rfl) (by kernel_rfl) (fun _ _ _ h=>h) (Or.inl ⟨by rfl,?_⟩) (by assumption) ?_
   ·(intro w hSw;(try dsimp only at hSw);go_simp)
   simp only [Act.put,List.setIfInBounds_toArray,List.set_cons_zero,List.set_cons_succ]
   refine wpAnyH_take (i:=3) (oi:=⟨some 30,.load 9 (.tmp 29),9, "ring.go:270",#[⟨2,.data⟩],none⟩) (v:=.string ⟨a.toArray⟩) rfl (by kernel_rfl) (by kernel_rfl) (by kernel_rfl) (fun _ _ _ h=>h) (Or.inl ⟨by rfl,?_⟩) (by assumption) ?_
   ·(intro w hSw;(try dsimp only at hSw);go_simp)
   simp only [Act.put,List.setIfInBounds_toArray,List.set_cons_zero,List.set_cons_succ]
   refine wpAnyH_take (i:=5) (oi:=⟨some 32,.move (.tmp 0),124, "ring.go:270",#[],none⟩) (v:=.slice (some ⟨A,0,none⟩) 4 C) rfl (by kernel_rfl) (by kernel_rfl) (by kernel_rfl) (fun _ _ _ h=>h) (Or.inl ⟨by rfl,?_⟩) (by assumption) ?_
   ·(intro w hSw;(try dsimp only at hSw);go_simp)
   simp only [Act.put,List.setIfInBounds_toArray,List.set_cons_zero,List.set_cons_succ]
   refine wpAnyH_take (i:=6) (oi:=⟨some 33,.move (.tmp 4),3, "ring.go:270",#[],none⟩) (v:=.int .i64 4) rfl (by kernel_rfl) (by kernel_rfl) (by kernel_rfl) (fun _ _ _ h=>h) (Or.inl ⟨by rfl,?_⟩) (by assumption) ?_
   ·(intro w hSw;(try dsimp only at hSw);go_simp)
   simp only [Act.put,List.setIfInBounds_toArray,List.set_cons_zero,List.set_cons_succ]
   refine wpAnyH_take (i:=7) (oi:=⟨some 34,.binOp .sub 3 (.tmp 33) (.const (.int .i64 1)) 3,3, "ring.go:270",#[⟨6,.data⟩],none⟩) (v:=.int .i64 3) rfl (by kernel_rfl) (by kernel_rfl) (by kernel_rfl) (fun _ _ _ h=>h) (Or.inl ⟨by rfl,?_⟩) (by assumption) ?_
   ·(intro w hSw;(try dsimp only at hSw);go_simp)
   simp only [Act.put,List.setIfInBounds_toArray,List.set_cons_zero,List.set_cons_succ]
   refine wpAnyH_take (i:=8) (oi:=⟨some 35,.indexAddr 124 (.tmp 32) (.tmp 34),0, "ring.go:270",#[⟨5,.data⟩,⟨7,.data⟩],none⟩) (v:=.pointer (some ⟨A,3,none⟩)) rfl (by kernel_rfl) (by kernel_rfl) (by kernel_rfl) (fun _ _ _ h=>h) (Or.inl ⟨by rfl,?_⟩) (by assumption) ?_
   ·(intro w hSw;(try dsimp only at hSw);go_simp)
   simp only [Act.put,List.setIfInBounds_toArray,List.set_cons_zero,List.set_cons_succ]
   refine wpAnyH_take (i:=9) (oi:=⟨some 36,.load 9 (.tmp 35),9, "ring.go:270",#[⟨8,.data⟩],none⟩) (v:=.string ⟨c.toArray⟩) rfl (by kernel_rfl) (by kernel_rfl) (by kernel_rfl) (fun _ _ _ h=>h) (Or.inl ⟨by rfl,?_⟩) (by assumption) ?_
   ·(intro w hSw;(try dsimp only at hSw);go_simp)
   simp only [Act.put,List.setIfInBounds_toArray,List.set_cons_zero,List.set_cons_succ]
   refine wpAnyH_ready (rs:=[4,12]) (by kernel_rfl) (by simp) (AllReadyH.cons (o:=⟨some 31,.call { callee:=.value (.func 96),args:=#[(.tmp 30)],argTypes:=#[9] },3, "ring.go:270",#[⟨3,.data⟩],none⟩) rfl (fun K hK=>?_) (AllReadyH.cons (o:=⟨some 5,.alloc 84,0, "ring.go:270",#[],none⟩) rfl (fun K hK=>?_) AllReadyH.nil))
   ·try go_simp
    go_wp2_with (go_at_call 96;refine (num_o _ (by first | exact ha | exact hc) _ (hL1.below hd0)).mono ?_;rintro e w2 ⟨he,hw2⟩;rw [hoa] at he;subst he)
    have hB2:Below w1.heap.size w1 w2:=Below.trans hd0 (hw2.mono (Below.size hd0))
    refine hK.out _ _ ⟨(hB2.cell (p:=⟨A,1,none⟩) hlt1).trans g1,(hB2.cell (p:=⟨A,3,none⟩) hlt1).trans g2⟩ (fun hHeld=>?_)
    try simp only [Act.put,List.setIfInBounds_toArray,List.set_cons_zero,List.set_cons_succ]
    refine wpAnyH_ready (rs:=[10,12]) (by kernel_rfl) (by simp) (AllReadyH.cons (o:=⟨some 37,.call { callee:=.value (.func 96),args:=#[(.tmp 36)],argTypes:=#[9] },3, "ring.go:270",#[⟨9,.data⟩,⟨4,.chain⟩],none⟩) rfl (fun K hK=>?_) (AllReadyH.cons (o:=⟨some 5,.alloc 84,0, "ring.go:270",#[],none⟩) rfl (fun K hK=>?_) AllReadyH.nil))
    ·try go_simp
     go_wp2_with (go_at_call 96;refine (num_o _ (by first | exact ha | exact hc) _ (hL1.below hB2)).mono ?_;rintro e w' ⟨he,hw'⟩;rw [hoc] at he;subst he)
     exact ⟨rfl,AB.out.trans ((Below.trans hB2 (hw'.mono (Below.size hB2))).mono AB.out.size),rfl⟩
    ·try go_simp
     refine hK.out _ _ (by first | go_keep | exact ⟨by assumption,by assumption⟩) (fun hHeld=>?_)
     try simp only [Act.put,List.setIfInBounds_toArray,List.set_cons_zero,List.set_cons_succ]
     refine wpAnyH_ready (rs:=[10]) (by kernel_rfl) (by simp) (AllReadyH.cons (o:=⟨some 37,.call { callee:=.value (.func 96),args:=#[(.tmp 36)],argTypes:=#[9] },3, "ring.go:270",#[⟨9,.data⟩,⟨4,.chain⟩],none⟩) rfl (fun K hK=>?_) AllReadyH.nil)
     try go_simp
     go_wp2_with (go_at_call 96;refine (num_o _ (by first | exact ha | exact hc) _ (hL1.below (b_al hB2 (Nat.le_refl _) _))).mono ?_;rintro e w' ⟨he,hw'⟩;rw [hoc] at he;subst he)
     exact ⟨rfl,AB.out.trans ((Below.trans (b_al hB2 (Nat.le_refl _) _) (hw'.mono (Below.size (b_al hB2 (Nat.le_refl _) _)))).mono AB.out.size),rfl⟩
   ·try go_simp
    refine hK.out _ _ (by first | go_keep | exact ⟨by assumption,by assumption⟩) (fun hHeld=>?_)
    try simp only [Act.put,List.setIfInBounds_toArray,List.set_cons_zero,List.set_cons_succ]
    refine wpAnyH_ready (rs:=[4]) (by kernel_rfl) (by simp) (AllReadyH.cons (o:=⟨some 31,.call { callee:=.value (.func 96),args:=#[(.tmp 30)],argTypes:=#[9] },3, "ring.go:270",#[⟨3,.data⟩],none⟩) rfl (fun K hK=>?_) AllReadyH.nil)
    try go_simp
    go_wp2_with (go_at_call 96;refine (num_o _ (by first | exact ha | exact hc) _ (hL1.below (b_ad _ _))).mono ?_;rintro e w2 ⟨he,hw2⟩;rw [hoa] at he;subst he)
    have hB2:Below w1.heap.size w1 w2:=Below.trans (b_ad _ _) (hw2.mono (Below.size (b_ad _ _)))
    refine hK.out _ _ ⟨(hB2.cell (p:=⟨A,1,none⟩) hlt1).trans g1,(hB2.cell (p:=⟨A,3,none⟩) hlt1).trans g2⟩ (fun hHeld=>?_)
    try simp only [Act.put,List.setIfInBounds_toArray,List.set_cons_zero,List.set_cons_succ]
    refine wpAnyH_ready (rs:=[10]) (by kernel_rfl) (by simp) (AllReadyH.cons (o:=⟨some 37,.call { callee:=.value (.func 96),args:=#[(.tmp 36)],argTypes:=#[9] },3, "ring.go:270",#[⟨9,.data⟩,⟨4,.chain⟩],none⟩) rfl (fun K hK=>?_) AllReadyH.nil)
    try go_simp
    go_wp2_with (go_at_call 96;refine (num_o _ (by first | exact ha | exact hc) _ (hL1.below hB2)).mono ?_;rintro e w' ⟨he,hw'⟩;rw [hoc] at he;subst he)
    exact ⟨rfl,AB.out.trans ((Below.trans hB2 (hw'.mono (Below.size hB2))).mono AB.out.size),rfl⟩
 ·clear hkb3
  go_enter Tryz.func65,Tryz.ntmps65
  go_wp2
  go_region_held3 (fun w'=>w'.cell? ⟨A,0,none⟩=some (.string ⟨x.toArray⟩)) (first | go_keep | (refine (Below.cell (by assumption) (by simp;omega)).trans ?_;first | assumption | (simp;omega)))
   ((go_at_call 95;refine (wordOf_c _).mono ?_;rintro e w1 ⟨v,rfl,hv,hb⟩;have hlk:=look_c hv x;have hbw:Below w.heap.size w w1:=(((Below.refl _ w).alloc (Nat.le_refl _) _).drew).trans (hb.mono (by simp))))
  all_goals
   have hL1:=hL.below hbw
   have F1:=Four.newd hb
   have g1:=(hbw.cell (p:=⟨A,1,none⟩) hlt).trans h1
   have g2:=(hbw.cell (p:=⟨A,3,none⟩) hlt).trans h2
   have g5:=(hbw.cell (p:=⟨A,2,none⟩) hlt).trans h5
   have hlt1:A < w1.heap.size:=Nat.lt_of_lt_of_le hlt hbw.size
   have AB:Aside (Below w.heap.size w w1):=hbw
   clear h0 h1 h2 h5 hL hb hv hlk hbw hlt
   have hoa:=outc_s hna
   have hoc:=outc_n hnc
   clear hna hnc
   have hd0:Below w1.heap.size w1 w1.drew:=(Below.refl _ _).drew
   have hn1:w1.heap.size≠A:=Nat.ne_of_gt hlt1
   have wr2:IntKind.i64.wrap 2=2:=by decide
   have wr3:IntKind.i64.wrap 3=3:=by decide
  all_goals
   go_wp2
   refine wp_region_held_drew (S:=(fun w'=>w'.cell? ⟨A,1,none⟩=some (.string ⟨a.toArray⟩)∧w'.cell? ⟨A,3,none⟩=some (.string ⟨c.toArray⟩))) (by kernel_rfl) (by exact ⟨by simpa using g1,by simpa using g2⟩) (fun hHeld=>?_)
   refine wpAnyH_take (i:=0) (oi:=⟨some 27,.move (.tmp 3),3, "ring.go:270",#[],none⟩) (v:=.int .i64 k) rfl (by kernel_rfl) (by kernel_rfl) (by kernel_rfl) (fun _ _ _ h=>h) (Or.inl ⟨by rfl,?_⟩) (by assumption) ?_
   ·(intro w hSw;(try dsimp only at hSw);go_simp)
   simp only [Act.put,List.setIfInBounds_toArray,List.set_cons_zero,List.set_cons_succ]
   refine wpAnyH_take (i:=1) (oi:=⟨some 28,.move (.tmp 0),124, "ring.go:270",#[],none⟩) (v:=.slice (some ⟨A,0,none⟩) 4 C) rfl (by kernel_rfl) (by kernel_rfl) (by kernel_rfl) (fun _ _ _ h=>h) (Or.inl ⟨by rfl,?_⟩) (by assumption) ?_
   ·(intro w hSw;(try dsimp only at hSw);go_simp)
   simp only [Act.put,List.setIfInBounds_toArray,List.set_cons_zero,List.set_cons_succ]
   refine wpAnyH_take (i:=2) (oi:=⟨some 29,.indexAddr 124 (.tmp 28) (.const (.int .i64 1)),0, "ring.go:270",#[⟨1,.data⟩],none⟩) (v:=.pointer (some ⟨A,1,none⟩)) rfl (by kernel_rfl) (by kernel_rfl) (by kernel_rfl) (fun _ _ _ h=>h) (Or.inl ⟨by rfl,?_⟩) (by assumption) ?_
   ·(intro w hSw;(try dsimp only at hSw);go_simp)
   simp only [Act.put,List.setIfInBounds_toArray,List.set_cons_zero,List.set_cons_succ]
   refine wpAnyH_take (i:=3) (oi:=⟨some 30,.load 9 (.tmp 29),9, "ring.go:270",#[⟨2,.data⟩],none⟩) (v:=.string ⟨a.toArray⟩) rfl (by kernel_rfl) (by kernel_rfl) (by kernel_rfl) (fun _ _ _ h=>h) (Or.inl ⟨by rfl,?_⟩) (by assumption) ?_
   ·(intro w hSw;(try dsimp only at hSw);go_simp)
   simp only [Act.put,List.setIfInBounds_toArray,List.set_cons_zero,List.set_cons_succ]
   refine wpAnyH_take (i:=5) (oi:=⟨some 32,.move (.tmp 0),124, "ring.go:270",#[],none⟩) (v:=.slice (some ⟨A,0,none⟩) 4 C) rfl (by kernel_rfl) (by kernel_rfl) (by kernel_rfl) (fun _ _ _ h=>h) (Or.inl ⟨by rfl,?_⟩) (by assumption) ?_
   ·(intro w hSw;(try dsimp only at hSw);go_simp)
   simp only [Act.put,List.setIfInBounds_toArray,List.set_cons_zero,List.set_cons_succ]
   refine wpAnyH_take (i:=6) (oi:=⟨some 33,.move (.tmp 4),3, "ring.go:270",#[],none⟩) (v:=.int .i64 4) rfl (by kernel_rfl) (by kernel_rfl) (by kernel_rfl) (fun _ _ _ h=>h) (Or.inl ⟨by rfl,?_⟩) (by assumption) ?_
   ·(intro w hSw;(try dsimp only at hSw);go_simp)
   simp only [Act.put,List.setIfInBounds_toArray,List.set_cons_zero,List.set_cons_succ]
   refine wpAnyH_take (i:=7) (oi:=⟨some 34,.binOp .sub 3 (.tmp 33) (.const (.int .i64 1)) 3,3, "ring.go:270",#[⟨6,.data⟩],none⟩) (v:=.int .i64 3) rfl (by kernel_rfl) (by kernel_rfl) (by kernel_rfl) (fun _ _ _ h=>h) (Or.inl ⟨by rfl,?_⟩) (by assumption) ?_
   ·(intro w hSw;(try dsimp only at hSw);go_simp)
   simp only [Act.put,List.setIfInBounds_toArray,List.set_cons_zero,List.set_cons_succ]
   refine wpAnyH_take (i:=8) (oi:=⟨some 35,.indexAddr 124 (.tmp 32) (.tmp 34),0, "ring.go:270",#[⟨5,.data⟩,⟨7,.data⟩],none⟩) (v:=.pointer (some ⟨A,3,none⟩)) rfl (by kernel_rfl) (by kernel_rfl) (by kernel_rfl) (fun _ _ _ h=>h) (Or.inl ⟨by rfl,?_⟩) (by assumption) ?_
   ·(intro w hSw;(try dsimp only at hSw);go_simp)
   simp only [Act.put,List.setIfInBounds_toArray,List.set_cons_zero,List.set_cons_succ]
   refine wpAnyH_take (i:=9) (oi:=⟨some 36,.load 9 (.tmp 35),9, "ring.go:270",#[⟨8,.data⟩],none⟩) (v:=.string ⟨c.toArray⟩) rfl (by kernel_rfl) (by kernel_rfl) (by kernel_rfl) (fun _ _ _ h=>h) (Or.inl ⟨by rfl,?_⟩) (by assumption) ?_
   ·(intro w hSw;(try dsimp only at hSw);go_simp)
   simp only [Act.put,List.setIfInBounds_toArray,List.set_cons_zero,List.set_cons_succ]
   refine wpAnyH_ready (rs:=[4,12]) (by kernel_rfl) (by simp) (AllReadyH.cons (o:=⟨some 31,.call { callee:=.value (.func 96),args:=#[(.tmp 30)],argTypes:=#[9] },3, "ring.go:270",#[⟨3,.data⟩],none⟩) rfl (fun K hK=>?_) (AllReadyH.cons (o:=⟨some 5,.alloc 84,0, "ring.go:270",#[],none⟩) rfl (fun K hK=>?_) AllReadyH.nil))
   ·try go_simp
    go_wp2_with (go_at_call 96;refine (num_o _ (by first | exact ha | exact hc) _ (hL1.below hd0)).mono ?_;rintro e w2 ⟨he,hw2⟩;rw [hoa] at he;subst he)
    have hB2:Below w1.heap.size w1 w2:=Below.trans hd0 (hw2.mono (Below.size hd0))
    refine hK.out _ _ ⟨(hB2.cell (p:=⟨A,1,none⟩) hlt1).trans g1,(hB2.cell (p:=⟨A,3,none⟩) hlt1).trans g2⟩ (fun hHeld=>?_)
    try simp only [Act.put,List.setIfInBounds_toArray,List.set_cons_zero,List.set_cons_succ]
    refine wpAnyH_ready (rs:=[10,12]) (by kernel_rfl) (by simp) (AllReadyH.cons (o:=⟨some 37,.call { callee:=.value (.func 96),args:=#[(.tmp 36)],argTypes:=#[9] },3, "ring.go:270",#[⟨9,.data⟩,⟨4,.chain⟩],none⟩) rfl (fun K hK=>?_) (AllReadyH.cons (o:=⟨some 5,.alloc 84,0, "ring.go:270",#[],none⟩) rfl (fun K hK=>?_) AllReadyH.nil))
    ·try go_simp
     go_wp2_with (go_at_call 96;refine (num_o _ (by first | exact ha | exact hc) _ (hL1.below hB2)).mono ?_;rintro e w' ⟨he,hw'⟩;rw [hoc] at he;subst he)
     exact ⟨rfl,AB.out.trans ((Below.trans hB2 (hw'.mono (Below.size hB2))).mono AB.out.size),rfl⟩
    ·try go_simp
     refine hK.out _ _ (by first | go_keep | exact ⟨by assumption,by assumption⟩) (fun hHeld=>?_)
     try simp only [Act.put,List.setIfInBounds_toArray,List.set_cons_zero,List.set_cons_succ]
     refine wpAnyH_ready (rs:=[10]) (by kernel_rfl) (by simp) (AllReadyH.cons (o:=⟨some 37,.call { callee:=.value (.func 96),args:=#[(.tmp 36)],argTypes:=#[9] },3, "ring.go:270",#[⟨9,.data⟩,⟨4,.chain⟩],none⟩) rfl (fun K hK=>?_) AllReadyH.nil)
     try go_simp
     go_wp2_with (go_at_call 96;refine (num_o _ (by first | exact ha | exact hc) _ (hL1.below (b_al hB2 (Nat.le_refl _) _))).mono ?_;rintro e w' ⟨he,hw'⟩;rw [hoc] at he;subst he)
     exact ⟨rfl,AB.out.trans ((Below.trans (b_al hB2 (Nat.le_refl _) _) (hw'.mono (Below.size (b_al hB2 (Nat.le_refl _) _)))).mono AB.out.size),rfl⟩
   ·try go_simp
    refine hK.out _ _ (by first | go_keep | exact ⟨by assumption,by assumption⟩) (fun hHeld=>?_)
    try simp only [Act.put,List.setIfInBounds_toArray,List.set_cons_zero,List.set_cons_succ]
    refine wpAnyH_ready (rs:=[4]) (by kernel_rfl) (by simp) (AllReadyH.cons (o:=⟨some 31,.call { callee:=.value (.func 96),args:=#[(.tmp 30)],argTypes:=#[9] },3, "ring.go:270",#[⟨3,.data⟩],none⟩) rfl (fun K hK=>?_) AllReadyH.nil)
    try go_simp
    go_wp2_with (go_at_call 96;refine (num_o _ (by first | exact ha | exact hc) _ (hL1.below (b_ad _ _))).mono ?_;rintro e w2 ⟨he,hw2⟩;rw [hoa] at he;subst he)
    have hB2:Below w1.heap.size w1 w2:=Below.trans (b_ad _ _) (hw2.mono (Below.size (b_ad _ _)))
    refine hK.out _ _ ⟨(hB2.cell (p:=⟨A,1,none⟩) hlt1).trans g1,(hB2.cell (p:=⟨A,3,none⟩) hlt1).trans g2⟩ (fun hHeld=>?_)
    try simp only [Act.put,List.setIfInBounds_toArray,List.set_cons_zero,List.set_cons_succ]
    refine wpAnyH_ready (rs:=[10]) (by kernel_rfl) (by simp) (AllReadyH.cons (o:=⟨some 37,.call { callee:=.value (.func 96),args:=#[(.tmp 36)],argTypes:=#[9] },3, "ring.go:270",#[⟨9,.data⟩,⟨4,.chain⟩],none⟩) rfl (fun K hK=>?_) AllReadyH.nil)
    try go_simp
    go_wp2_with (go_at_call 96;refine (num_o _ (by first | exact ha | exact hc) _ (hL1.below hB2)).mono ?_;rintro e w' ⟨he,hw'⟩;rw [hoc] at he;subst he)
    exact ⟨rfl,AB.out.trans ((Below.trans hB2 (hw'.mono (Below.size hB2))).mono AB.out.size),rfl⟩
theorem stroke_4b (x a b c:List UInt8) (ha:a.length≤1000000) (hc:c.length≤1000000) (hb0:b.length≤1000000) (A C:Nat) (w:World) (hL:Laid w) (h0:w.cell? ⟨A,0,none⟩=some (.string ⟨x.toArray⟩)) (h1:w.cell? ⟨A,1,none⟩=some (.string ⟨a.toArray⟩)) (h2:w.cell? ⟨A,3,none⟩=some (.string ⟨c.toArray⟩)) (h5:w.cell? ⟨A,2,none⟩=some (.string ⟨b.toArray⟩))
  (k:Int) (hk:kindI x=k) (hk0:(k==0)=false) (hk13:k=1∨k=3) (n:Nat) (m:Nat) (hna:numP a=some n) (hnc:numP c=some m) (hnb:numP b=none) :
  Calls Tryz.prog 65 #[.slice (some ⟨A,0,none⟩) 4 C] w fun e w'=>Below w.heap.size w w'∧e=.panicked [{ v:=wrongV,recovered:=false }]:=by
 have hlt:A < w.heap.size:=cellLt h0
 obtain ⟨kb,hkb⟩:∃ kb,(k==1)=kb:=⟨_,rfl⟩
 have hkb3:kb=false→(k==3)=true:=by rintro rfl;rcases hk13 with rfl | rfl<;>simp_all
 clear hk13
 cases kb
 ·have hk3:=hkb3 rfl
  clear hkb3
  go_enter Tryz.func65,Tryz.ntmps65
  go_wp2
  go_region_held3 (fun w'=>w'.cell? ⟨A,0,none⟩=some (.string ⟨x.toArray⟩)) (first | go_keep | (refine (Below.cell (by assumption) (by simp;omega)).trans ?_;first | assumption | (simp;omega)))
   ((go_at_call 95;refine (wordOf_c _).mono ?_;rintro e w1 ⟨v,rfl,hv,hb⟩;have hlk:=look_c hv x;have hbw:Below w.heap.size w w1:=(((Below.refl _ w).alloc (Nat.le_refl _) _).drew).trans (hb.mono (by simp))))
  all_goals
   have hL1:=hL.below hbw
   have F1:=Four.newd hb
   have g1:=(hbw.cell (p:=⟨A,1,none⟩) hlt).trans h1
   have g2:=(hbw.cell (p:=⟨A,3,none⟩) hlt).trans h2
   have g5:=(hbw.cell (p:=⟨A,2,none⟩) hlt).trans h5
   have hlt1:A < w1.heap.size:=Nat.lt_of_lt_of_le hlt hbw.size
   have AB:Aside (Below w.heap.size w w1):=hbw
   clear h0 h1 h2 h5 hL hb hv hlk hbw hlt
   have hoa:=outc_s hna
   have hoc:=outc_s hnc
   clear hna hnc
   have hd0:Below w1.heap.size w1 w1.drew:=(Below.refl _ _).drew
   have hn1:w1.heap.size≠A:=Nat.ne_of_gt hlt1
   have wr2:IntKind.i64.wrap 2=2:=by decide
   have wr3:IntKind.i64.wrap 3=3:=by decide
  all_goals
   go_wp2
   go_region_held3 (fun w'=>w'.cell? ⟨A,1,none⟩=some (.string ⟨a.toArray⟩)∧w'.cell? ⟨A,3,none⟩=some (.string ⟨c.toArray⟩)) (first | go_keep | exact ⟨by assumption,by assumption⟩)
    ((go_at_call 96;refine (num_o _ (by first | exact ha | exact hc | exact hb0) _ (hL1.below (by first | assumption | exact b_ad _ _ | exact b_al (by assumption) (Nat.le_refl _) _))).mono ?_;first | (rintro e w2 ⟨he,hw2⟩;rw [hoa] at he;subst he;have hBw2:Below w1.heap.size w1 w2:=bl_tr (by first | assumption | exact b_ad _ _ | exact b_al (by assumption) (Nat.le_refl _) _) hw2;have g3w2:=(hBw2.cell (p:=⟨A,1,none⟩) hlt1).trans g1;have g4w2:=(hBw2.cell (p:=⟨A,3,none⟩) hlt1).trans g2;have hnw2:w2.heap.size≠A:=Nat.ne_of_gt (Nat.lt_of_lt_of_le hlt1 hBw2.size);(first | (have hA:=Four.newd hw2;obtain ⟨⟨hA0,hA1,hA2,hA3⟩,hA4⟩:=id hA) | skip)) | (rintro e w3 ⟨he,hw3⟩;rw [hoc] at he;subst he;have hBw3:Below w1.heap.size w1 w3:=bl_tr (by first | assumption | exact b_ad _ _ | exact b_al (by assumption) (Nat.le_refl _) _) hw3;have g3w3:=(hBw3.cell (p:=⟨A,1,none⟩) hlt1).trans g1;have g4w3:=(hBw3.cell (p:=⟨A,3,none⟩) hlt1).trans g2;have hnw3:w3.heap.size≠A:=Nat.ne_of_gt (Nat.lt_of_lt_of_le hlt1 hBw3.size);(first | (have hC:=Four.keep hA hw3;clear hA0 hA1 hA2 hA3 hA4;obtain ⟨⟨hC0,hC1,hC2,hC3⟩,hC4⟩:=id hC) | ((first | have hC:=Four.new hw3 | have hC:=Four.newd hw3);obtain ⟨⟨hC0,hC1,hC2,hC3⟩,hC4⟩:=id hC) | skip))))
  all_goals
   have F3:=F1.keep hBw3
   have hlw:w.heap.size < w1.heap.size:=cellLt F1.1.1
   have hls:w.heap.size < w3.heap.size:=Nat.lt_of_lt_of_le hlw hBw3.size
   have hn3:w3.heap.size≠w.heap.size:=Nat.ne_of_gt hls
   have hn2:w2.heap.size≠w.heap.size:=Nat.ne_of_gt (Nat.lt_of_lt_of_le hlw hBw2.size)
   have hn1':w1.heap.size≠w.heap.size:=Nat.ne_of_gt hlw
   obtain ⟨⟨F30,F31,F32,F33⟩,F34⟩:=id F3
   have hb3:Below w.heap.size w w3:=AB.out.trans (hBw3.mono AB.out.size)
   have le1:w.heap.size≤w1.heap.size:=Nat.le_of_lt hlw
   have le2:w.heap.size≤w2.heap.size:=Nat.le_trans le1 hBw2.size
   have le3:w.heap.size≤w3.heap.size:=Nat.le_of_lt hls
  all_goals
   have bb0:b.length≤1000000:=hb0
  ·have cW:Four (w3.alloc (.cells #[.int .i64 k,.int .i64 n,.int .i64 0,.int .i64 m] 84)) w3.heap.size (.int .i64 k) (.int .i64 n) (.int .i64 0) (.int .i64 m):=Four.mk_
   have rW:Four (w3.alloc (.cells #[.int .i64 k,.int .i64 n,.int .i64 0,.int .i64 m] 84)) w.heap.size (.int .i64 0) (.int .i64 0) (.int .i64 0) (.int .i64 0):=Four.keep F3 ((Below.refl _ w3).alloc (Nat.le_refl _) _)
   have bW:Below w1.heap.size w1 (w3.alloc (.cells #[.int .i64 k,.int .i64 n,.int .i64 0,.int .i64 m] 84)):=hBw3.alloc hBw3.size _
   have hNR:w3.heap.size≠w.heap.size:=hn3
   have leN:w.heap.size≤w3.heap.size:=le3
   have nA:w3.heap.size≠A:=hnw3
   try clear hA
   try clear hC
   generalize w3.alloc (.cells #[.int .i64 k,.int .i64 n,.int .i64 0,.int .i64 m] 84)=W at *
   have g5W:=(bW.cell (p:=⟨A,2,none⟩) hlt1).trans g5
   obtain ⟨⟨cW0,cW1,cW2,cW3⟩,fW⟩:=id cW
   have hNW:w3.heap.size < W.heap.size:=cellLt cW0
   go_wp2_with (go_at_call 96;refine (num_o _ hb0 _ (hL1.below bW)).mono ?_;rintro e w4 ⟨he,hw4⟩;rw [outc_n hnb] at he;subst he;have cX:=Four.keep cW hw4;obtain ⟨⟨cX0,cX1,cX2,cX3⟩,fX⟩:=id cX;have rX:=Four.keep rW hw4;obtain ⟨⟨rX0,rX1,rX2,rX3⟩,gX⟩:=id rX)
   have bX:Below w.heap.size w w4:=AB.out.trans ((bW.trans (hw4.mono bW.size)).mono AB.out.size)
   exact ⟨rfl,bX,rfl⟩
  ·have cW:Four ((((w3.setCell ⟨w2.heap.size,0,none⟩ (.int .i64 k)).setCell ⟨w2.heap.size,1,none⟩ (.int .i64 n)).setCell ⟨w2.heap.size,2,none⟩ (.int .i64 0)).setCell ⟨w2.heap.size,3,none⟩ (.int .i64 m)) w2.heap.size (.int .i64 k) (.int .i64 n) (.int .i64 0) (.int .i64 m):=Four.set hC _ _ _ _
   have rW:Four ((((w3.setCell ⟨w2.heap.size,0,none⟩ (.int .i64 k)).setCell ⟨w2.heap.size,1,none⟩ (.int .i64 n)).setCell ⟨w2.heap.size,2,none⟩ (.int .i64 0)).setCell ⟨w2.heap.size,3,none⟩ (.int .i64 m)) w.heap.size (.int .i64 0) (.int .i64 0) (.int .i64 0) (.int .i64 0):=Four.all F3 hn2 _ _ _ _
   have bW:Below w1.heap.size w1 ((((w3.setCell ⟨w2.heap.size,0,none⟩ (.int .i64 k)).setCell ⟨w2.heap.size,1,none⟩ (.int .i64 n)).setCell ⟨w2.heap.size,2,none⟩ (.int .i64 0)).setCell ⟨w2.heap.size,3,none⟩ (.int .i64 m)):=b_set hBw3 hBw2.size _ _ _ _
   have hNR:w2.heap.size≠w.heap.size:=hn2
   have leN:w.heap.size≤w2.heap.size:=le2
   have nA:w2.heap.size≠A:=hnw2
   try clear hA
   try clear hC
   generalize (((w3.setCell ⟨w2.heap.size,0,none⟩ (.int .i64 k)).setCell ⟨w2.heap.size,1,none⟩ (.int .i64 n)).setCell ⟨w2.heap.size,2,none⟩ (.int .i64 0)).setCell ⟨w2.heap.size,3,none⟩ (.int .i64 m)=W at *
   have g5W:=(bW.cell (p:=⟨A,2,none⟩) hlt1).trans g5
   obtain ⟨⟨cW0,cW1,cW2,cW3⟩,fW⟩:=id cW
   have hNW:w2.heap.size < W.heap.size:=cellLt cW0
   go_wp2_with (go_at_call 96;refine (num_o _ hb0 _ (hL1.below bW)).mono ?_;rintro e w4 ⟨he,hw4⟩;rw [outc_n hnb] at he;subst he;have cX:=Four.keep cW hw4;obtain ⟨⟨cX0,cX1,cX2,cX3⟩,fX⟩:=id cX;have rX:=Four.keep rW hw4;obtain ⟨⟨rX0,rX1,rX2,rX3⟩,gX⟩:=id rX)
   have bX:Below w.heap.size w w4:=AB.out.trans ((bW.trans (hw4.mono bW.size)).mono AB.out.size)
   exact ⟨rfl,bX,rfl⟩
  ·have cW:Four ((((w3.setCell ⟨w1.heap.size,0,none⟩ (.int .i64 k)).setCell ⟨w1.heap.size,1,none⟩ (.int .i64 n)).setCell ⟨w1.heap.size,2,none⟩ (.int .i64 0)).setCell ⟨w1.heap.size,3,none⟩ (.int .i64 m)) w1.heap.size (.int .i64 k) (.int .i64 n) (.int .i64 0) (.int .i64 m):=Four.set hC _ _ _ _
   have rW:Four ((((w3.setCell ⟨w1.heap.size,0,none⟩ (.int .i64 k)).setCell ⟨w1.heap.size,1,none⟩ (.int .i64 n)).setCell ⟨w1.heap.size,2,none⟩ (.int .i64 0)).setCell ⟨w1.heap.size,3,none⟩ (.int .i64 m)) w.heap.size (.int .i64 0) (.int .i64 0) (.int .i64 0) (.int .i64 0):=Four.all F3 hn1' _ _ _ _
   have bW:Below w1.heap.size w1 ((((w3.setCell ⟨w1.heap.size,0,none⟩ (.int .i64 k)).setCell ⟨w1.heap.size,1,none⟩ (.int .i64 n)).setCell ⟨w1.heap.size,2,none⟩ (.int .i64 0)).setCell ⟨w1.heap.size,3,none⟩ (.int .i64 m)):=b_set hBw3 (Nat.le_refl _) _ _ _ _
   have hNR:w1.heap.size≠w.heap.size:=hn1'
   have leN:w.heap.size≤w1.heap.size:=le1
   have nA:w1.heap.size≠A:=hn1
   try clear hA
   try clear hC
   generalize (((w3.setCell ⟨w1.heap.size,0,none⟩ (.int .i64 k)).setCell ⟨w1.heap.size,1,none⟩ (.int .i64 n)).setCell ⟨w1.heap.size,2,none⟩ (.int .i64 0)).setCell ⟨w1.heap.size,3,none⟩ (.int .i64 m)=W at *
   have g5W:=(bW.cell (p:=⟨A,2,none⟩) hlt1).trans g5
   obtain ⟨⟨cW0,cW1,cW2,cW3⟩,fW⟩:=id cW
   have hNW:w1.heap.size < W.heap.size:=cellLt cW0
   go_wp2_with (go_at_call 96;refine (num_o _ hb0 _ (hL1.below bW)).mono ?_;rintro e w4 ⟨he,hw4⟩;rw [outc_n hnb] at he;subst he;have cX:=Four.keep cW hw4;obtain ⟨⟨cX0,cX1,cX2,cX3⟩,fX⟩:=id cX;have rX:=Four.keep rW hw4;obtain ⟨⟨rX0,rX1,rX2,rX3⟩,gX⟩:=id rX)
   have bX:Below w.heap.size w w4:=AB.out.trans ((bW.trans (hw4.mono bW.size)).mono AB.out.size)
   exact ⟨rfl,bX,rfl⟩
 ·clear hkb3
  go_enter Tryz.func65,Tryz.ntmps65
  go_wp2
  go_region_held3 (fun w'=>w'.cell? ⟨A,0,none⟩=some (.string ⟨x.toArray⟩)) (first | go_keep | (refine (Below.cell (by assumption) (by simp;omega)).trans ?_;first | assumption | (simp;omega)))
   ((go_at_call 95;refine (wordOf_c _).mono ?_;rintro e w1 ⟨v,rfl,hv,hb⟩;have hlk:=look_c hv x;have hbw:Below w.heap.size w w1:=(((Below.refl _ w).alloc (Nat.le_refl _) _).drew).trans (hb.mono (by simp))))
  all_goals
   have hL1:=hL.below hbw
   have F1:=Four.newd hb
   have g1:=(hbw.cell (p:=⟨A,1,none⟩) hlt).trans h1
   have g2:=(hbw.cell (p:=⟨A,3,none⟩) hlt).trans h2
   have g5:=(hbw.cell (p:=⟨A,2,none⟩) hlt).trans h5
   have hlt1:A < w1.heap.size:=Nat.lt_of_lt_of_le hlt hbw.size
   have AB:Aside (Below w.heap.size w w1):=hbw
   clear h0 h1 h2 h5 hL hb hv hlk hbw hlt
   have hoa:=outc_s hna
   have hoc:=outc_s hnc
   clear hna hnc
   have hd0:Below w1.heap.size w1 w1.drew:=(Below.refl _ _).drew
   have hn1:w1.heap.size≠A:=Nat.ne_of_gt hlt1
   have wr2:IntKind.i64.wrap 2=2:=by decide
   have wr3:IntKind.i64.wrap 3=3:=by decide
  all_goals
   go_wp2
   go_region_held3 (fun w'=>w'.cell? ⟨A,1,none⟩=some (.string ⟨a.toArray⟩)∧w'.cell? ⟨A,3,none⟩=some (.string ⟨c.toArray⟩)) (first | go_keep | exact ⟨by assumption,by assumption⟩)
    ((go_at_call 96;refine (num_o _ (by first | exact ha | exact hc | exact hb0) _ (hL1.below (by first | assumption | exact b_ad _ _ | exact b_al (by assumption) (Nat.le_refl _) _))).mono ?_;first | (rintro e w2 ⟨he,hw2⟩;rw [hoa] at he;subst he;have hBw2:Below w1.heap.size w1 w2:=bl_tr (by first | assumption | exact b_ad _ _ | exact b_al (by assumption) (Nat.le_refl _) _) hw2;have g3w2:=(hBw2.cell (p:=⟨A,1,none⟩) hlt1).trans g1;have g4w2:=(hBw2.cell (p:=⟨A,3,none⟩) hlt1).trans g2;have hnw2:w2.heap.size≠A:=Nat.ne_of_gt (Nat.lt_of_lt_of_le hlt1 hBw2.size);(first | (have hA:=Four.newd hw2;obtain ⟨⟨hA0,hA1,hA2,hA3⟩,hA4⟩:=id hA) | skip)) | (rintro e w3 ⟨he,hw3⟩;rw [hoc] at he;subst he;have hBw3:Below w1.heap.size w1 w3:=bl_tr (by first | assumption | exact b_ad _ _ | exact b_al (by assumption) (Nat.le_refl _) _) hw3;have g3w3:=(hBw3.cell (p:=⟨A,1,none⟩) hlt1).trans g1;have g4w3:=(hBw3.cell (p:=⟨A,3,none⟩) hlt1).trans g2;have hnw3:w3.heap.size≠A:=Nat.ne_of_gt (Nat.lt_of_lt_of_le hlt1 hBw3.size);(first | (have hC:=Four.keep hA hw3;clear hA0 hA1 hA2 hA3 hA4;obtain ⟨⟨hC0,hC1,hC2,hC3⟩,hC4⟩:=id hC) | ((first | have hC:=Four.new hw3 | have hC:=Four.newd hw3);obtain ⟨⟨hC0,hC1,hC2,hC3⟩,hC4⟩:=id hC) | skip))))
  all_goals
   have F3:=F1.keep hBw3
   have hlw:w.heap.size < w1.heap.size:=cellLt F1.1.1
   have hls:w.heap.size < w3.heap.size:=Nat.lt_of_lt_of_le hlw hBw3.size
   have hn3:w3.heap.size≠w.heap.size:=Nat.ne_of_gt hls
   have hn2:w2.heap.size≠w.heap.size:=Nat.ne_of_gt (Nat.lt_of_lt_of_le hlw hBw2.size)
   have hn1':w1.heap.size≠w.heap.size:=Nat.ne_of_gt hlw
   obtain ⟨⟨F30,F31,F32,F33⟩,F34⟩:=id F3
   have hb3:Below w.heap.size w w3:=AB.out.trans (hBw3.mono AB.out.size)
   have le1:w.heap.size≤w1.heap.size:=Nat.le_of_lt hlw
   have le2:w.heap.size≤w2.heap.size:=Nat.le_trans le1 hBw2.size
   have le3:w.heap.size≤w3.heap.size:=Nat.le_of_lt hls
  all_goals
   have bb0:b.length≤1000000:=hb0
  ·have cW:Four (w3.alloc (.cells #[.int .i64 k,.int .i64 n,.int .i64 0,.int .i64 m] 84)) w3.heap.size (.int .i64 k) (.int .i64 n) (.int .i64 0) (.int .i64 m):=Four.mk_
   have rW:Four (w3.alloc (.cells #[.int .i64 k,.int .i64 n,.int .i64 0,.int .i64 m] 84)) w.heap.size (.int .i64 0) (.int .i64 0) (.int .i64 0) (.int .i64 0):=Four.keep F3 ((Below.refl _ w3).alloc (Nat.le_refl _) _)
   have bW:Below w1.heap.size w1 (w3.alloc (.cells #[.int .i64 k,.int .i64 n,.int .i64 0,.int .i64 m] 84)):=hBw3.alloc hBw3.size _
   have hNR:w3.heap.size≠w.heap.size:=hn3
   have leN:w.heap.size≤w3.heap.size:=le3
   have nA:w3.heap.size≠A:=hnw3
   try clear hA
   try clear hC
   generalize w3.alloc (.cells #[.int .i64 k,.int .i64 n,.int .i64 0,.int .i64 m] 84)=W at *
   have g5W:=(bW.cell (p:=⟨A,2,none⟩) hlt1).trans g5
   obtain ⟨⟨cW0,cW1,cW2,cW3⟩,fW⟩:=id cW
   have hNW:w3.heap.size < W.heap.size:=cellLt cW0
   go_wp2_with (go_at_call 96;refine (num_o _ hb0 _ (hL1.below bW)).mono ?_;rintro e w4 ⟨he,hw4⟩;rw [outc_n hnb] at he;subst he;have cX:=Four.keep cW hw4;obtain ⟨⟨cX0,cX1,cX2,cX3⟩,fX⟩:=id cX;have rX:=Four.keep rW hw4;obtain ⟨⟨rX0,rX1,rX2,rX3⟩,gX⟩:=id rX)
   have bX:Below w.heap.size w w4:=AB.out.trans ((bW.trans (hw4.mono bW.size)).mono AB.out.size)
   exact ⟨rfl,bX,rfl⟩
  ·have cW:Four ((((w3.setCell ⟨w2.heap.size,0,none⟩ (.int .i64 k)).setCell ⟨w2.heap.size,1,none⟩ (.int .i64 n)).setCell ⟨w2.heap.size,2,none⟩ (.int .i64 0)).setCell ⟨w2.heap.size,3,none⟩ (.int .i64 m)) w2.heap.size (.int .i64 k) (.int .i64 n) (.int .i64 0) (.int .i64 m):=Four.set hC _ _ _ _
   have rW:Four ((((w3.setCell ⟨w2.heap.size,0,none⟩ (.int .i64 k)).setCell ⟨w2.heap.size,1,none⟩ (.int .i64 n)).setCell ⟨w2.heap.size,2,none⟩ (.int .i64 0)).setCell ⟨w2.heap.size,3,none⟩ (.int .i64 m)) w.heap.size (.int .i64 0) (.int .i64 0) (.int .i64 0) (.int .i64 0):=Four.all F3 hn2 _ _ _ _
   have bW:Below w1.heap.size w1 ((((w3.setCell ⟨w2.heap.size,0,none⟩ (.int .i64 k)).setCell ⟨w2.heap.size,1,none⟩ (.int .i64 n)).setCell ⟨w2.heap.size,2,none⟩ (.int .i64 0)).setCell ⟨w2.heap.size,3,none⟩ (.int .i64 m)):=b_set hBw3 hBw2.size _ _ _ _
   have hNR:w2.heap.size≠w.heap.size:=hn2
   have leN:w.heap.size≤w2.heap.size:=le2
   have nA:w2.heap.size≠A:=hnw2
   try clear hA
   try clear hC
   generalize (((w3.setCell ⟨w2.heap.size,0,none⟩ (.int .i64 k)).setCell ⟨w2.heap.size,1,none⟩ (.int .i64 n)).setCell ⟨w2.heap.size,2,none⟩ (.int .i64 0)).setCell ⟨w2.heap.size,3,none⟩ (.int .i64 m)=W at *
   have g5W:=(bW.cell (p:=⟨A,2,none⟩) hlt1).trans g5
   obtain ⟨⟨cW0,cW1,cW2,cW3⟩,fW⟩:=id cW
   have hNW:w2.heap.size < W.heap.size:=cellLt cW0
   go_wp2_with (go_at_call 96;refine (num_o _ hb0 _ (hL1.below bW)).mono ?_;rintro e w4 ⟨he,hw4⟩;rw [outc_n hnb] at he;subst he;have cX:=Four.keep cW hw4;obtain ⟨⟨cX0,cX1,cX2,cX3⟩,fX⟩:=id cX;have rX:=Four.keep rW hw4;obtain ⟨⟨rX0,rX1,rX2,rX3⟩,gX⟩:=id rX)
   have bX:Below w.heap.size w w4:=AB.out.trans ((bW.trans (hw4.mono bW.size)).mono AB.out.size)
   exact ⟨rfl,bX,rfl⟩
  ·have cW:Four ((((w3.setCell ⟨w1.heap.size,0,none⟩ (.int .i64 k)).setCell ⟨w1.heap.size,1,none⟩ (.int .i64 n)).setCell ⟨w1.heap.size,2,none⟩ (.int .i64 0)).setCell ⟨w1.heap.size,3,none⟩ (.int .i64 m)) w1.heap.size (.int .i64 k) (.int .i64 n) (.int .i64 0) (.int .i64 m):=Four.set hC _ _ _ _
   have rW:Four ((((w3.setCell ⟨w1.heap.size,0,none⟩ (.int .i64 k)).setCell ⟨w1.heap.size,1,none⟩ (.int .i64 n)).setCell ⟨w1.heap.size,2,none⟩ (.int .i64 0)).setCell ⟨w1.heap.size,3,none⟩ (.int .i64 m)) w.heap.size (.int .i64 0) (.int .i64 0) (.int .i64 0) (.int .i64 0):=Four.all F3 hn1' _ _ _ _
   have bW:Below w1.heap.size w1 ((((w3.setCell ⟨w1.heap.size,0,none⟩ (.int .i64 k)).setCell ⟨w1.heap.size,1,none⟩ (.int .i64 n)).setCell ⟨w1.heap.size,2,none⟩ (.int .i64 0)).setCell ⟨w1.heap.size,3,none⟩ (.int .i64 m)):=b_set hBw3 (Nat.le_refl _) _ _ _ _
   have hNR:w1.heap.size≠w.heap.size:=hn1'
   have leN:w.heap.size≤w1.heap.size:=le1
   have nA:w1.heap.size≠A:=hn1
   try clear hA
   try clear hC
   generalize (((w3.setCell ⟨w1.heap.size,0,none⟩ (.int .i64 k)).setCell ⟨w1.heap.size,1,none⟩ (.int .i64 n)).setCell ⟨w1.heap.size,2,none⟩ (.int .i64 0)).setCell ⟨w1.heap.size,3,none⟩ (.int .i64 m)=W at *
   have g5W:=(bW.cell (p:=⟨A,2,none⟩) hlt1).trans g5
   obtain ⟨⟨cW0,cW1,cW2,cW3⟩,fW⟩:=id cW
   have hNW:w1.heap.size < W.heap.size:=cellLt cW0
   go_wp2_with (go_at_call 96;refine (num_o _ hb0 _ (hL1.below bW)).mono ?_;rintro e w4 ⟨he,hw4⟩;rw [outc_n hnb] at he;subst he;have cX:=Four.keep cW hw4;obtain ⟨⟨cX0,cX1,cX2,cX3⟩,fX⟩:=id cX;have rX:=Four.keep rW hw4;obtain ⟨⟨rX0,rX1,rX2,rX3⟩,gX⟩:=id rX)
   have bX:Below w.heap.size w w4:=AB.out.trans ((bW.trans (hw4.mono bW.size)).mono AB.out.size)
   exact ⟨rfl,bX,rfl⟩
end Go.VE
