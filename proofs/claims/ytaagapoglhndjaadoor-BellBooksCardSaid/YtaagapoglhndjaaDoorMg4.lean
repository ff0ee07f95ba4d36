/- BellBooks: the evaluator of the program's functions, its proof, and the law. -/
import Derived.Test.YtaagapoglhndjaaDoorChecked
import Derived.Test.YtaagapoglhndjaaDoorMh
import Derived.KernelRfl
import Derived.WalkKit
import Derived.LoopN
import Derived.Shelf.Strings.BuilderF
import Derived.Test.YtaagapoglhndjaaDoorMt
import Derived.Test.YtaagapoglhndjaaDoorMg0
import Derived.Test.YtaagapoglhndjaaDoorMg1
import Derived.Test.YtaagapoglhndjaaDoorMg2
import Derived.Test.YtaagapoglhndjaaDoorMg3
import Derived.Test.YtaagapoglhndjaaDoorCards
import Derived.Test.YtaagapoglhndjaaDoorTie
import Derived.SevenTiedAt
import Derived.ProofKit
import Derived.LaidMore
import Derived.Stop.Joined
namespace Go.VE
open Go.RowKit Go.Proofs Go.Shelf
set_option maxRecDepth 100000
set_option maxHeartbeats 4000000
theorem itoa1 (w:World):Calls Tryd.prog 117 #[.int .i64 1] w fun e w'=>e=.returned (.string ⟨#[49]⟩)∧w'=w:=by
 go_enter Tryd.func117,Tryd.ntmps117
 go_wp2
 go_ret
 exact ⟨rfl,rfl⟩
theorem itoa0 (w:World):Calls Tryd.prog 117 #[.int .i64 0] w fun e w'=>e=.returned (.string ⟨#[48]⟩)∧w'=w:=by
 go_enter Tryd.func117,Tryd.ntmps117
 go_wp2
 go_ret
 exact ⟨rfl,rfl⟩
theorem itoa7 (w:World):Calls Tryd.prog 117 #[.int .i64 7] w fun e w'=>e=.returned (.string ⟨#[55]⟩)∧w'=w:=by
 go_enter Tryd.func117,Tryd.ntmps117
 go_wp2
 go_ret
 exact ⟨rfl,rfl⟩
theorem row2 (w:World) (b:Nat) (h0:w.cell? ⟨b,0,none⟩=some (.int .i64 7)) (h1:w.cell? ⟨b,1,none⟩=some (.int .i64 1)) :
  Calls Tryd.prog 109 #[.string ⟨#[119,97,110,116,115]⟩,.slice (some ⟨b,0,none⟩) 2 2] w fun e w'=>e=.returned (.string ⟨#[119,97,110,116,115,32,55,32,49,10]⟩)∧w'=w:=by
 go_enter Tryd.func109,Tryd.ntmps109
 go_wp2
 refine wp_loop_rounds 3 ?_
 rw [rounds_succ]
 go_wp2_with (go_at_call 117;refine (itoa7 _).mono ?_;rintro e w' ⟨rfl,rfl⟩)
 rw [rounds_succ]
 go_wp2_with (go_at_call 117;refine (itoa1 _).mono ?_;rintro e w' ⟨rfl,rfl⟩)
 rw [rounds_succ]
 go_wp2
 go_ret
 exact ⟨rfl,rfl⟩
theorem row3 (w:World) (b:Nat) (h0:w.cell? ⟨b,0,none⟩=some (.int .i64 7)) (h1:w.cell? ⟨b,1,none⟩=some (.int .i64 0)) (h2:w.cell? ⟨b,2,none⟩=some (.int .i64 1)) :
  Calls Tryd.prog 109 #[.string ⟨#[116,97,108,108,121]⟩,.slice (some ⟨b,0,none⟩) 3 3] w fun e w'=>e=.returned (.string ⟨#[116,97,108,108,121,32,55,32,48,32,49,10]⟩)∧w'=w:=by
 go_enter Tryd.func109,Tryd.ntmps109
 go_wp2
 refine wp_loop_rounds 4 ?_
 rw [rounds_succ]
 go_wp2_with (go_at_call 117;refine (itoa7 _).mono ?_;rintro e w' ⟨rfl,rfl⟩)
 rw [rounds_succ]
 go_wp2_with (go_at_call 117;refine (itoa0 _).mono ?_;rintro e w' ⟨rfl,rfl⟩)
 rw [rounds_succ]
 go_wp2_with (go_at_call 117;refine (itoa1 _).mono ?_;rintro e w' ⟨rfl,rfl⟩)
 rw [rounds_succ]
 go_wp2
 go_ret
 exact ⟨rfl,rfl⟩
def rhoB:Ren:=⟨fun x=>if x=166 then 108 else if x=240 then 116 else if x=276 then 122 else if x=169 then 110 else 0,fun x=>if x=72 then 141 else if x=70 then 138 else if x=37 then 139 else if x=164 then 155 else if x=75 then 143 else if x=127 then 154 else if x=80 then 147 else x,fun x=>x⟩
theorem lays166:Lays.n166 Tryd.prog rhoB where
 mixed:=by kernel_rfl
 f166:=by kernel_rfl
 f240:=by kernel_rfl
 f276:=by kernel_rfl
 t0:=by kernel_rfl
 a0:=fun w=>by kernel_rfl
 z0:=fun w=>by kernel_rfl
 v0:=fun w=>by kernel_rfl
 t3:=by kernel_rfl
 a3:=fun w=>by kernel_rfl
 z3:=fun w=>by kernel_rfl
 v3:=fun w=>by kernel_rfl
 t4:=by kernel_rfl
 a4:=fun w=>by kernel_rfl
 z4:=fun w=>by kernel_rfl
 v4:=fun w=>by kernel_rfl
 t9:=by kernel_rfl
 a9:=fun w=>by kernel_rfl
 z9:=fun w=>by kernel_rfl
 v9:=fun w=>by kernel_rfl
 t20:=by kernel_rfl
 a20:=fun w=>by kernel_rfl
 z20:=fun w=>by kernel_rfl
 v20:=fun w=>by kernel_rfl
 t37:=by kernel_rfl
 a37:=fun w=>by kernel_rfl
 z37:=fun w=>by kernel_rfl
 v37:=fun w=>by kernel_rfl
 t70:=by kernel_rfl
 a70:=fun w=>by kernel_rfl
 z70:=fun w=>by kernel_rfl
 v70:=fun w=>by kernel_rfl
 t72:=by kernel_rfl
 a72:=fun w=>by kernel_rfl
 z72:=fun w=>by kernel_rfl
 v72:=fun w=>by kernel_rfl
 t75:=by kernel_rfl
 a75:=fun w=>by kernel_rfl
 z75:=fun w=>by kernel_rfl
 v75:=fun w=>by kernel_rfl
 t164:=by kernel_rfl
 a164:=fun w=>by kernel_rfl
 z164:=fun w=>by kernel_rfl
 v164:=fun w=>by kernel_rfl
theorem lays169:Lays.n169 Tryd.prog rhoB where
 mixed:=by kernel_rfl
 f169:=by kernel_rfl
 t0:=by kernel_rfl
 a0:=fun w=>by kernel_rfl
 z0:=fun w=>by kernel_rfl
 v0:=fun w=>by kernel_rfl
 t3:=by kernel_rfl
 a3:=fun w=>by kernel_rfl
 z3:=fun w=>by kernel_rfl
 v3:=fun w=>by kernel_rfl
 t9:=by kernel_rfl
 a9:=fun w=>by kernel_rfl
 z9:=fun w=>by kernel_rfl
 v9:=fun w=>by kernel_rfl
 t37:=by kernel_rfl
 a37:=fun w=>by kernel_rfl
 z37:=fun w=>by kernel_rfl
 v37:=fun w=>by kernel_rfl
 t70:=by kernel_rfl
 a70:=fun w=>by kernel_rfl
 z70:=fun w=>by kernel_rfl
 v70:=fun w=>by kernel_rfl
 t72:=by kernel_rfl
 a72:=fun w=>by kernel_rfl
 z72:=fun w=>by kernel_rfl
 v72:=fun w=>by kernel_rfl
 t127:=by kernel_rfl
 a127:=fun w=>by kernel_rfl
 z127:=fun w=>by kernel_rfl
 v127:=fun w=>by kernel_rfl
theorem extraB:Builder.Extra Tryd.prog rhoB where
 sizeBuilder:=by kernel_rfl
 liesBuilder:=by kernel_rfl
 t5:=by kernel_rfl
 a5:=fun w=>by kernel_rfl
 z5:=fun w=>by kernel_rfl
 v5:=fun w=>by kernel_rfl
 infoByte:=by kernel_rfl
 cellsByte:=by kernel_rfl
 sizeByte:=by kernel_rfl
 neB5:=by decide
theorem wS (B b:Nat) (bs:List Value) (s:ByteArray) (w:World) (h:Lib.IsBuilderF 141 5 B b bs w) (hlen:bs.length+s.size≤140737488355328) (hBw:B≤w.heap.size) :
  Calls Tryd.prog 108 #[.pointer (some ⟨b,0,none⟩),.string s] w fun e w'=>e=.returned (.tuple #[.int .i64 s.size,.nilIface])∧(Lib.BuilderAtF 141 5 B b (.pointer (some ⟨b,0,none⟩)) (bs++Lib.strCells s) w'∧Below B w w'):=Any.Builder_WriteString_f lays166 extraB B b bs s w h hlen hBw
theorem wStr (B b:Nat) (l:List UInt8) (w:World) (h:Lib.IsBuilderF 141 5 B b (Lib.byteCells l) w) (hBw:B≤w.heap.size) :
  Calls Tryd.prog 110 #[.pointer (some ⟨b,0,none⟩)] w fun e w'=>e=.returned (.string ⟨l.toArray⟩)∧(Lib.IsBuilderF 141 5 B b (Lib.byteCells l) w'∧Below B w w'):=Any.Builder_String_any_f lays169 extraB B b l w h hBw
end Go.VE
namespace Go.VE
open Go.RowKit Go.Proofs Go.Shelf
set_option maxRecDepth 100000
set_option maxHeartbeats 4000000
theorem print2 (w:World) (a:Nat) (o c:Nat) (_:2≤c) (h0:w.cell? ⟨a,o,none⟩=some (.int .i64 2)) (h1:w.cell? ⟨a,o+1,none⟩=some (.int .i64 7)) (h2:w.cell? ⟨a,o+2,none⟩=some (.int .i64 0)) (h3:w.cell? ⟨a,o+3,none⟩=some (.int .i64 1))
  (h4:w.cell? ⟨a,o+4,none⟩=some (.int .i64 1)) (h5:w.cell? ⟨a,o+5,none⟩=some (.int .i64 7)) (h6:w.cell? ⟨a,o+6,none⟩=some (.int .i64 0)) (h7:w.cell? ⟨a,o+7,none⟩=some (.int .i64 1))
  (hf:Calls Tryd.prog 105 #[.slice (some ⟨a,o,none⟩) 2 c,(.func (.func 106) #[] #[])] w fun e w'=>e=.returned (.bool false)∧Below w.heap.size w w') :
  Calls Tryd.prog 76 #[.slice (some ⟨a,o,none⟩) 2 c] w fun e w'=>e=.returned (.tuple #[.string ⟨#[119,97,110,116,115,32,55,32,49,10,116,97,108,108,121,32,55,32,48,32,49,10]⟩,.int .i64 0])∧Below w.heap.size w w':=by
 have ha:a < w.heap.size:=by
  unfold World.cell? at h0
  simp only at h0
  rcases Nat.lt_or_ge a w.heap.size with h | h
  ·exact h
  ·rw [Array.getElem?_eq_none h] at h0;cases h0
 go_enter Tryd.func76,Tryd.ntmps76
 go_wp2_with (go_at_call 105;refine hf.mono ?_)
 rintro e w1 ⟨rfl,b1⟩
 have ha1:a < w1.heap.size:=Nat.lt_of_lt_of_le ha b1.size
 have g0:=(b1.cell (p:=⟨a,o,none⟩) ha).trans h0
 have g1:=(b1.cell (p:=⟨a,o+1,none⟩) ha).trans h1
 have g2:=(b1.cell (p:=⟨a,o+2,none⟩) ha).trans h2
 have g3:=(b1.cell (p:=⟨a,o+3,none⟩) ha).trans h3
 have g4:=(b1.cell (p:=⟨a,o+4,none⟩) ha).trans h4
 have g5:=(b1.cell (p:=⟨a,o+5,none⟩) ha).trans h5
 have g6:=(b1.cell (p:=⟨a,o+6,none⟩) ha).trans h6
 have g7:=(b1.cell (p:=⟨a,o+7,none⟩) ha).trans h7
 clear h0 h1 h2 h3 h4 h5 h6 h7 hf
 go_wp2
 refine wp_loop_rounds 3 ?_
 rw [rounds_succ]
 go_wp2_with (go_at_call 109;refine (row2 _ _ (by simp [go_sem]) (by simp [go_sem])).mono ?_)
 rintro e w2 ⟨rfl,rfl⟩
 have k0:Lib.IsBuilderF 141 5 w1.heap.size w1.heap.size [] (w1.alloc (.cells #[.pointer none,.slice none 0 0] 141)):=Lib.IsBuilderF.of (Lib.fresh_isBuilder 141 5 w1)
 have c0:Below w1.heap.size w1 (w1.alloc (.cells #[.pointer none,.slice none 0 0] 141)):=(Below.refl _ w1).alloc (Nat.le_refl _) _
 go_wp2_with (go_at_call 108;refine (wS w1.heap.size w1.heap.size [] _ _ ((k0.imp (·.alloc _) (·.alloc _)).imp (·.alloc _) (·.alloc _)) (by decide) (((c0.alloc c0.size _).alloc (c0.alloc c0.size _).size _).size)).mono ?_)
 rintro e w3 ⟨rfl,k3,d3⟩
 have c3:=((c0.alloc c0.size _).alloc (c0.alloc c0.size _).size _).trans d3
 clear d3 k0 c0
 have ha3:a < w3.heap.size:=Nat.lt_of_lt_of_le ha1 c3.size
 have f4:=(c3.cell (p:=⟨a,o+4,none⟩) ha1).trans g4
 have f5:=(c3.cell (p:=⟨a,o+5,none⟩) ha1).trans g5
 have f6:=(c3.cell (p:=⟨a,o+6,none⟩) ha1).trans g6
 have f7:=(c3.cell (p:=⟨a,o+7,none⟩) ha1).trans g7
 clear g0 g1 g2 g3 g4 g5 g6 g7
 go_wp2
 rw [rounds_succ]
 go_wp2_with (go_at_call 109;refine (row3 _ _ (by simp [go_sem]) (by simp [go_sem]) (by simp [go_sem])).mono ?_)
 rintro e w4 ⟨rfl,rfl⟩
 have c4:=(c3.alloc c3.size (.cells #[.int .i64 1,.int .i64 7,.int .i64 0,.int .i64 1] 87)).alloc ((c3.alloc c3.size (.cells #[.int .i64 1,.int .i64 7,.int .i64 0,.int .i64 1] 87)).size) (.cells #[.int .i64 7,.int .i64 0,.int .i64 1] 3)
 go_wp2_with (go_at_call 108;refine (wS w1.heap.size w1.heap.size _ _ _ (.inr ((k3.alloc _).alloc _)) (by decide) c4.size).mono ?_)
 rintro e w5 ⟨rfl,k5,d5⟩
 have c5:=c4.trans d5
 clear d5 c4 k3 f4 f5 f6 f7
 go_wp2
 rw [rounds_succ]
 have k6:Lib.IsBuilderF 141 5 w1.heap.size w1.heap.size (Lib.byteCells [119,97,110,116,115,32,55,32,49,10,116,97,108,108,121,32,55,32,48,32,49,10]) w5:=.inr k5
 go_wp2_with (go_at_call 110;refine (wStr w1.heap.size w1.heap.size _ _ k6 c5.size).mono ?_)
 rintro e w6 ⟨rfl,_,d6⟩
 go_wp2
 go_ret2
 refine ⟨rfl,?_⟩
 have c6:=c5.trans d6
 exact b1.trans ⟨c6.os,c6.tape,c6.output,c6.size,fun k hk=>c6.block k (Nat.lt_of_lt_of_le hk b1.size)⟩
end Go.VE
namespace Go.VE
open Go.RowKit Go.Proofs
set_option maxRecDepth 100000
set_option maxHeartbeats 0
def ySt (p:Int) (bs:D) (l:D) (h e:Int):Out:=some (0,[.d (il p),.d bs,.d l,.d (il h),.d (il e)])
def eBs:D:=.sl 2 [[il 7,il 11]]
def eRow (a b c d:Int):List D:=[il a,il b,il c,il d]
def eSt (p:Int) (l:D) (h:Int):List D:=[il p,eBs,l,il h]
def eNo:D:=.lit (.slice none 0 0)
theorem e9_0:FN 14 9 [il 0,eBs]=ySt 0 eBs eNo 0 0:=by kernel_rfl
theorem e9_1:FN 14 9 [il 1,eBs]=ySt 1 eBs eNo 0 0:=by kernel_rfl
theorem e9_3:FN 14 9 [il 3,eBs]=ySt 3 eBs eNo 0 0:=by kernel_rfl
theorem e41:FN 14 41 (eSt 3 eNo 0++[il 7])=some (0,[.d (.sl 1 [[il 0],[il 1]]),.d (il 0)]):=by kernel_rfl
theorem e19:FN 14 19 (eSt 1 eNo 0++[il 7])=ySt 1 eBs (.sl 4 [eRow 2 7 0 1]) 0 0:=by kernel_rfl
theorem e43_0:FN 14 43 (eSt 1 (.sl 4 [eRow 2 7 0 1]) 0++[il 0])=some (0,[.d (il 1),.d (il 0),.d (.sl 3 [[il 7,il 0,il 0]]),.d (il 0)]):=by kernel_rfl
theorem e49_1:FN 14 49 (eSt 1 (.sl 4 [eRow 2 7 0 1]) 0)=ySt 1 eBs (.sl 4 [eRow 2 7 0 1]) 1 0:=by kernel_rfl
theorem e43_1:FN 14 43 (eSt 1 (.sl 4 [eRow 2 7 0 1]) 1++[il 0])=some (0,[.d (il 1),.d (il 0),.d (.sl 3 [[il 7,il 0,il 1]]),.d (il 0)]):=by kernel_rfl
theorem e27_0:FN 14 27 (eSt 0 eNo 0++[il 1,il 0,.sl 3 [[il 7,il 0,il 1]]])=ySt 0 eBs (.sl 4 [eRow 3 7 1 1]) 0 0:=by kernel_rfl
theorem e25:FN 14 25 (eSt 0 (.sl 4 [eRow 3 7 1 1]) 0)=ySt 0 eBs (.sl 4 [eRow 3 7 1 1,eRow 1 7 1 1]) 0 0:=by kernel_rfl
theorem e29:FN 14 29 (eSt 0 (.sl 4 [eRow 3 7 1 1,eRow 1 7 1 1]) 0++[il 7,il 1])=some (0,[.d (il 1),.d (il 0)]):=by kernel_rfl
theorem e49_2:FN 14 49 (eSt 0 (.sl 4 [eRow 3 7 1 1,eRow 1 7 1 1]) 0)=ySt 0 eBs (.sl 4 [eRow 3 7 1 1,eRow 1 7 1 1]) 2 0:=by kernel_rfl
theorem e43_2:FN 14 43 (eSt 0 (.sl 4 [eRow 3 7 1 1,eRow 1 7 1 1]) 2++[il 1])=some (0,[.d (il 0),.d (il 1),.d (.sl 3 [[il 7,il 1,il 0]]),.d (il 0)]):=by kernel_rfl
theorem e27_1:FN 14 27 (eSt 1 (.sl 4 [eRow 2 7 0 1]) 1++[il 0,il 1,.sl 3 [[il 7,il 1,il 0]]])=ySt 1 eBs (.sl 4 [eRow 2 7 0 1,eRow 1 7 0 1]) 1 0:=by kernel_rfl
theorem e33:FN 14 33 (eSt 1 (.sl 4 [eRow 2 7 0 1,eRow 1 7 0 1]) 1++[il 7,il 0])=some (0,[.d (bl true),.d (il 0)]):=by kernel_rfl
theorem e21:FN 14 21 (eSt 1 (.sl 4 [eRow 2 7 0 1,eRow 1 7 0 1]) 1++[il 7])=ySt 1 eBs (.sl 4 [eRow 2 7 0 1,eRow 1 7 0 1,eRow 4 7 0 1,eRow 2 7 0 2]) 1 0:=by kernel_rfl
theorem e47:FN 14 47 [.sl 4 [eSt 0 (.sl 4 [eRow 3 7 1 1,eRow 1 7 1 1]) 2,eSt 1 (.sl 4 [eRow 2 7 0 1,eRow 1 7 0 1,eRow 4 7 0 1,eRow 2 7 0 2]) 1,eSt 3 eNo 0],il 7]=some (0,[.d (.sl 1 [[il 1]]),.d (il 0)]):=by kernel_rfl
end Go.VE
namespace Go.VE
open Go.RowKit Go.Proofs
set_option maxRecDepth 100000
set_option maxHeartbeats 0
theorem mixP:Tryd.prog.follows .mixedOrders=true:=by kernel_rfl
theorem spOK:SpOK Tryd.prog (cf3 tb Tryd.prog):=fun f p h=>by
 have:(cf3 tb Tryd.prog).sp f=none:=rfl
 rw [this] at h;cases h
def two:List (List D):=[eRow 2 7 0 1,eRow 1 7 0 1]
def twoS:D:=.lit (.string ⟨#[119,97,110,116,115,32,55,32,49,10,116,97,108,108,121,32,55,32,48,32,49,10]⟩)
theorem e105:FN 8 105 [.sl 4 two,.fn 106 []]=some (0,[.d (bl false)]):=by kernel_rfl
theorem sc105:SC Tryd.prog 105 [.one (.sl 4 two),.one (.fn 106 [])] (.one (.d (bl false))) :=
 FnT_ok (P:=Tryd.prog) (T:=tb) mixP spOK 8 105 [.one,.one] [.sl 4 two,.fn 106 []] _ 0 [.d (bl false)] [(false,[.d])] rfl rfl e105 rfl
theorem print_sc:SC Tryd.prog 76 [.one (.sl 4 two)] (.tup [.one (.d twoS),.one (.d (il 0))]):=by
 refine ⟨fun xs w=>enters_of Tryd.func76 (by kernel_rfl) rfl xs w,?_⟩
 intro w U vs hU hv
 obtain ⟨vs⟩:=vs
 simp only [VDF,VDR,DR] at hv
 obtain ⟨v,_,rfl,⟨a,c,rfl,hc,hm,hb⟩,rfl⟩:=hv
 obtain ⟨b,o,rfl,hb1,hr⟩:=hb (by decide)
 have hr':=hr
 simp only [two,eRow,RR,CR,DR,il,Nat.add_assoc,Nat.reduceAdd] at hr
 obtain ⟨_,⟨⟨_,h0,rfl,_⟩,⟨_,h1,rfl,_⟩,⟨_,h2,rfl,_⟩,⟨_,h3,rfl,_⟩,_⟩,_,⟨⟨_,h4,rfl,_⟩,⟨_,h5,rfl,_⟩,⟨_,h6,rfl,_⟩,⟨_,h7,rfl,_⟩,_⟩,_⟩:=hr
 refine (print2 w b o c hc h0 h1 h2 h3 h4 h5 h6 h7 ?_).mono ?_
 ·refine (sc105.2 w U _ hU ?_).mono ?_
  ·simp only [VDF,VDR,DR]
   exact ⟨_,_,rfl,⟨⟨b,o,none⟩,c,rfl,hc,hm,fun _=>⟨b,o,rfl,hb1,hr'⟩⟩,_,_,rfl,⟨#[],rfl,by simp [FR]⟩,rfl⟩
  ·rintro e w' ⟨v,U',bs,rfl,hbe,_,_,_,_,hrv⟩
   simp only [RvR,RcR,DR,bl] at hrv
   obtain ⟨_,rfl,_⟩:=hrv
   exact ⟨rfl,hbe⟩
 ·rintro e w' ⟨rfl,hbe⟩
  refine ⟨_,U,[],rfl,hbe,fun _ h=>h,fun x hx=>⟨Nat.lt_of_lt_of_le (hU x hx) hbe.size,.inl hx⟩,List.nodup_nil,by simp,?_⟩
  simp only [RvR,RvF,RcR,DR,twoS,il]
  exact ⟨_,rfl,_,_,[],[],rfl,rfl,⟨rfl,rfl,rfl⟩,_,_,[],[],rfl,rfl,⟨rfl,rfl,rfl⟩,rfl,rfl⟩
end Go.VE
namespace Go.VE
open Go.RowKit Go.Proofs
set_option maxRecDepth 100000
set_option maxHeartbeats 0
open Classical in
noncomputable def FnP (f:Nat) (xs:List D):Out:=if f=76∧xs=[.sl 4 two] then some (0,[.d twoS,.d (il 0)]) else FN 14 f xs
theorem pE {f:Nat} {xs:List D} (h:f≠76):FnP f xs=FN 14 f xs:=if_neg fun e=>h e.1
theorem pP:FnP 76 [.sl 4 two]=some (0,[.d twoS,.d (il 0)]):=if_pos ⟨rfl,rfl⟩
theorem FnP_ok:FnOK Tryd.prog (cf3 tb Tryd.prog) FnP:=by
 intro f sh xs vs j ys rs h1 h2 h3 h4
 unfold FnP at h3
 split at h3
 ·rename_i hc
  obtain ⟨rfl,rfl⟩:=hc
  simp only [Option.some.injEq,Prod.mk.injEq] at h3
  obtain ⟨rfl,rfl⟩:=h3
  have e1:(cf3 tb Tryd.prog).ash 76=some [.one]:=rfl
  rw [e1] at h1
  cases h1
  cases h2
  have e2:((cf3 tb Tryd.prog).rsk 76)[0]?=some [(false,[.d]),(false,[.d])]:=rfl
  rw [e2] at h4
  cases h4
  exact print_sc
 ·exact FnT_ok mixP spOK 14 f sh xs vs j ys rs h1 h2 h3 h4
theorem FnP_okM:FmOK Tryd.prog (cf3 tb Tryd.prog) FnP:=fun f ms xs zs h1 h2=>by
 rw [pE (by omega)] at h2
 exact FnT_okM mixP spOK 14 f ms xs zs h1 h2
theorem e45a:FN 14 45 [.sl 1 [[il 0],[il 1]],.sl 1 [[il 0],[il 1]]]=some (0,[.d (bl true)]):=by kernel_rfl
theorem e45b:FN 14 45 [.sl 1 [[il 1]],.sl 1 [[il 1]]]=some (0,[.d (bl true)]):=by kernel_rfl
theorem e46a:FN 14 46 [il 1,il 0,.sl 3 [[il 7,il 0,il 0]],il 1,il 0,.sl 3 [[il 7,il 0,il 0]]]=some (0,[.d (bl true)]):=by kernel_rfl
theorem e46b:FN 14 46 [il 1,il 0,.sl 3 [[il 7,il 0,il 1]],il 1,il 0,.sl 3 [[il 7,il 0,il 1]]]=some (0,[.d (bl true)]):=by kernel_rfl
theorem e46c:FN 14 46 [il 0,il 1,.sl 3 [[il 7,il 1,il 0]],il 0,il 1,.sl 3 [[il 7,il 1,il 0]]]=some (0,[.d (bl true)]):=by kernel_rfl
theorem r_eqlS {Fn:Nat→List D→Out} {FnD:D→List Sh→List D→Out} {m:Nat} (s:ByteArray) (k:D→Out):(real Fn FnD m).bin .eql false (.lit (.string s)) (.lit (.string s)) k=k (bl true):=by
 simp [real,binD,aStr,optO,bl]
theorem r_litS {Fn:Nat→List D→Out} {FnD:D→List Sh→List D→Out} {m:Nat} (s:ByteArray):(real Fn FnD m).lit (.string s)=.lit (.string s):=rfl
theorem g18a {Fn:Nat→List D→Out} {FnD:D→List Sh→List D→Out} (e9_0:Fn 9 [il 0,eBs]=ySt 0 eBs eNo 0 0)
  (e9_1:Fn 9 [il 1,eBs]=ySt 1 eBs eNo 0 0)
  (e9_3:Fn 9 [il 3,eBs]=ySt 3 eBs eNo 0 0)
  (e41:Fn 41 (eSt 3 eNo 0++[il 7])=some (0,[.d (.sl 1 [[il 0],[il 1]]),.d (il 0)]))
  (e19:Fn 19 (eSt 1 eNo 0++[il 7])=ySt 1 eBs (.sl 4 [eRow 2 7 0 1]) 0 0)
  (e43_0:Fn 43 (eSt 1 (.sl 4 [eRow 2 7 0 1]) 0++[il 0])=some (0,[.d (il 1),.d (il 0),.d (.sl 3 [[il 7,il 0,il 0]]),.d (il 0)]))
  (e49_1:Fn 49 (eSt 1 (.sl 4 [eRow 2 7 0 1]) 0)=ySt 1 eBs (.sl 4 [eRow 2 7 0 1]) 1 0)
  (e43_1:Fn 43 (eSt 1 (.sl 4 [eRow 2 7 0 1]) 1++[il 0])=some (0,[.d (il 1),.d (il 0),.d (.sl 3 [[il 7,il 0,il 1]]),.d (il 0)]))
  (e27_0:Fn 27 (eSt 0 eNo 0++[il 1,il 0,.sl 3 [[il 7,il 0,il 1]]])=ySt 0 eBs (.sl 4 [eRow 3 7 1 1]) 0 0)
  (e25:Fn 25 (eSt 0 (.sl 4 [eRow 3 7 1 1]) 0)=ySt 0 eBs (.sl 4 [eRow 3 7 1 1,eRow 1 7 1 1]) 0 0)
  (e29:Fn 29 (eSt 0 (.sl 4 [eRow 3 7 1 1,eRow 1 7 1 1]) 0++[il 7,il 1])=some (0,[.d (il 1),.d (il 0)]))
  (e49_2:Fn 49 (eSt 0 (.sl 4 [eRow 3 7 1 1,eRow 1 7 1 1]) 0)=ySt 0 eBs (.sl 4 [eRow 3 7 1 1,eRow 1 7 1 1]) 2 0)
  (e43_2:Fn 43 (eSt 0 (.sl 4 [eRow 3 7 1 1,eRow 1 7 1 1]) 2++[il 1])=some (0,[.d (il 0),.d (il 1),.d (.sl 3 [[il 7,il 1,il 0]]),.d (il 0)]))
  (e27_1:Fn 27 (eSt 1 (.sl 4 [eRow 2 7 0 1]) 1++[il 0,il 1,.sl 3 [[il 7,il 1,il 0]]])=ySt 1 eBs (.sl 4 [eRow 2 7 0 1,eRow 1 7 0 1]) 1 0)
  (e33:Fn 33 (eSt 1 (.sl 4 [eRow 2 7 0 1,eRow 1 7 0 1]) 1++[il 7,il 0])=some (0,[.d (bl true),.d (il 0)]))
  (e21:Fn 21 (eSt 1 (.sl 4 [eRow 2 7 0 1,eRow 1 7 0 1]) 1++[il 7])=ySt 1 eBs (.sl 4 [eRow 2 7 0 1,eRow 1 7 0 1,eRow 4 7 0 1,eRow 2 7 0 2]) 1 0)
  (e47:Fn 47 [.sl 4 [eSt 0 (.sl 4 [eRow 3 7 1 1,eRow 1 7 1 1]) 2,eSt 1 (.sl 4 [eRow 2 7 0 1,eRow 1 7 0 1,eRow 4 7 0 1,eRow 2 7 0 2]) 1,eSt 3 eNo 0],il 7]=some (0,[.d (.sl 1 [[il 1]]),.d (il 0)]))
  (e45a:Fn 45 [.sl 1 [[il 0],[il 1]],.sl 1 [[il 0],[il 1]]]=some (0,[.d (bl true)]))
  (e45b:Fn 45 [.sl 1 [[il 1]],.sl 1 [[il 1]]]=some (0,[.d (bl true)]))
  (e46a:Fn 46 [il 1,il 0,.sl 3 [[il 7,il 0,il 0]],il 1,il 0,.sl 3 [[il 7,il 0,il 0]]]=some (0,[.d (bl true)]))
  (e46b:Fn 46 [il 1,il 0,.sl 3 [[il 7,il 0,il 1]],il 1,il 0,.sl 3 [[il 7,il 0,il 1]]]=some (0,[.d (bl true)]))
  (e46c:Fn 46 [il 0,il 1,.sl 3 [[il 7,il 1,il 0]],il 0,il 1,.sl 3 [[il 7,il 1,il 0]]]=some (0,[.d (bl true)]))
  (pP:Fn 76 [.sl 4 two]=some (0,[.d twoS,.d (il 0)])):G18 (real Fn FnD M0)=some (0,[.d (bl true)]):=by
 simp only [ySt,eBs,eRow,eSt,eNo,two,twoS,List.cons_append,List.nil_append] at e9_0 e9_1 e9_3 e41 e19 e43_0 e49_1 e43_1 e27_0 e25 e29 e49_2 e43_2 e27_1 e33 e21 e47 pP
 simp only [G18,r_natN,r_liti,r_litb,r_rows,r_len,List.length_cons,List.length_nil,r_eqN,Nat.zero_add,if_true,r_seg0,List.take,r_slD,r_call,r_bnd0,r_ld0,r_lds,e9_0,e9_1,e9_3,e41,e19,e43_0,e49_1,e43_1,e27_0,e25,e29,e49_2,e43_2,e27_1,e33,e21,e47,pP,
  r_eql,decide_true,r_cond,r_out,e45a,e45b,e46a,e46b,e46c,r_litsg,List.all_cons,List.all_nil,yl_b,Bool.and_self,r_eqlS,r_litS]
theorem pq {f:Nat} {xs:List D} {o:Out} (h:FN 14 f xs=o) (hf:f≠76):FnP f xs=o:=(pE hf).trans h
theorem g18:G18 (real FnP (FnDof Tryd.prog (cf3 tb Tryd.prog) FnP) M0)=some (0,[.d (bl true)]) :=
 g18a (pq e9_0 (by decide)) (pq e9_1 (by decide)) (pq e9_3 (by decide)) (pq e41 (by decide)) (pq e19 (by decide)) (pq e43_0 (by decide)) (pq e49_1 (by decide)) (pq e43_1 (by decide)) (pq e27_0 (by decide)) (pq e25 (by decide)) (pq e29 (by decide)) (pq e49_2 (by decide)) (pq e43_2 (by decide)) (pq e27_1 (by decide)) (pq e33 (by decide)) (pq e21 (by decide)) (pq e47 (by decide)) (pq e45a (by decide)) (pq e45b (by decide)) (pq e46a (by decide)) (pq e46b (by decide)) (pq e46c (by decide)) pP
theorem sane_sc:SC Tryd.prog 18 [] (.one (.d (bl true))) :=
 fun3_sc (T:=tb) (P:=Tryd.prog) mixP FnP_ok FnP_okM spOK (fuel:=400) (m0:=M0) (xs:=[]) (j:=0) (ys:=[.d (bl true)]) (rs:=[(false,[.d])]) (by rw [prR,G18_eq];exact g18) (by decide) (sh:=[]) rfl rfl rfl
end Go.VE
namespace Go.VE
open Go.RowKit Go.Proofs
set_option maxRecDepth 100000
theorem o3 {n:Nat} {ds:List D} (h:HasT Tryd.prog (n+1) 3 ds):∃ z,ds=[il z]∧-9223372036854775808≤z∧z≤9223372036854775807:=h.int Tryd.underlying3
theorem o30 {n:Nat} {ds:List D} (h:HasT Tryd.prog (n+2) 30 ds):∃ b:Brd,ds=rB b:=by
 obtain ⟨_,_,rfl,h1,_,_,rfl,h2,rfl⟩:=h.struct Tryd.underlying30 rfl
 obtain ⟨x,rfl,_⟩:=o3 h1
 obtain ⟨y,rfl,_⟩:=o3 h2
 exact ⟨(x,y),rfl⟩
theorem o87 {n:Nat} {ds:List D} (h:HasT Tryd.prog (n+2) 87 ds):∃ b:Stk,ds=rS b:=by
 obtain ⟨_,_,rfl,h1,_,_,rfl,h2,_,_,rfl,h3,_,_,rfl,h4,rfl⟩:=h.struct Tryd.underlying87 rfl
 obtain ⟨x,rfl,_⟩:=o3 h1
 obtain ⟨y,rfl,_⟩:=o3 h2
 obtain ⟨z,rfl,_⟩:=o3 h3
 obtain ⟨u,rfl,_⟩:=o3 h4
 exact ⟨(x,y,z,u),rfl⟩
theorem opt_rows {α:Type} {f:α→List D}:∀ {o:Option Rr},(∀ r∈o.getD [],∃ c,r=f c)→∃ q:Option (List α),o=q.map (·.map f)
 | none,_=>⟨none,rfl⟩
 | some rows,h=>by
  obtain ⟨l,hl⟩:=rows_map (f:=f) (rows:=rows) h
  exact ⟨some l,by rw [hl];rfl⟩
theorem oL {α:Type} {f:α→List D} {n t e c b:Nat} {ds:List D} (hu:Tryd.prog.underlying t=some (.slice e)) (hc:Tryd.prog.cellsOf e=c) (hb:Tryd.prog.bytesOf e=b) (he:∀ r,HasT Tryd.prog n e r→∃ x,r=f x) (h:HasT Tryd.prog (n+1) t ds):∃ o,ds=[dL c f o]∧(o.getD []).length*b≤140737488351232:=by
 obtain ⟨o,rfl,h1,h2⟩:=h.sl hu hc hb
 obtain ⟨q,rfl⟩:=opt_rows (f:=f) fun r hr=>he r (h2 r hr)
 refine ⟨q,rfl,?_⟩
 cases q with
 | none=>simp
 | some l=>simpa using h1
theorem o22 {n:Nat} {ds:List D} (h:HasT Tryd.prog (n+3) 22 ds):∃ o,ds=[dB o]∧(o.getD []).length*16≤140737488351232:=oL Tryd.underlying22 (by kernel_rfl) (by kernel_rfl) (fun _ h=>o30 h) h
theorem o23 {n:Nat} {ds:List D} (h:HasT Tryd.prog (n+3) 23 ds):∃ o,ds=[dS o]∧(o.getD []).length*32≤140737488351232:=oL Tryd.underlying23 (by kernel_rfl) (by kernel_rfl) (fun _ h=>o87 h) h
theorem o25 {n:Nat} {ds:List D} (h:HasT Tryd.prog (n+4) 25 ds):∃ me b s h,ds=[il me,dB b,dS s,il h]∧(b.getD []).length*16≤140737488351232∧(s.getD []).length*32≤140737488351232:=by
 obtain ⟨_,_,rfl,h1,_,_,rfl,h2,_,_,rfl,h3,_,_,rfl,h4,rfl⟩:=h.struct Tryd.underlying25 rfl
 obtain ⟨x,rfl,_⟩:=o3 h1
 obtain ⟨y,rfl,hy⟩:=o22 h2
 obtain ⟨z,rfl,hz⟩:=o23 h3
 obtain ⟨u,rfl,_⟩:=o3 h4
 exact ⟨x,y,z,u,rfl,hy,hz⟩
noncomputable def FnS (n:Nat) (f:Nat) (xs:List D):Out:=if f=18∧xs=[] then some (0,[.d (bl true)]) else FN n f xs
theorem FnS_ok (n:Nat):FnOK Tryd.prog (cf3 tb Tryd.prog) (FnS n):=by
 intro f sh xs vs j ys rs h1 h2 h3 h4
 unfold FnS at h3
 split at h3
 ·rename_i hc
  obtain ⟨rfl,rfl⟩:=hc
  simp only [Option.some.injEq,Prod.mk.injEq] at h3
  obtain ⟨rfl,rfl⟩:=h3
  have e1:(cf3 tb Tryd.prog).ash 18=some []:=rfl
  rw [e1] at h1
  cases h1
  cases h2
  have e2:((cf3 tb Tryd.prog).rsk 18)[0]?=some [(false,[.d])]:=rfl
  rw [e2] at h4
  cases h4
  exact sane_sc
 ·exact FnT_ok mixP spOK n f sh xs vs j ys rs h1 h2 h3 h4
theorem FnS_18 (n:Nat):FnS n 18 []=some (0,[.d (bl true)]):=by simp [FnS]
theorem FnS_ne {n f:Nat} {xs:List D} {o:Out} (h:FN n f xs=o) (hf:f≠18):FnS n f xs=o:=by rw [←h];simp [FnS,hf]
theorem FnS_okM (n:Nat):FmOK Tryd.prog (cf3 tb Tryd.prog) (FnS n):=fun f ms xs zs h1 h2=>by
 rw [FnS_ne rfl (by omega)] at h2
 exact FnT_okM mixP spOK n f ms xs zs h1 h2
end Go.VE
namespace Go.VE
open Go.RowKit Go.Proofs
set_option maxRecDepth 100000
def newZ (me:Int) (l:List Brd):Int:=if par me=true then (if bords me l=true then 0 else 90) else 1
def rW (z me:Int) (o:Option (List Brd)):Out:=if z=0 then some (0,[.d (il me),.d (dB o),.d (dS none),.d (il 0),.d (il z)]) else some (0,[.d (il 0),.d (dB none),.d (dS none),.d (il 0),.d (il z)])
theorem t9 (n:Nat) (me:Int) (o:Option (List Brd)) (hl:(o.getD []).length≤4611686018427387904):FN (n+5) 9 [il me,dB o]=rW (newZ me (o.getD [])) me o:=by
 rw [s9 _ _ _ hl];unfold rW newZ
 by_cases h1:par me=true
 ·by_cases h2:bords me (o.getD [])=true
  ·simp only [h1,h2,if_true];rfl
  ·simp only [h1,h2,if_true];rfl
 ·simp only [h1];rfl
abbrev BB:Nat:=4611686018427387904
end Go.VE
namespace Go.VE
open Go.RowKit Go.Proofs
set_option maxRecDepth 100000
end Go.VE
namespace Go.VE
open Go.RowKit Go.Proofs
set_option maxRecDepth 100000
def sameWt (x y:Out):Prop:=∃ m b1 b2 s1 s2 h e,x=some (0,[.d (il m),.d (dB b1),.d (dS s1),.d (il h),.d (il e)])∧y=some (0,[.d (il m),.d (dB b2),.d (dS s2),.d (il h),.d (il e)])∧b1.getD []=b2.getD []∧s1.getD []=s2.getD []∧(b1.getD []).length≤BB∧(s1.getD []).length≤BB
theorem sameWt_if {c:Bool} {m h:Int} {b1 b2:Option (List Brd)} {s1 s2:Option (List Stk)} (h1:b1.getD []=b2.getD []) (h2:s1.getD []=s2.getD []) (hb:(b1.getD []).length≤BB) (hs:c=true→(s1.getD []).length≤BB) :
  sameWt (if c=true then some (0,[.d (il m),.d (dB b1),.d (dS s1),.d (il h),.d (il 0)]) else noW 92) (if c=true then some (0,[.d (il m),.d (dB b2),.d (dS s2),.d (il h),.d (il 0)]) else noW 92):=by
 cases c with
 | true=>exact ⟨m,b1,b2,s1,s2,h,0,rfl,rfl,h1,h2,hb,hs rfl⟩
 | false=>exact ⟨0,none,none,none,none,0,92,rfl,rfl,rfl,rfl,by simp,by simp⟩
theorem sameI (n:Nat) (o:Option (List Int)) (hl:(o.getD []).length≤4611686018427387904):FN (n+1) 45 [dL 1 rI o,dL 1 rI o]=some (0,[.d (bl true)]):=by
 rw [F45]
 simp only [G45,lenL,r_neq,ne_eq,not_true,decide_false,r_cond,Bool.false_eq_true,if_false,r_litb,r_out,r_loop,r_liti]
 have:=range_loop (β:=Unit) (o.getD []) hl (L45_0 (RP n)) (fun i _=>[.d (dL 1 rI o),.d (dL 1 rI o),.d (il i)]) (fun _ _=>True)
  (fun _ _ _=>some (1,[])) (fun _ k _=>by simp [L45_0,lenL]) ?_ M0 () trivial (M0_big hl)
 ·simp only [Int.natCast_zero] at this
  rw [this];rfl
 ·intro i e r _ k hi hd hlt hw _ ih
  have ih':=ih () trivial
  rw [cast1] at ih'
  have hlt':(i:Int) < ((o.getD []).length:Int):=by omega
  have hc:(RP n).cell (rI e) 0=il e:=rfl
  simp only [L45_0,lenL,r_ld0,r_lds,r_lss,r_cond,hlt',decide_true,if_true,rowL hi (show (rI e).length=1 from rfl),hc,r_neq,ne_eq,not_true,decide_false,Bool.false_eq_true,if_false,r_liti,r_add,hw]
  exact ih'
theorem whoR_sh {l:List W4} {fld:Int} (hl:l.length≤4611686018427387904):∃ q e,whoR l fld=some (0,[.d (dL 1 rI q),.d (il e)])∧(q.getD []).length≤4611686018427387904:=by
 unfold whoR
 split
 ·split
  ·exact ⟨none,98,rfl,by simp⟩
  ·split
   ·refine ⟨_,0,rfl,?_⟩
    rw [opN_get]
    simp only [whoL,List.length_map]
    exact Nat.le_trans (List.length_filter_le _ _) hl
   ·exact ⟨none,94,rfl,by simp⟩
 ·exact ⟨none,98,rfl,by simp⟩
theorem bookLoop {Fn:Nat→List D→Out} {FnD:D→List Sh→List D→Out} {left:Int} {o:Option (List W4)}
  (h11:∀ a b h k o q s t,(o.getD []).length≤BB→(s.getD []).length≤BB→Fn 11 [il a,dB o,dS s,il h,il b,dB q,dS t,il k]=some (0,[.d (bl (decide (a=b∧h=k∧o.getD []=q.getD []∧s.getD []=t.getD [])))]))
  (h1:∀ w∈o.getD [],sameWt (Fn 49 [il w.1,dB w.2.1,dS w.2.2.1,il w.2.2.2]) (Fn 50 [il w.1,dB w.2.1,dS w.2.2.1,il w.2.2.2]))
  (h2:∀ w∈o.getD [],sameWt (Fn 51 [il w.1,dB w.2.1,dS w.2.2.1,il w.2.2.2,il left]) (Fn 52 [il w.1,dB w.2.1,dS w.2.2.1,il w.2.2.2,il left]))
  (h3:∀ w∈o.getD [],sameWt (Fn 53 [il w.1,dB w.2.1,dS w.2.2.1,il w.2.2.2]) (Fn 54 [il w.1,dB w.2.1,dS w.2.2.1,il w.2.2.2])) :
  loopR [L6_0 (real Fn FnD M0)] M0 0 [.d (dW o),.d (il left),.d (il 0)]=some (1,[]):=by
 have hlen:((o.getD []).take 3).length=3∨((o.getD []).take 3).length=(o.getD []).length:=by rw [List.length_take];omega
 have h33:((o.getD []).take 3).length≤3:=by rw [List.length_take];omega
 have hle:((o.getD []).take 3).length≤(o.getD []).length:=by rw [List.length_take];omega
 have:=range_loop (β:=Unit) ((o.getD []).take 3) (by omega) (L6_0 (real Fn FnD M0)) (fun i _=>[.d (dW o),.d (il left),.d (il i)]) (fun _ _=>True) (fun _ _ _=>some (1,[])) ?_ ?_ M0 () trivial (M0_big (by omega))
 ·exact this
 ·intro _ k _
  simp only [L6_0,lenW,r_ld0,r_lds,r_liti,r_lss,r_cond,r_out]
  rcases hlen with h | h
  ·rw [h];simp
  ·rw [h];simp
 ·intro i w r _ k hi hd hlt hw _ ih
  have ih':=ih () trivial
  rw [cast1] at ih'
  have hi':(o.getD [])[i]?=some w:=by
   rw [List.getElem?_take] at hi
   split at hi
   ·exact hi
   ·cases hi
  have hm:=List.mem_of_getElem? hi'
  have hlt':(i:Int) < ((o.getD []).length:Int):=by omega
  have hlt3:(i:Int) < 3:=by omega
  obtain ⟨m1,b1,c1,s1,t1,k1,e1,p1,r1,q1,u1,l1,n1⟩:=h1 w hm
  have z1:=h11 m1 m1 k1 k1 b1 c1 s1 t1 l1 n1
  simp only [q1,u1,and_self,decide_true] at z1
  obtain ⟨m2,b2,c2,s2,t2,k2,e2,p2,r2,q2,u2,l2,n2⟩:=h2 w hm
  have z2:=h11 m2 m2 k2 k2 b2 c2 s2 t2 l2 n2
  simp only [q2,u2,and_self,decide_true] at z2
  obtain ⟨m3,b3,c3,s3,t3,k3,e3,p3,r3,q3,u3,l3,n3⟩:=h3 w hm
  have z3:=h11 m3 m3 k3 k3 b3 c3 s3 t3 l3 n3
  simp only [q3,u3,and_self,decide_true] at z3
  simp only [L6_0,lenW,r_ld0,r_lds,r_liti,r_lss,hlt',hlt3,decide_true,r_cond,if_true,rowW hi',cW0,cW1,cW2,cW3,r_call,p1,r1,z1,p2,r2,z2,p3,r3,z3,r_bnd0,r_not,Bool.not_true,Bool.false_eq_true,if_false,r_neq,ne_eq,not_true,decide_false,r_add,hw]
  exact ih'
theorem lawBooks {Fn:Nat→List D→Out} {FnD:D→List Sh→List D→Out} (h18:Fn 18 []=some (0,[.d (bl true)]))
  {left fld:Int} {o:Option (List W4)} {X:Out} (hX:∃ q e,X=some (0,[.d (dL 1 rI q),.d (il e)])∧Fn 45 [dL 1 rI q,dL 1 rI q]=some (0,[.d (bl true)])) (h47:Fn 47 [dW o,il fld]=X) (h48:Fn 48 [dW o,il fld]=X)
  (hloop:loopR [L6_0 (real Fn FnD M0)] M0 0 [.d (dW o),.d (il left),.d (il 0)]=some (1,[])) :
  G6 (real Fn FnD M0) (dW o) (il left) (il fld)=some (0,[.d (bl true)]):=by
 obtain ⟨q,e,rfl,h45⟩:=hX
 simp only [G6,r_call,h47,h48,r_bnd0,r_ld0,r_lds,h45,r_not,Bool.not_true,r_cond,Bool.false_eq_true,if_false,r_neq,ne_eq,not_true,decide_false,r_loop,r_liti,hloop,r_bnd1,h18,r_out]
theorem o25w {n:Nat} {ds:List D} (h:HasT Tryd.prog (n+4) 25 ds):∃ w:{ w:W4 // (w.2.1.getD []).length*16≤140737488351232∧(w.2.2.1.getD []).length*32≤140737488351232 },ds=rWt w.1:=by
 obtain ⟨me,b,s,x,rfl,hb,hs⟩:=o25 h
 exact ⟨⟨(me,b,s,x),hb,hs⟩,rfl⟩
theorem o57 {n:Nat} {ds:List D} (h:HasT Tryd.prog (n+5) 57 ds):∃ o:Option (List W4),ds=[dW o]∧(o.getD []).length*64≤140737488351232∧∀ w∈o.getD [],(w.2.1.getD []).length*16≤140737488351232∧(w.2.2.1.getD []).length*32≤140737488351232:=by
 obtain ⟨o,rfl,hl⟩:=oL (f:=fun w:{ w:W4 // (w.2.1.getD []).length*16≤140737488351232∧(w.2.2.1.getD []).length*32≤140737488351232 }=>rWt w.1) (c:=4) (b:=64) Tryd.underlying57 (by kernel_rfl) (by kernel_rfl) (fun _ h=>o25w h) h
 cases o with
 | none=>exact ⟨none,rfl,by simp,by simp⟩
 | some l =>
  refine ⟨some (l.map Subtype.val),?_,by simpa using hl,fun w hw=>?_⟩
  ·simp [dW,dL,Function.comp_def]
  ·simp only [Option.getD_some,List.mem_map] at hw
   obtain ⟨x,_,rfl⟩:=hw
   exact x.2
theorem bellBooks_sc (vds:List VD) (h:VTs Tryd.prog 8 [57,3,3] vds):SC Tryd.prog 6 vds (.one (.d (bl true))):=by
 obtain ⟨_,_,rfl,h1,h⟩:=VTs_cons h
 obtain ⟨_,_,rfl,h2,h⟩:=VTs_cons h
 obtain ⟨_,_,rfl,h3,h⟩:=VTs_cons h
 cases VTs_nil h
 obtain ⟨_,rfl,k1⟩:=h1.sl_ Tryd.underlying57
 obtain ⟨_,rfl,k2⟩:=h2.int_ Tryd.underlying3
 obtain ⟨_,rfl,k3⟩:=h3.int_ Tryd.underlying3
 obtain ⟨left,e2,_⟩:=o3 k2
 cases e2
 obtain ⟨fld,e3,_⟩:=o3 k3
 cases e3
 obtain ⟨o,e1,hl,hw⟩:=o57 k1
 cases e1
 refine lawSC (T:=tb) (fuel:=400) (m0:=M0) (xs:=[dW o,il left,il fld]) mixP (FnS_ok 20) (FnS_okM 20) spOK (by decide) (sh:=[.one,.one,.one]) rfl rfl rfl ?_
 rw [G6_eq]
 have hs:∀ w∈o.getD [],smallW w:=fun w h=>by have:=hw w h;exact ⟨by omega,by omega⟩
 obtain ⟨q,e,hq,hql⟩:=whoR_sh (l:=o.getD []) (fld:=fld) (by omega)
 refine lawBooks (FnS_18 20) (X:=whoR (o.getD []) fld) ⟨q,e,hq,FnS_ne (sameI 19 q hql) (by decide)⟩ (FnS_ne (s47 15 o (by omega) hs fld) (by decide)) (FnS_ne (s48 11 o (by omega) hs fld) (by decide)) (bookLoop (fun a b h k o q s t h1 h2=>FnS_ne (s11 18 a b h k o q s t h1 h2) (by decide)) ?_ ?_ ?_)
 ·intro w hm
  obtain ⟨q1,q2⟩:=hs w hm
  rw [FnS_ne (s49 14 _ _ _ _ q2 q1) (by decide),FnS_ne (s50 12 _ _ _ _ q2 q1) (by decide)]
  exact sameWt_if rfl rfl q1 fun _=>q2
 ·intro w hm
  obtain ⟨q1,q2⟩:=hs w hm
  rw [FnS_ne (s51 14 _ _ left _ _ q2 q1) (by decide),FnS_ne (s52 12 _ _ left _ _ q2 q1) (by decide)]
  refine sameWt_if rfl (by rw [opN_get];rfl) q1 fun _=>?_
  simp only [Option.getD_some,List.length_take]
  have:=q2
  simp only [BB] at this ⊢
  omega
 ·intro w hm
  obtain ⟨q1,q2⟩:=hs w hm
  rw [FnS_ne (s53 14 _ _ _ _ q2 q1) (by decide),FnS_ne (s54 12 _ _ _ _ q2 q1) (by decide)]
  refine sameWt_if rfl rfl q1 fun h=>?_
  rw [opN_get]
  have h4:=okP_b4 h
  have:=recX_len (me:=w.1) (ss:=w.2.2.1.getD []) (w.2.1.getD [])
  simp only [BB]
  omega
end Go.VE
namespace Go.Proofs.YtaagapoglhndjaaDoor
open Go.VE Go.RowKit Go.ChangeShapes Go.WideShapes
set_option maxRecDepth 100000
theorem own:ownKnob Tryd.prog.godebug=none:=by kernel_rfl
theorem laidOut:laidOutB Tryd.prog=true:=by kernel_rfl
abbrev laid3:List (String×DataW Unit):=[("math/bits.deBruijn32tab",Rows.laid_math_bits_deBruijn32tab),("math/bits.deBruijn64tab",Rows.laid_math_bits_deBruijn64tab),("internal/strconv.uint64pow10",Rows.laid_internal_strconv_uint64pow10)]
theorem door_met (os:Os) (args:Array Value):laidMetH Tryd.prog laid3 ((World.doorLaid Tryd.prog 400 os).forCall (fun _ _=>0) ⟨#[],args,[]⟩).memory :=
 laidMetH_of_parts3 (fuel:=8) (laidMet_of_run' 8 (by kernel_rfl) (by kernel_rfl)) (by kernel_rfl) (by kernel_rfl)
theorem bellBooks_lifted (hsc:∀ vds,VTs Tryd.prog 8 Tryd.f6.params.toList vds→SC Tryd.prog 6 vds (.one (.d (bl true)))) (os:Os) (started:os.Started) (H:Type) (enc:TypeId×Value→H) :
  ReturnsInHanded {} Tryd.checked os 6 .any (fun w args=>(Rows.bellBooksSpec.pre enc Tryd.prog Tryd.f6 [] false w args∧laidMetH Tryd.prog laid3 w)∧sizedMet enc Tryd.prog Tryd.f6 (OpenSpec.ofChange Rows.bellBooksSpec) false w args) (Rows.bellBooksSpec.post enc Tryd.prog Tryd.f6 false true false false) :=
 lawInX (C:=Tryd.checked) (n:=8) (tb:=4) (X:=fun w _=>laidMetH Tryd.prog laid3 w) (fun _ _ _ hh h=>h.of_heap hh) own started (by kernel_rfl) Tryd.func6
  (ChangeSpec.witness_shaped (enc:=enc) (C:=Tryd.checked) (os:=os) (X:=fun w _=>laidMetH Tryd.prog laid3 w) false (World.doorLaid Tryd.prog 400 os) #[.slice none 0 0,.int .i64 0,.int .i64 0] 8 rfl (World.shaped_of_RefB (by kernel_rfl) (by kernel_rfl)) (by kernel_rfl) (by kernel_rfl) (by kernel_rfl) (door_met os _))
  laidOut (by kernel_rfl) (by kernel_rfl) Tryd.underlying4 rfl
  (fun ds hd=>by
   rw [show Tryd.f6.params.toList=[57,3,3] by kernel_rfl] at hd
   match ds,hd with
   | [a,b,c],_=>rfl)
  hsc
theorem bellBooks_row (hsc:∀ vds,VTs Tryd.prog 8 Tryd.f6.params.toList vds→SC Tryd.prog 6 vds (.one (.d (bl true)))):Rows.BellBooksSaid :=
 OpenClaim.holds_of_wide 6 Tryd.f6 rfl rfl rfl rfl rfl rfl rfl ⟨rfl,rfl,rfl,rfl,rfl⟩ rfl rfl rfl rfl rfl (by kernel_rfl) Tryd.func6 (by kernel_rfl)
  (of_decide_eq_true (by kernel_rfl)) (by unfold Func.isWrapper;first | (rw [if_pos (by decide +kernel)];kernel_rfl) | (rw [if_neg (by decide +kernel)];exact ⟨rfl,rfl⟩))
  (fun os started H enc _=>bellBooks_lifted hsc os started H enc)
theorem bellBooks_card (hsc:∀ vds,VTs Tryd.prog 8 Tryd.f6.params.toList vds→SC Tryd.prog 6 vds (.one (.d (bl true)))):Rows.BellBooksCardSaid :=
 Claim7.holds_tied_plain_at .later [] [.data,.data,.data] true (true, "c63727e6b2ca268bab9231e264516db7b1e83e0cab08a551e4a85ab0b113b8db") false
  (bellBooks_row hsc) (fun _ h=>by cases h) (by kernel_rfl) (fun _ h=>by cases h) bellBooks_row_tie rfl ⟨rfl,rfl⟩ (by kernel_rfl) rfl
  (fun f fn hf hfn=>by
   obtain rfl:f=6:=Option.some.inj ((show Tryd.prog.funcNamed "leazing/leazinglaw09.BellBooks" = some 6 by kernel_rfl).symm.trans hf) |>.symm
   obtain rfl:fn=Tryd.f6:=(Option.some.inj (Tryd.func6.symm.trans hfn)).symm
   exact ⟨by kernel_rfl,fun j t ht=>by
    rw [Tryd.params6] at ht
    have hm:t∈[57,3,3]:=by simpa using Array.mem_of_getElem? ht
    have hall:([57,3,3].all fun u=>!Tryd.prog.wantsStandIn u)=true:=by kernel_rfl
    exact (show Tryd.prog.wantsStandIn t=false by simpa using List.all_eq_true.1 hall t hm)⟩)
  (by kernel_rfl)
theorem bellBooks_holds:Rows.BellBooksCardSaid:=bellBooks_card fun vds h=>bellBooks_sc vds (by
 have e:Tryd.f6.params.toList=[57,3,3]:=by kernel_rfl
 rw [e] at h;exact h)
#print axioms bellBooks_holds
end Go.Proofs.YtaagapoglhndjaaDoor
