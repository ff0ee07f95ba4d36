/- Bell: rows of words and numbers; the kit's contracts of strings.Builder, laid at this program. -/
import Derived.Test.YtaagapoglhndjaaDoorChecked
import Derived.Test.YtaagapoglhndjaaDoorMh
import Derived.KernelRfl
import Derived.WalkKit
import Derived.LoopN
import Derived.Shelf.Strings.BuilderF
import Derived.Test.YtaagapoglhndjaaDoorMg1
import Derived.Test.YtaagapoglhndjaaDoorMg0
namespace Go.VE
open Go.RowKit Go.Proofs Go.Shelf
set_option maxRecDepth 100000
set_option maxHeartbeats 4000000
theorem itoa1 (w:World):Calls Tryd.prog 117 #[.int .i64 1] w fun e w'=>e=.returned (.string ⟨#[49]⟩)∧w'=w:=by
 go_enter Tryd.func117,Tryd.ntmps117
 go_wp2
 go_ret
 exact ⟨rfl,rfl⟩
theorem itoa0 (w:World):Calls Tryd.prog 117 #[.int .i64 0] w fun e w'=>e=.returned (.string ⟨#[48]⟩)∧w'=w:=by
 go_enter Tryd.func117,Tryd.ntmps117
 go_wp2
 go_ret
 exact ⟨rfl,rfl⟩
theorem itoa7 (w:World):Calls Tryd.prog 117 #[.int .i64 7] w fun e w'=>e=.returned (.string ⟨#[55]⟩)∧w'=w:=by
 go_enter Tryd.func117,Tryd.ntmps117
 go_wp2
 go_ret
 exact ⟨rfl,rfl⟩
theorem row2 (w:World) (b:Nat) (h0:w.cell? ⟨b,0,none⟩=some (.int .i64 7)) (h1:w.cell? ⟨b,1,none⟩=some (.int .i64 1)) :
  Calls Tryd.prog 109 #[.string ⟨#[119,97,110,116,115]⟩,.slice (some ⟨b,0,none⟩) 2 2] w fun e w'=>e=.returned (.string ⟨#[119,97,110,116,115,32,55,32,49,10]⟩)∧w'=w:=by
 go_enter Tryd.func109,Tryd.ntmps109
 go_wp2
 refine wp_loop_rounds 3 ?_
 rw [rounds_succ]
 go_wp2_with (go_at_call 117;refine (itoa7 _).mono ?_;rintro e w' ⟨rfl,rfl⟩)
 rw [rounds_succ]
 go_wp2_with (go_at_call 117;refine (itoa1 _).mono ?_;rintro e w' ⟨rfl,rfl⟩)
 rw [rounds_succ]
 go_wp2
 go_ret
 exact ⟨rfl,rfl⟩
theorem row3 (w:World) (b:Nat) (h0:w.cell? ⟨b,0,none⟩=some (.int .i64 7)) (h1:w.cell? ⟨b,1,none⟩=some (.int .i64 0)) (h2:w.cell? ⟨b,2,none⟩=some (.int .i64 1)) :
  Calls Tryd.prog 109 #[.string ⟨#[116,97,108,108,121]⟩,.slice (some ⟨b,0,none⟩) 3 3] w fun e w'=>e=.returned (.string ⟨#[116,97,108,108,121,32,55,32,48,32,49,10]⟩)∧w'=w:=by
 go_enter Tryd.func109,Tryd.ntmps109
 go_wp2
 refine wp_loop_rounds 4 ?_
 rw [rounds_succ]
 go_wp2_with (go_at_call 117;refine (itoa7 _).mono ?_;rintro e w' ⟨rfl,rfl⟩)
 rw [rounds_succ]
 go_wp2_with (go_at_call 117;refine (itoa0 _).mono ?_;rintro e w' ⟨rfl,rfl⟩)
 rw [rounds_succ]
 go_wp2_with (go_at_call 117;refine (itoa1 _).mono ?_;rintro e w' ⟨rfl,rfl⟩)
 rw [rounds_succ]
 go_wp2
 go_ret
 exact ⟨rfl,rfl⟩
def rhoB:Ren:=⟨fun x=>if x=166 then 108 else if x=240 then 116 else if x=276 then 122 else if x=169 then 110 else 0,fun x=>if x=72 then 141 else if x=70 then 138 else if x=37 then 139 else if x=164 then 155 else if x=75 then 143 else if x=127 then 154 else if x=80 then 147 else x,fun x=>x⟩
theorem lays166:Lays.n166 Tryd.prog rhoB where
 mixed:=by kernel_rfl
 f166:=by kernel_rfl
 f240:=by kernel_rfl
 f276:=by kernel_rfl
 t0:=by kernel_rfl
 a0:=fun w=>by kernel_rfl
 z0:=fun w=>by kernel_rfl
 v0:=fun w=>by kernel_rfl
 t3:=by kernel_rfl
 a3:=fun w=>by kernel_rfl
 z3:=fun w=>by kernel_rfl
 v3:=fun w=>by kernel_rfl
 t4:=by kernel_rfl
 a4:=fun w=>by kernel_rfl
 z4:=fun w=>by kernel_rfl
 v4:=fun w=>by kernel_rfl
 t9:=by kernel_rfl
 a9:=fun w=>by kernel_rfl
 z9:=fun w=>by kernel_rfl
 v9:=fun w=>by kernel_rfl
 t20:=by kernel_rfl
 a20:=fun w=>by kernel_rfl
 z20:=fun w=>by kernel_rfl
 v20:=fun w=>by kernel_rfl
 t37:=by kernel_rfl
 a37:=fun w=>by kernel_rfl
 z37:=fun w=>by kernel_rfl
 v37:=fun w=>by kernel_rfl
 t70:=by kernel_rfl
 a70:=fun w=>by kernel_rfl
 z70:=fun w=>by kernel_rfl
 v70:=fun w=>by kernel_rfl
 t72:=by kernel_rfl
 a72:=fun w=>by kernel_rfl
 z72:=fun w=>by kernel_rfl
 v72:=fun w=>by kernel_rfl
 t75:=by kernel_rfl
 a75:=fun w=>by kernel_rfl
 z75:=fun w=>by kernel_rfl
 v75:=fun w=>by kernel_rfl
 t164:=by kernel_rfl
 a164:=fun w=>by kernel_rfl
 z164:=fun w=>by kernel_rfl
 v164:=fun w=>by kernel_rfl
theorem lays169:Lays.n169 Tryd.prog rhoB where
 mixed:=by kernel_rfl
 f169:=by kernel_rfl
 t0:=by kernel_rfl
 a0:=fun w=>by kernel_rfl
 z0:=fun w=>by kernel_rfl
 v0:=fun w=>by kernel_rfl
 t3:=by kernel_rfl
 a3:=fun w=>by kernel_rfl
 z3:=fun w=>by kernel_rfl
 v3:=fun w=>by kernel_rfl
 t9:=by kernel_rfl
 a9:=fun w=>by kernel_rfl
 z9:=fun w=>by kernel_rfl
 v9:=fun w=>by kernel_rfl
 t37:=by kernel_rfl
 a37:=fun w=>by kernel_rfl
 z37:=fun w=>by kernel_rfl
 v37:=fun w=>by kernel_rfl
 t70:=by kernel_rfl
 a70:=fun w=>by kernel_rfl
 z70:=fun w=>by kernel_rfl
 v70:=fun w=>by kernel_rfl
 t72:=by kernel_rfl
 a72:=fun w=>by kernel_rfl
 z72:=fun w=>by kernel_rfl
 v72:=fun w=>by kernel_rfl
 t127:=by kernel_rfl
 a127:=fun w=>by kernel_rfl
 z127:=fun w=>by kernel_rfl
 v127:=fun w=>by kernel_rfl
theorem extraB:Builder.Extra Tryd.prog rhoB where
 sizeBuilder:=by kernel_rfl
 liesBuilder:=by kernel_rfl
 t5:=by kernel_rfl
 a5:=fun w=>by kernel_rfl
 z5:=fun w=>by kernel_rfl
 v5:=fun w=>by kernel_rfl
 infoByte:=by kernel_rfl
 cellsByte:=by kernel_rfl
 sizeByte:=by kernel_rfl
 neB5:=by decide
theorem wS (B b:Nat) (bs:List Value) (s:ByteArray) (w:World) (h:Lib.IsBuilderF 141 5 B b bs w) (hlen:bs.length+s.size≤140737488355328) (hBw:B≤w.heap.size) :
  Calls Tryd.prog 108 #[.pointer (some ⟨b,0,none⟩),.string s] w fun e w'=>e=.returned (.tuple #[.int .i64 s.size,.nilIface])∧(Lib.BuilderAtF 141 5 B b (.pointer (some ⟨b,0,none⟩)) (bs++Lib.strCells s) w'∧Below B w w'):=Any.Builder_WriteString_f lays166 extraB B b bs s w h hlen hBw
theorem wStr (B b:Nat) (l:List UInt8) (w:World) (h:Lib.IsBuilderF 141 5 B b (Lib.byteCells l) w) (hBw:B≤w.heap.size) :
  Calls Tryd.prog 110 #[.pointer (some ⟨b,0,none⟩)] w fun e w'=>e=.returned (.string ⟨l.toArray⟩)∧(Lib.IsBuilderF 141 5 B b (Lib.byteCells l) w'∧Below B w w'):=Any.Builder_String_any_f lays169 extraB B b l w h hBw
end Go.VE
namespace Go.VE
open Go.RowKit Go.Proofs Go.Shelf
set_option maxRecDepth 100000
set_option maxHeartbeats 4000000
theorem print2 (w:World) (a:Nat) (o c:Nat) (_:2≤c) (h0:w.cell? ⟨a,o,none⟩=some (.int .i64 2)) (h1:w.cell? ⟨a,o+1,none⟩=some (.int .i64 7)) (h2:w.cell? ⟨a,o+2,none⟩=some (.int .i64 0)) (h3:w.cell? ⟨a,o+3,none⟩=some (.int .i64 1))
  (h4:w.cell? ⟨a,o+4,none⟩=some (.int .i64 1)) (h5:w.cell? ⟨a,o+5,none⟩=some (.int .i64 7)) (h6:w.cell? ⟨a,o+6,none⟩=some (.int .i64 0)) (h7:w.cell? ⟨a,o+7,none⟩=some (.int .i64 1))
  (hf:Calls Tryd.prog 105 #[.slice (some ⟨a,o,none⟩) 2 c,(.func (.func 106) #[] #[])] w fun e w'=>e=.returned (.bool false)∧Below w.heap.size w w') :
  Calls Tryd.prog 76 #[.slice (some ⟨a,o,none⟩) 2 c] w fun e w'=>e=.returned (.tuple #[.string ⟨#[119,97,110,116,115,32,55,32,49,10,116,97,108,108,121,32,55,32,48,32,49,10]⟩,.int .i64 0])∧Below w.heap.size w w':=by
 have ha:a < w.heap.size:=by
  unfold World.cell? at h0
  simp only at h0
  rcases Nat.lt_or_ge a w.heap.size with h | h
  ·exact h
  ·rw [Array.getElem?_eq_none h] at h0;cases h0
 go_enter Tryd.func76,Tryd.ntmps76
 go_wp2_with (go_at_call 105;refine hf.mono ?_)
 rintro e w1 ⟨rfl,b1⟩
 have ha1:a < w1.heap.size:=Nat.lt_of_lt_of_le ha b1.size
 have g0:=(b1.cell (p:=⟨a,o,none⟩) ha).trans h0
 have g1:=(b1.cell (p:=⟨a,o+1,none⟩) ha).trans h1
 have g2:=(b1.cell (p:=⟨a,o+2,none⟩) ha).trans h2
 have g3:=(b1.cell (p:=⟨a,o+3,none⟩) ha).trans h3
 have g4:=(b1.cell (p:=⟨a,o+4,none⟩) ha).trans h4
 have g5:=(b1.cell (p:=⟨a,o+5,none⟩) ha).trans h5
 have g6:=(b1.cell (p:=⟨a,o+6,none⟩) ha).trans h6
 have g7:=(b1.cell (p:=⟨a,o+7,none⟩) ha).trans h7
 clear h0 h1 h2 h3 h4 h5 h6 h7 hf
 go_wp2
 refine wp_loop_rounds 3 ?_
 rw [rounds_succ]
 go_wp2_with (go_at_call 109;refine (row2 _ _ (by simp [go_sem]) (by simp [go_sem])).mono ?_)
 rintro e w2 ⟨rfl,rfl⟩
 have k0:Lib.IsBuilderF 141 5 w1.heap.size w1.heap.size [] (w1.alloc (.cells #[.pointer none,.slice none 0 0] 141)):=Lib.IsBuilderF.of (Lib.fresh_isBuilder 141 5 w1)
 have c0:Below w1.heap.size w1 (w1.alloc (.cells #[.pointer none,.slice none 0 0] 141)):=(Below.refl _ w1).alloc (Nat.le_refl _) _
 go_wp2_with (go_at_call 108;refine (wS w1.heap.size w1.heap.size [] _ _ ((k0.imp (·.alloc _) (·.alloc _)).imp (·.alloc _) (·.alloc _)) (by decide) (((c0.alloc c0.size _).alloc (c0.alloc c0.size _).size _).size)).mono ?_)
 rintro e w3 ⟨rfl,k3,d3⟩
 have c3:=((c0.alloc c0.size _).alloc (c0.alloc c0.size _).size _).trans d3
 clear d3 k0 c0
 have ha3:a < w3.heap.size:=Nat.lt_of_lt_of_le ha1 c3.size
 have f4:=(c3.cell (p:=⟨a,o+4,none⟩) ha1).trans g4
 have f5:=(c3.cell (p:=⟨a,o+5,none⟩) ha1).trans g5
 have f6:=(c3.cell (p:=⟨a,o+6,none⟩) ha1).trans g6
 have f7:=(c3.cell (p:=⟨a,o+7,none⟩) ha1).trans g7
 clear g0 g1 g2 g3 g4 g5 g6 g7
 go_wp2
 rw [rounds_succ]
 go_wp2_with (go_at_call 109;refine (row3 _ _ (by simp [go_sem]) (by simp [go_sem]) (by simp [go_sem])).mono ?_)
 rintro e w4 ⟨rfl,rfl⟩
 have c4:=(c3.alloc c3.size (.cells #[.int .i64 1,.int .i64 7,.int .i64 0,.int .i64 1] 87)).alloc ((c3.alloc c3.size (.cells #[.int .i64 1,.int .i64 7,.int .i64 0,.int .i64 1] 87)).size) (.cells #[.int .i64 7,.int .i64 0,.int .i64 1] 3)
 go_wp2_with (go_at_call 108;refine (wS w1.heap.size w1.heap.size _ _ _ (.inr ((k3.alloc _).alloc _)) (by decide) c4.size).mono ?_)
 rintro e w5 ⟨rfl,k5,d5⟩
 have c5:=c4.trans d5
 clear d5 c4 k3 f4 f5 f6 f7
 go_wp2
 rw [rounds_succ]
 have k6:Lib.IsBuilderF 141 5 w1.heap.size w1.heap.size (Lib.byteCells [119,97,110,116,115,32,55,32,49,10,116,97,108,108,121,32,55,32,48,32,49,10]) w5:=.inr k5
 go_wp2_with (go_at_call 110;refine (wStr w1.heap.size w1.heap.size _ _ k6 c5.size).mono ?_)
 rintro e w6 ⟨rfl,_,d6⟩
 go_wp2
 go_ret2
 refine ⟨rfl,?_⟩
 have c6:=c5.trans d6
 exact b1.trans ⟨c6.os,c6.tape,c6.output,c6.size,fun k hk=>c6.block k (Nat.lt_of_lt_of_le hk b1.size)⟩
end Go.VE
namespace Go.VE
open Go.RowKit Go.Proofs
set_option maxRecDepth 100000
set_option maxHeartbeats 0
theorem mixP:Tryd.prog.follows .mixedOrders=true:=by kernel_rfl
theorem spOK:SpOK Tryd.prog (cf3 tb Tryd.prog):=fun f p h=>by
 have:(cf3 tb Tryd.prog).sp f=none:=rfl
 rw [this] at h;cases h
def two:List (List D):=[eRow 2 7 0 1,eRow 1 7 0 1]
def twoS:D:=.lit (.string ⟨#[119,97,110,116,115,32,55,32,49,10,116,97,108,108,121,32,55,32,48,32,49,10]⟩)
theorem e105:FN 8 105 [.sl 4 two,.fn 106 []]=some (0,[.d (bl false)]):=by kernel_rfl
theorem sc105:SC Tryd.prog 105 [.one (.sl 4 two),.one (.fn 106 [])] (.one (.d (bl false))) :=
 FnT_ok (P:=Tryd.prog) (T:=tb) mixP spOK 8 105 [.one,.one] [.sl 4 two,.fn 106 []] _ 0 [.d (bl false)] [(false,[.d])] rfl rfl e105 rfl
theorem print_sc:SC Tryd.prog 76 [.one (.sl 4 two)] (.tup [.one (.d twoS),.one (.d (il 0))]):=by
 refine ⟨fun xs w=>enters_of Tryd.func76 (by kernel_rfl) rfl xs w,?_⟩
 intro w U vs hU hv
 obtain ⟨vs⟩:=vs
 simp only [VDF,VDR,DR] at hv
 obtain ⟨v,_,rfl,⟨a,c,rfl,hc,hm,hb⟩,rfl⟩:=hv
 obtain ⟨b,o,rfl,hb1,hr⟩:=hb (by decide)
 have hr':=hr
 simp only [two,eRow,RR,CR,DR,il,Nat.add_assoc,Nat.reduceAdd] at hr
 obtain ⟨_,⟨⟨_,h0,rfl,_⟩,⟨_,h1,rfl,_⟩,⟨_,h2,rfl,_⟩,⟨_,h3,rfl,_⟩,_⟩,_,⟨⟨_,h4,rfl,_⟩,⟨_,h5,rfl,_⟩,⟨_,h6,rfl,_⟩,⟨_,h7,rfl,_⟩,_⟩,_⟩:=hr
 refine (print2 w b o c hc h0 h1 h2 h3 h4 h5 h6 h7 ?_).mono ?_
 ·refine (sc105.2 w U _ hU ?_).mono ?_
  ·simp only [VDF,VDR,DR]
   exact ⟨_,_,rfl,⟨⟨b,o,none⟩,c,rfl,hc,hm,fun _=>⟨b,o,rfl,hb1,hr'⟩⟩,_,_,rfl,⟨#[],rfl,by simp [FR]⟩,rfl⟩
  ·rintro e w' ⟨v,U',bs,rfl,hbe,_,_,_,_,hrv⟩
   simp only [RvR,RcR,DR,bl] at hrv
   obtain ⟨_,rfl,_⟩:=hrv
   exact ⟨rfl,hbe⟩
 ·rintro e w' ⟨rfl,hbe⟩
  refine ⟨_,U,[],rfl,hbe,fun _ h=>h,fun x hx=>⟨Nat.lt_of_lt_of_le (hU x hx) hbe.size,.inl hx⟩,List.nodup_nil,by simp,?_⟩
  simp only [RvR,RvF,RcR,DR,twoS,il]
  exact ⟨_,rfl,_,_,[],[],rfl,rfl,⟨rfl,rfl,rfl⟩,_,_,[],[],rfl,rfl,⟨rfl,rfl,rfl⟩,rfl,rfl⟩
end Go.VE
namespace Go.VE
open Go.RowKit Go.Proofs
set_option maxRecDepth 100000
set_option maxHeartbeats 0
open Classical in
noncomputable def FnP (f:Nat) (xs:List D):Out:=if f=76∧xs=[.sl 4 two] then some (0,[.d twoS,.d (il 0)]) else FN 14 f xs
theorem pE {f:Nat} {xs:List D} (h:f≠76):FnP f xs=FN 14 f xs:=if_neg fun e=>h e.1
theorem pP:FnP 76 [.sl 4 two]=some (0,[.d twoS,.d (il 0)]):=if_pos ⟨rfl,rfl⟩
theorem FnP_ok:FnOK Tryd.prog (cf3 tb Tryd.prog) FnP:=by
 intro f sh xs vs j ys rs h1 h2 h3 h4
 unfold FnP at h3
 split at h3
 ·rename_i hc
  obtain ⟨rfl,rfl⟩:=hc
  simp only [Option.some.injEq,Prod.mk.injEq] at h3
  obtain ⟨rfl,rfl⟩:=h3
  have e1:(cf3 tb Tryd.prog).ash 76=some [.one]:=rfl
  rw [e1] at h1
  cases h1
  cases h2
  have e2:((cf3 tb Tryd.prog).rsk 76)[0]?=some [(false,[.d]),(false,[.d])]:=rfl
  rw [e2] at h4
  cases h4
  exact print_sc
 ·exact FnT_ok mixP spOK 14 f sh xs vs j ys rs h1 h2 h3 h4
theorem FnP_okM:FmOK Tryd.prog (cf3 tb Tryd.prog) FnP:=fun f ms xs zs h1 h2=>by
 rw [pE (by omega)] at h2
 exact FnT_okM mixP spOK 14 f ms xs zs h1 h2
theorem e45a:FN 14 45 [.sl 1 [[il 0],[il 1]],.sl 1 [[il 0],[il 1]]]=some (0,[.d (bl true)]):=by kernel_rfl
theorem e45b:FN 14 45 [.sl 1 [[il 1]],.sl 1 [[il 1]]]=some (0,[.d (bl true)]):=by kernel_rfl
theorem e46a:FN 14 46 [il 1,il 0,.sl 3 [[il 7,il 0,il 0]],il 1,il 0,.sl 3 [[il 7,il 0,il 0]]]=some (0,[.d (bl true)]):=by kernel_rfl
theorem e46b:FN 14 46 [il 1,il 0,.sl 3 [[il 7,il 0,il 1]],il 1,il 0,.sl 3 [[il 7,il 0,il 1]]]=some (0,[.d (bl true)]):=by kernel_rfl
theorem e46c:FN 14 46 [il 0,il 1,.sl 3 [[il 7,il 1,il 0]],il 0,il 1,.sl 3 [[il 7,il 1,il 0]]]=some (0,[.d (bl true)]):=by kernel_rfl
theorem r_eqlS {Fn:Nat→List D→Out} {FnD:D→List Sh→List D→Out} {m:Nat} (s:ByteArray) (k:D→Out):(real Fn FnD m).bin .eql false (.lit (.string s)) (.lit (.string s)) k=k (bl true):=by
 simp [real,binD,aStr,optO,bl]
theorem r_litS {Fn:Nat→List D→Out} {FnD:D→List Sh→List D→Out} {m:Nat} (s:ByteArray):(real Fn FnD m).lit (.string s)=.lit (.string s):=rfl
theorem g18a {Fn:Nat→List D→Out} {FnD:D→List Sh→List D→Out} (e9_0:Fn 9 [il 0,eBs]=ySt 0 eBs eNo 0 0)
  (e9_1:Fn 9 [il 1,eBs]=ySt 1 eBs eNo 0 0)
  (e9_3:Fn 9 [il 3,eBs]=ySt 3 eBs eNo 0 0)
  (e41:Fn 41 (eSt 3 eNo 0++[il 7])=some (0,[.d (.sl 1 [[il 0],[il 1]]),.d (il 0)]))
  (e19:Fn 19 (eSt 1 eNo 0++[il 7])=ySt 1 eBs (.sl 4 [eRow 2 7 0 1]) 0 0)
  (e43_0:Fn 43 (eSt 1 (.sl 4 [eRow 2 7 0 1]) 0++[il 0])=some (0,[.d (il 1),.d (il 0),.d (.sl 3 [[il 7,il 0,il 0]]),.d (il 0)]))
  (e49_1:Fn 49 (eSt 1 (.sl 4 [eRow 2 7 0 1]) 0)=ySt 1 eBs (.sl 4 [eRow 2 7 0 1]) 1 0)
  (e43_1:Fn 43 (eSt 1 (.sl 4 [eRow 2 7 0 1]) 1++[il 0])=some (0,[.d (il 1),.d (il 0),.d (.sl 3 [[il 7,il 0,il 1]]),.d (il 0)]))
  (e27_0:Fn 27 (eSt 0 eNo 0++[il 1,il 0,.sl 3 [[il 7,il 0,il 1]]])=ySt 0 eBs (.sl 4 [eRow 3 7 1 1]) 0 0)
  (e25:Fn 25 (eSt 0 (.sl 4 [eRow 3 7 1 1]) 0)=ySt 0 eBs (.sl 4 [eRow 3 7 1 1,eRow 1 7 1 1]) 0 0)
  (e29:Fn 29 (eSt 0 (.sl 4 [eRow 3 7 1 1,eRow 1 7 1 1]) 0++[il 7,il 1])=some (0,[.d (il 1),.d (il 0)]))
  (e49_2:Fn 49 (eSt 0 (.sl 4 [eRow 3 7 1 1,eRow 1 7 1 1]) 0)=ySt 0 eBs (.sl 4 [eRow 3 7 1 1,eRow 1 7 1 1]) 2 0)
  (e43_2:Fn 43 (eSt 0 (.sl 4 [eRow 3 7 1 1,eRow 1 7 1 1]) 2++[il 1])=some (0,[.d (il 0),.d (il 1),.d (.sl 3 [[il 7,il 1,il 0]]),.d (il 0)]))
  (e27_1:Fn 27 (eSt 1 (.sl 4 [eRow 2 7 0 1]) 1++[il 0,il 1,.sl 3 [[il 7,il 1,il 0]]])=ySt 1 eBs (.sl 4 [eRow 2 7 0 1,eRow 1 7 0 1]) 1 0)
  (e33:Fn 33 (eSt 1 (.sl 4 [eRow 2 7 0 1,eRow 1 7 0 1]) 1++[il 7,il 0])=some (0,[.d (bl true),.d (il 0)]))
  (e21:Fn 21 (eSt 1 (.sl 4 [eRow 2 7 0 1,eRow 1 7 0 1]) 1++[il 7])=ySt 1 eBs (.sl 4 [eRow 2 7 0 1,eRow 1 7 0 1,eRow 4 7 0 1,eRow 2 7 0 2]) 1 0)
  (e47:Fn 47 [.sl 4 [eSt 0 (.sl 4 [eRow 3 7 1 1,eRow 1 7 1 1]) 2,eSt 1 (.sl 4 [eRow 2 7 0 1,eRow 1 7 0 1,eRow 4 7 0 1,eRow 2 7 0 2]) 1,eSt 3 eNo 0],il 7]=some (0,[.d (.sl 1 [[il 1]]),.d (il 0)]))
  (e45a:Fn 45 [.sl 1 [[il 0],[il 1]],.sl 1 [[il 0],[il 1]]]=some (0,[.d (bl true)]))
  (e45b:Fn 45 [.sl 1 [[il 1]],.sl 1 [[il 1]]]=some (0,[.d (bl true)]))
  (e46a:Fn 46 [il 1,il 0,.sl 3 [[il 7,il 0,il 0]],il 1,il 0,.sl 3 [[il 7,il 0,il 0]]]=some (0,[.d (bl true)]))
  (e46b:Fn 46 [il 1,il 0,.sl 3 [[il 7,il 0,il 1]],il 1,il 0,.sl 3 [[il 7,il 0,il 1]]]=some (0,[.d (bl true)]))
  (e46c:Fn 46 [il 0,il 1,.sl 3 [[il 7,il 1,il 0]],il 0,il 1,.sl 3 [[il 7,il 1,il 0]]]=some (0,[.d (bl true)]))
  (pP:Fn 76 [.sl 4 two]=some (0,[.d twoS,.d (il 0)])):G18 (real Fn FnD M0)=some (0,[.d (bl true)]):=by
 simp only [ySt,eBs,eRow,eSt,eNo,two,twoS,List.cons_append,List.nil_append] at e9_0 e9_1 e9_3 e41 e19 e43_0 e49_1 e43_1 e27_0 e25 e29 e49_2 e43_2 e27_1 e33 e21 e47 pP
 simp only [G18,r_natN,r_liti,r_litb,r_rows,r_len,List.length_cons,List.length_nil,r_eqN,Nat.zero_add,if_true,r_seg0,List.take,r_slD,r_call,r_bnd0,r_ld0,r_lds,e9_0,e9_1,e9_3,e41,e19,e43_0,e49_1,e43_1,e27_0,e25,e29,e49_2,e43_2,e27_1,e33,e21,e47,pP,
  r_eql,decide_true,r_cond,r_out,e45a,e45b,e46a,e46b,e46c,r_litsg,List.all_cons,List.all_nil,yl_b,Bool.and_self,r_eqlS,r_litS]
theorem pq {f:Nat} {xs:List D} {o:Out} (h:FN 14 f xs=o) (hf:f≠76):FnP f xs=o:=(pE hf).trans h
theorem g18:G18 (real FnP (FnDof Tryd.prog (cf3 tb Tryd.prog) FnP) M0)=some (0,[.d (bl true)]) :=
 g18a (pq e9_0 (by decide)) (pq e9_1 (by decide)) (pq e9_3 (by decide)) (pq e41 (by decide)) (pq e19 (by decide)) (pq e43_0 (by decide)) (pq e49_1 (by decide)) (pq e43_1 (by decide)) (pq e27_0 (by decide)) (pq e25 (by decide)) (pq e29 (by decide)) (pq e49_2 (by decide)) (pq e43_2 (by decide)) (pq e27_1 (by decide)) (pq e33 (by decide)) (pq e21 (by decide)) (pq e47 (by decide)) (pq e45a (by decide)) (pq e45b (by decide)) (pq e46a (by decide)) (pq e46b (by decide)) (pq e46c (by decide)) pP
theorem sane_sc:SC Tryd.prog 18 [] (.one (.d (bl true))) :=
 fun3_sc (T:=tb) (P:=Tryd.prog) mixP FnP_ok FnP_okM spOK (fuel:=400) (m0:=M0) (xs:=[]) (j:=0) (ys:=[.d (bl true)]) (rs:=[(false,[.d])]) (by rw [prR,G18_eq];exact g18) (by decide) (sh:=[]) rfl rfl rfl
end Go.VE
namespace Go.VE
open Go.RowKit Go.Proofs
set_option maxRecDepth 100000
theorem o3 {n:Nat} {ds:List D} (h:HasT Tryd.prog (n+1) 3 ds):∃ z,ds=[il z]∧-9223372036854775808≤z∧z≤9223372036854775807:=h.int Tryd.underlying3
theorem o30 {n:Nat} {ds:List D} (h:HasT Tryd.prog (n+2) 30 ds):∃ b:Brd,ds=rB b:=by
 obtain ⟨_,_,rfl,h1,_,_,rfl,h2,rfl⟩:=h.struct Tryd.underlying30 rfl
 obtain ⟨x,rfl,_⟩:=o3 h1
 obtain ⟨y,rfl,_⟩:=o3 h2
 exact ⟨(x,y),rfl⟩
theorem o96 {n:Nat} {ds:List D} (h:HasT Tryd.prog (n+2) 96 ds):∃ b:Tld,ds=rT b:=by
 obtain ⟨_,_,rfl,h1,_,_,rfl,h2,_,_,rfl,h3,rfl⟩:=h.struct Tryd.underlying96 rfl
 obtain ⟨x,rfl,_⟩:=o3 h1
 obtain ⟨y,rfl,_⟩:=o3 h2
 obtain ⟨z,rfl,_⟩:=o3 h3
 exact ⟨(x,y,z),rfl⟩
theorem o87 {n:Nat} {ds:List D} (h:HasT Tryd.prog (n+2) 87 ds):∃ b:Stk,ds=rS b:=by
 obtain ⟨_,_,rfl,h1,_,_,rfl,h2,_,_,rfl,h3,_,_,rfl,h4,rfl⟩:=h.struct Tryd.underlying87 rfl
 obtain ⟨x,rfl,_⟩:=o3 h1
 obtain ⟨y,rfl,_⟩:=o3 h2
 obtain ⟨z,rfl,_⟩:=o3 h3
 obtain ⟨u,rfl,_⟩:=o3 h4
 exact ⟨(x,y,z,u),rfl⟩
theorem opt_rows {α:Type} {f:α→List D}:∀ {o:Option Rr},(∀ r∈o.getD [],∃ c,r=f c)→∃ q:Option (List α),o=q.map (·.map f)
 | none,_=>⟨none,rfl⟩
 | some rows,h=>by
  obtain ⟨l,hl⟩:=rows_map (f:=f) (rows:=rows) h
  exact ⟨some l,by rw [hl];rfl⟩
theorem oL {α:Type} {f:α→List D} {n t e c b:Nat} {ds:List D} (hu:Tryd.prog.underlying t=some (.slice e)) (hc:Tryd.prog.cellsOf e=c) (hb:Tryd.prog.bytesOf e=b) (he:∀ r,HasT Tryd.prog n e r→∃ x,r=f x) (h:HasT Tryd.prog (n+1) t ds):∃ o,ds=[dL c f o]∧(o.getD []).length*b≤140737488351232:=by
 obtain ⟨o,rfl,h1,h2⟩:=h.sl hu hc hb
 obtain ⟨q,rfl⟩:=opt_rows (f:=f) fun r hr=>he r (h2 r hr)
 refine ⟨q,rfl,?_⟩
 cases q with
 | none=>simp
 | some l=>simpa using h1
theorem o22 {n:Nat} {ds:List D} (h:HasT Tryd.prog (n+3) 22 ds):∃ o,ds=[dB o]∧(o.getD []).length*16≤140737488351232:=oL Tryd.underlying22 (by kernel_rfl) (by kernel_rfl) (fun _ h=>o30 h) h
theorem o23 {n:Nat} {ds:List D} (h:HasT Tryd.prog (n+3) 23 ds):∃ o,ds=[dS o]∧(o.getD []).length*32≤140737488351232:=oL Tryd.underlying23 (by kernel_rfl) (by kernel_rfl) (fun _ h=>o87 h) h
theorem o26 {n:Nat} {ds:List D} (h:HasT Tryd.prog (n+3) 26 ds):∃ o,ds=[dT o]∧(o.getD []).length*24≤140737488351232:=oL Tryd.underlying26 (by kernel_rfl) (by kernel_rfl) (fun _ h=>o96 h) h
theorem o25 {n:Nat} {ds:List D} (h:HasT Tryd.prog (n+4) 25 ds):∃ me b s h,ds=[il me,dB b,dS s,il h]∧(b.getD []).length*16≤140737488351232∧(s.getD []).length*32≤140737488351232:=by
 obtain ⟨_,_,rfl,h1,_,_,rfl,h2,_,_,rfl,h3,_,_,rfl,h4,rfl⟩:=h.struct Tryd.underlying25 rfl
 obtain ⟨x,rfl,_⟩:=o3 h1
 obtain ⟨y,rfl,hy⟩:=o22 h2
 obtain ⟨z,rfl,hz⟩:=o23 h3
 obtain ⟨u,rfl,_⟩:=o3 h4
 exact ⟨x,y,z,u,rfl,hy,hz⟩
theorem o28 {n:Nat} {ds:List D} (h:HasT Tryd.prog (n+4) 28 ds):∃ a b t,ds=[il a,il b,dT t]∧(t.getD []).length*24≤140737488351232:=by
 obtain ⟨_,_,rfl,h1,_,_,rfl,h2,_,_,rfl,h3,rfl⟩:=h.struct Tryd.underlying28 rfl
 obtain ⟨x,rfl,_⟩:=o3 h1
 obtain ⟨y,rfl,_⟩:=o3 h2
 obtain ⟨z,rfl,hz⟩:=o26 h3
 exact ⟨x,y,z,rfl,hz⟩
noncomputable def FnS (n:Nat) (f:Nat) (xs:List D):Out:=if f=18∧xs=[] then some (0,[.d (bl true)]) else FN n f xs
theorem FnS_ok (n:Nat):FnOK Tryd.prog (cf3 tb Tryd.prog) (FnS n):=by
 intro f sh xs vs j ys rs h1 h2 h3 h4
 unfold FnS at h3
 split at h3
 ·rename_i hc
  obtain ⟨rfl,rfl⟩:=hc
  simp only [Option.some.injEq,Prod.mk.injEq] at h3
  obtain ⟨rfl,rfl⟩:=h3
  have e1:(cf3 tb Tryd.prog).ash 18=some []:=rfl
  rw [e1] at h1
  cases h1
  cases h2
  have e2:((cf3 tb Tryd.prog).rsk 18)[0]?=some [(false,[.d])]:=rfl
  rw [e2] at h4
  cases h4
  exact sane_sc
 ·exact FnT_ok mixP spOK n f sh xs vs j ys rs h1 h2 h3 h4
theorem FnS_18 (n:Nat):FnS n 18 []=some (0,[.d (bl true)]):=by simp [FnS]
theorem FnS_ne {n f:Nat} {xs:List D} {o:Out} (h:FN n f xs=o) (hf:f≠18):FnS n f xs=o:=by rw [←h];simp [FnS,hf]
theorem FnS_okM (n:Nat):FmOK Tryd.prog (cf3 tb Tryd.prog) (FnS n):=fun f ms xs zs h1 h2=>by
 rw [FnS_ne rfl (by omega)] at h2
 exact FnT_okM mixP spOK n f ms xs zs h1 h2
end Go.VE
namespace Go.VE
open Go.RowKit Go.Proofs
def pg (me:Int) (bs:List Brd) (ss:List Stk):List Fld:=(pread me bs (new bs) ss).1
def fl (me:Int) (bs:List Brd) (ss:List Stk) (j:Nat):Fld:=(fread me (bs.getD j (0,0)) fd0 ss).1
theorem pg_len {me:Int} {bs:List Brd} (hr:Rise bs) (ss:List Stk):(pg me bs ss).length=bs.length:=(pread_at hr ss (new bs) (new_len bs)).1
theorem okP_rise {me:Int} {bs:List Brd} {ss:List Stk} {h:Int} (ho:okP me bs ss h=true):Rise bs:=by
 simp only [okP,bords,Bool.and_eq_true] at ho
 exact okL_rise ho.2.1.1
theorem new_get (bs:List Brd) (i:Nat):(new bs).getD i fd0=fd0:=by
 simp only [new,List.getD_eq_getElem?_getD,List.getElem?_map]
 cases bs[i]?<;>rfl
theorem pg_at {me:Int} {bs:List Brd} {ss:List Stk} {h:Int} (ho:okP me bs ss h=true) {j:Nat} (hj:j < bs.length):(pg me bs ss)[j]?=some (fl me bs ss j):=by
 have hr:=okP_rise ho
 have ho':=ho
 simp only [okP,Bool.and_eq_true] at ho'
 have:=(pread_at (me:=me) hr ss (new bs) (new_len bs)).2.1 ho'.2.2.2.2
 have h1:=this.2 j hj
 rw [new_get] at h1
 have h2:j < (pg me bs ss).length:=by rw [pg_len hr];exact hj
 rw [List.getElem?_eq_getElem h2]
 unfold fl
 rw [h1]
 simp [pg,List.getD_eq_getElem?_getD,List.getElem?_eq_getElem (show j < (pread me bs (new bs) ss).1.length from h2)]
def ofR (me:Int) (bs:List Brd) (ss:List Stk) (h fld:Int) (bad:Int→Out) (k:Nat→Out):Out :=
 if okP me bs ss h=true then (match bix fld bs with
  | none=>bad 94
  | some j=>k j) else bad 92
def bad21 (e:Int):Out:=some (0,(z21++[il e]).map .d)
theorem getD_at {α:Type} {l:List α} {j:Nat} {e:α} (d:α) (h:l[j]?=some e):l.getD j d=e:=by simp [List.getD_eq_getElem?_getD,h]
theorem bord_at {bs:List Brd} {fld:Int} {j:Nat} (h:bix fld bs=some j):∃ e,bs[j]?=some e∧e.1=fld∧bs.getD j (0,0)=e∧j < bs.length:=by
 obtain ⟨h1,h2⟩:=bix_some h
 refine ⟨bs[j],List.getElem?_eq_getElem h1,?_,getD_at _ (List.getElem?_eq_getElem h1),h1⟩
 rw [getD_at _ (List.getElem?_eq_getElem h1)] at h2
 exact h2
theorem okW_strokes {me:Int} {bs:List Brd} {ss:List Stk} {h:Int} (ho:okW me bs ss h=true):par me=true∧bords me bs=true∧(∀ s∈ss,okS s=true):=by
 simp only [okW,Bool.and_eq_true] at ho
 exact ⟨ho.1,ho.2.1,all_okS ho.2.2.2.2.1⟩
theorem ixI_at {fld:Int} {bs:List Brd} {j:Nat} (h:bix fld bs=some j):ixI fld bs=(j:Int):=by simp [ixI,h]
theorem s80 (n:Nat) (me h:Int) (b:Option (List Brd)) (o:Option (List Stk)) (fld:Int) (hl:(o.getD []).length≤4611686018427387904) (hb:(b.getD []).length≤4611686018427387904) :
  FN (n+8) 80 [il me,dB b,dS o,il h,il fld]=ofR me (b.getD []) (o.getD []) h fld bad21 fun j=>some (0,(r21 ((b.getD []).getD j (0,0)) me (fl me (b.getD []) (o.getD []) j)++[il 0]).map .d):=by
 rw [F80]
 unfold ofR
 simp only [G80,r_call,s15 _ _ _ _ _ hl hb,← okP_W,r_bnd0,r_ld0,r_liti,r_litb,r_neq,ite_ne _ 92 (by omega),r_cond,r_out,s74 _ _ hb,r_lss,decide_eq_true_eq,ixI_neg]
 by_cases h1:okP me (b.getD []) (o.getD []) h=true
 ·have hW:=h1
  rw [okP_W] at hW
  obtain ⟨w1,w2,w3⟩:=okW_strokes hW
  simp only [h1,Bool.not_true,Bool.false_eq_true,if_false,if_true]
  cases hx:bix fld (b.getD []) with
  | none=>simp [bad21,z21]
  | some j =>
   obtain ⟨e,he,-,hg,hj⟩:=bord_at hx
   simp only [reduceCtorEq,if_false,ixI_at hx,rowB he,cB0,cB1,s75 _ _ (bords_six w2 e (List.mem_of_getElem? he)) w1 _ hl w3,r_bnd0]
   rw [hg]
   simp only [r21,List.cons_append,List.nil_append,List.map_cons,List.map_nil,r_ld0,r_lds,fl,hg]
 ·simp [h1,bad21,z21]
end Go.VE
namespace Go.VE
open Go.RowKit Go.Proofs
def odd (z:Int):Bool:=decide (z.tmod 2=1)
def cleanF (me o:Int) (f:Fld):Bool:=isWith me o (f.no o.toNat)&&(odd f.wants&&f.af o.toNat)
end Go.VE
namespace Go.VE
open Go.RowKit Go.Proofs
def accE (en0:Nat→List Yr) (en1:Nat→Rr→List Yr) (i:Nat) (acc:Rr):Nat×List Yr:=match acc with
 | []=>(0,en0 i)
 | a::t=>(1,en1 i (a::t))
def accO (o0:Out) (o1:Rr→Out) (acc:Rr):Out:=match acc with
 | []=>o0
 | a::t=>o1 (a::t)
theorem accE_snoc (en0:Nat→List Yr) (en1:Nat→Rr→List Yr) (i:Nat) (acc:Rr) (r:List D):accE en0 en1 i (acc++[r])=(1,en1 i (acc++[r])):=by
 cases acc<;>rfl
theorem acc_loop (N:Nat) (hN:N≤4611686018427387904) (row:Nat→Option (List D)) (b0 b1:(Nat→List Yr→Out)→List Yr→Out) (en0:Nat→List Yr) (en1:Nat→Rr→List Yr) (o0:Out) (o1:Rr→Out)
  (h0:∀ k,b0 k (en0 N)=o0) (h1:∀ k a t,(a::t).length≤N→b1 k (en1 N (a::t))=o1 (a::t))
  (s0:∀ i k,i < N→IntKind.i64.wrap ((i:Int)+1)=(i:Int)+1→b0 k (en0 i)=match row i with
   | none=>k 0 (en0 (i+1))
   | some r=>k 1 (en1 (i+1) [r]))
  (s1:∀ i k a t,i < N→(a::t).length≤i→IntKind.i64.wrap ((i:Int)+1)=(i:Int)+1→b1 k (en1 i (a::t))=match row i with
   | none=>k 1 (en1 (i+1) (a::t))
   | some r=>k 1 (en1 (i+1) (a::t++[r]))) :
  loopR [b0,b1] M0 0 (en0 0)=accO o0 o1 ((List.range N).filterMap row):=by
 have:=loop_ms (σ:=Nat×Rr) [b0,b1] (fun s=>accE en0 en1 s.1 s.2) (fun s=>N - s.1) (fun s=>s.1≤N∧s.2.length≤s.1)
  (fun s=>accO o0 o1 (s.2++(List.range' s.1 (N - s.1)).filterMap row)) ?_ M0 (0,[]) ⟨by simp,by simp⟩ (by simp only [M0];omega)
 ·simpa [accE,List.range_eq_range'] using this
 ·rintro ⟨i,acc⟩ k ⟨hi,ha⟩ ih
  simp only at hi ha
  by_cases hN':i=N
  ·subst hN'
   cases acc with
   | nil=>exact ⟨b0,rfl,by simp [accE,accO,h0]⟩
   | cons a t=>exact ⟨b1,rfl,by simp [accE,accO,h1 k a t ha]⟩
  ·have hi':i < N:=by omega
   have hw:=wrap_succ hi' hN
   have ih0:=ih (i+1,acc) ⟨hi',by simp only;omega⟩ (by simp only;omega)
   have ih1:=fun r=>ih (i+1,acc++[r]) ⟨hi',by simp;omega⟩ (by simp only;omega)
   simp only [accE_snoc,List.append_assoc,List.cons_append,List.nil_append] at ih1
   simp only at ih0
   have e:List.range' i (N - i)=i::List.range' (i+1) (N - (i+1)):=by
    rw [show N - i=(N - (i+1))+1 by omega,List.range'_succ]
   rw [e]
   simp only [List.filterMap_cons]
   cases acc with
   | nil =>
    refine ⟨b0,rfl,?_⟩
    simp only [accE] at ih0 ⊢
    rw [s0 i k hi' hw]
    cases hr:row i with
    | none=>exact ih0
    | some r=>exact ih1 r
   | cons a t =>
    refine ⟨b1,rfl,?_⟩
    simp only [accE] at ih0 ⊢
    rw [s1 i k a t hi' ha hw]
    cases hr:row i with
    | none=>exact ih0
    | some r=>exact ih1 r
def rowIf {α:Type} (p:α→Bool) (g:α→List D) (x:α):Option (List D):=if p x=true then some (g x) else none
theorem filterMap_rowIf {α:Type} (p:α→Bool) (g:α→List D) (l:List α):l.filterMap (rowIf p g)=(l.filter p).map g:=by
 induction l with
 | nil=>rfl
 | cons x r ih =>
  simp only [List.filterMap_cons,rowIf,List.filter_cons]
  cases p x<;>simp [←ih]
def rN (o:Nat):List D:=[il o]
def dN (l:List Nat):D:=match l with
 | []=>nilS
 | a::t=>.sl 1 ((a::t).map rN)
def missR (me P:Int) (f:Fld):List Nat:=(List.range 6).filter fun (o:Nat)=>!decide ((o:Int)=me)&&(P.toNat.testBit o&&!isWith me o (f.no o))
theorem missR_L (me P:Int) (f:Fld):missR me P f=missL me P f:=by
 unfold missR missL oth
 rw [List.filter_filter]
 congr 1
 funext o
 cases decide ((o:Int)=me)<;>cases P.toNat.testBit o<;>simp
theorem s89 (n:Nat) (b:Brd) (me:Int) (hm:par me=true) (f:Fld) {o:Int} (ho:par o=true):FN (n+2) 89 (r21 b me f++[il me,il o])=some (0,[.d (bl (cleanF me o f))]):=by
 have h88:=s88 n b me f (par_lt ho)
 rw [Int.toNat_of_nonneg (par_iff.1 ho).1] at h88
 have hw:=wan_me hm f
 simp only [r21,List.cons_append,List.nil_append] at h88 ⊢
 rw [F89]
 simp only [G89,r_call,h88,r_bnd0,r_ld0,r_cond,r_selIg,cleanF,odd]
 rw [if_pos (show 0≤me∧me < (6:Nat) by have:=par_iff.1 hm;omega),if_pos (show 0≤o∧o < (6:Nat) by have:=par_iff.1 ho;omega)]
 have key:∀ q:D,q=il f.wants→∀ g:Nat→Bool,(if isWith me o (f.no o.toNat)=true then (RP (n+1)).bin .rem false q ((RP (n+1)).lit (.int .i64 2)) fun x1=>(RP (n+1)).bin .eql false x1 ((RP (n+1)).lit (.int .i64 1)) fun x2=>(RP (n+1)).cond x2 (selR [some (0,[.d (bl (g 0))]),some (0,[.d (bl (g 1))]),some (0,[.d (bl (g 2))]),some (0,[.d (bl (g 3))]),some (0,[.d (bl (g 4))]),some (0,[.d (bl (g 5))])] o.toNat) (some (0,[.d (bl false)])) else (some (0,[.d (bl false)]):Out))=some (0,[.d (bl (isWith me o (f.no o.toNat)&&(decide (f.wants.tmod 2=1)&&g o.toNat)))]):=by
  rintro q rfl g
  have hs:selR [some (0,[.d (bl (g 0))]),some (0,[.d (bl (g 1))]),some (0,[.d (bl (g 2))]),some (0,[.d (bl (g 3))]),some (0,[.d (bl (g 4))]),some (0,[.d (bl (g 5))])] o.toNat=some (0,[.d (bl (g o.toNat))]):=by
   have hlt:=par_lt ho
   generalize o.toNat=t at hlt ⊢
   match t,hlt with
   | 0,_=>rfl
   | 1,_=>rfl
   | 2,_=>rfl
   | 3,_=>rfl
   | 4,_=>rfl
   | 5,_=>rfl
  simp only [r_liti,r_rem _ _ _ _ (show (2:Int)≠0 by decide),r_eql,r_cond,hs,decide_eq_true_eq]
  cases isWith me o (f.no o.toNat) with
  | false=>simp
  | true =>
   by_cases h2:f.wants.tmod 2=1<;>simp [h2]
 have hlt:=par_lt hm
 generalize me.toNat=t at hlt hw ⊢
 match t,hlt with
 | 0,_=>exact key _ (by rw [hw]) f.af
 | 1,_=>exact key _ (by rw [hw]) f.af
 | 2,_=>exact key _ (by rw [hw]) f.af
 | 3,_=>exact key _ (by rw [hw]) f.af
 | 4,_=>exact key _ (by rw [hw]) f.af
 | 5,_=>exact key _ (by rw [hw]) f.af
theorem r_inx6n {Fn:Nat→List D→Out} {FnD:D→List Sh→List D→Out} {m:Nat} {i:Nat} (h:i < 6) (k:Nat→Out):(real Fn FnD m).inx (il i) 6 k=k i:=by
 rw [r_inxg,if_pos (by omega),Int.toNat_natCast]
theorem fit0 (b:Nat) (hb:b≤32):(0+1)*b≤140737488355328∧0+1≤9223372036854775807:=by omega
theorem fit1 {n:Nat} (b:Nat) (hb:b≤32) (hn:n≤4294967296):(n+1+(0+1))*b≤140737488355328∧n+1+(0+1)≤9223372036854775807:=by
 have:(n+1+(0+1))*b≤(n+1+(0+1))*32:=Nat.mul_le_mul_left _ hb
 omega
end Go.VE
namespace Go.VE
open Go.RowKit Go.Proofs
set_option maxRecDepth 100000
section
variable {Δ N R W M E Ω:Type} (p:Pr Δ N R W M E Ω)
end
theorem bnd_eq {n:Nat} {X X' r:Out} {ks:List (List Yr→Out)} (h:X=X') (h2:(RP n).bnd X' ks=r):(RP n).bnd X ks=r:=h ▸ h2
end Go.VE
namespace Go.VE
open Go.RowKit Go.Proofs
set_option maxRecDepth 100000
section
variable {Fn:Nat→List D→Out} {FnD:D→List Sh→List D→Out} {m:Nat}
theorem r_findM (bs:List Brd) (fs:List Fld) (f:Int) (k:Nat→Out) (e:Out):(real Fn FnD m).find 0 (mapM bs fs) (il f) k e=match bix f bs with
  | none=>e
  | some j=>k j:=by
 rw [show mapM bs fs=(keysB bs,fs.map row20) from rfl,r_find]
 cases bix f bs<;>rfl
theorem r_mrowsM (bs:List Brd) (fs:List Fld):(real Fn FnD m).mrows (mapM bs fs)=fs.map row20:=rfl
end
end Go.VE
namespace Go.VE
open Go.RowKit Go.Proofs
set_option maxRecDepth 100000
end Go.VE
namespace Go.VE
open Go.RowKit Go.Proofs
end Go.VE
namespace Go.VE
open Go.RowKit Go.Proofs
set_option maxRecDepth 100000
section
variable {Δ N R W M E Ω:Type} (p:Pr Δ N R W M E Ω)
end
theorem l43 (n:Nat) (o:Option (List Brd)) (hl:(o.getD []).length≤4611686018427387904) (hr:Rise (o.getD [])) (c0:D) (c1:D) (c2:Nat) (c3:Nat) (c4:D) (c5:D) (c6:D) (c7:Rr) (c8:D) (c9:D) (c10:Nat) (c11:Nat) (c12:D) :
  loopR [L43_0 (RP n)] M0 0 [.d (dB o),.d (il (o.getD []).length),.d (il 0),.m ([],[]),.d c0,.d c1,.n c2,.n c3,.d c4,.d c5,.d c6,.r c7,.d c8,.d c9,.n c10,.n c11,.d c12] =
   some (0,[.m (mapM (o.getD []) (new (o.getD []))),.d c0,.d c1,.n c2,.n c3,.d c4,.d c5,.d c6,.r c7,.d c8,.d c9,.n c10,.n c11,.d c12]):=by
 have:=range_loop (β:=Unit) (o.getD []) hl (L43_0 (RP n)) (fun i _=>[.d (dB o),.d (il (o.getD []).length),.d (il i),.m (mapM ((o.getD []).take i) (new ((o.getD []).take i))),.d c0,.d c1,.n c2,.n c3,.d c4,.d c5,.d c6,.r c7,.d c8,.d c9,.n c10,.n c11,.d c12]) (fun _ _=>True)
  (fun _ _ _=>some (0,[.m (mapM (o.getD []) (new (o.getD []))),.d c0,.d c1,.n c2,.n c3,.d c4,.d c5,.d c6,.r c7,.d c8,.d c9,.n c10,.n c11,.d c12])) ?_ ?_ M0 () trivial (M0_big hl)
 ·exact this
 ·intro _ k _
  simp [L43_0,List.take_length]
 ·intro i e r _ k hi hd hlt hw _ ih
  have hlt':(i:Int) < ((o.getD []).length:Int):=by omega
  have ih':=ih () trivial
  rw [cast1,take_snoc hi,new_snoc] at ih'
  have hadd:=fun k=>r_addK (Fn:=FN n) (FnD:=FnDof Tryd.prog (cf3 tb Tryd.prog) (FN n)) (m:=M0) (new_len ((o.getD []).take i)) (bix_new hr hi) fd0 k
  have hlen:((o.getD []).take i).length=i:=by simp;omega
  simp only [row20_0,hlen] at hadd
  simp only [L43_0,mapM,r_ld0,r_lds,r_lm0,r_lms,r_ln0,r_lns,r_lr0,r_lrs,r_lss,hlt',decide_true,r_cond,if_true,rowB hi,cB0,r_natN,r_eqN,r_mset,r_app,r_mrows,r_rows,r_liti,r_litb,r_len,List.length_map,new_len,hlen,hadd,r_add,hw]
  exact ih'
theorem bix_e {bs:List Brd} (hr:Rise bs) {i:Nat} {e:Brd} (he:bs[i]?=some e):bix e.1 bs=some i:=by
 have hi:i < bs.length:=by
  rcases Nat.lt_or_ge i bs.length with h | h
  ·exact h
  ·rw [List.getElem?_eq_none h] at he;cases he
 rw [List.getElem?_eq_getElem hi] at he
 simp only [Option.some.injEq] at he
 rw [←he]
 exact bix_at hr hi
end Go.VE
namespace Go.VE
open Go.RowKit Go.Proofs
abbrev Wrt:=Int×List Stk
def wantX (fld:Int) (f:Fld):Wrt:=if f.opn=true then (95,[]) else if odd f.wants=true then (0,[]) else (0,[(2,fld,0,f.wants+1)])
def ringX (me P fld:Int) (f:Fld):Wrt:=if f.opn=true then (95,[]) else if (missL me P f).isEmpty=true then (if f.wants=99999 then (2,[]) else (0,(4,fld,0,1)::(if odd f.wants=true then [(2,fld,0,f.wants+1)] else []))) else (97,[])
def shutX (fld:Int) (f:Fld):Wrt:=if f.opn=true then (0,[(4,fld,0,0)]) else (96,[])
def gives (me P:Int) (f:Fld) (o:Nat):Bool:=!decide ((o:Int)=me)&&(P.toNat.testBit o&&(odd (f.ask o)&&(isWith me o (f.no o)&&(!cleanF me o f&&decide (f.no o < 99999)))))
def serveF (me:Int) (e:Brd) (f:Fld):List Stk:=if f.opn=true then [] else ((List.range 6).filter (gives me e.2 f)).map fun (o:Nat)=>(1,e.1,(o:Int),f.no o+1)
def serveX (me:Int) (bs:List Brd) (ss:List Stk):List Stk:=bs.flatMap fun e=>serveF me e (fread me e fd0 ss).1
def hearF (me a:Int) (t:Tld) (f:Fld):List Stk:=(if f.ask a.toNat < t.2.2 then [(3,t.1,a,t.2.2)] else [])++(if f.no a.toNat < t.2.1∧isWith me a t.2.1=true∧f.opn=false then [(1,t.1,a,t.2.1)] else [])
def hearT (me a:Int) (bs:List Brd) (ss:List Stk) (t:Tld):List Stk:=match bix t.1 bs with
 | none=>[]
 | some j=>if hasP (bs.getD j (0,0)).2 a=true then hearF me a t (fl me bs ss j) else []
def hearX (me a:Int) (bs:List Brd) (ss:List Stk) (l:List Tld):List Stk:=l.flatMap (hearT me a bs ss)
def finW (me h:Int) (b:Option (List Brd)) (ss:List Stk) (q:Wrt):Out:=if q.1=0 then (if 120 < ss.length+q.2.length then noW 2 else some (0,[.d (il me),.d (dB b),.d (dS (some (ss++q.2))),.d (il h),.d (il 0)])) else noW q.1
def rngF (f:Fld):Prop:=(0≤f.wants∧f.wants≤99999)∧∀ o,(0≤f.no o∧f.no o≤99999)∧(0≤f.ask o∧f.ask o≤99999)
theorem rng_0:rngF fd0:=⟨by simp [fd0],fun o=>by simp [fd0]⟩
theorem okS_no {s:Stk} (h:okS s=true) (h4:s.1≠4):1≤s.2.2.2∧s.2.2.2≤99999:=by
 simp only [okS,Bool.and_eq_true] at h
 obtain ⟨-,h⟩:=h
 split at h
 ·simp only [inn,Bool.and_eq_true,decide_eq_true_eq] at h;exact h.2
 ·split at h
  ·simp only [inn,Bool.and_eq_true,decide_eq_true_eq] at h;exact h.2
  ·simp [] at h
theorem fstep_rng {me P:Int} {f g:Fld} {s:Stk} (hs:okS s=true) (hf:rngF f) (h:fstep me P f s=some g):rngF g:=by
 unfold fstep at h
 split at h
 ·rename_i h1
  split at h
  ·cases h
  ·have:=okS_no hs (by omega)
   cases h
   refine ⟨hf.1,fun o=>⟨?_,(hf.2 o).2⟩⟩
   simp only [upN]
   split
   ·omega
   ·exact (hf.2 o).1
 ·split at h
  ·rename_i h2
   split at h
   ·cases h
   ·have:=okS_no hs (by omega)
    cases h
    exact ⟨by simp only;omega,hf.2⟩
  ·split at h
   ·rename_i h3
    split at h
    ·cases h
    ·have:=okS_no hs (by omega)
     cases h
     refine ⟨hf.1,fun o=>⟨(hf.2 o).1,?_⟩⟩
     simp only [upN]
     split
     ·omega
     ·exact (hf.2 o).2
   ·split at h
    ·cases h
    ·cases h
     exact hf
theorem fread_rng {me:Int} {e:Brd}:∀ (l:List Stk) (f:Fld),(∀ s∈l,okS s=true)→rngF f→rngF (fread me e f l).1
 | [],f,_,hf=>hf
 | s::r,f,hl,hf=>by
  have hr:=fun t (ht:t∈r)=>hl t (List.mem_cons_of_mem _ ht)
  unfold fread
  split
  ·cases hs:fstep me e.2 f s with
   | none=>exact hf
   | some g=>exact fread_rng r g hr (fstep_rng (hl s List.mem_cons_self) hf hs)
  ·exact fread_rng r f hr hf
theorem fl_rng {me:Int} {bs:List Brd} {ss:List Stk} {h:Int} (ho:okP me bs ss h=true) (j:Nat):rngF (fl me bs ss j):=by
 rw [okP_W] at ho
 exact fread_rng ss fd0 (okW_strokes ho).2.2 rng_0
end Go.VE
