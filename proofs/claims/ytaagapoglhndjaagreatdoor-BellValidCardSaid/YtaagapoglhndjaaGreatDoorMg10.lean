/- BellValid: the evaluator of the program's functions, its proof, and the law. -/
import Derived.Test.YtaagapoglhndjaaGreatDoorMg9
import Derived.Test.YtaagapoglhndjaaGreatDoorMh
import Derived.Test.YtaagapoglhndjaaGreatDoorCards
import Derived.Test.YtaagapoglhndjaaGreatDoorTie
import Derived.SevenTiedAt
import Derived.ProofKit
import Derived.LaidMore
import Derived.Stop.Joined
namespace Go.VE
open Go.RowKit Go.Proofs
section
set_option maxRecDepth 100000
theorem oAct {n:Nat} {ds:List D} (h:HasT Tryz.prog (n+2) 69 ds):∃ a:A5,ds=rA a:=by
 obtain ⟨_,_,rfl,h1,_,_,rfl,h2,_,_,rfl,h3,_,_,rfl,h4,_,_,rfl,h5,rfl⟩:=h.struct Tryz.underlying69 rfl
 obtain ⟨x,rfl,_⟩:=o3 h1
 obtain ⟨y,rfl,_⟩:=o3 h2
 obtain ⟨z,rfl,_⟩:=o3 h3
 obtain ⟨u,rfl,_⟩:=o3 h4
 obtain ⟨v,rfl,_⟩:=o3 h5
 exact ⟨(x,y,z,u,v),rfl⟩
theorem oNums {n:Nat} {ds:List D} (h:HasT Tryz.prog (n+2) 23 ds):∃ a b c d:Int,ds=[il a,il b,il c,il d]:=by
 obtain ⟨_,_,rfl,h1,_,_,rfl,h2,_,_,rfl,h3,_,_,rfl,h4,rfl⟩:=h.arr Tryz.underlying23
 obtain ⟨x,rfl,_⟩:=o3 h1
 obtain ⟨y,rfl,_⟩:=o3 h2
 obtain ⟨z,rfl,_⟩:=o3 h3
 obtain ⟨u,rfl,_⟩:=o3 h4
 exact ⟨x,y,z,u,rfl⟩
theorem u7 (vds:List VD) (h:Eg Tryz.prog 8 [22,23] vds):SC Tryz.prog 3 vds (.one (.d (bl true))):=by
 obtain ⟨_,_,rfl,h1,h⟩:=wb h
 obtain ⟨_,_,rfl,h2,h⟩:=wb h
 cases FV h
 obtain ⟨_,rfl,k1⟩:=h1.sl_ Tryz.underlying22
 obtain ⟨_,rfl,k2⟩:=h2.arr_ Tryz.underlying23
 obtain ⟨l,e1,_⟩:=oL (f:=rA) (c:=5) (b:=40) Tryz.underlying22 (by kernel_rfl) (by kernel_rfl) (fun _ h=>oAct h) k1
 cases e1
 obtain ⟨a,b,c,d,rfl⟩:=oNums k2
 refine lawSC (T:=tb) (fuel:=400) (m0:=M0) (xs:=[dL 5 rA l,il a,il b,il c,il d]) xF (Ji 22) (Gl 22) xm (by decide) (sh:=[.one,.agg 4]) rfl rfl rfl ?_
 exact (G3_eq _ _ _ _ _ _).trans (D2 (Jj 22) (fun h hf=>E2 h hf) l a b c d)
end
end Go.VE
namespace Go.Proofs.YtaagapoglhndjaaGreatDoor
open Go.VE Go.RowKit Go.ChangeShapes Go.WideShapes
set_option maxRecDepth 100000
theorem own:ownKnob Tryz.prog.godebug=none:=by kernel_rfl
theorem Fe:laidOutB Tryz.prog=true:=by kernel_rfl
abbrev zt:List (String×DataW Unit):=[("math/bits.deBruijn32tab",Rows.laid_math_bits_deBruijn32tab),("math/bits.deBruijn64tab",Rows.laid_math_bits_deBruijn64tab),("internal/strconv.uint64pow10",Rows.laid_internal_strconv_uint64pow10)]
theorem DA (os:Os) (args:Array Value):laidMetH Tryz.prog zt ((World.doorLaid Tryz.prog 400 os).forCall (fun _ _=>0) ⟨#[],args,[]⟩).memory :=
 laidMetH_of_parts3 (fuel:=8) (laidMet_of_run' 8 (by kernel_rfl) (by kernel_rfl)) (by kernel_rfl) (by kernel_rfl)
theorem o6 (hsc:∀ vds,Eg Tryz.prog 8 Tryz.f3.params.toList vds→SC Tryz.prog 3 vds (.one (.d (bl true)))) (os:Os) (started:os.Started) (H:Type) (enc:TypeId×Value→H) :
  ReturnsInHanded {} Tryz.checked os 3 .any (fun w args=>(Rows.bellValidSpec.pre enc Tryz.prog Tryz.f3 [] false w args∧laidMetH Tryz.prog zt w)∧sizedMet enc Tryz.prog Tryz.f3 (OpenSpec.ofChange Rows.bellValidSpec) false w args) (Rows.bellValidSpec.post enc Tryz.prog Tryz.f3 false true false false) :=
 HU (C:=Tryz.checked) (n:=8) (tb:=4) (X:=fun w _=>laidMetH Tryz.prog zt w) (fun _ _ _ hh h=>h.of_heap hh) own started (by kernel_rfl) Tryz.func3
  (ChangeSpec.witness_shaped (enc:=enc) (C:=Tryz.checked) (os:=os) (X:=fun w _=>laidMetH Tryz.prog zt w) false (World.doorLaid Tryz.prog 400 os) #[.slice none 0 0,.agg #[.int .i64 0,.int .i64 0,.int .i64 0,.int .i64 0]] 8 rfl (World.shaped_of_RefB (by kernel_rfl) (by kernel_rfl)) (by kernel_rfl) (by kernel_rfl) (by kernel_rfl) (DA os _))
  Fe (by kernel_rfl) (by kernel_rfl) Tryz.underlying4 rfl
  (fun ds hd=>by
   rw [show Tryz.f3.params.toList=[22,23] by kernel_rfl] at hd
   match ds,hd with
   | [a,b],_=>rfl)
  hsc
theorem rz (hsc:∀ vds,Eg Tryz.prog 8 Tryz.f3.params.toList vds→SC Tryz.prog 3 vds (.one (.d (bl true)))):Rows.BellValidSaid :=
 OpenClaim.holds_of_wide 3 Tryz.f3 rfl rfl rfl rfl rfl rfl rfl ⟨rfl,rfl,rfl,rfl,rfl⟩ rfl rfl rfl rfl rfl (by kernel_rfl) Tryz.func3 (by kernel_rfl)
  (of_decide_eq_true (by kernel_rfl)) (by unfold Func.isWrapper;first | (rw [K9 (by decide +kernel)];kernel_rfl) | (rw [Kg (by decide +kernel)];exact ⟨rfl,rfl⟩))
  (fun os started H enc _=>o6 hsc os started H enc)
theorem qH (hsc:∀ vds,Eg Tryz.prog 8 Tryz.f3.params.toList vds→SC Tryz.prog 3 vds (.one (.d (bl true)))):Rows.BellValidCardSaid :=
 Claim7.holds_tied_plain_at .later [] [.data,.data,.data] true (true, "5c3342c5e839ce39995c31901459fc6a2ea08d483f13d0648360b5ec8cfb9b65") true
  (rz hsc) (fun _ h=>by cases h) (by kernel_rfl) (fun _ h=>by cases h) bellValid_row_tie rfl ⟨rfl,rfl⟩ (by kernel_rfl) rfl
  (fun f fn hf hfn=>by
   obtain rfl:f=3:=Option.some.inj ((show Tryz.prog.funcNamed "leazing/leazinglaw09.BellValid" = some 3 by kernel_rfl).symm.trans hf) |>.symm
   obtain rfl:fn=Tryz.f3:=(Option.some.inj (Tryz.func3.symm.trans hfn)).symm
   exact ⟨by kernel_rfl,fun j t ht=>by
    rw [Tryz.params3] at ht
    have hm:t∈[22,23]:=by simpa using Array.mem_of_getElem? ht
    have hall:([22,23].all fun u=>!Tryz.prog.wantsStandIn u)=true:=by kernel_rfl
    exact (show Tryz.prog.wantsStandIn t=false by simpa using Kt.1 hall t hm)⟩)
  (by kernel_rfl)
theorem bellValid_holds:Rows.BellValidCardSaid:=qH fun vds h=>u7 vds (by
 have e:Tryz.f3.params.toList=[22,23]:=by kernel_rfl
 rw [e] at h;exact h)
#print axioms bellValid_holds
end Go.Proofs.YtaagapoglhndjaaGreatDoor
