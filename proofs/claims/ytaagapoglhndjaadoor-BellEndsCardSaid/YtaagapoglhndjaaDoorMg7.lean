/- Bell: Who, by the program (printed by mkbf8.py). -/
import Derived.Test.YtaagapoglhndjaaDoorMg5
import Derived.Test.YtaagapoglhndjaaDoorMg6
import Derived.Test.YtaagapoglhndjaaDoorMg2
import Derived.Test.YtaagapoglhndjaaDoorChecked
import Derived.Test.YtaagapoglhndjaaDoorMh
import Derived.KernelRfl
import Derived.WalkKit
import Derived.LoopN
import Derived.Shelf.Strings.BuilderF
import Derived.Test.YtaagapoglhndjaaDoorMt
import Derived.Test.YtaagapoglhndjaaDoorMg0
namespace Go.VE
open Go.RowKit Go.Proofs
section
set_option maxRecDepth 100000
section
variable {Δ N R W M E Ω:Type} (p:Pr Δ N R W M E Ω)
def CT (y1:E) (w3:W):Ω:=(p.bnd (p.call 61 [p.cell w3 0]) [fun y4=>p.un .not (p.ld y4 0) fun x5=>p.cond x5 (p.out 0 [.d (p.ld y1 0),.d (p.ld y1 1),.n (p.ln y1 2),.d (p.ld y1 5),.d (p.lit (.int .i64 92)),.d (p.ld y1 3),.d (p.ld y1 4),.d (p.ld y1 5),.d (p.cell w3 0),.d (p.cell w3 1),.d (p.cell w3 2),.d (p.cell w3 3),.r (p.lr y1 6)]) (p.bnd (p.call 62 [p.cell w3 0,p.cell w3 1]) [fun y6=>p.un .not (p.ld y6 0) fun x7=>p.cond x7 (p.out 0 [.d (p.ld y1 0),.d (p.ld y1 1),.n (p.ln y1 2),.d (p.ld y1 5),.d (p.lit (.int .i64 92)),.d (p.ld y1 3),.d (p.ld y1 4),.d (p.ld y1 5),.d (p.cell w3 0),.d (p.cell w3 1),.d (p.cell w3 2),.d (p.cell w3 3),.r (p.lr y1 6)]) (p.lenD (p.cell w3 2) fun x8=>p.bin .gtr false x8 (p.lit (.int .i64 120)) fun x9=>p.cond x9 (p.out 0 [.d (p.ld y1 0),.d (p.ld y1 1),.n (p.ln y1 2),.d (p.ld y1 5),.d (p.lit (.int .i64 92)),.d (p.ld y1 3),.d (p.ld y1 4),.d (p.ld y1 5),.d (p.cell w3 0),.d (p.cell w3 1),.d (p.cell w3 2),.d (p.cell w3 3),.r (p.lr y1 6)]) (p.lenD (p.cell w3 2) fun x10=>p.bnd (p.call 68 [p.cell w3 3,(p.lit (.int .i64 0)),x10]) [fun y11=>p.un .not (p.ld y11 0) fun x12=>p.cond x12 (p.out 0 [.d (p.ld y1 0),.d (p.ld y1 1),.n (p.ln y1 2),.d (p.ld y1 5),.d (p.lit (.int .i64 92)),.d (p.ld y1 3),.d (p.ld y1 4),.d (p.ld y1 5),.d (p.cell w3 0),.d (p.cell w3 1),.d (p.cell w3 2),.d (p.cell w3 3),.r (p.lr y1 6)]) (p.bnd (p.call 63 [p.cell w3 1]) [fun y13=>p.lenD (p.cell w3 2) fun x14=>p.mkN 32 x14 x14 fun n15=>p.rowsD 4 (p.cell w3 2) fun r16=>p.eqN n15 (p.len (p.repl n15 [(p.lit (.int .i64 0)),(p.lit (.int .i64 0)),(p.lit (.int .i64 0)),(p.lit (.int .i64 0))])) (p.eqN n15 (p.len (p.repl n15 [(p.lit (.int .i64 0)),(p.lit (.int .i64 0)),(p.lit (.int .i64 0)),(p.lit (.int .i64 0))])) (p.lenD (p.ld y13 0) fun x17=>p.bnd (p.loop [(sO p)] 0 [.d (p.ld y13 0),.d x17,.d (p.lit (.int .i64 0)),.m p.emp,.d (p.cell w3 0),.d (p.ld y13 0),.n n15,.n n15,.d (p.cell w3 3),.r (p.lr y1 6),.d (p.cell w3 0),.d (p.cell w3 1),.d (p.cell w3 2),.d (p.cell w3 3),.r (p.app (p.seg r16 none n15) (p.seg (p.repl n15 [(p.lit (.int .i64 0)),(p.lit (.int .i64 0)),(p.lit (.int .i64 0)),(p.lit (.int .i64 0))]) (some (p.len r16)) n15)),.d (p.cell w3 0),.d (p.ld y13 0),.n n15,.n n15,.d (p.cell w3 3)]) [fun y18=>p.eqN n15 (p.len (p.lr y18 11)) (p.eqN n15 (p.len (p.lr y18 11)) (p.bnd (p.call 1000095 [p.ld y18 1,p.ld y18 2,(p.natD (p.ln y18 3)),(p.natD (p.ln y18 4)),p.ld y18 5,(p.slD 4 (p.lr y18 11)),(p.mpD true (p.lm y18 0))]) [fun y19=>p.rowsD 4 (p.ld y19 6) fun r20=>p.asM true (p.ld y19 7) fun q21=>p.un .not (p.ld y19 0) fun x22=>p.cond x22 (p.out 0 [.d (p.ld y1 0),.d (p.ld y1 1),.n (p.ln y1 2),.d (p.ld y1 5),.d (p.lit (.int .i64 92)),.d (p.ld y1 3),.d (p.ld y1 4),.d (p.ld y1 5),.d (p.ld y18 7),.d (p.ld y18 8),.d (p.ld y18 9),.d (p.ld y18 10),.r (p.lr y18 6)]) (p.out 1 [.d (p.ld y1 0),.d (p.ld y1 1),.n (p.ln y1 2),.d (p.ld y1 5),.d (p.lit (.int .i64 0)),.d (p.ld y1 3),.d (p.ld y1 4),.d (p.ld y1 5),.m q21,.r r20,.d (p.ld y19 1),.d (p.ld y19 2),.n (p.dN (p.ld y19 3)),.n (p.dN (p.ld y19 4)),.d (p.ld y19 5),.d (p.ld y18 7),.d (p.ld y18 8),.d (p.ld y18 9),.d (p.ld y18 10),.r (p.lr y18 6)])]))]))])]))])])
def L47x:K N R M E Δ Ω:=fun J1 y1=>p.bin .lss false (p.ld y1 5) (p.ld y1 4) fun x2=>p.cond x2 (p.rowD 4 (p.ld y1 3) (p.ld y1 5) fun w3=>p.bnd (CT p y1 w3) [fun y4=>p.bin .neq false (p.ld y4 4) (p.lit (.int .i64 0)) fun x5=>p.cond x5 (p.out 1 [.d (p.lit (.int .i64 98))]) (p.bin .gtr false (p.ld y4 3) (p.lit (.int .i64 0)) fun x6=>p.cond x6 (p.bin .sub false (p.ld y4 3) (p.lit (.int .i64 1)) fun x7=>p.rowD 4 (p.ld y4 0) x7 fun w8=>p.bin .geq false (p.cell w8 0) (p.ld y4 8) fun x9=>p.cond x9 (p.out 1 [.d (p.lit (.int .i64 98))]) p.fail) p.fail),fun y4=>p.bin .neq false (p.ld y4 4) (p.lit (.int .i64 0)) fun x5=>p.cond x5 (p.out 1 [.d (p.lit (.int .i64 98))]) (p.bin .gtr false (p.ld y4 3) (p.lit (.int .i64 0)) fun x6=>p.cond x6 (p.bin .sub false (p.ld y4 3) (p.lit (.int .i64 1)) fun x7=>p.rowD 4 (p.ld y4 0) x7 fun w8=>p.bin .geq false (p.cell w8 0) (p.ld y4 15) fun x9=>p.cond x9 (p.out 1 [.d (p.lit (.int .i64 98))]) (p.find 0 (p.lm y4 8) (p.ld y4 1) (fun n10=>p.rowAt 20 (p.mrows (p.lm y4 8)) n10 fun w11=>p.leN (p.addN (p.addN (p.natN 0) (p.natN 19)) (p.natN 1)) (p.natN 20) (p.cond (p.cellN w11 (p.addN (p.natN 0) (p.natN 19)) 0) (p.eqN (p.natN 1) (p.len (p.rows [[p.ld y4 15]])) (p.eqN (p.ln y4 2) (p.len (p.lr y4 19)) (p.fits 8 (p.addN (p.ln y4 2) (p.len (p.seg (p.rows [[p.ld y4 15]]) none (p.natN 1)))) (p.bin .add false (p.ld y4 7) (p.lit (.int .i64 1)) fun x12=>J1 0 [.d (p.ld y4 0),.d (p.ld y4 1),.n (p.addN (p.ln y4 2) (p.len (p.seg (p.rows [[p.ld y4 15]]) none (p.natN 1)))),.d (p.ld y4 5),.d (p.ld y4 6),.d x12,.r (p.app (p.lr y4 19) (p.seg (p.rows [[p.ld y4 15]]) none (p.natN 1)))])))) (p.bin .add false (p.ld y4 7) (p.lit (.int .i64 1)) fun x12=>J1 0 [.d (p.ld y4 0),.d (p.ld y4 1),.n (p.ln y4 2),.d (p.ld y4 5),.d (p.ld y4 6),.d x12,.r (p.lr y4 19)]))) (p.bin .add false (p.ld y4 7) (p.lit (.int .i64 1)) fun x10=>J1 0 [.d (p.ld y4 0),.d (p.ld y4 1),.n (p.ln y4 2),.d (p.ld y4 5),.d (p.ld y4 6),.d x10,.r (p.lr y4 19)]))) (p.find 0 (p.lm y4 8) (p.ld y4 1) (fun n7=>p.rowAt 20 (p.mrows (p.lm y4 8)) n7 fun w8=>p.leN (p.addN (p.addN (p.natN 0) (p.natN 19)) (p.natN 1)) (p.natN 20) (p.cond (p.cellN w8 (p.addN (p.natN 0) (p.natN 19)) 0) (p.eqN (p.natN 1) (p.len (p.rows [[p.ld y4 15]])) (p.eqN (p.ln y4 2) (p.len (p.lr y4 19)) (p.fits 8 (p.addN (p.ln y4 2) (p.len (p.seg (p.rows [[p.ld y4 15]]) none (p.natN 1)))) (p.bin .add false (p.ld y4 7) (p.lit (.int .i64 1)) fun x9=>J1 0 [.d (p.ld y4 0),.d (p.ld y4 1),.n (p.addN (p.ln y4 2) (p.len (p.seg (p.rows [[p.ld y4 15]]) none (p.natN 1)))),.d (p.ld y4 5),.d (p.ld y4 6),.d x9,.r (p.app (p.lr y4 19) (p.seg (p.rows [[p.ld y4 15]]) none (p.natN 1)))])))) (p.bin .add false (p.ld y4 7) (p.lit (.int .i64 1)) fun x9=>J1 0 [.d (p.ld y4 0),.d (p.ld y4 1),.n (p.ln y4 2),.d (p.ld y4 5),.d (p.ld y4 6),.d x9,.r (p.lr y4 19)]))) (p.bin .add false (p.ld y4 7) (p.lit (.int .i64 1)) fun x7=>J1 0 [.d (p.ld y4 0),.d (p.ld y4 1),.n (p.ln y4 2),.d (p.ld y4 5),.d (p.ld y4 6),.d x7,.r (p.lr y4 19)])))]) (p.out 0 [.d (p.ld y1 0),.d (p.ld y1 1),.n (p.ln y1 2),.r (p.lr y1 6)])
end
theorem eL47:@wv=@L47x:=rfl
theorem l47_0 (n:Nat) (o:Option (List aJ)) (hl:(o.getD []).length≤4611686018427387904) (hr:kw (o.getD [])) (c0:D) (c1:D) (c2:Nat) (c3:Nat) (c4:D) (c5:Rr) (c6:D) (c7:D) (c8:D) (c9:D) (c10:Rr) (c11:D) (c12:D) (c13:Nat) (c14:Nat) (c15:D) :
  bm [sO (RP n)] M0 0 [.d (dB o),.d (il (o.getD []).length),.d (il 0),.m ([],[]),.d c0,.d c1,.n c2,.n c3,.d c4,.r c5,.d c6,.d c7,.d c8,.d c9,.r c10,.d c11,.d c12,.n c13,.n c14,.d c15] =
   some (0,[.m (mapM (o.getD []) (new (o.getD []))),.d c0,.d c1,.n c2,.n c3,.d c4,.r c5,.d c6,.d c7,.d c8,.d c9,.r c10,.d c11,.d c12,.n c13,.n c14,.d c15]):=by
 have:=bA (β:=Unit) (o.getD []) hl (sO (RP n)) (fun i _=>[.d (dB o),.d (il (o.getD []).length),.d (il i),.m (mapM ((o.getD []).take i) (new ((o.getD []).take i))),.d c0,.d c1,.n c2,.n c3,.d c4,.r c5,.d c6,.d c7,.d c8,.d c9,.r c10,.d c11,.d c12,.n c13,.n c14,.d c15]) (fun _ _=>True)
  (fun _ _ _=>some (0,[.m (mapM (o.getD []) (new (o.getD []))),.d c0,.d c1,.n c2,.n c3,.d c4,.r c5,.d c6,.d c7,.d c8,.d c9,.r c10,.d c11,.d c12,.n c13,.n c14,.d c15])) ?_ ?_ M0 () trivial (dM hl)
 ·exact this
 ·intro _ k _
  simp [sO,Mb]
 ·intro i e r _ k hi hd hlt hw _ ih
  have hlt':(i:Int) < ((o.getD []).length:Int):=by omega
  have ih':=ih () trivial
  rw [bn,gH hi,iU] at ih'
  have hadd:=fun k=>nq (Fn:=FN n) (FnD:=dq Tryd.prog (eI tb Tryd.prog) (FN n)) (m:=M0) (bU ((o.getD []).take i)) (kX hr hi) fd0 k
  have hlen:((o.getD []).take i).length=i:=by simp;omega
  simp only [kA,hlen] at hadd
  simp only [sO,mapM,ah,aj,aF,aH,ao,aw,aq,av,aU,hlt',Jr,ag,Js,eK hi,lj,aD,b6,dl,bh,bI,aR,ak,aZ,aO,Jp,bU,hlen,hadd,b7,hw]
  exact ih'
theorem op47 (n:Nat) (me h:Int) (b:Option (List aJ)) (o:Option (List ba)) (hl:(o.getD []).length≤4611686018427387904) (hb:(b.getD []).length≤4611686018427387904) (c0 c1 c3 c4 c5:D) (c2:Nat) (c6:Rr) :
  CT (RP (n+4)) [.d c0,.d c1,.n c2,.d c3,.d c4,.d c5,.r c6] (cg (me,b,o,h))=if ck me (b.getD []) (o.getD []) h=true then some (1,[.d c0,.d c1,.n c2,.d c5,.d (il 0),.d c3,.d c4,.d c5,.m (mapM (b.getD []) (pg me (b.getD []) (o.getD []))),.r ((o.getD []).map rS),.d (il me),.d (dB b),.n (o.getD []).length,.n (o.getD []).length,.d (il h),.d (il me),.d (dB b),.d (dS o),.d (il h),.r c6]) else some (0,[.d c0,.d c1,.n c2,.d c5,.d (il 92),.d c3,.d c4,.d c5,.d (il me),.d (dB b),.d (dS o),.d (il h),.r c6]):=by
 simp only [CT,lX,lW,mR,mQ,aC,xq,Gq _ _ _ hb,xp,cX,ae,ah,aj,ao,aw,aq,av,aY,ag,aL,ak,cN,ck]
 by_cases h1:gz me=true
 ·by_cases h2:cr me (b.getD [])=true
  ·have h2':=h2
   simp only [cr,Jn,Jq] at h2'
   by_cases h3:(o.getD []).length≤120
   ·have h3':¬ ((120:Int) < (o.getD []).length):=by omega
    by_cases h4:fg h 0 (o.getD []).length=true
    ·have hmk:0≤((o.getD []).length:Int)∧((32:Nat):Int)*((o.getD []).length:Int)≤140737488355328∧((o.getD []).length:Int)≤9223372036854775807:=by omega
     simp only [h1,h2,h3,h3',h4,K7,Jl,Ju,Js,Jr,Jt,Ki,Gp _ _ h2'.2,ae,ah,jP,hmk,Kt,K4,iO,jO,aO,List.length_replicate,b6,cX,mo,bh,be,jN,br,Jp]
     have hseg:=gN ((o.getD []).map rS) [il 0,il 0,il 0,il 0]
     rw [Jp] at hseg
     rw [hseg,l47_0 _ _ hb (eB h2'.1)]
     simp only [ae,ah,aj,aF,ao,aw,aq,av,Jp,Js,ci,cS,fY,mapM]
     rw [gP _ _ hb (cu h2) _ (by omega) _ _ _ _ _ (bU _)]
     simp only [ae,ah,aj,cT,aY,ag,l6]
     have ha:∀ (a:List Value) (b:Rr) (k:Mr→az),(RP (n+4)).asM true (.mp true a b) k=k (a,b):=fun _ _ _=>rfl
     rw [ha]
     simp only [pg]
     rw [show (b.getD []).map (fun _=>fd0)=new (b.getD []) from rfl]
     cases (bF me (b.getD []) (new (b.getD [])) (o.getD [])).2<;>rfl
    ·simp [h1,h2,h3,h3',h4]
   ·have h3':((120:Int) < (o.getD []).length):=by omega
    simp [h1,h2,h3,h3']
  ·simp [h1,h2]
 ·simp [h1]
theorem l47_1 (n:Nat) (o:Option (List W4)) (hl:(o.getD []).length≤2199023255552) (hs:∀ w∈o.getD [],xl w) (fld:Int) :
  bm [wv (RP (n+4))] M0 0 [.d (dW o),.d (il fld),.n 0,.d (dW o),.d (il (o.getD []).length),.d (il 0),.r []]=if DS none (o.getD [])=true then some (0,[.d (dW o),.d (il fld),.n (iA fld (o.getD [])).length,.r ((iA fld (o.getD [])).map rI)]) else some (1,[.d (il 98)]):=by
 have:=bA (β:=List Int) (o.getD []) (by omega) (wv (RP (n+4))) (fun i g=>[.d (dW o),.d (il fld),.n g.length,.d (dW o),.d (il (o.getD []).length),.d (il i),.r (g.map rI)]) (fun i g=>g.length≤i)
  (fun i r g=>if DS (rX (o.getD []) i) r=true then some (0,[.d (dW o),.d (il fld),.n (g++iA fld r).length,.r ((g++iA fld r).map rI)]) else some (1,[.d (il 98)])) ?_ ?_ M0 [] (by simp) (dM (by omega))
 ·exact this
 ·intro g k _
  simp [wv,DS,iA]
 ·rintro i ⟨me,b,s,h⟩ r g k hi hd hlt hw hg ih
  have hsw:=hs _ (K2 hi)
  have hlt':(i:Int) < ((o.getD []).length:Int):=by omega
  have hfit:(g.length+1)*8≤140737488355328∧g.length+1≤9223372036854775807:=by omega
  have hN:g.length≤9223372036854775806:=by omega
  rw [eL47]
  simp only [L47x,ah,aj,ao,aw,aq,av,ak,aU,hlt',Jr,ag,Js,xt hi]
  rw [op47 n me h b s hsw.2 hsw.1]
  rw [DS]
  show _=if (ck me (b.getD []) (s.getD []) h&&_)=true then _ else _
  by_cases h1:ck me (b.getD []) (s.getD []) h=true
  ·have hrow:∀ {j:Nat},cM fld (b.getD [])=some j→(pg me (b.getD []) (s.getD []))[j]?=some (fl me (b.getD []) (s.getD []) j):=fun {j} hx=>by
    obtain ⟨_,_,_,_,hj⟩:=fS hx
    exact jv h1 hj
   simp only [h1,Js,Ki,bf,ah,aj,aF,aH,ao,aw,aq,av,bP,T3,Mk,Jt,Jl,Ju,cN,ag,b7,hw]
   have rest:tE (rX (o.getD []) i) me=true→∀ X:az,X=(match cM fld (b.getD []) with
     | none=>k 0 [.d (dW o),.d (il fld),.n g.length,.d (dW o),.d (il (o.getD []).length),.d (il ((i:Int)+1)),.r (g.map rI)]
     | some j=>if (fl me (b.getD []) (s.getD []) j).opn=true then k 0 [.d (dW o),.d (il fld),.n (g.length+1),.d (dW o),.d (il (o.getD []).length),.d (il ((i:Int)+1)),.r (g.map rI++[[il me]])]
      else k 0 [.d (dW o),.d (il fld),.n g.length,.d (dW o),.d (il (o.getD []).length),.d (il ((i:Int)+1)),.r (g.map rI)]) →
     X=if (tE (rX (o.getD []) i) (me,b,s,h).1&&DS (some (me,b,s,h).1) r)=true then some (0,[.d (dW o),.d (il fld),.n (g++iA fld ((me,b,s,h)::r)).length,.r ((g++iA fld ((me,b,s,h)::r)).map rI)]) else some (1,[.d (il 98)]):=by
    intro hlt X hX
    rw [hX]
    simp only [hlt,Ki]
    have ih0:=ih g (by omega)
    rw [bn,kF hi] at ih0
    have ih1:=ih (g++[me]) (by simp;omega)
    rw [bn,kF hi] at ih1
    cases hx:cM fld (b.getD []) with
    | none =>
     simp only
     rw [show iA fld ((me,b,s,h)::r)=iA fld r by simp [iA,B6,hx]]
     exact ih0
    | some j =>
     simp only
     by_cases ho:(fl me (b.getD []) (s.getD []) j).opn=true
     ·rw [K1 ho,show iA fld ((me,b,s,h)::r)=[me]++iA fld r by simp [iA,B6,hx,ho],← Kb]
      simpa [rI] using ih1
     ·rw [Kc ho,show iA fld ((me,b,s,h)::r)=iA fld r by simp [iA,B6,hx,ho]]
      exact ih0
   have l9:∀ X Y:Nat→az,True:=fun _ _=>trivial
   cases i with
   | zero =>
    refine rest rfl _ ?_
    simp only [T4,Int.lt_irrefl,Jt,Jl,Ju,cK]
    cases hx:cM fld (b.getD []) with
    | none=>rfl
    | some j=>simp only [aD,aN,Jv,bE,aS (hrow hx),bV,Nat.reduceAdd,Nat.reduceLeDiff,Js,bi,df,ag,aR,aO,Jx,Jy,Jp,b6,be,List.take,bp,hfit.1,hN,Kt,bh]
   | succ i =>
    have hi1:i < (o.getD []).length:=by omega
    have hv:=Jo hi1
    have hp:=q8 (i:=i+1) (by omega) (by omega)
    simp only [show (0:Int) < ((i+1:Nat):Int) by omega,Jr,Js,uP,hp,V0,xt hv,lX,rU,ag]
    by_cases h2:(o.getD [])[i].1 < me
    ·refine rest (by simp [kF hv,tE,h2]) _ ?_
     simp only [show ¬ ((o.getD [])[i].1≥me) by omega,Jt,Jl,Ju,cK]
     cases hx:cM fld (b.getD []) with
     | none=>rfl
     | some j=>simp only [aD,aN,Jv,bE,aS (hrow hx),bV,Nat.reduceAdd,Nat.reduceLeDiff,Js,bi,df,ag,aR,aO,Jx,Jy,Jp,b6,be,List.take,bp,hfit.1,hN,Kt,bh]
    ·simp only [show ((o.getD [])[i].1≥me) by omega,Jr,Js,kF hv,tE,h2,Jt,Mh,Jl,Ju,aL]
  ·simp [h1]
theorem s47 (n:Nat) (o:Option (List W4)) (hl:(o.getD []).length≤2199023255552) (hs:∀ w∈o.getD [],xl w) (fld:Int):FN (n+5) 47 [dW o,il fld]=Hc (o.getD []) fld:=by
 rw [FS,IP]
 simp only [G47,lenW,ak,br,aD,aR,Hc]
 rw [l47_1 n o hl hs]
 by_cases hc:DS none (o.getD [])=true
 ·simp only [hc,Js,ae,ah,aj,lenW,cN,ag]
  by_cases h6:6 < (o.getD []).length
  ·have h6':(6:Int) < ((o.getD []).length:Int):=by omega
   simp [h6',h6,BN,ed]
  ·have h6':¬ (6:Int) < ((o.getD []).length:Int):=by omega
   simp only [h6',h6,Jt,Jl,Ju,aC,s67,ae,ah,aY,ag]
   by_cases hf:fg fld 1 99=true
   ·simp only [hf,K7,Jl,Ju,Js,ao,aw,aq,av,aO,Jp,b6,uQ,aL]
   ·simp [hf,BN,ed]
 ·simp [hc,BN,ed]
end
section
set_option maxRecDepth 100000
def rP (p:P3):List D:=[il p.1,il p.2.1,dT p.2.2]
abbrev dP (o:Option (List P3)):D:=dL 3 rP o
def fields:List Int:=[3,5,8,9]
theorem s101 (n:Nat):FN (n+1) 101 []=some (0,[.d (dL 1 rI (some fields))]):=by
 rw [FS,Gi]
 simp only [G101,aD,aR,ak,aO,Jx,Jy,Nat.reduceAdd,b6,Js,be,cS,aL]
 rfl
abbrev allB:List aJ:=[(3,63),(5,7),(8,42),(9,12)]
theorem l99 (n:Nat) {k:Nat} (hk:k < 6):bm [sK (RP (n+3))] M0 0 [.d (il k),.n 4,.n 4,.n 0,.d (il 0),.r [],.r (allB.map rB)]=some (0,[.n (bk k).length,.r ((bk k).map rB)]):=by
 have:=bA (β:=List aJ) allB (by simp) (sK (RP (n+3))) (fun i g=>[.d (il k),.n 4,.n 4,.n g.length,.d (il i),.r (g.map rB),.r (allB.map rB)]) (fun i g=>g.length≤i)
  (fun i r g=>some (0,[.n (g++r.filter fun b=>b.2.toNat.testBit k).length,.r ((g++r.filter fun b=>b.2.toNat.testBit k).map rB)])) ?_ ?_ M0 [] (by simp) (dM (by simp))
 ·simpa [bk] using this
 ·intro g j _
  simp [sK]
 ·intro i e r g j hi hd hlt hw hg ih
  have hlt4:i < 4:=hlt
  have hlt':(i:Int) < ((4:Nat):Int):=by omega
  have h6:lw e.2:=by
   have:=K2 hi
   simp only [Ka,M5,T1] at this
   rcases this with rfl | rfl | rfl | rfl<;>(unfold lw;omega)
  have hrow:(allB.map rB)[i]?=some (rB e):=by rw [K9,hi];rfl
  have h71:=fun x=>s71 n x h6 (k:Int)
  have hfit:=yf (a:=g.length) (b:=1) (c:=16) (by omega) (by omega) (by omega)
  have hl4:(allB.map rB).length=4:=rfl
  have hc:(rB e).length=2:=rfl
  generalize hA:allB.map rB=A at hrow hl4
  rw [Mo]
  cases hb:e.2.toNat.testBit k with
  | false =>
   have ih0:=ih g (by omega)
   simp only [bn,hA] at ih0
   simp only [sK,ah,aj,ao,aw,aq,av,ci,aU,hlt',Jr,ag,Js,aO,hl4,b6,bS,Int.natCast_nonneg,Tz,K4,cU,hrow,hc,lj,vS,aC,h71,ae,cq hk,hb,Jl,Ju,b7,ak,hw]
   exact ih0
  | true =>
   have ih0:=ih (g++[e]) (by simp;omega)
   simp only [bn,hA] at ih0
   rw [K1 rfl,show g++e::r.filter (fun b=>b.2.toNat.testBit k)=(g++[e])++r.filter (fun b=>b.2.toNat.testBit k) by simp,← ih0]
   simp only [sK,ah,aj,ao,aw,aq,av,ci,aU,hlt',Jr,ag,Js,aO,hl4,b6,bS,Int.natCast_nonneg,K4,cU,hrow,hc,lj,vS,aC,h71,ae,cq hk,hb,aR,aD,Jx,Jy,Jp,K0,Jv,be,List.take,aN,bp,hfit,Kt,bh,b7,ak,hw,M6,Jz,Ky]
   rfl
theorem s99 (n:Nat) {k:Nat} (hk:k < 6):FN (n+4) 99 [il k]=some (0,[.d (dB (lV (bk k)))]):=by
 rw [FS,It]
 have h:=l99 n hk
 have e:allB.map rB=[[il 3,il 63],[il 5,il 7],[il 8,il 42],[il 9,il 12]]:=rfl
 rw [e] at h
 simp only [G99,br,aD,aR,ak]
 rw [h]
 simp only [ae,ao,aq,av,aO,Jp,b6,Js,uQ,aL]
def w0 (k:Nat):W4:=((k:Int),lV (bk k),none,0)
def Hb:List W4:=(List.range 6).map w0
theorem mS:∀ k:Nat,k < 6→ck (k:Int) (bk k) [] 0=true:=by decide
theorem s55 (n:Nat):FN (n+9) 55 []=some (0,[.d (dW (some Hb)),.d (dP none),.d (bl true)]):=by
 rw [FS,IL]
 have:=dm (β:=List W4) 6 (by omega) (Au (RP (n+8))) (fun i g=>[.d (il i),.r (g.map cg),.n g.length]) (fun i g=>g.length=i)
  (fun i g=>some (0,[.r ((g++(rg i).map w0).map cg),.n (g++(rg i).map w0).length])) ?_ ?_ [] rfl
 ·simp only [G55,br,ak,aZ,aD,aR]
  simp only [Ky,Jy,T4,Ke] at this
  rw [this]
  simp only [ae,aq,ao,aw,aO,Jp,b6,Js,uQ,mn,aL]
  rfl
 ·intro g k hg
  simp [Au,rg]
 ·intro i g k hi hg hw ih
  have h99:=s99 (n+4) hi
  have hok:=eG.1 (mS i hi)
  have h9:=s9 (n+3) (i:Int) (lV (bk i)) (by rw [dC];have:=iC (mS i hi);omega)
  rw [dC,K1 hok.1,K1 hok.2.1] at h9
  have hfit:(g.length+1)*64≤140737488355328∧g.length+1≤9223372036854775807:=by omega
  have ih0:=ih (g++[w0 i]) (by simp [hg])
  rw [oZ hi,Jz,show g++w0 i::(rg (i+1)).map w0=(g++[w0 i])++(rg (i+1)).map w0 by simp,← ih0]
  simp only [Au,ah,aj,ao,aw,aq,av,ak,aU,show (i:Int) < 6 by omega,Jr,ag,Js,aC,h99,ae,h9,bP,T3,Mk,Jt,Jl,Ju,aR,aD,aO,Jx,Jy,Jp,K0,Jv,b6,be,List.take,aN,bp,hfit,Kt,bh,b7,hw,bn,M6,Jz,Ky]
  rfl
theorem Ce (k:Nat):aG (w0 k)=[]:=rfl
theorem wX {k:Nat} {w:W4} (h:Hb[k]?=some w):k < 6∧w=w0 k:=by
 unfold Hb at h
 rw [K9] at h
 cases hk:(List.range 6)[k]? with
 | none=>rw [hk] at h;cases h
 | some j =>
  rw [hk] at h
  simp only [Kv,Jm] at h
  obtain ⟨h1,h2⟩:=K5.1 hk
  rw [List.getElem_range] at h2
  subst h2
  exact ⟨by simpa using h1,h.symm⟩
theorem good0:GoodW Hb []:=by
 refine ⟨rfl,fun k w h=>?_,fun k w a v h _ s hs=>?_,fun p hp=>by cases hp⟩
 ·obtain ⟨h6,rfl⟩:=wX h
  exact ⟨rfl,dC _,mS k h6⟩
 ·obtain ⟨h6,rfl⟩:=wX h
  cases hs
theorem GoodW.chk_ {ws:List W4} {ps:List P3} (hG:GoodW ws ps):∀ (l:List W4) (i:Nat),ws.drop i=l→DS (rX ws i) l=true
 | [],_,_=>rfl
 | w::r,i,h=>by
  have hi:i < ws.length:=by
   rcases Nat.lt_or_ge i ws.length with h' | h'
   ·exact h'
   ·rw [V1 h'] at h;cases h
  rw [T2 hi] at h
  injection h with h1 h2
  have hw:ws[i]?=some w:=by rw [Jo hi,h1]
  have ih:=hG.chk_ r (i+1) h2
  rw [kF hw] at ih
  rw [DS,ih,To,Jn]
  refine ⟨r7 hG hw,?_⟩
  cases i with
  | zero=>rfl
  | succ i =>
   have hi':i < ws.length:=by omega
   have hv:=Jo hi'
   rw [kF hv]
   simp only [tE,Jq]
   rw [(hG.wat _ _ hv).1,(hG.wat _ _ hw).1]
   omega
theorem zm {ws:List W4} {ps:List P3} (hG:GoodW ws ps) {fld:Int} {k:Nat} {w:W4} (hw:ws[k]?=some w) (h:B6 fld w=true):∃ e∈bk k,e.1=fld∧(rf k e (aG w)).opn=true:=by
 obtain ⟨a1,a2,_⟩:=hG.wat k w hw
 unfold B6 at h
 rw [a2] at h
 cases hx:cM fld (bk k) with
 | none=>rw [hx] at h;cases h
 | some j =>
  rw [hx] at h
  simp only at h
  have:=fT hx
  exact ⟨_,this.1,this.2,by rw [←a1];exact h⟩
theorem CV {α:Type} {p:α→Bool}:∀ {l:List α},(l.Pairwise fun a b=>¬ (p a=true∧p b=true))→(l.filter p).length≤1
 | [],_=>by simp
 | a::r,h=>by
  cases h with
  | cons h1 h2 =>
   rw [Mo]
   split
   ·rename_i ha
    have:r.filter p=[]:=by
     rw [List.filter_eq_nil_iff]
     intro b hb hpb
     exact h1 b hb ⟨ha,hpb⟩
    simp [this]
   ·exact CV h2
theorem GoodW.who1 {ws:List W4} {ps:List P3} (hG:GoodW ws ps) (fld:Int):(iA fld ws).length≤1:=by
 unfold iA
 rw [Jp]
 refine CV ?_
 rw [List.pairwise_iff_getElem]
 rintro i j hi hj hij ⟨h1,h2⟩
 have hv:=Jo hi
 have hw:=Jo hj
 obtain ⟨e,he,hef,ho⟩:=zm hG hv h1
 obtain ⟨e',he',hef',ho'⟩:=zm hG hw h2
 exact hG.open1 (by omega) hv hw he he' (by rw [hef,hef']) ho ho'
theorem s5 {me h:Int} {bs:List aJ} {ss:List ba} (h1:ck me bs ss h=true):bs.length≤4611686018427387904∧ss.length≤4611686018427387904:=by
 have:=iC h1;have:=jg h1;omega
theorem GoodW.small {ws:List W4} {ps:List P3} (hG:GoodW ws ps):∀ w∈ws,xl w:=fun w hm=>by
 obtain ⟨k,hk,rfl⟩:=List.mem_iff_getElem.1 hm
 have:=r7 hG (Jo hk)
 exact s5 this
theorem GoodW.holds {ws:List W4} {ps:List P3} (hG:GoodW ws ps) (n:Nat) {a:Nat} {w:W4} (hw:ws[a]?=some w) (fld:Int) (b:Nat):∃ x g,FN (n+6) 31 [il w.1,dB w.2.1,dS w.2.2.1,il w.2.2.2,il fld,il b]=some (0,[.d (bl x),.d (il g)])∧(g=0→x=true→∃ e∈bk a,e.1=fld∧aK a b ((rf a e (aG w)).no b)=true):=by
 obtain ⟨a1,a2,_⟩:=hG.wat a w hw
 have hok:=r7 hG hw
 have hsm:=s5 hok
 have h31:=s31 n w.1 w.2.2.2 w.2.1 w.2.2.1 fld (b:Int) hsm.2 hsm.1
 change _=oM w.1 (w.2.1.getD []) (aG w) w.2.2.2 fld nP _ at h31
 rw [h31]
 unfold oM
 rw [K1 hok]
 cases hx:cM fld (w.2.1.getD []) with
 | none=>exact ⟨false,94,rfl,fun h=>by cases h⟩
 | some j =>
  simp only [C7]
  split
  ·exact ⟨false,1,rfl,fun h=>by cases h⟩
  ·refine ⟨_,0,rfl,fun _ h=>?_⟩
   have hm:=fT hx
   rw [a2] at hm
   refine ⟨_,hm.1,hm.2,?_⟩
   rw [a2,a1] at h
   exact h
end
section
set_option maxRecDepth 100000
section
variable {ws:List W4} {ps:List P3} (hG:GoodW ws ps) (o:Option (List P3))
include hG
theorem l57_0 (n:Nat) {fi:Nat} {fld:Int} (hf:fields[fi]?=some fld) {a:Nat} (ha:a < 6) :
  bm [wo (RP (n+6))] M0 0 [.d (dW (some ws)),.d (dP o),.d (dL 1 rI (some fields)),.d (il fi),.d (il a),.d (il ((a:Int)+1))]=some (1,[.d (dW (some ws)),.d (dP o),.d (dL 1 rI (some fields)),.d (il fi),.d (il a)]):=by
 have:=dm (β:=Unit) (5 - a) (by omega) (wo (RP (n+6))) (fun i _=>[.d (dW (some ws)),.d (dP o),.d (dL 1 rI (some fields)),.d (il fi),.d (il a),.d (il ((a:Int)+1+i))]) (fun _ _=>True)
  (fun _ _=>some (1,[.d (dW (some ws)),.d (dP o),.d (dL 1 rI (some fields)),.d (il fi),.d (il a)])) ?_ ?_ () trivial
 ·simpa using this
 ·intro _ k _
  have:¬ ((a:Int)+1+((5 - a:Nat):Int) < 6):=by omega
  simp [wo,this]
 ·intro i _ k hi _ _ ih
  have hb:a+1+i < 6:=by omega
  have hla:a < ws.length:=by rw [hG.len];exact ha
  have hlb:a+1+i < ws.length:=by rw [hG.len];exact hb
  have hv:=Jo hla
  have hw:=Jo hlb
  generalize ws[a]=v at hv
  generalize ws[a+1+i]=w at hw
  obtain ⟨x,g,h1,k1⟩:=hG.holds n hv fld (a+1+i)
  obtain ⟨y,g',h2,k2⟩:=hG.holds n hw fld a
  have hcast:((a+1+i:Nat):Int)=(a:Int)+1+i:=by omega
  rw [hcast] at h1
  have hv':((some ws).getD [])[a]?=some v:=hv
  have hw':((some ws).getD [])[a+1+i]?=some w:=hw
  have r2:=fun k=>xt (Fn:=FN (n+6)) (FnD:=dq Tryd.prog (eI tb Tryd.prog) (FN (n+6))) (m:=M0) hw' k
  rw [hcast] at r2
  have hf':((some fields).getD [])[fi]?=some fld:=hf
  have hlt:(a:Int)+1+i < 6:=by omega
  have hc:(RP (n+6)).cell (rI fld) 0=il fld:=rfl
  have hwr:IntKind.i64.wrap ((a:Int)+1+i+1)=(a:Int)+1+((i+1:Nat):Int):=by rw [fO (by omega) (by omega)];omega
  have ih0:=ih () trivial
  have hno:¬ (g=0∧g'=0∧x=true∧y=true):=by
   rintro ⟨e1,e2,e3,e4⟩
   obtain ⟨e,he,hef,hwi⟩:=k1 e1 e3
   obtain ⟨e',he',hef',hwi'⟩:=k2 e2 e4
   exact hG.one (by omega) hv hw he he' (by rw [hef,hef']) hwi hwi'
  simp only [wo,ah,aj,ak,aU,hlt,Jr,ag,Js,xt hv',r2,r9 hf' (show (rI fld).length=1 from rfl),hc,lX,lW,mR,mQ,aC,h1,h2,ae,bo,b7,hwr]
  by_cases e1:g=0
  ·by_cases e2:g'=0
   ·cases x with
    | false=>simp only [e1,e2,Jr,Js,Jl,Ju];exact ih0
    | true =>
     cases y with
     | false=>simp only [e1,e2,Jr,Js,Jl,Ju];exact ih0
     | true=>exact absurd ⟨e1,e2,rfl,rfl⟩ hno
   ·simp only [e1,e2,Jr,Js,Jt,Jl,Ju];exact ih0
  ·simp only [e1,Jt,Jl,Ju];exact ih0
theorem l57_1 (n:Nat) {fi:Nat} {fld:Int} (hf:fields[fi]?=some fld) :
  bm [wm (RP (n+6))] M0 0 [.d (dW (some ws)),.d (dP o),.d (dL 1 rI (some fields)),.d (il fi),.d (il 0)]=some (0,[.d (dW (some ws)),.d (dP o),.d (dL 1 rI (some fields)),.d (il fi)]):=by
 have:=dm (β:=Unit) 6 (by omega) (wm (RP (n+6))) (fun i _=>[.d (dW (some ws)),.d (dP o),.d (dL 1 rI (some fields)),.d (il fi),.d (il i)]) (fun _ _=>True)
  (fun _ _=>some (0,[.d (dW (some ws)),.d (dP o),.d (dL 1 rI (some fields)),.d (il fi)])) ?_ ?_ () trivial
 ·exact this
 ·intro _ k _
  simp [wm]
 ·intro i _ k hi _ hw ih
  have ih0:=ih () trivial
  rw [bn] at ih0
  have hl:=l57_0 hG o n hf hi
  simp only [wm,ah,aj,ak,aU,show (i:Int) < 6 by omega,Jr,ag,Js,b7,hw,br,hl,bf]
  exact ih0
theorem l57_2 (n:Nat):bm [wl (RP (n+6))] M0 0 [.d (dW (some ws)),.d (dP o),.d (dL 1 rI (some fields)),.d (il 0)]=some (0,[]):=by
 have:=bA (β:=Unit) fields (by simp [fields]) (wl (RP (n+6))) (fun i _=>[.d (dW (some ws)),.d (dP o),.d (dL 1 rI (some fields)),.d (il i)]) (fun _ _=>True) (fun _ _ _=>some (0,[])) ?_ ?_ M0 () trivial (dM (by simp [fields]))
 ·exact this
 ·intro _ k _
  simp [wl,cX,fields]
 ·intro i fld r _ k hi hd hlt hw _ ih
  have ih0:=ih () trivial
  rw [bn] at ih0
  have hi':((some fields).getD [])[i]?=some fld:=hi
  have hlt':(i:Int) < ((((some fields).getD []).length:Nat):Int):=by
   show (i:Int) < ((fields.length:Nat):Int)
   omega
  have hc:(RP (n+6)).cell (rI fld) 0=il fld:=rfl
  have hsm:=hG.small
  have h47:=s47 (n+1) (some ws) (by show ws.length≤_;rw [hG.len];omega) hsm fld
  have hfl:fg fld 1 99=true:=by
   have:=K2 hi
   simp only [fields,Ka,M5,T1] at this
   rcases this with rfl | rfl | rfl | rfl<;>rfl
  have h1:=hG.who1 fld
  unfold Hc at h47
  rw [K1 (show DS none ((some ws).getD [])=true from hG.chk_ ws 0 rfl),Kc (by show ¬ 6 < ws.length;rw [hG.len];omega),K1 hfl] at h47
  have hl:=l57_1 hG o n hi
  have h1':¬ ((1:Int) < (((lV (iA fld ((some ws).getD []))).getD []).length:Nat)):=by
   rw [dC]
   show ¬ ((1:Int) < ((iA fld ws).length:Nat))
   omega
  simp only [wl,ah,aj,cX,ak,aU,hlt',Jr,ag,Js,r9 hi' (show (rI fld).length=1 from rfl),hc,aC,h47,ae,bP,T3,Mk,Jt,Jl,Ju,cN,h1',br,hl,b7,hw]
  exact ih0
theorem s57 (n:Nat):FN (n+7) 57 [dW (some ws),dP o]=some (0,[.d (bl true)]):=by
 rw [FS,IJ]
 have hl:=l57_2 hG o n
 simp only [G57,aC,s101,ae,ah,br,ak,hl,aZ,aL]
end
end
section
set_option maxRecDepth 100000
end
section
open Go.Shelf
set_option maxRecDepth 100000
set_option maxHeartbeats 4000000
theorem GC (w:World):Calls Tryd.prog 117 #[.int .i64 1] w fun e w'=>e=.returned (.string ⟨#[49]⟩)∧w'=w:=by
 go_enter Tryd.func117,Tryd.ntmps117
 go_wp2
 go_ret
 exact ⟨rfl,rfl⟩
theorem itoa0 (w:World):Calls Tryd.prog 117 #[.int .i64 0] w fun e w'=>e=.returned (.string ⟨#[48]⟩)∧w'=w:=by
 go_enter Tryd.func117,Tryd.ntmps117
 go_wp2
 go_ret
 exact ⟨rfl,rfl⟩
theorem GB (w:World):Calls Tryd.prog 117 #[.int .i64 7] w fun e w'=>e=.returned (.string ⟨#[55]⟩)∧w'=w:=by
 go_enter Tryd.func117,Tryd.ntmps117
 go_wp2
 go_ret
 exact ⟨rfl,rfl⟩
theorem row2 (w:World) (b:Nat) (h0:w.cell? ⟨b,0,none⟩=some (.int .i64 7)) (h1:w.cell? ⟨b,1,none⟩=some (.int .i64 1)) :
  Calls Tryd.prog 109 #[.string ⟨#[119,97,110,116,115]⟩,.slice (some ⟨b,0,none⟩) 2 2] w fun e w'=>e=.returned (.string ⟨#[119,97,110,116,115,32,55,32,49,10]⟩)∧w'=w:=by
 go_enter Tryd.func109,Tryd.ntmps109
 go_wp2
 refine wp_loop_rounds 3 ?_
 rw [rounds_succ]
 go_wp2_with (go_at_call 117;refine (GB _).mono ?_;rintro e w' ⟨rfl,rfl⟩)
 rw [rounds_succ]
 go_wp2_with (go_at_call 117;refine (GC _).mono ?_;rintro e w' ⟨rfl,rfl⟩)
 rw [rounds_succ]
 go_wp2
 go_ret
 exact ⟨rfl,rfl⟩
theorem row3 (w:World) (b:Nat) (h0:w.cell? ⟨b,0,none⟩=some (.int .i64 7)) (h1:w.cell? ⟨b,1,none⟩=some (.int .i64 0)) (h2:w.cell? ⟨b,2,none⟩=some (.int .i64 1)) :
  Calls Tryd.prog 109 #[.string ⟨#[116,97,108,108,121]⟩,.slice (some ⟨b,0,none⟩) 3 3] w fun e w'=>e=.returned (.string ⟨#[116,97,108,108,121,32,55,32,48,32,49,10]⟩)∧w'=w:=by
 go_enter Tryd.func109,Tryd.ntmps109
 go_wp2
 refine wp_loop_rounds 4 ?_
 rw [rounds_succ]
 go_wp2_with (go_at_call 117;refine (GB _).mono ?_;rintro e w' ⟨rfl,rfl⟩)
 rw [rounds_succ]
 go_wp2_with (go_at_call 117;refine (itoa0 _).mono ?_;rintro e w' ⟨rfl,rfl⟩)
 rw [rounds_succ]
 go_wp2_with (go_at_call 117;refine (GC _).mono ?_;rintro e w' ⟨rfl,rfl⟩)
 rw [rounds_succ]
 go_wp2
 go_ret
 exact ⟨rfl,rfl⟩
def Hk:Ren:=⟨fun x=>if x=166 then 108 else if x=240 then 116 else if x=276 then 122 else if x=169 then 110 else 0,fun x=>if x=72 then 141 else if x=70 then 138 else if x=37 then 139 else if x=164 then 155 else if x=75 then 143 else if x=127 then 154 else if x=80 then 147 else x,fun x=>x⟩
theorem Fi:Lays.n166 Tryd.prog Hk where
 mixed:=by kernel_rfl
 f166:=by kernel_rfl
 f240:=by kernel_rfl
 f276:=by kernel_rfl
 t0:=by kernel_rfl
 a0:=fun w=>by kernel_rfl
 z0:=fun w=>by kernel_rfl
 v0:=fun w=>by kernel_rfl
 t3:=by kernel_rfl
 a3:=fun w=>by kernel_rfl
 z3:=fun w=>by kernel_rfl
 v3:=fun w=>by kernel_rfl
 t4:=by kernel_rfl
 a4:=fun w=>by kernel_rfl
 z4:=fun w=>by kernel_rfl
 v4:=fun w=>by kernel_rfl
 t9:=by kernel_rfl
 a9:=fun w=>by kernel_rfl
 z9:=fun w=>by kernel_rfl
 v9:=fun w=>by kernel_rfl
 t20:=by kernel_rfl
 a20:=fun w=>by kernel_rfl
 z20:=fun w=>by kernel_rfl
 v20:=fun w=>by kernel_rfl
 t37:=by kernel_rfl
 a37:=fun w=>by kernel_rfl
 z37:=fun w=>by kernel_rfl
 v37:=fun w=>by kernel_rfl
 t70:=by kernel_rfl
 a70:=fun w=>by kernel_rfl
 z70:=fun w=>by kernel_rfl
 v70:=fun w=>by kernel_rfl
 t72:=by kernel_rfl
 a72:=fun w=>by kernel_rfl
 z72:=fun w=>by kernel_rfl
 v72:=fun w=>by kernel_rfl
 t75:=by kernel_rfl
 a75:=fun w=>by kernel_rfl
 z75:=fun w=>by kernel_rfl
 v75:=fun w=>by kernel_rfl
 t164:=by kernel_rfl
 a164:=fun w=>by kernel_rfl
 z164:=fun w=>by kernel_rfl
 v164:=fun w=>by kernel_rfl
theorem Fh:Lays.n169 Tryd.prog Hk where
 mixed:=by kernel_rfl
 f169:=by kernel_rfl
 t0:=by kernel_rfl
 a0:=fun w=>by kernel_rfl
 z0:=fun w=>by kernel_rfl
 v0:=fun w=>by kernel_rfl
 t3:=by kernel_rfl
 a3:=fun w=>by kernel_rfl
 z3:=fun w=>by kernel_rfl
 v3:=fun w=>by kernel_rfl
 t9:=by kernel_rfl
 a9:=fun w=>by kernel_rfl
 z9:=fun w=>by kernel_rfl
 v9:=fun w=>by kernel_rfl
 t37:=by kernel_rfl
 a37:=fun w=>by kernel_rfl
 z37:=fun w=>by kernel_rfl
 v37:=fun w=>by kernel_rfl
 t70:=by kernel_rfl
 a70:=fun w=>by kernel_rfl
 z70:=fun w=>by kernel_rfl
 v70:=fun w=>by kernel_rfl
 t72:=by kernel_rfl
 a72:=fun w=>by kernel_rfl
 z72:=fun w=>by kernel_rfl
 v72:=fun w=>by kernel_rfl
 t127:=by kernel_rfl
 a127:=fun w=>by kernel_rfl
 z127:=fun w=>by kernel_rfl
 v127:=fun w=>by kernel_rfl
theorem DH:Builder.Extra Tryd.prog Hk where
 sizeBuilder:=by kernel_rfl
 liesBuilder:=by kernel_rfl
 t5:=by kernel_rfl
 a5:=fun w=>by kernel_rfl
 z5:=fun w=>by kernel_rfl
 v5:=fun w=>by kernel_rfl
 infoByte:=by kernel_rfl
 cellsByte:=by kernel_rfl
 sizeByte:=by kernel_rfl
 neB5:=by decide
theorem wS (B b:Nat) (bs:List Value) (s:ByteArray) (w:World) (h:Lib.IsBuilderF 141 5 B b bs w) (hlen:bs.length+s.size≤140737488355328) (hBw:B≤w.heap.size) :
  Calls Tryd.prog 108 #[.pointer (some ⟨b,0,none⟩),.string s] w fun e w'=>e=.returned (.tuple #[.int .i64 s.size,.nilIface])∧(Lib.BuilderAtF 141 5 B b (.pointer (some ⟨b,0,none⟩)) (bs++Lib.strCells s) w'∧Below B w w'):=Any.Builder_WriteString_f Fi DH B b bs s w h hlen hBw
theorem wStr (B b:Nat) (l:List UInt8) (w:World) (h:Lib.IsBuilderF 141 5 B b (Lib.byteCells l) w) (hBw:B≤w.heap.size) :
  Calls Tryd.prog 110 #[.pointer (some ⟨b,0,none⟩)] w fun e w'=>e=.returned (.string ⟨l.toArray⟩)∧(Lib.IsBuilderF 141 5 B b (Lib.byteCells l) w'∧Below B w w'):=Any.Builder_String_any_f Fh DH B b l w h hBw
end
section
open Go.Shelf
set_option maxRecDepth 100000
set_option maxHeartbeats 4000000
theorem HE (w:World) (a:Nat) (o c:Nat) (_:2≤c) (h0:w.cell? ⟨a,o,none⟩=some (.int .i64 2)) (h1:w.cell? ⟨a,o+1,none⟩=some (.int .i64 7)) (h2:w.cell? ⟨a,o+2,none⟩=some (.int .i64 0)) (h3:w.cell? ⟨a,o+3,none⟩=some (.int .i64 1))
  (h4:w.cell? ⟨a,o+4,none⟩=some (.int .i64 1)) (h5:w.cell? ⟨a,o+5,none⟩=some (.int .i64 7)) (h6:w.cell? ⟨a,o+6,none⟩=some (.int .i64 0)) (h7:w.cell? ⟨a,o+7,none⟩=some (.int .i64 1))
  (hf:Calls Tryd.prog 105 #[.slice (some ⟨a,o,none⟩) 2 c,(.func (.func 106) #[] #[])] w fun e w'=>e=.returned (.bool false)∧Below w.heap.size w w') :
  Calls Tryd.prog 76 #[.slice (some ⟨a,o,none⟩) 2 c] w fun e w'=>e=.returned (.tuple #[.string ⟨#[119,97,110,116,115,32,55,32,49,10,116,97,108,108,121,32,55,32,48,32,49,10]⟩,.int .i64 0])∧Below w.heap.size w w':=by
 have ha:a < w.heap.size:=by
  unfold World.cell? at h0
  simp only at h0
  rcases Nat.lt_or_ge a w.heap.size with h | h
  ·exact h
  ·rw [Array.getElem?_eq_none h] at h0;cases h0
 go_enter Tryd.func76,Tryd.ntmps76
 go_wp2_with (go_at_call 105;refine hf.mono ?_)
 rintro e w1 ⟨rfl,b1⟩
 have ha1:a < w1.heap.size:=Mi ha b1.size
 have g0:=(b1.cell (p:=⟨a,o,none⟩) ha).trans h0
 have g1:=(b1.cell (p:=⟨a,o+1,none⟩) ha).trans h1
 have g2:=(b1.cell (p:=⟨a,o+2,none⟩) ha).trans h2
 have g3:=(b1.cell (p:=⟨a,o+3,none⟩) ha).trans h3
 have g4:=(b1.cell (p:=⟨a,o+4,none⟩) ha).trans h4
 have g5:=(b1.cell (p:=⟨a,o+5,none⟩) ha).trans h5
 have g6:=(b1.cell (p:=⟨a,o+6,none⟩) ha).trans h6
 have g7:=(b1.cell (p:=⟨a,o+7,none⟩) ha).trans h7
 clear h0 h1 h2 h3 h4 h5 h6 h7 hf
 go_wp2
 refine wp_loop_rounds 3 ?_
 rw [rounds_succ]
 go_wp2_with (go_at_call 109;refine (row2 _ _ (by simp [go_sem]) (by simp [go_sem])).mono ?_)
 rintro e w2 ⟨rfl,rfl⟩
 have k0:Lib.IsBuilderF 141 5 w1.heap.size w1.heap.size [] (w1.alloc (.cells #[.pointer none,.slice none 0 0] 141)):=Lib.IsBuilderF.of (Lib.fresh_isBuilder 141 5 w1)
 have c0:Below w1.heap.size w1 (w1.alloc (.cells #[.pointer none,.slice none 0 0] 141)):=(Below.refl _ w1).alloc (Kg _) _
 go_wp2_with (go_at_call 108;refine (wS w1.heap.size w1.heap.size [] _ _ ((k0.imp (·.alloc _) (·.alloc _)).imp (·.alloc _) (·.alloc _)) (by decide) (((c0.alloc c0.size _).alloc (c0.alloc c0.size _).size _).size)).mono ?_)
 rintro e w3 ⟨rfl,k3,d3⟩
 have c3:=((c0.alloc c0.size _).alloc (c0.alloc c0.size _).size _).trans d3
 clear d3 k0 c0
 have ha3:a < w3.heap.size:=Mi ha1 c3.size
 have f4:=(c3.cell (p:=⟨a,o+4,none⟩) ha1).trans g4
 have f5:=(c3.cell (p:=⟨a,o+5,none⟩) ha1).trans g5
 have f6:=(c3.cell (p:=⟨a,o+6,none⟩) ha1).trans g6
 have f7:=(c3.cell (p:=⟨a,o+7,none⟩) ha1).trans g7
 clear g0 g1 g2 g3 g4 g5 g6 g7
 go_wp2
 rw [rounds_succ]
 go_wp2_with (go_at_call 109;refine (row3 _ _ (by simp [go_sem]) (by simp [go_sem]) (by simp [go_sem])).mono ?_)
 rintro e w4 ⟨rfl,rfl⟩
 have c4:=(c3.alloc c3.size (.cells #[.int .i64 1,.int .i64 7,.int .i64 0,.int .i64 1] 87)).alloc ((c3.alloc c3.size (.cells #[.int .i64 1,.int .i64 7,.int .i64 0,.int .i64 1] 87)).size) (.cells #[.int .i64 7,.int .i64 0,.int .i64 1] 3)
 go_wp2_with (go_at_call 108;refine (wS w1.heap.size w1.heap.size _ _ _ (.inr ((k3.alloc _).alloc _)) (by decide) c4.size).mono ?_)
 rintro e w5 ⟨rfl,k5,d5⟩
 have c5:=c4.trans d5
 clear d5 c4 k3 f4 f5 f6 f7
 go_wp2
 rw [rounds_succ]
 have k6:Lib.IsBuilderF 141 5 w1.heap.size w1.heap.size (Lib.byteCells [119,97,110,116,115,32,55,32,49,10,116,97,108,108,121,32,55,32,48,32,49,10]) w5:=.inr k5
 go_wp2_with (go_at_call 110;refine (wStr w1.heap.size w1.heap.size _ _ k6 c5.size).mono ?_)
 rintro e w6 ⟨rfl,_,d6⟩
 go_wp2
 go_ret2
 refine ⟨rfl,?_⟩
 have c6:=c5.trans d6
 exact b1.trans ⟨c6.os,c6.tape,c6.output,c6.size,fun k hk=>c6.block k (Mi hk b1.size)⟩
end
section
set_option maxRecDepth 100000
set_option maxHeartbeats 0
def r6 (p:Int) (bs:D) (l:D) (h e:Int):az:=some (0,[.d (il p),.d bs,.d l,.d (il h),.d (il e)])
def na:D:=.sl 2 [[il 7,il 11]]
def bD (a b c d:Int):List D:=[il a,il b,il c,il d]
def lc (p:Int) (l:D) (h:Int):List D:=[il p,na,l,il h]
def yl:D:=.lit (.slice none 0 0)
theorem FM:FN 14 9 [il 0,na]=r6 0 na yl 0 0:=by kernel_rfl
theorem FL:FN 14 9 [il 1,na]=r6 1 na yl 0 0:=by kernel_rfl
theorem FK:FN 14 9 [il 3,na]=r6 3 na yl 0 0:=by kernel_rfl
theorem e41:FN 14 41 (lc 3 yl 0++[il 7])=some (0,[.d (.sl 1 [[il 0],[il 1]]),.d (il 0)]):=by kernel_rfl
theorem e19:FN 14 19 (lc 1 yl 0++[il 7])=r6 1 na (.sl 4 [bD 2 7 0 1]) 0 0:=by kernel_rfl
theorem Aa:FN 14 43 (lc 1 (.sl 4 [bD 2 7 0 1]) 0++[il 0])=some (0,[.d (il 1),.d (il 0),.d (.sl 3 [[il 7,il 0,il 0]]),.d (il 0)]):=by kernel_rfl
theorem A7:FN 14 49 (lc 1 (.sl 4 [bD 2 7 0 1]) 0)=r6 1 na (.sl 4 [bD 2 7 0 1]) 1 0:=by kernel_rfl
theorem A9:FN 14 43 (lc 1 (.sl 4 [bD 2 7 0 1]) 1++[il 0])=some (0,[.d (il 1),.d (il 0),.d (.sl 3 [[il 7,il 0,il 1]]),.d (il 0)]):=by kernel_rfl
theorem Ac:FN 14 27 (lc 0 yl 0++[il 1,il 0,.sl 3 [[il 7,il 0,il 1]]])=r6 0 na (.sl 4 [bD 3 7 1 1]) 0 0:=by kernel_rfl
theorem e25:FN 14 25 (lc 0 (.sl 4 [bD 3 7 1 1]) 0)=r6 0 na (.sl 4 [bD 3 7 1 1,bD 1 7 1 1]) 0 0:=by kernel_rfl
theorem e29:FN 14 29 (lc 0 (.sl 4 [bD 3 7 1 1,bD 1 7 1 1]) 0++[il 7,il 1])=some (0,[.d (il 1),.d (il 0)]):=by kernel_rfl
theorem A6:FN 14 49 (lc 0 (.sl 4 [bD 3 7 1 1,bD 1 7 1 1]) 0)=r6 0 na (.sl 4 [bD 3 7 1 1,bD 1 7 1 1]) 2 0:=by kernel_rfl
theorem A8:FN 14 43 (lc 0 (.sl 4 [bD 3 7 1 1,bD 1 7 1 1]) 2++[il 1])=some (0,[.d (il 0),.d (il 1),.d (.sl 3 [[il 7,il 1,il 0]]),.d (il 0)]):=by kernel_rfl
theorem Ab:FN 14 27 (lc 1 (.sl 4 [bD 2 7 0 1]) 1++[il 0,il 1,.sl 3 [[il 7,il 1,il 0]]])=r6 1 na (.sl 4 [bD 2 7 0 1,bD 1 7 0 1]) 1 0:=by kernel_rfl
theorem e33:FN 14 33 (lc 1 (.sl 4 [bD 2 7 0 1,bD 1 7 0 1]) 1++[il 7,il 0])=some (0,[.d (bl true),.d (il 0)]):=by kernel_rfl
theorem e21:FN 14 21 (lc 1 (.sl 4 [bD 2 7 0 1,bD 1 7 0 1]) 1++[il 7])=r6 1 na (.sl 4 [bD 2 7 0 1,bD 1 7 0 1,bD 4 7 0 1,bD 2 7 0 2]) 1 0:=by kernel_rfl
theorem e47:FN 14 47 [.sl 4 [lc 0 (.sl 4 [bD 3 7 1 1,bD 1 7 1 1]) 2,lc 1 (.sl 4 [bD 2 7 0 1,bD 1 7 0 1,bD 4 7 0 1,bD 2 7 0 2]) 1,lc 3 yl 0],il 7]=some (0,[.d (.sl 1 [[il 1]]),.d (il 0)]):=by kernel_rfl
end
section
set_option maxRecDepth 100000
set_option maxHeartbeats 0
theorem xG:Tryd.prog.follows .mixedOrders=true:=by kernel_rfl
theorem xk:rp Tryd.prog (eI tb Tryd.prog):=fun f p h=>by
 have:(eI tb Tryd.prog).sp f=none:=rfl
 rw [this] at h;cases h
def EM:List (List D):=[bD 2 7 0 1,bD 1 7 0 1]
def AF:D:=.lit (.string ⟨#[119,97,110,116,115,32,55,32,49,10,116,97,108,108,121,32,55,32,48,32,49,10]⟩)
theorem e105:FN 8 105 [.sl 4 EM,.fn 106 []]=some (0,[.d (bl false)]):=by kernel_rfl
theorem sc105:SC Tryd.prog 105 [.one (.sl 4 EM),.one (.fn 106 [])] (.one (.d (bl false))) :=
 yF (P:=Tryd.prog) (T:=tb) xG xk 8 105 [.one,.one] [.sl 4 EM,.fn 106 []] _ 0 [.d (bl false)] [(false,[.d])] rfl rfl e105 rfl
theorem CL:SC Tryd.prog 76 [.one (.sl 4 EM)] (.tup [.one (.d AF),.one (.d (il 0))]):=by
 refine ⟨fun xs w=>enters_of Tryd.func76 (by kernel_rfl) rfl xs w,?_⟩
 intro w U vs hU hv
 obtain ⟨vs⟩:=vs
 simp only [VDF,In,DR] at hv
 obtain ⟨v,_,rfl,⟨a,c,rfl,hc,hm,hb⟩,rfl⟩:=hv
 obtain ⟨b,o,rfl,hb1,hr⟩:=hb (by decide)
 have hr':=hr
 simp only [EM,bD,RR,CR,DR,il,T8,Nat.reduceAdd] at hr
 obtain ⟨_,⟨⟨_,h0,rfl,_⟩,⟨_,h1,rfl,_⟩,⟨_,h2,rfl,_⟩,⟨_,h3,rfl,_⟩,_⟩,_,⟨⟨_,h4,rfl,_⟩,⟨_,h5,rfl,_⟩,⟨_,h6,rfl,_⟩,⟨_,h7,rfl,_⟩,_⟩,_⟩:=hr
 refine (HE w b o c hc h0 h1 h2 h3 h4 h5 h6 h7 ?_).mono ?_
 ·refine (sc105.2 w U _ hU ?_).mono ?_
  ·simp only [VDF,In,DR]
   exact ⟨_,_,rfl,⟨⟨b,o,none⟩,c,rfl,hc,hm,fun _=>⟨b,o,rfl,hb1,hr'⟩⟩,_,_,rfl,⟨#[],rfl,by simp [FR]⟩,rfl⟩
  ·rintro e w' ⟨v,U',bs,rfl,hbe,_,_,_,_,hrv⟩
   simp only [RvR,RcR,DR,bl] at hrv
   obtain ⟨_,rfl,_⟩:=hrv
   exact ⟨rfl,hbe⟩
 ·rintro e w' ⟨rfl,hbe⟩
  refine ⟨_,U,[],rfl,hbe,fun _ h=>h,fun x hx=>⟨Mi (hU x hx) hbe.size,.inl hx⟩,V9,by simp,?_⟩
  simp only [RvR,RvF,RcR,DR,AF,il]
  exact ⟨_,rfl,_,_,[],[],rfl,rfl,⟨rfl,rfl,rfl⟩,_,_,[],[],rfl,rfl,⟨rfl,rfl,rfl⟩,rfl,rfl⟩
end
end Go.VE
