/- Bell: the opening of a watch's book by the acts, where it runs in the place of its call. -/
import Derived.Test.YtaagapoglhndjaaDoorMg2
import Derived.Test.YtaagapoglhndjaaDoorMg1
namespace Go.VE
open Go.RowKit Go.Proofs
section
set_option maxRecDepth 100000
section
variable {Δ N R W M E Ω:Type} (p:Pr Δ N R W M E Ω)
def CS (a0 a1 a2 a3 a4: Δ):Ω:=(p.bnd (p.call 61 [a0]) [fun y0=>p.un .not (p.ld y0 0) fun x1=>p.cond x1 (p.out 0 [.d a4,.d (p.lit (.int .i64 92)),.d (p.lit (.int .i64 0)),.d (p.lit (.int .i64 0)),.d (p.lit (.int .i64 0)),.d (p.lit (.int .i64 0))]) (p.bnd (p.call 62 [a0,a1]) [fun y2=>p.un .not (p.ld y2 0) fun x3=>p.cond x3 (p.out 0 [.d a4,.d (p.lit (.int .i64 92)),.d (p.lit (.int .i64 0)),.d (p.lit (.int .i64 0)),.d (p.lit (.int .i64 0)),.d (p.lit (.int .i64 0))]) (p.lenD a2 fun x4=>p.bin .gtr false x4 (p.lit (.int .i64 120)) fun x5=>p.cond x5 (p.out 0 [.d a4,.d (p.lit (.int .i64 92)),.d (p.lit (.int .i64 0)),.d (p.lit (.int .i64 0)),.d (p.lit (.int .i64 0)),.d (p.lit (.int .i64 0))]) (p.lenD a2 fun x6=>p.bnd (p.call 68 [a3,(p.lit (.int .i64 0)),x6]) [fun y7=>p.un .not (p.ld y7 0) fun x8=>p.cond x8 (p.out 0 [.d a4,.d (p.lit (.int .i64 92)),.d (p.lit (.int .i64 0)),.d (p.lit (.int .i64 0)),.d (p.lit (.int .i64 0)),.d (p.lit (.int .i64 0))]) (p.bnd (p.call 63 [a1]) [fun y9=>p.lenD a2 fun x10=>p.mkN 32 x10 x10 fun n11=>p.rowsD 4 a2 fun r12=>p.eqN n11 (p.len (p.repl n11 [(p.lit (.int .i64 0)),(p.lit (.int .i64 0)),(p.lit (.int .i64 0)),(p.lit (.int .i64 0))])) (p.eqN n11 (p.len (p.repl n11 [(p.lit (.int .i64 0)),(p.lit (.int .i64 0)),(p.lit (.int .i64 0)),(p.lit (.int .i64 0))])) (p.lenD (p.ld y9 0) fun x13=>p.bnd (p.loop [(oE p)] 0 [.d (p.ld y9 0),.d x13,.d (p.lit (.int .i64 0)),.m p.emp,.d a0,.d (p.ld y9 0),.n n11,.n n11,.d a3,.d (p.lit (.int .i64 0)),.d (p.lit (.int .i64 0)),.d a0,.d a1,.d a2,.d a3,.d (p.lit (.int .i64 0)),.d (p.lit (.int .i64 0)),.r (p.app (p.seg r12 none n11) (p.seg (p.repl n11 [(p.lit (.int .i64 0)),(p.lit (.int .i64 0)),(p.lit (.int .i64 0)),(p.lit (.int .i64 0))]) (some (p.len r12)) n11)),.d a0,.d (p.ld y9 0),.n n11,.n n11,.d a3]) [fun y14=>p.eqN n11 (p.len (p.lr y14 14)) (p.eqN n11 (p.len (p.lr y14 14)) (p.bnd (p.call 1000095 [p.ld y14 1,p.ld y14 2,(p.natD (p.ln y14 3)),(p.natD (p.ln y14 4)),p.ld y14 5,(p.slD 4 (p.lr y14 14)),(p.mpD true (p.lm y14 0))]) [fun y15=>p.rowsD 4 (p.ld y15 6) fun r16=>p.asM true (p.ld y15 7) fun q17=>p.un .not (p.ld y15 0) fun x18=>p.cond x18 (p.out 0 [.d a4,.d (p.lit (.int .i64 92)),.d (p.ld y14 12),.d (p.ld y14 13),.d (p.ld y14 6),.d (p.ld y14 7)]) (p.out 1 [.d a4,.d (p.lit (.int .i64 0)),.m q17,.r r16,.d (p.ld y15 1),.d (p.ld y15 2),.n (p.dN (p.ld y15 3)),.n (p.dN (p.ld y15 4)),.d (p.ld y15 5),.d (p.ld y14 12),.d (p.ld y14 13),.d (p.ld y14 6),.d (p.ld y14 7)])]))]))])]))])])
def v7 (a0 a1 a2 a3: Δ):Ω:=(p.bnd (p.call 61 [a0]) [fun y0=>p.un .not (p.ld y0 0) fun x1=>p.cond x1 (p.out 0 [.d (p.lit (.int .i64 92)),.d (p.lit (.int .i64 0)),.d (p.lit (.int .i64 0))]) (p.bnd (p.call 62 [a0,a1]) [fun y2=>p.un .not (p.ld y2 0) fun x3=>p.cond x3 (p.out 0 [.d (p.lit (.int .i64 92)),.d (p.lit (.int .i64 0)),.d (p.lit (.int .i64 0))]) (p.lenD a2 fun x4=>p.bin .gtr false x4 (p.lit (.int .i64 120)) fun x5=>p.cond x5 (p.out 0 [.d (p.lit (.int .i64 92)),.d (p.lit (.int .i64 0)),.d (p.lit (.int .i64 0))]) (p.lenD a2 fun x6=>p.bnd (p.call 68 [a3,(p.lit (.int .i64 0)),x6]) [fun y7=>p.un .not (p.ld y7 0) fun x8=>p.cond x8 (p.out 0 [.d (p.lit (.int .i64 92)),.d (p.lit (.int .i64 0)),.d (p.lit (.int .i64 0))]) (p.bnd (p.call 63 [a1]) [fun y9=>p.lenD a2 fun x10=>p.mkN 32 x10 x10 fun n11=>p.rowsD 4 a2 fun r12=>p.eqN n11 (p.len (p.repl n11 [(p.lit (.int .i64 0)),(p.lit (.int .i64 0)),(p.lit (.int .i64 0)),(p.lit (.int .i64 0))])) (p.eqN n11 (p.len (p.repl n11 [(p.lit (.int .i64 0)),(p.lit (.int .i64 0)),(p.lit (.int .i64 0)),(p.lit (.int .i64 0))])) (p.lenD (p.ld y9 0) fun x13=>p.bnd (p.loop [(j9 p)] 0 [.d (p.ld y9 0),.d x13,.d (p.lit (.int .i64 0)),.m p.emp,.d a0,.d (p.ld y9 0),.n n11,.n n11,.d a3,.d (p.lit (.int .i64 0)),.d (p.lit (.int .i64 0)),.r (p.app (p.seg r12 none n11) (p.seg (p.repl n11 [(p.lit (.int .i64 0)),(p.lit (.int .i64 0)),(p.lit (.int .i64 0)),(p.lit (.int .i64 0))]) (some (p.len r12)) n11)),.d a0,.d (p.ld y9 0),.n n11,.n n11,.d a3]) [fun y14=>p.eqN n11 (p.len (p.lr y14 8)) (p.eqN n11 (p.len (p.lr y14 8)) (p.bnd (p.call 1000095 [p.ld y14 1,p.ld y14 2,(p.natD (p.ln y14 3)),(p.natD (p.ln y14 4)),p.ld y14 5,(p.slD 4 (p.lr y14 8)),(p.mpD true (p.lm y14 0))]) [fun y15=>p.rowsD 4 (p.ld y15 6) fun r16=>p.asM true (p.ld y15 7) fun q17=>p.un .not (p.ld y15 0) fun x18=>p.cond x18 (p.out 0 [.d (p.lit (.int .i64 92)),.d (p.ld y14 6),.d (p.ld y14 7)]) (p.out 1 [.d (p.lit (.int .i64 0)),.m q17,.r r16,.d (p.ld y15 1),.d (p.ld y15 2),.n (p.dN (p.ld y15 3)),.n (p.dN (p.ld y15 4)),.d (p.ld y15 5),.d (p.ld y14 6),.d (p.ld y14 7)])]))]))])]))])])
def CU (a0 a1 a2 a3 a4 a5 a6: Δ):Ω:=(p.bnd (p.call 61 [a0]) [fun y0=>p.un .not (p.ld y0 0) fun x1=>p.cond x1 (p.out 0 [.d a4,.d a5,.d a6,.d (p.lit (.int .i64 92)),.d (p.lit (.int .i64 0)),.d (p.lit (.int .i64 0))]) (p.bnd (p.call 62 [a0,a1]) [fun y2=>p.un .not (p.ld y2 0) fun x3=>p.cond x3 (p.out 0 [.d a4,.d a5,.d a6,.d (p.lit (.int .i64 92)),.d (p.lit (.int .i64 0)),.d (p.lit (.int .i64 0))]) (p.lenD a2 fun x4=>p.bin .gtr false x4 (p.lit (.int .i64 120)) fun x5=>p.cond x5 (p.out 0 [.d a4,.d a5,.d a6,.d (p.lit (.int .i64 92)),.d (p.lit (.int .i64 0)),.d (p.lit (.int .i64 0))]) (p.lenD a2 fun x6=>p.bnd (p.call 68 [a3,(p.lit (.int .i64 0)),x6]) [fun y7=>p.un .not (p.ld y7 0) fun x8=>p.cond x8 (p.out 0 [.d a4,.d a5,.d a6,.d (p.lit (.int .i64 92)),.d (p.lit (.int .i64 0)),.d (p.lit (.int .i64 0))]) (p.bnd (p.call 63 [a1]) [fun y9=>p.lenD a2 fun x10=>p.mkN 32 x10 x10 fun n11=>p.rowsD 4 a2 fun r12=>p.eqN n11 (p.len (p.repl n11 [(p.lit (.int .i64 0)),(p.lit (.int .i64 0)),(p.lit (.int .i64 0)),(p.lit (.int .i64 0))])) (p.eqN n11 (p.len (p.repl n11 [(p.lit (.int .i64 0)),(p.lit (.int .i64 0)),(p.lit (.int .i64 0)),(p.lit (.int .i64 0))])) (p.lenD (p.ld y9 0) fun x13=>p.bnd (p.loop [(j9 p)] 0 [.d (p.ld y9 0),.d x13,.d (p.lit (.int .i64 0)),.m p.emp,.d a0,.d (p.ld y9 0),.n n11,.n n11,.d a3,.d (p.lit (.int .i64 0)),.d (p.lit (.int .i64 0)),.r (p.app (p.seg r12 none n11) (p.seg (p.repl n11 [(p.lit (.int .i64 0)),(p.lit (.int .i64 0)),(p.lit (.int .i64 0)),(p.lit (.int .i64 0))]) (some (p.len r12)) n11)),.d a0,.d (p.ld y9 0),.n n11,.n n11,.d a3]) [fun y14=>p.eqN n11 (p.len (p.lr y14 8)) (p.eqN n11 (p.len (p.lr y14 8)) (p.bnd (p.call 1000095 [p.ld y14 1,p.ld y14 2,(p.natD (p.ln y14 3)),(p.natD (p.ln y14 4)),p.ld y14 5,(p.slD 4 (p.lr y14 8)),(p.mpD true (p.lm y14 0))]) [fun y15=>p.rowsD 4 (p.ld y15 6) fun r16=>p.asM true (p.ld y15 7) fun q17=>p.un .not (p.ld y15 0) fun x18=>p.cond x18 (p.out 0 [.d a4,.d a5,.d a6,.d (p.lit (.int .i64 92)),.d (p.ld y14 6),.d (p.ld y14 7)]) (p.out 1 [.d a4,.d a5,.d a6,.d (p.lit (.int .i64 0)),.m q17,.r r16,.d (p.ld y15 1),.d (p.ld y15 2),.n (p.dN (p.ld y15 3)),.n (p.dN (p.ld y15 4)),.d (p.ld y15 5),.d (p.ld y14 6),.d (p.ld y14 7)])]))]))])]))])])
end
theorem l19 (n:Nat) (o:Option (List aJ)) (hl:(o.getD []).length≤4611686018427387904) (hr:kw (o.getD [])) (c0:D) (c1:D) (c2:Nat) (c3:Nat) (c4:D) (c5:D) (c6:D) (c7:D) (c8:D) (c9:D) (c10:D) (c11:D) (c12:D) (c13:Rr) (c14:D) (c15:D) (c16:Nat) (c17:Nat) (c18:D) :
  bm [oE (RP n)] M0 0 [.d (dB o),.d (il (o.getD []).length),.d (il 0),.m ([],[]),.d c0,.d c1,.n c2,.n c3,.d c4,.d c5,.d c6,.d c7,.d c8,.d c9,.d c10,.d c11,.d c12,.r c13,.d c14,.d c15,.n c16,.n c17,.d c18] =
   some (0,[.m (mapM (o.getD []) (new (o.getD []))),.d c0,.d c1,.n c2,.n c3,.d c4,.d c5,.d c6,.d c7,.d c8,.d c9,.d c10,.d c11,.d c12,.r c13,.d c14,.d c15,.n c16,.n c17,.d c18]):=by
 have:=bA (β:=Unit) (o.getD []) hl (oE (RP n)) (fun i _=>[.d (dB o),.d (il (o.getD []).length),.d (il i),.m (mapM ((o.getD []).take i) (new ((o.getD []).take i))),.d c0,.d c1,.n c2,.n c3,.d c4,.d c5,.d c6,.d c7,.d c8,.d c9,.d c10,.d c11,.d c12,.r c13,.d c14,.d c15,.n c16,.n c17,.d c18]) (fun _ _=>True)
  (fun _ _ _=>some (0,[.m (mapM (o.getD []) (new (o.getD []))),.d c0,.d c1,.n c2,.n c3,.d c4,.d c5,.d c6,.d c7,.d c8,.d c9,.d c10,.d c11,.d c12,.r c13,.d c14,.d c15,.n c16,.n c17,.d c18])) ?_ ?_ M0 () trivial (dM hl)
 ·exact this
 ·intro _ k _
  simp [oE,Mb]
 ·intro i e r _ k hi hd hlt hw _ ih
  have hlt':(i:Int) < ((o.getD []).length:Int):=by omega
  have ih':=ih () trivial
  rw [bn,gH hi,iU] at ih'
  have hadd:=fun k=>nq (Fn:=FN n) (FnD:=dq Tryd.prog (eI tb Tryd.prog) (FN n)) (m:=M0) (bU ((o.getD []).take i)) (kX hr hi) fd0 k
  have hlen:((o.getD []).take i).length=i:=by simp;omega
  simp only [kA,hlen] at hadd
  simp only [oE,mapM,ah,aj,aF,aH,ao,aw,aq,av,aU,hlt',Jr,ag,Js,eK hi,lj,aD,b6,dl,bh,bI,aR,ak,aZ,aO,Jp,bU,hlen,hadd,b7,hw]
  exact ih'
theorem op9 (n:Nat) (me h:Int) (b:Option (List aJ)) (o:Option (List ba)) (a:D) (hl:(o.getD []).length≤4611686018427387904) (hb:(b.getD []).length≤4611686018427387904) :
  CS (RP (n+4)) (il me) (dB b) (dS o) (il h) a=if ck me (b.getD []) (o.getD []) h=true then some (1,[.d a,.d (il 0),.m (mapM (b.getD []) (pg me (b.getD []) (o.getD []))),.r ((o.getD []).map rS),.d (il me),.d (dB b),.n (o.getD []).length,.n (o.getD []).length,.d (il h),.d (il 0),.d (il 0),.d (il 0),.d (il 0)]) else some (0,[.d a,.d (il 92),.d (il 0),.d (il 0),.d (il 0),.d (il 0)]):=by
 simp only [CS,aC,xq,Gq _ _ _ hb,xp,cX,ae,ah,aY,ag,aL,ak,cN,ck]
 by_cases h1:gz me=true
 ·by_cases h2:cr me (b.getD [])=true
  ·have h2':=h2
   simp only [cr,Jn,Jq] at h2'
   by_cases h3:(o.getD []).length≤120
   ·have h3':¬ ((120:Int) < (o.getD []).length):=by omega
    by_cases h4:fg h 0 (o.getD []).length=true
    ·have hmk:0≤((o.getD []).length:Int)∧((32:Nat):Int)*((o.getD []).length:Int)≤140737488355328∧((o.getD []).length:Int)≤9223372036854775807:=by omega
     simp only [h1,h2,h3,h3',h4,K7,Jl,Ju,Js,Jr,Jt,Ki,Gp _ _ h2'.2,ae,ah,jP,hmk,Kt,K4,iO,jO,aO,List.length_replicate,b6,cX,mo,bh,be,jN,br,Jp]
     have hseg:=gN ((o.getD []).map rS) [il 0,il 0,il 0,il 0]
     rw [Jp] at hseg
     rw [hseg,l19 _ _ hb (eB h2'.1)]
     simp only [ae,ah,aj,aF,ao,aw,aq,av,Jp,Js,ci,cS,fY,mapM]
     rw [gP _ _ hb (cu h2) _ (by omega) _ _ _ _ _ (bU _)]
     simp only [ae,ah,aj,cT,aY,ag,l6]
     have ha:∀ (a:List Value) (b:Rr) (k:Mr→az),(RP (n+4)).asM true (.mp true a b) k=k (a,b):=fun _ _ _=>rfl
     rw [ha]
     simp only [pg]
     rw [show (b.getD []).map (fun _=>fd0)=new (b.getD []) from rfl]
     cases (bF me (b.getD []) (new (b.getD [])) (o.getD [])).2<;>rfl
    ·simp [h1,h2,h3,h3',h4]
   ·have h3':((120:Int) < (o.getD []).length):=by omega
    simp [h1,h2,h3,h3']
  ·simp [h1,h2]
 ·simp [h1]
theorem HL (n:Nat) (me h:Int) (b:Option (List aJ)) (o:Option (List ba)) (hl:(o.getD []).length≤4611686018427387904) (hb:(b.getD []).length≤4611686018427387904) :
  v7 (RP (n+4)) (il me) (dB b) (dS o) (il h)=if ck me (b.getD []) (o.getD []) h=true then some (1,[.d (il 0),.m (mapM (b.getD []) (pg me (b.getD []) (o.getD []))),.r ((o.getD []).map rS),.d (il me),.d (dB b),.n (o.getD []).length,.n (o.getD []).length,.d (il h),.d (il 0),.d (il 0)]) else some (0,[.d (il 92),.d (il 0),.d (il 0)]):=by
 simp only [v7,aC,xq,Gq _ _ _ hb,xp,cX,ae,ah,aY,ag,aL,ak,cN,ck]
 by_cases h1:gz me=true
 ·by_cases h2:cr me (b.getD [])=true
  ·have h2':=h2
   simp only [cr,Jn,Jq] at h2'
   by_cases h3:(o.getD []).length≤120
   ·have h3':¬ ((120:Int) < (o.getD []).length):=by omega
    by_cases h4:fg h 0 (o.getD []).length=true
    ·have hmk:0≤((o.getD []).length:Int)∧((32:Nat):Int)*((o.getD []).length:Int)≤140737488355328∧((o.getD []).length:Int)≤9223372036854775807:=by omega
     simp only [h1,h2,h3,h3',h4,K7,Jl,Ju,Js,Jr,Jt,Ki,Gp _ _ h2'.2,ae,ah,jP,hmk,Kt,K4,iO,jO,aO,List.length_replicate,b6,cX,mo,bh,be,jN,br,Jp]
     have hseg:=gN ((o.getD []).map rS) [il 0,il 0,il 0,il 0]
     rw [Jp] at hseg
     rw [hseg,l43 _ _ hb (eB h2'.1)]
     simp only [ae,ah,aj,aF,ao,aw,aq,av,Jp,Js,ci,cS,fY,mapM]
     rw [gP _ _ hb (cu h2) _ (by omega) _ _ _ _ _ (bU _)]
     simp only [ae,ah,aj,cT,aY,ag,l6]
     have ha:∀ (a:List Value) (b:Rr) (k:Mr→az),(RP (n+4)).asM true (.mp true a b) k=k (a,b):=fun _ _ _=>rfl
     rw [ha]
     simp only [pg]
     rw [show (b.getD []).map (fun _=>fd0)=new (b.getD []) from rfl]
     cases (bF me (b.getD []) (new (b.getD [])) (o.getD [])).2<;>rfl
    ·simp [h1,h2,h3,h3',h4]
   ·have h3':((120:Int) < (o.getD []).length):=by omega
    simp [h1,h2,h3,h3']
  ·simp [h1,h2]
 ·simp [h1]
theorem op27 (n:Nat) (me h:Int) (b:Option (List aJ)) (o:Option (List ba)) (x:D) (y:D) (z:D) (hl:(o.getD []).length≤4611686018427387904) (hb:(b.getD []).length≤4611686018427387904) :
  CU (RP (n+4)) (il me) (dB b) (dS o) (il h) x y z=if ck me (b.getD []) (o.getD []) h=true then some (1,[.d x,.d y,.d z,.d (il 0),.m (mapM (b.getD []) (pg me (b.getD []) (o.getD []))),.r ((o.getD []).map rS),.d (il me),.d (dB b),.n (o.getD []).length,.n (o.getD []).length,.d (il h),.d (il 0),.d (il 0)]) else some (0,[.d x,.d y,.d z,.d (il 92),.d (il 0),.d (il 0)]):=by
 simp only [CU,aC,xq,Gq _ _ _ hb,xp,cX,ae,ah,aY,ag,aL,ak,cN,ck]
 by_cases h1:gz me=true
 ·by_cases h2:cr me (b.getD [])=true
  ·have h2':=h2
   simp only [cr,Jn,Jq] at h2'
   by_cases h3:(o.getD []).length≤120
   ·have h3':¬ ((120:Int) < (o.getD []).length):=by omega
    by_cases h4:fg h 0 (o.getD []).length=true
    ·have hmk:0≤((o.getD []).length:Int)∧((32:Nat):Int)*((o.getD []).length:Int)≤140737488355328∧((o.getD []).length:Int)≤9223372036854775807:=by omega
     simp only [h1,h2,h3,h3',h4,K7,Jl,Ju,Js,Jr,Jt,Ki,Gp _ _ h2'.2,ae,ah,jP,hmk,Kt,K4,iO,jO,aO,List.length_replicate,b6,cX,mo,bh,be,jN,br,Jp]
     have hseg:=gN ((o.getD []).map rS) [il 0,il 0,il 0,il 0]
     rw [Jp] at hseg
     rw [hseg,l43 _ _ hb (eB h2'.1)]
     simp only [ae,ah,aj,aF,ao,aw,aq,av,Jp,Js,ci,cS,fY,mapM]
     rw [gP _ _ hb (cu h2) _ (by omega) _ _ _ _ _ (bU _)]
     simp only [ae,ah,aj,cT,aY,ag,l6]
     have ha:∀ (a:List Value) (b:Rr) (k:Mr→az),(RP (n+4)).asM true (.mp true a b) k=k (a,b):=fun _ _ _=>rfl
     rw [ha]
     simp only [pg]
     rw [show (b.getD []).map (fun _=>fd0)=new (b.getD []) from rfl]
     cases (bF me (b.getD []) (new (b.getD [])) (o.getD [])).2<;>rfl
    ·simp [h1,h2,h3,h3',h4]
   ·have h3':((120:Int) < (o.getD []).length):=by omega
    simp [h1,h2,h3,h3']
  ·simp [h1,h2]
 ·simp [h1]
end
section
set_option maxRecDepth 100000
theorem eL23:@GR=@oE:=rfl
theorem eL21:@GS=@oE:=rfl
theorem eL25:@GQ=@j9:=rfl
theorem eL27:@GP=@j9:=rfl
theorem yg {a b:Nat} (ha:a≤120000) (hb:b≤120000):(a+b)*32≤140737488355328∧a+b≤9223372036854775807:=by omega
section
variable {n:Nat}
theorem gT (a:List Value) (b:Rr) (k:Mr→az):(RP n).asM true (.mp true a b) k=k (a,b):=rfl
end
theorem mU (l:List ba) (s:List ba):(l.map rS++s.map rS).take (l.length+s.length)=(l++s).map rS:=by
 rw [M6];exact Kd (by simp)
theorem jq (l:List ba):dS (some l)=.sl 4 (l.map rS):=rfl
theorem jg {me h:Int} {bs:List aJ} {ss:List ba} (ho:ck me bs ss h=true):ss.length≤120:=by
 simp only [ck,Jn,Jq] at ho
 exact ho.2.2.1
theorem eF {me h:Int} {bs:List aJ} {ss:List ba} (ho:ck me bs ss h=true):∀ c∈bs,lw c.2:=by
 simp only [ck,Jn] at ho
 exact cu ho.2.1
theorem s19 (n:Nat) (me h:Int) (b:Option (List aJ)) (o:Option (List ba)) (fld:Int) (hl:(o.getD []).length≤4611686018427387904) (hb:(b.getD []).length≤4611686018427387904) :
  FN (n+6) 19 [il me,dB b,dS o,il h,il fld]=oM me (b.getD []) (o.getD []) h fld gB fun j=>fA me h b (o.getD []) (wantX fld (fl me (b.getD []) (o.getD []) j)):=by
 rw [FS,IY]
 have hop:CS (RP (n+5)) (il me) (dB b) (dS o) (il h) (il fld)=_:=op9 (n+1) me h b o (il fld) hl hb
 unfold G19
 refine fJ hop ?_
 unfold oM
 by_cases h1:ck me (b.getD []) (o.getD []) h=true
 ·simp only [h1,Js,ae,bf,ah,aj,aF,aH,ao,aw,aq,av,ak,bP,aU,T3,Mk,Jt,ag,Jl,Ju,Js,aL,aC,cy,l4 _ _ hb,ee,Jq]
  cases hx:cM fld (b.getD []) with
  | none=>simp [gB,ed]
  | some j =>
   obtain ⟨e,he,hfld,hg,hj⟩:=fS hx
   have h6:=eF h1 e (K2 he)
   have hf:=jv h1 hj
   have hr:=hH h1 j
   have hlen:=jg h1
   have hN:¬ ((120:Int) < ((o.getD []).length:Int)):=by omega
   have hN1:((120:Int) < (((o.getD []).length+1:Nat):Int))↔120 < (o.getD []).length+1:=by omega
   have hsl:((o.getD []).map rS).take (o.getD []).length=(o.getD []).map rS:=Kd (by simp)
   simp only [reduceCtorEq,Ju,lG hx,eK he,cK,hx,bE,aS hf,aN,aD,bV,bi,Nat.reduceAdd,Nat.reduceLeDiff,Js,Jv,df,cF]
   generalize hf0:fl me (b.getD []) (o.getD []) j=f at hf hr ⊢
   by_cases g1:f.opn=true
   ·simp [wantX,g1,fA,gB,ed]
   ·have g1':f.opn=false:=by simpa using g1
    have hw:IntKind.i64.wrap (f.wants+1)=f.wants+1:=by have:=hr.1;exact fO (by omega) (by omega)
    have hc:=gO (n+1) b hb (eF h1) [(2,fld,0,f.wants+1)] (by simp) ((o.getD []).map rS) me (il h) (o.getD []).length (o.getD []).length (pg me (b.getD []) (o.getD [])) (jU (bw h1) _)
    have hap:=mU (o.getD []) [(2,fld,0,f.wants+1)]
    have hfit:=yg (a:=(o.getD []).length) (b:=1) (by omega) (by omega)
    simp only [Jx,Jy,Jv,Jz,Ky,rS] at hc hap
    by_cases g2:f.wants.tmod 2=1
    ·have g3:fe f.wants=true:=by simp [fe,g2]
     have g5:¬ (120 < (o.getD []).length):=by omega
     simp [wantX,g1',g2,g3,fA,hN,g5,jq,lg _ _ _ _ (show (2:Int)≠0 by decide)]
     exact hsl
    ·have g3:fe f.wants=false:=by simp [fe,g2]
     simp only [wantX,g1',g3,Jl,Ju,fA,lg _ _ _ _ (show (2:Int)≠0 by decide),bo,g2,Jt,ag,b7,hw,Jx,Jy,Jv,Js]
     simp only [ci,cS,fY,mapM,aR,hc,ae,ah,aj,cT,gT,l6,aO,Jp,Jx,Jy,Jv,b6,Js,bp,hfit,Kt,cN,hN1,ag,Jq,bh,be,K0,hap]
     by_cases g4:120 < (o.getD []).length+1
     ·simp [g4,gB,ed]
     ·simp [g4,jq,rS]
 ·simp [h1,gB,ed]
theorem s23 (n:Nat) (me h:Int) (b:Option (List aJ)) (o:Option (List ba)) (fld:Int) (hl:(o.getD []).length≤4611686018427387904) (hb:(b.getD []).length≤4611686018427387904) :
  FN (n+6) 23 [il me,dB b,dS o,il h,il fld]=oM me (b.getD []) (o.getD []) h fld gB fun j=>fA me h b (o.getD []) (shutX fld (fl me (b.getD []) (o.getD []) j)):=by
 rw [FS,IW]
 have hop:CS (RP (n+5)) (il me) (dB b) (dS o) (il h) (il fld)=_:=op9 (n+1) me h b o (il fld) hl hb
 unfold G23
 rw [eL23]
 refine fJ hop ?_
 unfold oM
 by_cases h1:ck me (b.getD []) (o.getD []) h=true
 ·simp only [h1,Js,ae,bf,ah,aj,aF,aH,ao,aw,aq,av,ak,bP,aU,T3,Mk,Jt,ag,Jl,Ju,Js,aL,aC,cy,l4 _ _ hb,ee,Jq]
  cases hx:cM fld (b.getD []) with
  | none=>simp [gB,ed]
  | some j =>
   obtain ⟨e,he,hfld,hg,hj⟩:=fS hx
   have h6:=eF h1 e (K2 he)
   have hf:=jv h1 hj
   have hr:=hH h1 j
   have hlen:=jg h1
   have hN:¬ ((120:Int) < ((o.getD []).length:Int)):=by omega
   have hN1:((120:Int) < (((o.getD []).length+1:Nat):Int))↔120 < (o.getD []).length+1:=by omega
   have hsl:((o.getD []).map rS).take (o.getD []).length=(o.getD []).map rS:=Kd (by simp)
   simp only [reduceCtorEq,Ju,lG hx,eK he,cK,hx,bE,aS hf,aN,aD,bV,bi,Nat.reduceAdd,Nat.reduceLeDiff,Js,Jv,df]
   generalize hf0:fl me (b.getD []) (o.getD []) j=f at hf hr ⊢
   by_cases g1:f.opn=true
   ·have hc:=gO (n+1) b hb (eF h1) [(4,fld,0,0)] (by simp) ((o.getD []).map rS) me (il h) (o.getD []).length (o.getD []).length (pg me (b.getD []) (o.getD [])) (jU (bw h1) _)
    have hap:=mU (o.getD []) [(4,fld,0,0)]
    have hfit:=yg (a:=(o.getD []).length) (b:=1) (by omega) (by omega)
    simp only [Jx,Jy,Jv,Jz,Ky,rS] at hc hap
    simp only [shutX,g1,Js,fA,aY,K7,Jl,Ju,ag,Jx,Jy,Jv]
    simp only [ci,cS,fY,mapM,aR,hc,ae,ah,aj,cT,gT,l6,aO,Jp,Jx,Jy,Jv,b6,Js,bp,hfit,Kt,cN,hN1,ag,Jq,bh,be,K0,hap]
    by_cases g4:120 < (o.getD []).length+1
    ·simp [g4,gB,ed]
    ·simp [g4,jq,rS]
   ·simp [shutX,g1,fA,gB,ed,aY]
 ·simp [h1,gB,ed]
end
section
set_option maxRecDepth 100000
theorem kG {me:Int} {bs:List aJ} {fs:List Fld} {s:ba} {j:Nat} {f g:Fld} (hs:iL s=true) (hx:cM s.2.1 bs=some j) (hf:fs[j]?=some f) (hg:aV me (bs.getD j (0,0)).2 f s=some g):bF me bs fs [s]=(fs.set j g,true):=by
 have e:fs.getD j fd0=f:=eH _ hf
 simp only [bF,hs,Js,hx,e,hg]
theorem iq {me h:Int} {bs:List aJ} {ss:List ba} (ho:ck me bs ss h=true) {fld:Int} {j:Nat} (hx:cM fld bs=some j):fg fld 1 99=true:=by
 obtain ⟨e,he,rfl,-,-⟩:=fS hx
 simp only [ck,cr,Jn] at ho
 have:=(kJ ho.2.1.1 e (K2 he)).1
 simp only [xB,HN,Jn] at this
 exact this.1.1
theorem l21 (n:Nat) {e:aJ} (me:Int) {bs:List aJ} {fs:List Fld} {j:Nat} {f:Fld} (hx:cM e.1 bs=some j) (hf:fs[j]?=some f) (h6:lw e.2) (c1 c2 cB ch z1 z2:D) (R:Rr) (n1 n2:Nat) :
  bm [wF (RP (n+3)) (rB e),wE (RP (n+3)) (rB e)] M0 0 [.d (il e.1),.d (il e.2),.d (il 0),.d c1,.d c2,.m (mapM bs fs),.r R,.d (il me),.d cB,.n n1,.n n2,.d ch,.d z1,.d z2]=uk (some (0,[.d c1,.d c2,.m (mapM bs fs),.r R,.d (il me),.d cB,.n n1,.n n2,.d ch,.d z1,.d z2])) (fun acc=>some (1,[.r acc,.n acc.length,.n acc.length,.d c1,.d c2,.m (mapM bs fs),.r R,.d (il me),.d cB,.n n1,.n n2,.d ch,.d z1,.d z2])) ((bQ me e.2 f).map rN):=by
 have hmm:=Fd me e.2 f
 unfold D2 at hmm
 have:=wc 6 (by omega) (uF (fun (o:Nat)=>!decide ((o:Int)=me)&&(e.2.toNat.testBit o&&!aK me o (f.no o))) rN) (wF (RP (n+3)) (rB e)) (wE (RP (n+3)) (rB e)) (fun i=>[.d (il e.1),.d (il e.2),.d (il i),.d c1,.d c2,.m (mapM bs fs),.r R,.d (il me),.d cB,.n n1,.n n2,.d ch,.d z1,.d z2])
  (fun i acc=>[.d (il e.1),.d (il e.2),.d (il i),.r acc,.n acc.length,.n acc.length,.d c1,.d c2,.m (mapM bs fs),.r R,.d (il me),.d cB,.n n1,.n n2,.d ch,.d z1,.d z2]) (some (0,[.d c1,.d c2,.m (mapM bs fs),.r R,.d (il me),.d cB,.n n1,.n n2,.d ch,.d z1,.d z2])) (fun acc=>some (1,[.r acc,.n acc.length,.n acc.length,.d c1,.d c2,.m (mapM bs fs),.r R,.d (il me),.d cB,.n n1,.n n2,.d ch,.d z1,.d z2])) ?_ ?_ ?_ ?_
 ·rw [oR,hmm] at this
  exact this
 ·intro k;simp [wF]
 ·intro k a t _;simp [wE]
 ·intro i k hi hw
  have hle:3*i+1≤20:=by omega
  simp only [wF,show ((i:Int) < 6) by omega,fit0 8 (by decide),hle,eu _ hi,Co,lj,ah,aj,aF,aH,ao,aw,aq,av,ak,aU,Jr,ag,Js,bP,aC,ae,aY,aD,kB hi,aN,cc,bV,bE,cK,aS hf,bi,Jv,Kk,aR,aO,Jx,Jy,b6,be,List.take,bp,Kt,b7,hw,bn,hx,uF,rN,r8 _ _ h6,cq hi,jR]
  by_cases h1:(i:Int)=me
  ·simp [h1]
  ·by_cases h2:e.2.toNat.testBit i=true
   ·by_cases h3:aK me i (f.no i)=true<;>simp [h1,h2,h3]
   ·simp [h1,h2]
 ·intro i k a t hi ha hw
  simp only [Jx] at ha
  have hfit:=Fy (n:=t.length) 8 (by decide) (by omega)
  have hle:3*i+1≤20:=by omega
  simp only [wE,show ((i:Int) < 6) by omega,hfit,bh,hle,eu _ hi,Co,lj,ah,aj,aF,aH,ao,aw,aq,av,ak,aU,Jr,ag,Js,bP,aC,ae,aY,aD,kB hi,aN,cc,bV,bE,cK,aS hf,bi,Jv,Kk,aR,aO,Jx,Jy,b6,be,List.take,bp,Kt,b7,hw,bn,hx,uF,rN,r8 _ _ h6,cq hi]
  by_cases h1:(i:Int)=me
  ·simp [h1]
  ·by_cases h2:e.2.toNat.testBit i=true
   ·by_cases h3:aK me i (f.no i)=true<;>simp [h1,h2,h3]
   ·simp [h1,h2]
theorem s21 (n:Nat) (me h:Int) (b:Option (List aJ)) (o:Option (List ba)) (fld:Int) (hl:(o.getD []).length≤4611686018427387904) (hb:(b.getD []).length≤4611686018427387904) :
  FN (n+6) 21 [il me,dB b,dS o,il h,il fld]=oM me (b.getD []) (o.getD []) h fld gB fun j=>fA me h b (o.getD []) (ringX me ((b.getD []).getD j (0,0)).2 fld (fl me (b.getD []) (o.getD []) j)):=by
 rw [FS,IX]
 have hop:CS (RP (n+5)) (il me) (dB b) (dS o) (il h) (il fld)=_:=op9 (n+1) me h b o (il fld) hl hb
 unfold G21
 rw [eL21]
 refine fJ hop ?_
 unfold oM
 by_cases h1:ck me (b.getD []) (o.getD []) h=true
 ·simp only [h1,Js,ae,bf,ah,aj,aF,aH,ao,aw,aq,av,ak,bP,aU,T3,Mk,Jt,ag,Jl,Ju,Js,aL,aC,cy,l4 _ _ hb,ee,Jq]
  cases hx:cM fld (b.getD []) with
  | none=>simp [gB,ed]
  | some j =>
   obtain ⟨e,he,hfld,hg,hj⟩:=fS hx
   have h6:=eF h1 e (K2 he)
   have hf:=jv h1 hj
   have hr:=hH h1 j
   have hlen:=jg h1
   have hN:¬ ((120:Int) < ((o.getD []).length:Int)):=by omega
   have hN1:((120:Int) < (((o.getD []).length+1:Nat):Int))↔120 < (o.getD []).length+1:=by omega
   have hsl:((o.getD []).map rS).take (o.getD []).length=(o.getD []).map rS:=Kd (by simp)
   simp only [reduceCtorEq,Ju,lG hx,eK he,cK,hx,bE,aS hf,aN,aD,bV,bi,Nat.reduceAdd,Nat.reduceLeDiff,Js,Jv,df]
   have h21:=l21 (n+2) me (e:=e) (by rw [hfld];exact hx) hf h6 (il e.1) (il e.2) (dB b) (il h) (il 0) (il 0) ((o.getD []).map rS) (o.getD []).length (o.getD []).length
   rw [hg]
   generalize hf0:fl me (b.getD []) (o.getD []) j=f at hf hr h21 ⊢
   by_cases g1:f.opn=true
   ·simp [ringX,g1,fA,gB,ed]
   ·have g1':f.opn=false:=by simpa using g1
    have hw:IntKind.i64.wrap (f.wants+1)=f.wants+1:=by have:=hr.1;exact fO (by omega) (by omega)
    simp only [g1,lj,vS,br]
    rw [h21]
    cases hm:bQ me e.2 f with
    | cons a t =>
     simp [ringX,g1',hm,uk,fA,gB,ed]
    | nil =>
     simp only [Ky,uk,ae,cN,show ¬ ((0:Int) < 0) by decide,Jt,ag,Jl,Ju,ah,aj,aF,aH,ao,aw,aq,av,bE,aS hf,cF,bo]
     by_cases g2:f.wants=99999
     ·simp [ringX,g1',hm,g2,fA,gB,ed]
     ·simp only [g2,Jt,Jl,Ju]
      have hok:iL (4,fld,0,1)=true:=by
       simpa [iL,fg] using iq h1 hx
      have hst:aV me ((b.getD []).getD j (0,0)).2 f (4,fld,0,1)=some { f with opn:=true }:=by
       rw [hg];simp [aV,g1',hm]
      have hp:=kG hok hx hf hst
      have hc:=gO (n+1) b hb (eF h1) [(4,fld,0,1)] (by simp) ((o.getD []).map rS) me (il h) (o.getD []).length (o.getD []).length (pg me (b.getD []) (o.getD [])) (jU (bw h1) _)
      have hc2:=gO (n+1) b hb (eF h1) [(2,fld,0,f.wants+1)] (by simp) ((o.getD []++[(4,fld,0,1)]).map rS) me (il h) ((o.getD []).length+1) ((o.getD []).length+1) ((pg me (b.getD []) (o.getD [])).set j { f with opn:=true }) (by rw [gw];exact jU (bw h1) _)
      have hap:=mU (o.getD []) [(4,fld,0,1)]
      have hap2:=mU (o.getD []) [(4,fld,0,1),(2,fld,0,f.wants+1)]
      have hfit:=yg (a:=(o.getD []).length) (b:=1) (by omega) (by omega)
      have hfit2:=yg (a:=(o.getD []).length+1) (b:=1) (by omega) (by omega)
      have hq1:(o.getD []).length≤9223372036854775806:=by omega
      have hq2:(o.getD []).length+1≤9223372036854775806:=by omega
      have hrow:∀ k:List D→az,(RP (n+5)).rowAt 20 (((pg me (b.getD []) (o.getD [])).set j { f with opn:=true }).map bG) j k=k (bG { f with opn:=true }):=fun k=>aS (em hf _) k
      rw [hp] at hc
      simp only [Jx,Jy,Jv,Jz,Ky,rS,M6] at hc hc2 hap hap2
      simp only [ci,cS,fY,mapM,aR,ae,ah,aj,cT,gT,l6,aO,Jp,Jx,Jy,Jv,b6,Js,bp,Kt,cN,ag,Jq,bh,be,hc,hfit,hq1,bI,hrow,Nat.reduceLeDiff,cF,lg _ _ _ _ (show (2:Int)≠0 by decide),bo]
      by_cases g3:f.wants.tmod 2=1
      ·have g4:fe f.wants=true:=by simp [fe,g3]
       have hN2:((120:Int) < (((o.getD []).length+1+1:Nat):Int))↔120 < (o.getD []).length+2:=by omega
       have hap3:(((o.getD []).map rS)++[[il 4,il fld,il 0,il 1],[il 2,il fld,il 0,il (f.wants+1)]]).take ((o.getD []).length+1+1)=(o.getD []).map rS++[[il 4,il fld,il 0,il 1],[il 2,il fld,il 0,il (f.wants+1)]]:=Kd (by simp)
       simp only [g3,Js,ae,ah,aj,ao,aw,aq,av,cT,gT,l6,Jp,Jx,Jy,Jv,Js,Kt,K0,b7,hw,hc2,hfit2,hq2,hN2,hap3,Kb,Kp,Ke]
       by_cases g5:120 < (o.getD []).length+2
       ·simp [g5,ringX,g1',hm,g2,g4,fA,gB,ed]
       ·simp [g5,ringX,g1',hm,g2,g4,fA,jq,rS]
      ·have g4:fe f.wants=false:=by simp [fe,g3]
       simp only [g3,Ju,ae,ah,aj,ao,aw,aq,av,Jp,Jx,Jy,Jv,Js,K0,hN1,hap]
       by_cases g5:120 < (o.getD []).length+1
       ·simp [g5,ringX,g1',hm,g2,g4,fA,gB,ed]
       ·simp [g5,ringX,g1',hm,g2,g4,fA,jq,rS]
 ·simp [h1,gB,ed]
end
section
set_option maxRecDepth 100000
def mI (f:Fld) (o:Nat):Fld:={ f with no:=bv f.no o (f.no o+1),af:=bv f.af o true }
def tc (me:Int) (e:aJ):List Nat→Fld→Fld
 | [],f=>f
 | o::r,f=>if bH me e.2 f o=true then tc me e r (mI f o) else tc me e r f
def jE (me:Int) (e:aJ):List Nat→Fld→List ba
 | [],_=>[]
 | o::r,f=>if bH me e.2 f o=true then (1,e.1,(o:Int),f.no o+1)::jE me e r (mI f o) else jE me e r f
theorem Ds {me P:Int} {f g:Fld} {o:Nat} (h:f.no o=g.no o∧f.af o=g.af o∧f.ask o=g.ask o) (h4:f.wants=g.wants):bH me P f o=bH me P g o:=by
 simp only [bH,aT,K4,h.1,h.2.1,h.2.2,h4]
theorem t8 {me:Int} {e:aJ}:∀ (l:List Nat) (f g:Fld),l.Nodup→(∀ o∈l,f.no o=g.no o∧f.af o=g.af o∧f.ask o=g.ask o)→f.wants=g.wants→jE me e l f=(l.filter (bH me e.2 g)).map fun (o:Nat)=>(1,e.1,(o:Int),g.no o+1)
 | [],_,_,_,_,_=>rfl
 | o::r,f,g,hd,h,hw=>by
  have h0:=h o Mj
  have hr:=fun q (hq:q∈r)=>h q (Ks _ hq)
  obtain ⟨hn,hd⟩:=Mc.1 hd
  rw [jE,Ds h0 hw,Mo]
  by_cases hg:bH me e.2 g o=true
  ·rw [K1 hg,K1 hg,Jz,h0.1]
   refine congrArg _ (t8 r (mI f o) g hd (fun q hq=>?_) hw)
   have hne:o≠q:=fun he=>hn (he ▸ hq)
   simpa [mI,bv,hne] using hr q hq
  ·rw [Kc hg,Kc hg]
   exact t8 r f g hd hr hw
theorem pA (me:Int) (e:aJ):∀ (l:List Nat) (f:Fld),(jE me e l f).length≤l.length
 | [],_=>by simp [jE]
 | o::r,f=>by
  rw [jE]
  split
  ·simpa using pA me e r (mI f o)
  ·exact Nat.le_succ_of_le (pA me e r f)
theorem ya {me P:Int} {f:Fld} {o:Nat} (ho:o < 6) (hg:bH me P f o=true) (hn:f.opn=false) (fld:Int):aV me P f (1,fld,(o:Int),f.no o+1)=some (mI f o):=by
 simp only [bH,Jn,M1,M7] at hg
 have h1:cE P (o:Int)=true:=by rw [cq ho];exact hg.2.1
 simp [aV,mI,hn,h1,hg.1]
 omega
theorem sq {me P:Int} {f:Fld} {o:Nat} (ho:o < 6) (hg:bH me P f o=true) (hr:md f) {fld:Int} (hf:fg fld 1 99=true):iL (1,fld,(o:Int),f.no o+1)=true:=by
 simp only [bH,Jn,Jq] at hg
 have:=(hr.2 o).1
 simp only [fg,Jn,Jq] at hf
 simp [iL,fg,gz]
 omega
theorem l25_1 (n:Nat) {e:aJ} (me:Int) (b:Option (List aJ)) (hb:(b.getD []).length≤4611686018427387904) (h66:∀ c∈b.getD [],lw c.2) (fs0:List Fld) (hlen:fs0.length=(b.getD []).length) {j:Nat} {f0:Fld} (hx:cM e.1 (b.getD [])=some j) (he:(b.getD []).getD j (0,0)=e) (hf0:fs0[j]?=some f0) (h6:lw e.2) (hfl:fg e.1 1 99=true) (ho:f0.opn=false) (hr:md f0) (c2 ch z1 z2:D) (ss:List ba) (hl:ss.length≤60000) :
  bm [wD (RP (n+5))] M0 0 [.d (il e.1),.d (il e.2),.d (il 0),.n j,.n 0,.d (il e.1),.d c2,.m (mapM (b.getD []) fs0),.r (ss.map rS),.d (il me),.d (dB b),.n ss.length,.n ss.length,.d ch,.d z1,.d z2] =
   some (0,[.n j,.n 0,.d (il e.1),.d c2,.m (mapM (b.getD []) (fs0.set j (tc me e (rg 0) f0))),.r ((ss++jE me e (rg 0) f0).map rS),.d (il me),.d (dB b),.n (ss++jE me e (rg 0) f0).length,.n (ss++jE me e (rg 0) f0).length,.d ch,.d z1,.d z2]):=by
 have:=dm (β:=Fld×List ba) 6 (by omega) (wD (RP (n+5))) (fun i g=>[.d (il e.1),.d (il e.2),.d (il i),.n j,.n 0,.d (il e.1),.d c2,.m (mapM (b.getD []) (fs0.set j g.1)),.r (g.2.map rS),.d (il me),.d (dB b),.n g.2.length,.n g.2.length,.d ch,.d z1,.d z2]) (fun i g=>md g.1∧g.1.opn=false∧g.2.length≤60000+i)
  (fun i g=>some (0,[.n j,.n 0,.d (il e.1),.d c2,.m (mapM (b.getD []) (fs0.set j (tc me e (rg i) g.1))),.r ((g.2++jE me e (rg i) g.1).map rS),.d (il me),.d (dB b),.n (g.2++jE me e (rg i) g.1).length,.n (g.2++jE me e (rg i) g.1).length,.d ch,.d z1,.d z2])) ?_ ?_ (f0,ss) ⟨hr,ho,hl⟩
 ·have e0:fs0.set j f0=fs0:=by
   apply Mf
   intro i
   rw [List.getElem?_set]
   split
   ·subst_vars;split<;>simp_all
   ·rfl
  simp only [e0] at this
  exact this
 ·intro g k _
  simp [wD,rg,tc,jE]
 ·rintro i ⟨f,l⟩ k hi ⟨hrf,hof,hll⟩ hw ih
  simp only at hrf hof hll
  have hf:=em hf0 f
  have hle3:3*i≤17:=by omega
  have hlt:(i:Int) < 6:=by omega
  simp only [oZ hi,tc,jE]
  have hgd:bH me e.2 f i=(!decide ((i:Int)=me)&&(e.2.toNat.testBit i&&(fe (f.ask i)&&(aK me i (f.no i)&&(!(aK me i (f.no i)&&(fe f.wants&&f.af i))&&decide (f.no i < 99999)))))):=by simp only [bH,aT,K4]
  have ih0:=ih (f,l) ⟨hrf,hof,by simp only;omega⟩
  simp only [bn] at ih0
  simp only [wD,ah,aj,aF,aH,ao,aw,aq,av,ak,aZ,aU,Jr,ag,Js,bP,aC,ae,aD,kB hi,aN,cc,bV,bE,cK,bi,Jv,Kk,aS hf,kQ f hi,eu f hi,yb f hi,cF,hlt,r8 _ _ h6,cq hi,Co,hx,hle3,Nat.reduceAdd,Nat.reduceLeDiff,lg _ _ _ _ (show (2:Int)≠0 by decide),bo,b7,hw]
  by_cases h1:(i:Int)=me
  ·have hg:bH me e.2 f i=false:=by rw [hgd];simp [h1]
   simp only [h1,hg,T3,Mk,Jt,Jl,Ju] at ih0 ⊢
   exact ih0
  ·cases h2:e.2.toNat.testBit i with
   | false =>
    have hg:bH me e.2 f i=false:=by rw [hgd];simp [h2]
    simp only [h1,hg,T3,Ku,Jr,Js,Jl,Ju] at ih0 ⊢
    exact ih0
   | true =>
    by_cases h3:(f.ask i).tmod 2=1
    ·have h3':fe (f.ask i)=true:=by simp [fe,h3]
     cases h4:aK me i (f.no i) with
     | false =>
      have hg:bH me e.2 f i=false:=by rw [hgd];simp [h4]
      simp only [h1,h3,hg,T3,Ku,Jr,Js,Jl,Ju] at ih0 ⊢
      exact ih0
     | true =>
      by_cases h5:f.wants.tmod 2=1∧f.af i=true
      ·have hg:bH me e.2 f i=false:=by rw [hgd];simp [h4,fe,h5.1,h5.2]
       simp only [h1,h3,h5.1,h5.2,hg,T3,Ku,Jr,Js,K7,Jl,Ju,aL,ah,aj,aF,aH,ao,aw,aq,av,Jr,ag,Js,ae,aY] at ih0 ⊢
       exact ih0
      ·have h5':∀ k:az→az,(k (if decide (f.wants.tmod 2=1)=true then some (0,[.d (bl (f.af i)),.m (mapM (b.getD []) (fs0.set j f)),.r (l.map rS),.d (il me),.d (dB b),.n l.length,.n l.length,.d ch]) else some (0,[.d (bl false),.m (mapM (b.getD []) (fs0.set j f)),.r (l.map rS),.d (il me),.d (dB b),.n l.length,.n l.length,.d ch])))=k (some (0,[.d (bl false),.m (mapM (b.getD []) (fs0.set j f)),.r (l.map rS),.d (il me),.d (dB b),.n l.length,.n l.length,.d ch])):=by
        intro k
        by_cases q1:f.wants.tmod 2=1
        ·have q2:f.af i=false:=by cases hq:f.af i<;>simp_all
         simp [q2]
        ·simp [q1]
       simp only [h1,h3,T3,Ku,Jr,Js,aL]
       rw [h5' (fun o=>(RP (n+5)).bnd o _)]
       simp only [ah,aj,aF,aH,ao,aw,aq,av,ag,Js,ae,aY,Mq,Js]
       by_cases h7:f.no i < 99999
       ·have hg:bH me e.2 f i=true:=by
         rw [hgd]
         cases q1:fe f.wants<;>cases q2:f.af i<;>simp_all [fe]
        have hwn:IntKind.i64.wrap (f.no i+1)=f.no i+1:=by have:=(hrf.2 i).1;exact fO (by omega) (by omega)
        have hp:=kG (me:=me) (bs:=b.getD []) (sq hi hg hrf hfl) hx hf (by rw [he];exact ya hi hg hof e.1)
        have hc:=gO (n+1) b hb h66 [(1,e.1,(i:Int),f.no i+1)] (by simp) (l.map rS) me ch l.length l.length (fs0.set j f) (by rw [gw];exact hlen)
        rw [hp,Te] at hc
        have ih1:=ih (mI f i,l++[(1,e.1,(i:Int),f.no i+1)]) ⟨?_,hof,by simp only [K0,Jx,Jy];omega⟩
        ·have hq1:l.length≤9223372036854775806:=by omega
         have hfit:=yg (a:=l.length) (b:=1) (by omega) (by omega)
         simp only [bn,M6,Jz,Ky,rS,K0,Jx,Jy,Jv,Kb,Kp,Ke] at hc ih1
         simp only [h7,Jr,Js,hwn,ci,cS,fY,mapM,aR,hc,ah,aj,Jr,Js,ae,Jv,cT,gT,l6,aO,Jp,Jx,Jy,b6,bp,hfit,Kt,bh,hg]
         simp only [mapM] at ih1
         rw [ih1]
         simp [rS]
        ·refine ⟨hrf.1,fun q=>⟨?_,(hrf.2 q).2⟩⟩
         simp only [mI,bv]
         have:=hrf.2 i
         split
         ·omega
         ·exact (hrf.2 q).1
       ·have hg:bH me e.2 f i=false:=by rw [hgd];simp [h7]
        simp only [h7,Jt,hg,Jl,Ju] at ih0 ⊢
        exact ih0
    ·have hg:bH me e.2 f i=false:=by rw [hgd];simp [fe,h3]
     simp only [h1,h3,hg,T3,Ku,Jr,Jt,Js,Jl,Ju] at ih0 ⊢
     exact ih0
end
section
set_option maxRecDepth 100000
def oJ (me:Int):Nat→List aJ→List Fld→List Fld×List ba
 | _,[],fs=>(fs,[])
 | i,e::r,fs=>if (fs.getD i fd0).opn=true then oJ me (i+1) r fs else
  ((oJ me (i+1) r (fs.set i (tc me e (rg 0) (fs.getD i fd0)))).1,jE me e (rg 0) (fs.getD i fd0)++(oJ me (i+1) r (fs.set i (tc me e (rg 0) (fs.getD i fd0)))).2)
theorem xg (me:Int) (e:aJ) (f:Fld) (h:f.opn=false):jE me e (rg 0) f=ep me e f:=by
 rw [ep,h,t8 (rg 0) f f (List.nodup_range' ..) (fun _ _=>⟨rfl,rfl,rfl⟩) rfl]
 rfl
theorem td {me:Int} {bs:List aJ} {ss:List ba}:∀ (r:List aJ) (i:Nat) (fs:List Fld),bs.drop i=r→(∀ k,i≤k→k < bs.length→fs[k]?=some (fl me bs ss k))→(oJ me i r fs).2=r.flatMap fun e=>ep me e (ay me e fd0 ss).1
 | [],_,_,_,_=>rfl
 | e::r,i,fs,hd,hf=>by
  have hi:i < bs.length:=by
   rcases Nat.lt_or_ge i bs.length with h | h
   ·exact h
   ·rw [V1 h] at hd;cases hd
  rw [T2 hi] at hd
  injection hd with h1 h2
  have h3:=hf i (Kg _) hi
  have he:fl me bs ss i=(ay me e fd0 ss).1:=by
   simp only [fl,K6,Jo hi,M4,h1]
  have hg:fs.getD i fd0=(ay me e fd0 ss).1:=by rw [eH _ h3,he]
  rw [oJ,hg,List.flatMap_cons]
  by_cases ho:(ay me e fd0 ss).1.opn=true
  ·rw [K1 ho,td r (i+1) fs h2 (fun k hk hk2=>hf k (by omega) hk2)]
   simp [ep,ho]
  ·rw [Kc ho,xg _ _ _ (by simpa using ho)]
   refine congrArg _ (td r (i+1) _ h2 fun k hk hk2=>?_)
   rw [Tk (by omega)]
   exact hf k (by omega) hk2
theorem l25_2 (n:Nat) {me h:Int} (b:Option (List aJ)) {ss:List ba} (h1:ck me (b.getD []) ss h=true) (z1 z2:D) :
  bm [wC (RP (n+5))] M0 0 [.d (dB b),.d (il (b.getD []).length),.d (il 0),.m (mapM (b.getD []) (pg me (b.getD []) ss)),.r (ss.map rS),.d (il me),.d (dB b),.n ss.length,.n ss.length,.d (il h),.d z1,.d z2] =
   some (0,[.m (mapM (b.getD []) (oJ me 0 (b.getD []) (pg me (b.getD []) ss)).1),.r ((ss++serveX me (b.getD []) ss).map rS),.d (il me),.d (dB b),.n (ss++serveX me (b.getD []) ss).length,.n (ss++serveX me (b.getD []) ss).length,.d (il h),.d z1,.d z2]):=by
 have hb4:(b.getD []).length≤4:=by
  simp only [ck,cr,Jn,Jq] at h1
  exact h1.2.1.2
 have hl:=jg h1
 have hr:=bw h1
 have h66:=eF h1
 have:=bA (β:=List Fld×List ba) (b.getD []) (by omega) (wC (RP (n+5))) (fun i g=>[.d (dB b),.d (il (b.getD []).length),.d (il i),.m (mapM (b.getD []) g.1),.r (g.2.map rS),.d (il me),.d (dB b),.n g.2.length,.n g.2.length,.d (il h),.d z1,.d z2])
  (fun i g=>g.1.length=(b.getD []).length∧(∀ k,i≤k→k < (b.getD []).length→g.1[k]?=some (fl me (b.getD []) ss k))∧g.2.length≤120+6*i)
  (fun i r g=>some (0,[.m (mapM (b.getD []) (oJ me i r g.1).1),.r ((g.2++(oJ me i r g.1).2).map rS),.d (il me),.d (dB b),.n (g.2++(oJ me i r g.1).2).length,.n (g.2++(oJ me i r g.1).2).length,.d (il h),.d z1,.d z2])) ?_ ?_ M0 (pg me (b.getD []) ss,ss) ⟨jU hr ss,fun k _ hk=>jv h1 hk,by omega⟩ (dM (by omega))
 ·simp only [td (ss:=ss) (b.getD []) 0 (pg me (b.getD []) ss) (by simp) (fun k _ hk=>jv h1 hk)] at this
  exact this
 ·intro g k _
  simp [wC,oJ]
 ·rintro i e r ⟨fs,l⟩ k hi hd hlt hw ⟨hlen,hfs,hll⟩ ih
  simp only at hlen hfs hll
  have hlt':(i:Int) < ((b.getD []).length:Int):=by omega
  have hf:=hfs i (Kg _) hlt
  have hx:=Ao hr hi
  have hge:(b.getD []).getD i (0,0)=e:=eH _ hi
  have h6:=h66 e (K2 hi)
  have hfl:=iq h1 hx
  have hrng:=hH h1 i
  have hgf:fs.getD i fd0=fl me (b.getD []) ss i:=eH _ hf
  generalize fl me (b.getD []) ss i=f at hf hrng hgf
  simp only [oJ,hgf]
  simp only [wC,ah,aj,aF,aH,ao,aw,aq,av,ak,aU,Jr,ag,Js,aD,aN,bV,bE,cK,bi,Jv,Kk,hlt',eK hi,lj,vS,hx,aS hf,Nat.reduceAdd,Nat.reduceLeDiff,df,b7,hw]
  cases ho:f.opn with
  | true =>
   have ih0:=ih (fs,l) ⟨hlen,fun k hk hk2=>hfs k (by omega) hk2,by simp only;omega⟩
   simp only [bn] at ih0
   simp only [Js]
   exact ih0
  | false =>
   have h25:=l25_1 n me b (by omega) h66 fs hlen hx hge hf h6 hfl ho hrng (il e.2) (il h) z1 z2 l (by omega)
   have ih1:=ih (fs.set i (tc me e (rg 0) f),l++jE me e (rg 0) f) ⟨by rw [gw];exact hlen,fun k hk hk2=>by
    simp only
    rw [Tk (by omega)]
    exact hfs k (by omega) hk2,by
    have:=pA me e (rg 0) f
    have h6':(rg 0).length=6:=rfl
    simp only [K0]
    omega⟩
   simp only [bn,Kb] at ih1
   simp only [Jl,Ju,br]
   rw [h25]
   simp only [ah,aj,aF,aH,ao,aw,aq,av,ae]
   exact ih1
theorem s25 (n:Nat) (me h:Int) (b:Option (List aJ)) (o:Option (List ba)) (hl:(o.getD []).length≤4611686018427387904) (hb:(b.getD []).length≤4611686018427387904) :
  FN (n+6) 25 [il me,dB b,dS o,il h]=if ck me (b.getD []) (o.getD []) h=true then fA me h b (o.getD []) (0,serveX me (b.getD []) (o.getD [])) else gB 92:=by
 rw [FS,IV]
 have hop:v7 (RP (n+5)) (il me) (dB b) (dS o) (il h)=_:=HL (n+1) me h b o hl hb
 unfold G25
 rw [eL25]
 refine fJ hop ?_
 by_cases h1:ck me (b.getD []) (o.getD []) h=true
 ·have h25:=l25_2 n b h1 (il 0) (il 0)
  simp only [h1,Js,bf,ah,aj,aF,aH,ao,aw,aq,av,ak,ag,Js,bP,T3,Mk,Jt,Jl,Ju,cX,br]
  rw [h25]
  have hN:((120:Int) < (((o.getD []++serveX me (b.getD []) (o.getD [])).length:Nat):Int))↔120 < (o.getD []).length+(serveX me (b.getD []) (o.getD [])).length:=by rw [K0];omega
  have htk:((o.getD []++serveX me (b.getD []) (o.getD [])).map rS).take (o.getD []++serveX me (b.getD []) (o.getD [])).length=(o.getD []++serveX me (b.getD []) (o.getD [])).map rS:=Kd (by rw [Jp];exact Kg _)
  simp only [ah,aj,ao,aw,aq,av,ag,Js,ae,cN,ci,hN,Jq,aO,Jp,b6,aL,be,cS,htk,fA]
  by_cases g:120 < (o.getD []).length+(serveX me (b.getD []) (o.getD [])).length
  ·simp [g,gB,ed]
  ·simp [g,jq]
 ·simp [h1,gB,ed]
end
end Go.VE
