/- An evaluator whose data are abstract: what is known before the data is worked out, the rest is handed to a record of operations. -/
import Derived.Test.YtipddjojdgapiaaGreatDoorMc
namespace Go.VE
open Go.RowKit
inductive L3 (Δ N:Type) where
 | d (x:Δ)
 | b (v:Bool)
 | i (k:IntKind) (n:Int)
 | nil
 | dp (row:List Δ) (off:Nat)
 | fn (f:Nat) (caps:List (L3 Δ N))
 | slk (k:Nat) (off:Option N) (n c:N)
 | pa (k:Nat) (i:N) (off:Nat) (c:N)
 | ptr (k off:Nat)
 | mk (k:Nat)
 | mq (k:Nat)
 | pb (k:Nat) (j off:N)
 | px (k base n es:Nat) (i:N) (off:Nat)
 | np
 | sln (k:Nat) (n:N)
 | undef
inductive V3 (Δ N:Type) where
 | one (x:L3 Δ N)
 | agg (xs:List (L3 Δ N))
 | tup (xs:List (V3 Δ N))
inductive O3 (Δ N R M:Type) where
 | box (cells:List (L3 Δ N)) (elem:Nat)
 | arr (rows:R) (size elem:Nat) (own:Bool)
 | mp (agg:Bool) (m:M) (own:Bool)
 | ml (keys:List Value) (vals:List (L3 Δ N))
 | am (m:M) (size elem:Nat)
 | arn (rows:R) (size elem:Nat) (own:Bool)
structure S3 (Δ N R M:Type) where
 env:List (Nat×V3 Δ N)
 ob:List (Nat×O3 Δ N R M)
 ys:List Nat
 pend:Option Ex
instance {Δ N:Type}:Inhabited (L3 Δ N):=⟨.undef⟩
instance {Δ N:Type}:Inhabited (V3 Δ N):=⟨.one .undef⟩
inductive Y (Δ N R M:Type) where
 | d (x:Δ)
 | n (x:N)
 | r (x:R)
 | m (x:M)
abbrev Sk:=S3 Unit Unit Unit Unit
inductive Sh where
 | one
 | agg (n:Nat)
 | ptr (n:Nat)
 | met (name:String) (n:Nat)
inductive RK where
 | d
 | own (size elem:Nat)
 | om (agg:Bool)
abbrev RS:=List (Bool×List RK)
structure Pr (Δ N R W M E Ω:Type) where
 fail:Ω
 out:Nat→List (Y Δ N R M)→Ω
 bnd:Ω→List (E→Ω)→Ω
 loop:List ((Nat→List (Y Δ N R M)→Ω)→E→Ω)→Nat→List (Y Δ N R M)→Ω
 call:Nat→List Δ→Ω
 callD:Δ→List Sh→List Δ→Ω
 miss:Nat→Nat→Nat→Nat→List Nat→Ex→S3 Δ N R M→RS→Ω
 cond:Δ→Ω→Ω→Ω
 ld:E→Nat→Δ
 ln:E→Nat→N
 lr:E→Nat→R
 lm:E→Nat→M
 lit:Value→Δ
 natD:N→Δ
 dN:Δ→N
 natN:Nat→N
 addN:N→N→N
 slD:Nat→R→Δ
 slN:Nat→R→Δ
 dpD:List Δ→Nat→Δ
 fnD:Nat→List Δ→Δ
 mpD:Bool→M→Δ
 ifD:Nat→Bool→List Δ→Δ
 len:R→N
 rows:List (List Δ)→R
 repl:N→List Δ→R
 app:R→R→R
 seg:R→Option N→N→R
 setR:R→N→List Δ→R
 emp:M
 cell:W→Nat→Δ
 eqN:N→N→Ω→Ω
 leN:N→N→Ω→Ω
 nilD:Δ→Ω→Ω
 ptrW:Nat→Δ→(W→Ω)→Ω
 isPtr:Δ→Ω→Ω
 rowAt:Nat→R→N→(W→Ω)→Ω
 bin:BinOp→Bool→Δ→Δ→(Δ→Ω)→Ω
 un:UnOp→Δ→(Δ→Ω)→Ω
 eqs:List Nat→Bool→List Δ→List Δ→(Δ→Ω)→Ω
 mm:Bool→Δ→Δ→(Δ→Ω)→Ω
 mkN:Nat→Δ→Δ→(N→Ω)→Ω
 gap:Nat→Δ→(N→Ω)→Ω
 cut:Option Δ→Option Δ→N→(N→N→Ω)→Ω→Ω
 cutD:Nat→Δ→Option Δ→Option Δ→(Δ→Ω)→Ω
 cutNil:Option Δ→Option Δ→Ω→Ω
 selI:Nat→Δ→List Ω→Ω
 inx:Δ→N→(N→Ω)→Ω
 rowD:Nat→Δ→Δ→(W→Ω)→Ω
 lenD:Δ→(Δ→Ω)→Ω
 lenS:Δ→(Δ→Ω)→Ω
 atS:Δ→Δ→(Δ→Ω)→Ω
 cutS:Δ→Option Δ→Option Δ→(Δ→Ω)→Ω
 strB:R→(Δ→Ω)→Ω
 rowsD:Nat→Δ→(R→Ω)→Ω
 isNil:R→Ω→Ω→Ω
 fits:Nat→N→Ω→Ω
 asM:Bool→Δ→(M→Ω)→Ω
 look:Nat→List Value→M→Δ→(W→Δ→Ω)→Ω
 upd:Nat→M→Δ→List Δ→(M→Ω)→Ω
 lits:List (Y Δ N R M)→Ω→Ω
 cvI:IntKind→Δ→(Δ→Ω)→Ω
 nilE:Δ→Ω→Ω→Ω
 ins:Δ→R→R→(R→Ω)→Ω
 mulN:Nat→N→N
 minN:N→N→N
 cellN:W→N→Nat→Δ
 selN:N→List Δ→Δ
 updN:N→Nat→Δ→Δ→Δ
 mrows:M→R
 mset:M→R→M
 setRC:R→N→N→List Δ→R
 find:Nat→M→Δ→(N→Ω)→Ω→Ω
 addK:Nat→M→Δ→N→(M→Ω)→Ω
 selK:Nat→List Value→Δ→List Ω→Ω
section
variable {Δ N R W M E Ω:Type} (pr:Pr Δ N R W M E Ω)
def getE3:List (Nat×V3 Δ N)→Nat→V3 Δ N
 | [],_=>.one .undef
 | (k,v)::r,t=>if t=k then v else getE3 r t
def getO3:List (Nat×O3 Δ N R M)→Nat→Option (O3 Δ N R M)
 | [],_=>none
 | (k,o)::r,j=>if j=k then some o else getO3 r j
def addO3:List (Nat×O3 Δ N R M)→List (Nat×O3 Δ N R M)→List (Nat×O3 Δ N R M)
 | [],ob=>ob
 | (k,o)::r,ob=>addO3 r ((k,o)::ob)
mutual
def L3.keysOf:L3 Δ N→List Nat
 | .slk k _ _ _=>[k]
 | .pa k _ _ _=>[k]
 | .ptr k _=>[k]
 | .mk k=>[k]
 | .mq k=>[k]
 | .pb k _ _=>[k]
 | .px k _ _ _ _ _=>[k]
 | .sln k _=>[k]
 | .fn _ caps=>L3.keysF caps
 | _=>[]
def L3.keysF:List (L3 Δ N)→List Nat
 | []=>[]
 | x::xs=>x.keysOf++L3.keysF xs
end
mutual
def V3.keysOf:V3 Δ N→List Nat
 | .one x=>x.keysOf
 | .agg xs=>L3.keysF xs
 | .tup xs=>V3.keysF xs
def V3.keysF:List (V3 Δ N)→List Nat
 | []=>[]
 | x::xs=>x.keysOf++V3.keysF xs
end
def O3.keysOf:O3 Δ N R M→List Nat
 | .box cells _=>L3.keysF cells
 | .ml _ vals=>L3.keysF vals
 | _=>[]
def keepO3 (ob:List (Nat×O3 Δ N R M)):List Nat→List (Nat×O3 Δ N R M)
 | []=>[]
 | k::ks=>match getO3 ob k with
  | some o=>(k,o)::keepO3 ob ks
  | none=>keepO3 ob ks
def objKeys3 (ob:List (Nat×O3 Δ N R M)):List Nat→List Nat
 | []=>[]
 | k::ks=>match getO3 ob k with
  | some o=>o.keysOf++objKeys3 ob ks
  | none=>objKeys3 ob ks
def reach3 (ob:List (Nat×O3 Δ N R M)):Nat→List Nat→List Nat
 | 0,ks=>ks
 | n+1,ks=>reach3 ob n (dedup (objKeys3 ob ks) ks)
def gcO3 (pk:List Nat) (vs:List (V3 Δ N)) (ob:List (Nat×O3 Δ N R M)):Option (List (Nat×O3 Δ N R M)) :=
 let ks:=reach3 ob 6 (dedup (V3.keysF vs) pk)
 let ob':=keepO3 ob ks
 if (vs.all fun v=>v.keysOf.all fun k=>ks.contains k)&&(ob'.all fun p=>p.2.keysOf.all fun k=>ks.contains k) then some ob' else none
def lit3:Value→L3 Δ N
 | .bool v=>.b v
 | .int k n=>.i k n
 | .slice none 0 0=>.nil
 | .pointer none=>.np
 | v=>.d (pr.lit v)
def constV3:Value→V3 Δ N
 | .agg cs=>if cs.toList.all plain then .agg (cs.toList.map (lit3 pr)) else .one .undef
 | v=>if plain v then .one (lit3 pr v) else .one .undef
def ev3 (env:List (Nat×V3 Δ N)):Operand→V3 Δ N
 | .tmp t=>getE3 env t
 | .const v=>constV3 pr v
 | .global _=>.one .undef
 | .func f=>if f < 2000000 then .one (.fn f []) else .one .undef
def scal:L3 Δ N→Option Δ
 | .d x=>some x
 | .b v=>some (pr.lit (.bool v))
 | .i k n=>some (pr.lit (.int k n))
 | .nil=>some (pr.lit (.slice none 0 0))
 | .np=>some (pr.lit (.pointer none))
 | .dp row off=>some (pr.dpD row off)
 | _=>none
def scal1:V3 Δ N→Option Δ
 | .one x=>scal pr x
 | _=>none
def scals:List (L3 Δ N)→Option (List Δ)
 | []=>some []
 | x::xs=>match scal pr x,scals xs with
  | some y,some ys=>some (y::ys)
  | _,_=>none
def scalO (ρ:Operand→V3 Δ N):Option Operand→Option (Option Δ)
 | none=>some none
 | some x=>match scal1 pr (ρ x) with
  | some y=>some (some y)
  | none=>none
def scalL (ρ:Operand→V3 Δ N):List Operand→Option (List Δ)
 | []=>some []
 | x::xs=>match scal1 pr (ρ x),scalL ρ xs with
  | some y,some ys=>some (y::ys)
  | _,_=>none
def L3.isDef:L3 Δ N→Bool | .undef=>false | _=>true
def V3.cells:V3 Δ N→Option (List (L3 Δ N))
 | .one x=>if x.isDef then some [x] else none
 | .agg xs=>if xs.all L3.isDef then some xs else none
 | .tup _=>none
def mkV3 (agg:Bool) (xs:List (L3 Δ N)):Option (V3 Δ N):=match agg,xs with
 | true,xs=>some (.agg xs)
 | false,[x]=>some (.one x)
 | false,_=>none
def getCells3 (agg:Bool) (s off:Nat) (cells:List (L3 Δ N)):Option (V3 Δ N) :=
 if agg then (if off+s≤cells.length then some (.agg ((cells.drop off).take s)) else none)
 else match cells[off]? with
  | some x=>some (.one x)
  | none=>none
def fill3 (place:Nat→Option (Nat×Nat)) (cells:List (L3 Δ N)):List (Nat×V3 Δ N)→Option (List (L3 Δ N))
 | []=>some cells
 | (i,v)::rest=>match place i,v.cells with
  | some (off,size),some cs=>if cs.length=size∧off+size≤cells.length then fill3 place (cells.take off++cs++cells.drop (off+size)) rest else none
  | _,_=>none
def addrOff3 (n:Nat):V3 Δ N→Option (V3 Δ N)
 | .one (.ptr k off)=>some (.one (.ptr k (off+n)))
 | .one (.pa k i off c)=>some (.one (.pa k i (off+n) c))
 | .one (.dp r off)=>some (.one (.dp r (off+n)))
 | .one (.pb k j off)=>some (.one (.pb k j (pr.addN off (pr.natN n))))
 | .one (.px k b m es i off)=>some (.one (.px k b m es i (off+n)))
 | _=>none
def oneCells3:List (V3 Δ N)→Option (List (L3 Δ N))
 | []=>some []
 | .one x::r=>if x.isDef then (match oneCells3 r with
  | some xs=>some (x::xs)
  | none=>none) else none
 | _::_=>none
def cellsOf (size:Nat) (r:W):List Δ:=(List.range size).map (pr.cell r)
abbrev Ups (Δ N R M:Type):=List (Nat×O3 Δ N R M)
abbrev K3 (Δ N R M Ω:Type):=V3 Δ N→Ups Δ N R M→List Nat→Ω
def optK (o:Option (V3 Δ N)) (rd:List Nat) (k:K3 Δ N R M Ω):Ω:=match o with
 | some v=>k v [] rd
 | none=>pr.fail
def fresh3 (ob:Ups Δ N R M) (dst:Option Nat) (o:O3 Δ N R M) (v:Nat→V3 Δ N) (k:K3 Δ N R M Ω):Ω:=match dst with
 | some key=>match getO3 ob key with
  | none=>k (v key) [(key,o)] [key]
  | some _=>pr.fail
 | none=>pr.fail
def frz3 (ob:Ups Δ N R M) (x:L3 Δ N) (k:Δ→Ups Δ N R M→List Nat→Ω):Ω:=match x with
 | .slk key off n c=>match getO3 ob key with
  | some (.arr rows size elem _)=>pr.eqN c (pr.len rows) (k (pr.slD size (pr.seg rows off n)) [(key,.arr rows size elem false)] [key])
  | _=>pr.fail
 | .mk key=>match getO3 ob key with
  | some (.mp agg m _)=>k (pr.mpD agg m) [(key,.mp agg m false)] [key]
  | _=>pr.fail
 | .sln key n=>match getO3 ob key with
  | some (.arn rows size elem _)=>pr.eqN n (pr.len rows) (k (pr.slN size rows) [(key,.arn rows size elem false)] [key])
  | _=>pr.fail
 | x=>match scal pr x with
  | some y=>k y [] []
  | none=>pr.fail
def frzs3 (ob:Ups Δ N R M):List (L3 Δ N)→(List Δ→Ups Δ N R M→List Nat→Ω)→Ω
 | [],k=>k [] [] []
 | x::xs,k=>frz3 pr ob x fun d u rd=>frzs3 ob xs fun ds us rd'=>k (d::ds) (u++us) (rd++rd')
def toDs3 (rec:L3 Δ N→(Δ→List Nat→Ω)→Ω):List (L3 Δ N)→(List Δ→List Nat→Ω)→Ω
 | [],k=>k [] []
 | x::xs,k=>rec x fun d rd=>toDs3 rec xs fun ds rd'=>k (d::ds) (rd++rd')
def toD3 (ob:Ups Δ N R M):Nat→L3 Δ N→(Δ→List Nat→Ω)→Ω
 | _,.slk key off n' c,k=>match getO3 ob key with
  | some (.arr rows size _ _)=>pr.eqN c (pr.len rows) (k (pr.slD size (pr.seg rows off n')) [key])
  | _=>pr.fail
 | _,.pa key i off c,k=>match getO3 ob key with
  | some (.arr rows size _ _)=>pr.eqN c (pr.len rows) (pr.rowAt size rows i fun r=>k (pr.dpD (cellsOf pr size r) off) [key])
  | some (.arn rows size _ _)=>pr.eqN c (pr.len rows) (pr.rowAt size rows i fun r=>k (pr.dpD (cellsOf pr size r) off) [key])
  | _=>pr.fail
 | _,.mk key,k=>match getO3 ob key with
  | some (.mp agg m _)=>k (pr.mpD agg m) [key]
  | _=>pr.fail
 | _,.sln key n',k=>match getO3 ob key with
  | some (.arn rows size _ _)=>pr.eqN n' (pr.len rows) (k (pr.slN size rows) [key])
  | _=>pr.fail
 | n+1,.ptr key off,k=>match getO3 ob key with
  | some (.box cells _)=>toDs3 (toD3 ob n) cells fun ds rd=>k (pr.dpD ds off) (key::rd)
  | _=>pr.fail
 | n+1,.fn f caps,k=>toDs3 (toD3 ob n) caps fun ds rd=>k (pr.fnD f ds) rd
 | _,x,k=>match scal pr x with
  | some y=>k y []
  | none=>pr.fail
def colX (cells:List (L3 Δ N)) (base n es o:Nat):Option (List Δ):=scals pr ((List.range n).map fun q=>cells.getD (base+q*es+o) .undef)
def colsX (cells:List (L3 Δ N)) (base n es:Nat) (i:N):Nat→Nat→Option (List (L3 Δ N))
 | _,0=>some []
 | o,s+1=>match colX pr cells base n es o,colsX cells base n es i (o+1) s with
  | some ds,some xs=>some (.d (pr.selN i ds)::xs)
  | _,_=>none
def putC (i:N) (q:Nat) (x:L3 Δ N) (new:Option Δ):L3 Δ N:=match scal pr x,new with
 | some old,some nw=>.d (pr.updN i q nw old)
 | _,_=>.undef
def putX (i:N) (base n es off:Nat) (ds:List Δ) (cells:List (L3 Δ N)):List (L3 Δ N):=cells.zipIdx.map fun p =>
 if base≤p.2∧p.2 < base+n*es∧off≤(p.2 - base) % es∧(p.2 - base) % es < off+ds.length then putC pr i ((p.2 - base) / es) p.1 ds[(p.2 - base) % es - off]? else p.1
def loadK (agg:Bool) (s:Nat) (ob:Ups Δ N R M) (x:V3 Δ N) (k:K3 Δ N R M Ω):Ω:=match x with
 | .one (.ptr key off)=>match getO3 ob key with
  | some (.box cells _)=>optK pr (getCells3 agg s off cells) [key] k
  | _=>pr.fail
 | .one (.pa key i off c)=>match getO3 ob key with
  | some (.arr rows size _ _)=>pr.eqN c (pr.len rows) (pr.rowAt size rows i fun r=>optK pr (getCells3 agg s off ((cellsOf pr size r).map .d)) [key] k)
  | some (.arn rows size _ _)=>pr.eqN c (pr.len rows) (pr.rowAt size rows i fun r=>optK pr (getCells3 agg s off ((cellsOf pr size r).map .d)) [key] k)
  | _=>pr.fail
 | .one (.dp row off)=>optK pr (getCells3 agg s off (row.map .d)) [] k
 | .one (.pb key j off)=>match getO3 ob key with
  | some (.am m size _)=>pr.rowAt size (pr.mrows m) j fun r=>pr.leN (pr.addN off (pr.natN s)) (pr.natN size) (optK pr (mkV3 agg ((List.range s).map fun i=>.d (pr.cellN r off i))) [key] k)
  | _=>pr.fail
 | .one (.px key b n es i off)=>match getO3 ob key with
  | some (.box cells _)=>if b+n*es≤cells.length∧off+s≤es then (match colsX pr cells b n es i off s with
   | some xs=>pr.leN (pr.addN i (pr.natN 1)) (pr.natN n) (optK pr (mkV3 agg xs) [key] k)
   | none=>pr.fail) else pr.fail
  | _=>pr.fail
 | _=>pr.fail
def storeK (ob:Ups Δ N R M) (x:V3 Δ N) (cs:List (L3 Δ N)) (k:K3 Δ N R M Ω):Ω:=match x with
 | .one (.ptr key off)=>match getO3 ob key with
  | some (.box cells elem)=>if off+cs.length≤cells.length then k (.one .undef) [(key,.box (cells.take off++cs++cells.drop (off+cs.length)) elem)] [key] else pr.fail
  | _=>pr.fail
 | .one (.pa key i off c)=>match getO3 ob key with
  | some (.arr rows size elem own)=>match own with
   | true=>pr.eqN c (pr.len rows) (pr.rowAt size rows i fun r=>frzs3 pr ob cs fun ds us rd=>match us with
    | []=>if off+ds.length≤size then k (.one .undef) [(key,.arr (pr.setR rows i ((cellsOf pr size r).take off++ds++(cellsOf pr size r).drop (off+ds.length))) size elem own)] (key::rd) else pr.fail
    | _=>pr.fail)
   | false=>pr.fail
  | _=>pr.fail
 | .one (.pb key j off)=>match getO3 ob key with
  | some (.am m size elem)=>match scals pr cs with
   | some ds=>pr.rowAt size (pr.mrows m) j fun _=>pr.leN (pr.addN off (pr.natN ds.length)) (pr.natN size) (k (.one .undef) [(key,.am (pr.mset m (pr.setRC (pr.mrows m) j off ds)) size elem)] [key])
   | none=>pr.fail
  | _=>pr.fail
 | .one (.px key b n es i off)=>match getO3 ob key with
  | some (.box cells elem)=>match scals pr cs with
   | some ds=>if b+n*es≤cells.length∧off+ds.length≤es∧(putX pr i b n es off ds cells).all L3.isDef=true∧0 < es then pr.leN (pr.addN i (pr.natN 1)) (pr.natN n) (k (.one .undef) [(key,.box (putX pr i b n es off ds cells) elem)] [key]) else pr.fail
   | none=>pr.fail
  | _=>pr.fail
 | _=>pr.fail
def idxC (es:Nat) (x:V3 Δ N) (k:K3 Δ N R M Ω) (j:Nat):Ω:=optK pr (addrOff3 pr (j*es) x) [] k
def indexK (arr:Option Nat) (es:Nat) (ob:Ups Δ N R M) (x:V3 Δ N) (i:L3 Δ N) (k:K3 Δ N R M Ω):Ω:=match arr with
 | some n=>match i with
  | .i _ z=>if 0≤z∧z < n then idxC pr es x k z.toNat else pr.fail
  | .d y=>match x with
   | .one (.pb key j off)=>pr.inx y (pr.natN n) fun i=>k (.one (.pb key j (pr.addN off (pr.mulN es i)))) [] []
   | .one (.ptr key off)=>match getO3 ob key with
    | some (.box cells _)=>match scals pr ((cells.drop off).take (n*es)) with
     | some _=>pr.inx y (pr.natN n) fun i=>k (.one (.px key off n es i 0)) [] []
     | none=>pr.selI n y ((List.range n).map (idxC pr es x k))
    | _=>pr.fail
   | _=>pr.selI n y ((List.range n).map (idxC pr es x k))
  | _=>pr.fail
 | none=>match scal pr i with
  | none=>pr.fail
  | some y=>match x with
   | .one (.slk key off n c)=>match getO3 ob key with
    | some (.arr rows size _ _)=>if size=es then pr.eqN c (pr.len rows) (pr.inx y n fun j=>k (.one (.pa key (match off with | none=>j | some o=>pr.addN o j) 0 c)) [] [key]) else pr.fail
    | _=>pr.fail
   | .one (.sln key n)=>match getO3 ob key with
    | some (.arn rows size _ _)=>if size=es then pr.eqN n (pr.len rows) (pr.inx y n fun j=>k (.one (.pa key j 0 n)) [] [key]) else pr.fail
    | _=>pr.fail
   | .one (.d z)=>pr.rowD es z y fun r=>k (.one (.dp (cellsOf pr es r) 0)) [] []
   | _=>pr.fail
def cutK (es:Nat) (ob:Ups Δ N R M) (x:V3 Δ N) (l h:Option Δ) (k:K3 Δ N R M Ω):Ω:=match x with
 | .one (.slk key off n c)=>match getO3 ob key with
  | some (.arr rows size _ _)=>if size=es then pr.eqN c (pr.len rows) (match l with
    | none=>pr.cut l h n (fun _ m=>k (.one (.slk key off m c)) [] [key]) pr.fail
    | some _=>pr.cut l h n (fun o m=>k (.one (.slk key (some (match off with | none=>o | some o'=>pr.addN o' o)) m c)) [] [key]) (k (.one (.d (pr.slD es (pr.rows [])))) [] [key])) else pr.fail
  | _=>pr.fail
 | .one (.d y)=>pr.cutD es y l h fun z=>k (.one (.d z)) [] []
 | .one .nil=>pr.cutNil l h (k (.one .nil) [] [])
 | _=>pr.fail
def rowsK (ob:Ups Δ N R M) (size n:Nat) (rows:List (List Δ)):List (Nat×V3 Δ N)→(List (List Δ)→Ups Δ N R M→List Nat→Ω)→Ω
 | [],k=>k rows [] []
 | (i,v)::rest,k=>match v.cells with
  | none=>pr.fail
  | some cs=>if cs.length=size∧i < n then frzs3 pr ob cs fun ds us rd=>rowsK ob size n (rows.set i ds) rest fun rows' us' rd'=>k rows' (us++us') (rd++rd') else pr.fail
def srcK (es:Nat) (ob:Ups Δ N R M) (x:V3 Δ N) (k:R→List Nat→Ω):Ω:=match x with
 | .one .nil=>k (pr.rows []) []
 | .one (.d y)=>pr.rowsD es y fun r=>k r []
 | .one (.slk key off n c)=>match getO3 ob key with
  | some (.arr rows size _ _)=>if size=es then pr.eqN c (pr.len rows) (k (pr.seg rows off n) [key]) else pr.fail
  | _=>pr.fail
 | .one (.sln key n)=>match getO3 ob key with
  | some (.arn rows size _ _)=>if size=es then pr.eqN n (pr.len rows) (k rows [key]) else pr.fail
  | _=>pr.fail
 | _=>pr.fail
def appendN (ob:Ups Δ N R M) (dst:Option Nat) (elem size bytes:Nat) (s:V3 Δ N) (new:R) (rd:List Nat) (k:K3 Δ N R M Ω):Ω :=
 pr.isNil new (k s [] rd) (pr.fits bytes (pr.len new) (fresh3 pr ob dst (.arr new size elem true) (fun key=>.one (.slk key none (pr.len new) (pr.len new))) fun v u rd'=>k v u (rd++rd')))
def appendK (ob:Ups Δ N R M) (dst:Option Nat) (elem size bytes:Nat) (s:V3 Δ N) (new:R) (rd:List Nat) (k:K3 Δ N R M Ω):Ω:=match s with
 | .one .nil=>appendN pr ob dst elem size bytes (.one .nil) new rd k
 | .one (.d y)=>pr.nilD y (appendN pr ob dst elem size bytes (.one .nil) new rd k)
 | .one (.slk key none n c)=>match getO3 ob key with
  | some (.arr rows size' elem' own)=>match own with
   | true=>if size'=size∧elem'=elem then pr.eqN c (pr.len rows) (pr.eqN n (pr.len rows) (pr.fits bytes (pr.addN n (pr.len new)) (k (.one (.slk key none (pr.addN n (pr.len new)) (pr.addN n (pr.len new)))) [(key,.arr (pr.app rows new) size elem true)] (rd++[key])))) else pr.fail
   | false=>pr.fail
  | _=>pr.fail
 | .one (.sln key n)=>match getO3 ob key with
  | some (.arn rows size' elem' own)=>match own with
   | true=>if size'=size∧elem'=elem then pr.eqN n (pr.len rows) (pr.fits bytes (pr.addN n (pr.len new)) (k (.one (.sln key (pr.addN n (pr.len new)))) [(key,.arn (pr.app rows new) size elem true)] (rd++[key]))) else pr.fail
   | false=>pr.fail
  | _=>pr.fail
 | _=>pr.fail
def lookPK (kd:Nat) (zs:List Value) (ob:Ups Δ N R M) (q:Nat) (key:Δ) (k:K3 Δ N R M Ω):Ω:=match getO3 ob q with
 | some (.ml keys vals)=>pr.selK kd keys key (vals.map fun x=>k (.one x) [] [q])
 | some (.am m _ _)=>pr.find kd m key (fun j=>k (.one (.pb q j (pr.natN 0))) [] [q]) (match zs with
  | [z]=>k (.one (lit3 pr z)) [] [q]
  | _=>pr.fail)
 | _=>pr.fail
def lookK (kd:Nat) (agg ok:Bool) (zs:List Value) (ob:Ups Δ N R M) (x:V3 Δ N) (key:Δ) (k:K3 Δ N R M Ω):Ω :=
 let fin:=fun (m:M) (rd:List Nat)=>pr.look kd zs m key fun r f=>match mkV3 agg ((cellsOf pr zs.length r).map .d) with
  | some v=>k (if ok then .tup [v,.one (.d f)] else v) [] rd
  | none=>pr.fail
 match x with
  | .one (.d y)=>pr.asM agg y fun m=>fin m []
  | .one (.mk q)=>match getO3 ob q with
   | some (.mp agg' m _)=>if agg==agg' then fin m [q] else pr.fail
   | _=>pr.fail
  | _=>pr.fail
def isAgg3:V3 Δ N→Bool | .agg _=>true | _=>false
def updK (kd:Nat) (agg:Bool) (ob:Ups Δ N R M) (x:V3 Δ N) (key:Δ) (v:V3 Δ N) (k:K3 Δ N R M Ω):Ω:=match x with
 | .one (.mk q)=>match getO3 ob q with
  | some (.mp agg' m own)=>if (own&&agg==agg'&&isAgg3 v==agg)=true then (match v.cells with
   | none=>pr.fail
   | some cs=>frzs3 pr ob cs fun ds us rd=>match us with
    | []=>pr.upd kd m key ds fun m'=>k (.one .undef) [(q,.mp agg m' true)] (q::rd)
    | _=>pr.fail) else pr.fail
  | _=>pr.fail
 | _=>pr.fail
def keyV:L3 Δ N→Option Value
 | .i k n=>some (.int k n)
 | .b v=>some (.bool v)
 | _=>none
def updPK (kd:Nat) (ob:Ups Δ N R M) (q:Nat) (key:L3 Δ N) (v:V3 Δ N) (k:K3 Δ N R M Ω):Ω:=match getO3 ob q with
 | some (.ml keys vals)=>match keyV key,v with
  | some kv,.one x=>if (isKey kd kv&&x.isDef)=true then (match mFind kd kv keys 0 with
   | some none=>k (.one .undef) [(q,.ml (keys++[kv]) (vals++[x]))] [q]
   | _=>pr.fail) else pr.fail
  | _,_=>pr.fail
 | some (.am m size elem)=>match scal pr key,v with
  | some y,.one (.pb q' j off)=>if q'=q then pr.eqN off (pr.natN 0) (pr.addK kd m y j fun m'=>k (.one .undef) [(q,.am m' size elem)] [q]) else pr.fail
  | _,_=>pr.fail
 | _=>pr.fail
def mmK (mx:Bool):Δ→List Δ→(Δ→Ω)→Ω
 | a,[],k=>k a
 | a,y::r,k=>pr.mm mx a y fun z=>mmK mx z r k
def binK (P:Program) (op:BinOp) (t:Nat) (x y:V3 Δ N) (k:K3 Δ N R M Ω):Ω:=match x,y with
 | .one x,.one y=>if (elemC P t).isSome=true then (match op,y,scal pr x with
  | .eql,.nil,some a=>pr.nilE a (k (.one (.b true)) [] []) (k (.one (.b false)) [] [])
  | .neq,.nil,some a=>pr.nilE a (k (.one (.b false)) [] []) (k (.one (.b true)) [] [])
  | _,_,_=>pr.fail) else if ptrC P t=true then (match op,x,y with
  | .eql,.np,.np=>k (.one (.b true)) [] []
  | .neq,.np,.np=>k (.one (.b false)) [] []
  | .eql,.pb _ _ _,.np=>k (.one (.b false)) [] []
  | .neq,.pb _ _ _,.np=>k (.one (.b true)) [] []
  | _,_,_=>pr.fail) else match scal pr x,scal pr y with
  | some a,some b=>pr.bin op (boolC P t) a b fun z=>k (.one (.d z)) [] []
  | _,_=>pr.fail
 | .agg xs,.agg ys=>match flatC P 8 t,scals pr xs,scals pr ys with
  | some ks,some xs,some ys=>if aggC P t=some true then (match op with
   | .eql=>pr.eqs ks false xs ys fun z=>k (.one (.d z)) [] []
   | .neq=>pr.eqs ks true xs ys fun z=>k (.one (.d z)) [] []
   | _=>pr.fail) else pr.fail
  | _,_,_=>pr.fail
 | _,_=>pr.fail
def callOpK (P:Program) (ob:Ups Δ N R M) (dst:Option Nat) (ρ:Operand→V3 Δ N) (c:Call) (k:K3 Δ N R M Ω):Ω:=match c.callee with
 | .builtin .len=>match c.args.toList with
  | [x]=>match c.argTypes.toList with
   | [t]=>match elemC P t with
    | some _=>match ρ x with
     | .one (.slk _ _ n _)=>k (.one (.d (pr.natD n))) [] []
     | .one (.sln _ n)=>k (.one (.d (pr.natD n))) [] []
     | .one .nil=>k (.one (.i .i64 0)) [] []
     | .one (.d y)=>pr.lenD y fun z=>k (.one (.d z)) [] []
     | _=>pr.fail
    | none=>if strC P t=true then (match scal1 pr (ρ x) with
     | some y=>pr.lenS y fun z=>k (.one (.d z)) [] []
     | none=>pr.fail) else pr.fail
   | _=>pr.fail
  | _=>pr.fail
 | .builtin .cap=>match c.args.toList,c.argTypes.toList with
  | [x],[t]=>match ρ x with
   | .one .nil=>if (elemC P t).isSome=true then k (.one (.i .i64 0)) [] [] else pr.fail
   | .one (.d y)=>if (elemC P t).isSome=true then pr.nilD y (k (.one (.i .i64 0)) [] []) else pr.fail
   | _=>pr.fail
  | _,_=>pr.fail
 | .builtin .clear=>match c.args.toList,c.argTypes.toList with
  | [x],[t]=>match (elemC P t).bind (zeroC P) with
   | some zs=>if 0 < zs.length then (match ρ x with
    | .one .nil=>k (.tup []) [] []
    | .one (.d y)=>pr.nilD y (k (.tup []) [] [])
    | .one (.slk key off n c)=>match getO3 ob key with
     | some (.arr rows size elem true)=>if size=zs.length then pr.eqN c (pr.len rows) (pr.eqN (match off with | none=>n | some o=>pr.addN o n) (pr.len rows) (k (.tup []) [(key,.arr (match off with | none=>pr.repl n (zs.map pr.lit) | some o=>pr.app (pr.seg rows none o) (pr.repl n (zs.map pr.lit))) size elem true)] [key])) else pr.fail
     | _=>pr.fail
    | _=>pr.fail) else pr.fail
   | none=>pr.fail
  | _,_=>pr.fail
 | .builtin .copy=>match c.args.toList,c.argTypes.toList with
  | [x,y],[t,t']=>match elemC P t with
   | some e=>match sizeC P e with
    | some sz=>if t=t'∧0 < sz then srcK pr sz ob (ρ y) fun new rd=>(match ρ x with
     | .one (.slk key none n c)=>match getO3 ob key with
      | some (.arr rows size elem true)=>if size=sz then pr.eqN c (pr.len rows) (pr.eqN n (pr.len rows) (k (.one (.d (pr.natD (pr.minN n (pr.len new))))) [(key,.arr (pr.app (pr.seg new none n) (pr.seg rows (some (pr.len new)) n)) size elem true)] (rd++[key]))) else pr.fail
      | _=>pr.fail
     | _=>pr.fail) else pr.fail
    | none=>pr.fail
   | none=>pr.fail
  | _,_=>pr.fail
 | .builtin .min=>match scalL pr ρ c.args.toList with
  | some (a::r)=>mmK pr false a r fun z=>k (.one (.d z)) [] []
  | _=>pr.fail
 | .builtin .max=>match scalL pr ρ c.args.toList with
  | some (a::r)=>mmK pr true a r fun z=>k (.one (.d z)) [] []
  | _=>pr.fail
 | .builtin .append=>match c.args.toList,c.argTypes.toList with
  | [s,x],[t,t']=>match elemC P t with
   | none=>pr.fail
   | some e=>match sizeC P e,bytesC P e,zeroC P e with
    | some sz,some bs,some zs=>match intC P t' with
     | some _=>match ρ s,scal1 pr (ρ x) with
      | .one .nil,some y=>if 0 < sz∧zs.length=sz then pr.gap bs y fun n=>fresh3 pr ob dst (.arr (pr.repl n (zs.map pr.lit)) sz e true) (fun key=>.one (.slk key none n n)) k else pr.fail
      | .one (.d x),some y=>if 0 < sz∧zs.length=sz then pr.nilD x (pr.gap bs y fun n=>fresh3 pr ob dst (.arr (pr.repl n (zs.map pr.lit)) sz e true) (fun key=>.one (.slk key none n n)) k) else pr.fail
      | _,_=>pr.fail
     | none=>if t=t'∧0 < sz∧0 < bs∧zs.length=sz then srcK pr sz ob (ρ x) fun new rd=>appendK pr ob dst e sz bs (ρ s) new rd k else pr.fail
    | _,_,_=>pr.fail
  | _,_=>pr.fail
 | _=>pr.fail
def op3 (P:Program) (ob:Ups Δ N R M) (dst:Option Nat) (ρ:Operand→V3 Δ N) (op:Op) (k:K3 Δ N R M Ω):Ω:=match op with
 | .move x=>k (ρ x) [] []
 | .assign x=>k (ρ x) [] []
 | .pick c a b=>match ρ c with
  | .one (.b true)=>k (ρ a) [] []
  | .one (.b false)=>k (ρ b) [] []
  | .one (.d y)=>pr.cond y (k (ρ a) [] []) (k (ρ b) [] [])
  | _=>pr.fail
 | .box elem x=>match (ρ x).cells with
  | some cs=>match dst with
   | none=>frzs3 pr ob cs fun ds us rd=>k (.one (.dp ds 0)) us rd
   | some key=>match getO3 ob key with
    | some (.am m size elem')=>match scals pr cs with
     | some ds=>if elem'=elem∧cs.length=size then k (.one (.pb key (pr.len (pr.mrows m)) (pr.natN 0))) [(key,.am (pr.mset m (pr.app (pr.mrows m) (pr.rows [ds]))) size elem)] [key] else pr.fail
     | none=>pr.fail
    | _=>fresh3 pr ob dst (.box cs elem) (fun key=>.one (.ptr key 0)) k
  | none=>pr.fail
 | .alloc elem=>match zeroC P elem with
  | some zs=>fresh3 pr ob dst (.box (zs.map (lit3 pr)) elem) (fun key=>.one (.ptr key 0)) k
  | none=>pr.fail
 | .build t parts=>match zeroC P t with
  | some zs=>if (aggC P t==some true&&layC P t)=true then (match fill3 (placeC P t) (zs.map (lit3 pr)) (parts.toList.map fun p=>(p.1,ρ p.2)) with
   | some cs=>k (.agg cs) [] []
   | none=>pr.fail) else pr.fail
  | none=>pr.fail
 | .buildSlice t len parts=>match elemC P t with
  | none=>pr.fail
  | some e=>match sizeC P e,zeroC P e with
   | some s,some zs=>if 0 < s∧zs.length=s∧len*s≤16777216 then rowsK pr ob s len (List.replicate len (zs.map pr.lit)) (parts.toList.map fun p=>(p.1,ρ p.2)) fun rows us rd =>
     match dst with
     | some _=>fresh3 pr ob dst (.arr (pr.rows rows) s e true) (fun key=>.one (.slk key none (pr.natN len) (pr.natN len))) fun v u rd'=>k v (us++u) (rd++rd')
     | none=>k (.one (.d (pr.slD s (pr.rows rows)))) us rd else pr.fail
   | _,_=>pr.fail
 | .load t a=>match aggC P t,sizeC P t with
  | some g,some s=>loadK pr g s ob (ρ a) k
  | _,_=>pr.fail
 | .store t a x=>match (ρ x).cells with
  | some cs=>if (sizeC P t==some cs.length)=true then storeK pr ob (ρ a) cs k else pr.fail
  | none=>pr.fail
 | .nilCheck x=>match ρ x with
  | .one (.ptr ..)=>k (ρ x) [] []
  | .one (.pa ..)=>k (ρ x) [] []
  | .one (.dp ..)=>k (ρ x) [] []
  | .one (.pb ..)=>k (ρ x) [] []
  | .one (.px ..)=>k (ρ x) [] []
  | .one (.d y)=>pr.isPtr y (k (ρ x) [] [])
  | _=>pr.fail
 | .binOp op t x y _=>binK pr P op t (ρ x) (ρ y) k
 | .unOp op _ x=>match op,ρ x with
  | .not,.one (.b v)=>k (.one (.b !v)) [] []
  | .not,.one (.d y)=>pr.un .not y fun z=>k (.one (.d z)) [] []
  | .neg,v=>match scal1 pr v with
   | some y=>pr.un .neg y fun z=>k (.one (.d z)) [] []
   | none=>pr.fail
  | _,_=>pr.fail
 | .makeFunc fn first captured=>match fn,oneCells3 (first.toList.map ρ),oneCells3 (captured.toList.map ρ) with
  | .func f,some [],some caps=>if f < 2000000 then k (.one (.fn f caps)) [] [] else pr.fail
  | .func f,some (c::cs),some []=>k (.one (.fn (f+2000000) (c::cs))) [] []
  | _,_,_=>pr.fail
 | .makeInterface t x=>if conC P t=true then (match aggC P t,ρ x with
  | some false,.one y=>match scal pr y with
   | some z=>k (.one (.d (pr.ifD t false [z]))) [] []
   | none=>pr.fail
  | some true,.agg ys=>match scals pr ys with
   | some zs=>k (.one (.d (pr.ifD t true zs))) [] []
   | none=>pr.fail
  | _,_=>pr.fail) else pr.fail
 | .makeSlice t l c=>match elemC P t with
  | none=>pr.fail
  | some e=>match sizeC P e,zeroC P e,bytesC P e with
   | some s,some zs,some bs=>match scal1 pr (ρ l),scal1 pr (ρ c) with
    | some n,some m=>if 0 < s∧zs.length=s then pr.mkN bs n m fun n=>fresh3 pr ob dst (.arr (pr.repl n (zs.map pr.lit)) s e true) (fun key=>.one (.slk key none n n)) k else pr.fail
    | _,_=>pr.fail
   | _,_,_=>pr.fail
 | .slice t x lo hi mx=>if strC P t=true then (match mx,scal1 pr (ρ x),scalO pr ρ lo,scalO pr ρ hi with
  | none,some a,some l,some h=>pr.cutS a l h fun z=>k (.one (.d z)) [] []
  | _,_,_,_=>pr.fail) else match elemC P t,mx with
  | some e,none=>match scalO pr ρ lo,scalO pr ρ hi,sizeC P e with
   | some l,some h,some s=>cutK pr s ob (ρ x) l h k
   | _,_,_=>pr.fail
  | _,_=>pr.fail
 | .fieldAddr s x f=>match fieldC P s f with
  | some p=>match ρ x with
   | .one (.d y)=>match sizeC P s with
    | some n=>pr.ptrW n y fun w=>optK pr (addrOff3 pr p.1 (.one (.dp (cellsOf pr n w) 0))) [] k
    | none=>pr.fail
   | v=>optK pr (addrOff3 pr p.1 v) [] k
  | none=>pr.fail
 | .field s x f=>match fieldC P s f,ρ x with
  | some p,.agg cs=>optK pr (getCells3 p.2.2 p.2.1 p.1 cs) [] k
  | _,_=>pr.fail
 | .indexAddr t x ix=>match ρ ix with
  | .one i=>match arrC P t with
   | some p=>match sizeC P p.2 with
    | some s=>indexK pr (some p.1) s ob (ρ x) i k
    | none=>pr.fail
   | none=>match elemC P t with
    | some e=>match sizeC P e with
     | some s=>indexK pr none s ob (ρ x) i k
     | none=>pr.fail
    | none=>pr.fail
  | _=>pr.fail
 | .index t x ix=>if strC P t=true then (match scal1 pr (ρ x),scal1 pr (ρ ix) with
  | some a,some b=>pr.atS a b fun z=>k (.one (.d z)) [] []
  | _,_=>pr.fail) else match arrC P t with
  | some p=>match sizeC P p.2,aggC P p.2,ρ x with
   | some s,some g,.agg cs=>match ρ ix with
    | .one (.i _ z)=>if 0≤z∧z < p.1 then optK pr (getCells3 g s (z.toNat*s) cs) [] k else pr.fail
    | .one (.d y)=>match scals pr cs with
     | some ds=>if ds.length=p.1*s then pr.inx y (pr.natN p.1) fun i=>optK pr (mkV3 g ((List.range s).map fun q=>.d (pr.selN i ((List.range p.1).map fun j=>ds.getD (j*s+q) (pr.lit .nilFunc))))) [] k else pr.fail
     | none=>pr.selI p.1 y ((List.range p.1).map fun j=>optK pr (getCells3 g s (j*s) cs) [] k)
    | _=>pr.fail
   | _,_,_=>pr.fail
  | none=>pr.fail
 | .convert src dst x=>if strC P dst=true then (match (elemC P src).bind (intC P) with
  | some .u8=>srcK pr 1 ob (ρ x) fun rows rd=>pr.strB rows fun z=>k (.one (.d z)) [] (rd++[])
  | _=>pr.fail) else match intC P src,intC P dst,scal1 pr (ρ x) with
  | some _,some kd,some y=>pr.cvI kd y fun z=>k (.one (.d z)) [] []
  | _,_,_=>pr.fail
 | .makeMap t none=>match keyC P t,(melemC P t).bind (aggC P) with
  | some _,some g=>match (melemC P t).bind fun e=>mapO P e g with
   | some (.mp ..)=>fresh3 pr ob dst (.mp g pr.emp true) (fun key=>.one (.mk key)) k
   | some (.ml ..)=>fresh3 pr ob dst (.ml [] []) (fun key=>.one (.mq key)) k
   | some (.am _ _ s t')=>fresh3 pr ob dst (.am pr.emp s t') (fun key=>.one (.mq key)) k
   | _=>pr.fail
  | _,_=>pr.fail
 | .lookup t x ix ok=>match keyC P t,melemC P t with
  | some kd,some e=>match aggC P e,zeroC P e,scal1 pr (ρ ix) with
   | some g,some zs,some key=>if zshape P e g=true then (match ρ x with
    | .one (.mq q)=>if (!ok&&!g)=true then lookPK pr kd zs ob q key k else pr.fail
    | v=>lookK pr kd g ok zs ob v key k) else pr.fail
   | _,_,_=>pr.fail
  | _,_=>pr.fail
 | .mapUpdate t m q v=>match keyC P t,(melemC P t).bind (aggC P) with
  | some kd,some g=>match ρ m with
   | .one (.mq r)=>match ρ q with
    | .one x=>updPK pr kd ob r x (ρ v) k
    | _=>pr.fail
   | u=>match scal1 pr (ρ q) with
    | some key=>updK pr kd g ob u key (ρ v) k
    | none=>pr.fail
  | _,_=>pr.fail
 | .insert t m q v=>match keyC P t,(melemC P t).bind (aggC P) with
  | some kd,some g=>match ρ m with
   | .one (.mq r)=>match ρ q with
    | .one x=>updPK pr kd ob r x (ρ v) k
    | _=>pr.fail
   | u=>match scal1 pr (ρ q) with
    | some key=>updK pr kd g ob u key (ρ v) k
    | none=>pr.fail
  | _,_=>pr.fail
 | .extract t i=>match ρ t with
  | .tup vs=>optK pr vs[i]? [] k
  | _=>pr.fail
 | .call c=>callOpK pr P ob dst ρ c k
 | _=>pr.fail
end
end Go.VE
namespace Go.VE
open Go.RowKit
section
variable {Δ N R W M E Ω:Type} (pr:Pr Δ N R W M E Ω)
def sameK (a b:Value):Bool:=kEq 0 a b==some true||kEq 1 a b==some true||kEq 2 a b==some true
def sameKs:List Value→List Value→Bool
 | [],[]=>true
 | a::as,b::bs=>sameK a b&&sameKs as bs
 | _,_=>false
mutual
def fitL:L3 Unit Unit→L3 Δ N→Option (List (Y Δ N R M))
 | .d _,x=>match scal pr x with
  | some y=>some [.d y]
  | none=>none
 | .b v,.b v'=>if v=v' then some [] else none
 | .i k n,.i k' n'=>if k=k'∧n=n' then some [] else none
 | .nil,.nil=>some []
 | .dp r o,.dp r' o'=>if r.length=r'.length∧o=o' then some (r'.map .d) else none
 | .fn f cs,.fn f' cs'=>if f=f' then fitLs cs cs' else none
 | .slk k none _ _,.slk k' none n c=>if k=k' then some [.n n,.n c] else none
 | .slk k (some _) _ _,.slk k' (some o) n c=>if k=k' then some [.n o,.n n,.n c] else none
 | .slk k (some _) _ _,.slk k' none n c=>if k=k' then some [.n (pr.natN 0),.n n,.n c] else none
 | .pa k _ o _,.pa k' i o' c=>if k=k'∧o=o' then some [.n i,.n c] else none
 | .ptr k o,.ptr k' o'=>if k=k'∧o=o' then some [] else none
 | .mk k,.mk k'=>if k=k' then some [] else none
 | .mq k,.mq k'=>if k=k' then some [] else none
 | .pb k _ _,.pb k' j o=>if k=k' then some [.n j,.n o] else none
 | .px k b n es _ o,.px k' b' n' es' i o'=>if k=k'∧b=b'∧n=n'∧es=es'∧o=o' then some [.n i] else none
 | .np,.np=>some []
 | .sln k _,.sln k' n=>if k=k' then some [.n n] else none
 | .undef,.undef=>some []
 | _,_=>none
def fitLs:List (L3 Unit Unit)→List (L3 Δ N)→Option (List (Y Δ N R M))
 | [],[]=>some []
 | x::xs,y::ys=>match fitL x y,fitLs xs ys with
  | some a,some b=>some (a++b)
  | _,_=>none
 | _,_=>none
end
mutual
def fitV:V3 Unit Unit→V3 Δ N→Option (List (Y Δ N R M))
 | .one x,.one y=>fitL pr x y
 | .agg xs,.agg ys=>fitLs pr xs ys
 | .tup xs,.tup ys=>fitVs xs ys
 | _,_=>none
def fitVs:List (V3 Unit Unit)→List (V3 Δ N)→Option (List (Y Δ N R M))
 | [],[]=>some []
 | x::xs,y::ys=>match fitV x y,fitVs xs ys with
  | some a,some b=>some (a++b)
  | _,_=>none
 | _,_=>none
end
def fitO:O3 Unit Unit Unit Unit→O3 Δ N R M→Option (List (Y Δ N R M))
 | .box cs e,.box cs' e'=>if e=e' then fitLs pr cs cs' else none
 | .arr _ s e o,.arr rows s' e' o'=>if s=s'∧e=e'∧o=o' then some [.r rows] else none
 | .mp g _ o,.mp g' m o'=>if g=g'∧o=o' then some [.m m] else none
 | .ml ks cs,.ml ks' cs'=>if sameKs ks ks'=true then fitLs pr cs cs' else none
 | .am _ s e,.am m s' e'=>if s=s'∧e=e' then some [.m m] else none
 | .arn _ s e o,.arn rows s' e' o'=>if s=s'∧e=e'∧o=o' then some [.r rows] else none
 | _,_=>none
def fitT (s:V3 Unit Unit) (x:V3 Δ N):Option (List (Y Δ N R M)):=match s with
 | .one .undef=>some []
 | s=>fitV pr s x
def fitEnv (env:List (Nat×V3 Δ N)):List (Nat×V3 Unit Unit)→Option (List (Y Δ N R M))
 | []=>some []
 | (t,v)::r=>match fitT pr v (getE3 env t),fitEnv env r with
  | some a,some b=>some (a++b)
  | _,_=>none
def fitOb (ob:Ups Δ N R M):Ups Unit Unit Unit Unit→Option (List (Y Δ N R M))
 | []=>some []
 | (k,o)::r=>match getO3 ob k with
  | some o'=>match fitO pr o o',fitOb ob r with
   | some a,some b=>some (a++b)
   | _,_=>none
  | none=>none
def shutSk (sk:Sk):Bool:=(sk.env.all fun p=>p.2.keysOf.all fun k=>(sk.ob.map (·.1)).contains k)&&(sk.ob.all fun p=>p.2.keysOf.all fun k=>(sk.ob.map (·.1)).contains k)
def exEq:Ex→Ex→Bool
 | .normal,.normal=>true
 | .ret,.ret=>true
 | .exit i,.exit j=>i==j
 | _,_=>false
def pendEq:Option Ex→Option Ex→Bool
 | none,none=>true
 | some a,some b=>exEq a b
 | _,_=>false
def fitS (pk:List Nat) (sk:Sk) (st:S3 Δ N R M):Option (List (Y Δ N R M)) :=
 if (shutSk sk&&pk.all (sk.ob.map (·.1)).contains&&pendEq sk.pend st.pend&&sk.ys.all st.ys.contains)=true then
  match fitEnv pr st.env sk.env,fitOb pr st.ob sk.ob with
  | some a,some b=>some (a++b)
  | _,_=>none
 else none
def fitAny (pk:List Nat) (st:S3 Δ N R M):List Sk→Nat→Option (Nat×List (Y Δ N R M))
 | [],_=>none
 | sk::r,j=>match fitS pr pk sk st with
  | some ys=>some (j,ys)
  | none=>fitAny pk st r (j+1)
def fitEx (pk:List Nat) (e:Ex) (st:S3 Δ N R M):List (Ex×Sk)→Nat→Option (Nat×List (Y Δ N R M))
 | [],_=>none
 | (x,sk)::r,j=>if exEq x e=true then (match fitS pr pk sk st with
  | some ys=>some (j,ys)
  | none=>fitEx pk e st r (j+1)) else fitEx pk e st r (j+1)
mutual
def fillL3 (e:E):L3 Unit Unit→Nat→L3 Δ N×Nat
 | .d _,j=>(.d (pr.ld e j),j+1)
 | .b v,j=>(.b v,j)
 | .i k n,j=>(.i k n,j)
 | .nil,j=>(.nil,j)
 | .dp r o,j=>(.dp ((List.range r.length).map fun i=>pr.ld e (j+i)) o,j+r.length)
 | .fn f cs,j=>(.fn f (fillLs3 e cs j).1,(fillLs3 e cs j).2)
 | .slk k none _ _,j=>(.slk k none (pr.ln e j) (pr.ln e (j+1)),j+2)
 | .slk k (some _) _ _,j=>(.slk k (some (pr.ln e j)) (pr.ln e (j+1)) (pr.ln e (j+2)),j+3)
 | .pa k _ o _,j=>(.pa k (pr.ln e j) o (pr.ln e (j+1)),j+2)
 | .ptr k o,j=>(.ptr k o,j)
 | .mk k,j=>(.mk k,j)
 | .mq k,j=>(.mq k,j)
 | .pb k _ _,j=>(.pb k (pr.ln e j) (pr.ln e (j+1)),j+2)
 | .px k b n es _ o,j=>(.px k b n es (pr.ln e j) o,j+1)
 | .np,j=>(.np,j)
 | .sln k _,j=>(.sln k (pr.ln e j),j+1)
 | .undef,j=>(.undef,j)
def fillLs3 (e:E):List (L3 Unit Unit)→Nat→List (L3 Δ N)×Nat
 | [],j=>([],j)
 | x::xs,j=>((fillL3 e x j).1::(fillLs3 e xs (fillL3 e x j).2).1,(fillLs3 e xs (fillL3 e x j).2).2)
end
mutual
def fillV3 (e:E):V3 Unit Unit→Nat→V3 Δ N×Nat
 | .one x,j=>(.one (fillL3 pr e x j).1,(fillL3 pr e x j).2)
 | .agg xs,j=>(.agg (fillLs3 pr e xs j).1,(fillLs3 pr e xs j).2)
 | .tup xs,j=>(.tup (fillVs3 e xs j).1,(fillVs3 e xs j).2)
def fillVs3 (e:E):List (V3 Unit Unit)→Nat→List (V3 Δ N)×Nat
 | [],j=>([],j)
 | x::xs,j=>((fillV3 e x j).1::(fillVs3 e xs (fillV3 e x j).2).1,(fillVs3 e xs (fillV3 e x j).2).2)
end
def fillO3 (e:E):O3 Unit Unit Unit Unit→Nat→O3 Δ N R M×Nat
 | .box cs el,j=>(.box (fillLs3 pr e cs j).1 el,(fillLs3 pr e cs j).2)
 | .arr _ s el o,j=>(.arr (pr.lr e j) s el o,j+1)
 | .mp g _ o,j=>(.mp g (pr.lm e j) o,j+1)
 | .ml ks cs,j=>(.ml ks (fillLs3 pr e cs j).1,(fillLs3 pr e cs j).2)
 | .am _ s el,j=>(.am (pr.lm e j) s el,j+1)
 | .arn _ s el o,j=>(.arn (pr.lr e j) s el o,j+1)
def fillEnv (e:E):List (Nat×V3 Unit Unit)→Nat→List (Nat×V3 Δ N)×Nat
 | [],j=>([],j)
 | (t,v)::r,j=>((t,(fillV3 pr e v j).1)::(fillEnv e r (fillV3 pr e v j).2).1,(fillEnv e r (fillV3 pr e v j).2).2)
def fillOb (e:E):Ups Unit Unit Unit Unit→Nat→Ups Δ N R M×Nat
 | [],j=>([],j)
 | (k,o)::r,j=>((k,(fillO3 pr e o j).1)::(fillOb e r (fillO3 pr e o j).2).1,(fillOb e r (fillO3 pr e o j).2).2)
def fillS (e:E) (sk:Sk):S3 Δ N R M :=
 ⟨(fillEnv pr e sk.env 0).1,(fillOb pr e sk.ob (fillEnv pr e sk.env 0).2).1,sk.ys,sk.pend⟩
def resV3 (P:Program) (ob:Ups Δ N R M) (env:List (Nat×V3 Δ N)):List ResultVar→(List (V3 Δ N)→Ω)→Ω
 | [],k=>k []
 | .tmp t::r,k=>resV3 P ob env r fun vs=>k (getE3 env t::vs)
 | .cell a T::r,k=>match aggC P T,sizeC P T with
  | some g,some s=>loadK pr g s ob (getE3 env a) fun v _ _=>resV3 P ob env r fun vs=>k (v::vs)
  | _,_=>pr.fail
def rcK (ob:Ups Δ N R M):RK→L3 Δ N→(Y Δ N R M→List Nat→Ω)→Ω
 | .d,.slk key none n c,k=>match getO3 ob key with
  | some (.arr rows size _ _)=>pr.eqN c (pr.len rows) (pr.leN n (pr.len rows) (k (.d (pr.slD size (pr.seg rows none n))) [key]))
  | _=>pr.fail
 | .own s e,.slk key none n c,k=>match getO3 ob key with
  | some (.arr rows size elem true)=>if s=size∧e=elem then pr.eqN c (pr.len rows) (pr.leN n (pr.len rows) (k (.r (pr.seg rows none n)) [key])) else pr.fail
  | _=>pr.fail
 | .d,.mk key,k=>match getO3 ob key with
  | some (.mp agg m _)=>k (.d (pr.mpD agg m)) [key]
  | _=>pr.fail
 | .om g,.mk key,k=>match getO3 ob key with
  | some (.mp agg m true)=>if g=agg then k (.m m) [key] else pr.fail
  | _=>pr.fail
 | .d,x,k=>match scal pr x with
  | some y=>k (.d y) []
  | none=>pr.fail
 | _,_,_=>pr.fail
def rcsK (ob:Ups Δ N R M):List RK→List (L3 Δ N)→(List (Y Δ N R M)→List Nat→Ω)→Ω
 | [],[],k=>k [] []
 | r::rs,x::xs,k=>rcK pr ob r x fun y u=>rcsK ob rs xs fun ys us=>k (y::ys) (u++us)
 | _,_,_=>pr.fail
def rvsK (ob:Ups Δ N R M):RS→List (V3 Δ N)→(List (Y Δ N R M)→List Nat→Ω)→Ω
 | [],[],k=>k [] []
 | (false,[r])::rs,.one x::vs,k=>rcK pr ob r x fun y u=>rvsK ob rs vs fun ys us=>k (y::ys) (u++us)
 | (true,r)::rs,.agg xs::vs,k=>rcsK pr ob r xs fun y u=>rvsK ob rs vs fun ys us=>k (y++ys) (u++us)
 | _,_,_=>pr.fail
def rcFit (ob:Ups Δ N R M):RK→L3 Δ N→Bool
 | .d,.undef=>false
 | .d,_=>true
 | .own s e,.slk key none _ _=>match getO3 ob key with
  | some (.arr _ size elem own)=>own&&s==size&&e==elem
  | _=>false
 | .om g,.mk key=>match getO3 ob key with
  | some (.mp agg _ own)=>own&&g==agg
  | _=>false
 | _,_=>false
def rcsFit (ob:Ups Δ N R M):List RK→List (L3 Δ N)→Bool
 | [],[]=>true
 | r::rs,x::xs=>rcFit ob r x&&rcsFit ob rs xs
 | _,_=>false
def rvsFit (ob:Ups Δ N R M):RS→List (V3 Δ N)→Bool
 | [],[]=>true
 | (false,[r])::rs,.one x::vs=>rcFit ob r x&&rvsFit ob rs vs
 | (true,r)::rs,.agg xs::vs=>rcsFit ob r xs&&rvsFit ob rs vs
 | _,_=>false
def RK.isD:RK→Bool | .d=>true | _=>false
def allD (rs:RS):Bool:=rs.all fun p=>p.2.all RK.isD
def rsFind (ob:Ups Δ N R M) (vs:List (V3 Δ N)):List RS→Nat→Option (Nat×RS)
 | [],_=>none
 | x::r,j=>if rvsFit ob x vs=true then some (j,x) else rsFind ob vs r (j+1)
def formC (ob:Ups Δ N R M):L3 Δ N→RK
 | .slk key none _ _=>match getO3 ob key with
  | some (.arr _ size elem true)=>.own size elem
  | _=>.d
 | .mk key=>match getO3 ob key with
  | some (.mp agg _ true)=>.om agg
  | _=>.d
 | _=>.d
def formV (ob:Ups Δ N R M):V3 Δ N→Bool×List RK
 | .one x=>(false,[formC ob x])
 | .agg xs=>(true,xs.map (formC ob))
 | .tup _=>(false,[])
def rdsK (ob:Ups Δ N R M):List (V3 Δ N)→(List (Y Δ N R M)→Ω)→Ω
 | [],k=>k []
 | .one x::vs,k=>toD3 pr ob 4 x fun y _=>rdsK ob vs fun ys=>k (.d y::ys)
 | .agg xs::vs,k=>toDs3 (toD3 pr ob 4) xs fun y _=>rdsK ob vs fun ys=>k (y.map .d++ys)
 | .tup _::_,_=>pr.fail
def nodupN:List Nat→Bool
 | []=>true
 | x::xs=>!xs.contains x&&nodupN xs
def layC3 (e:E) (base:Nat):RK→Nat→Nat→L3 Δ N×Ups Δ N R M×Nat
 | .d,j,n=>(.d (pr.ld e j),[],n)
 | .own size elem,j,n=>(.slk (base+n) none (pr.len (pr.lr e j)) (pr.len (pr.lr e j)),[(base+n,.arr (pr.lr e j) size elem true)],n+1)
 | .om agg,j,n=>(.mk (base+n),[(base+n,.mp agg (pr.lm e j) true)],n+1)
def layCs3 (e:E) (base:Nat):List RK→Nat→Nat→List (L3 Δ N)×Ups Δ N R M×Nat
 | [],_,n=>([],[],n)
 | x::xs,j,n=>((layC3 pr e base x j n).1::(layCs3 e base xs (j+1) (layC3 pr e base x j n).2.2).1,(layC3 pr e base x j n).2.1++(layCs3 e base xs (j+1) (layC3 pr e base x j n).2.2).2.1,(layCs3 e base xs (j+1) (layC3 pr e base x j n).2.2).2.2)
def one3 (g:Bool) (xs:List (L3 Δ N)):V3 Δ N:=match g,xs with
 | false,[x]=>.one x
 | _,xs=>.agg xs
def layRs3 (e:E) (base:Nat):RS→Nat→Nat→List (V3 Δ N)×Ups Δ N R M×Nat
 | [],_,n=>([],[],n)
 | (g,cs)::r,j,n=>(one3 g (layCs3 pr e base cs j n).1::(layRs3 e base r (j+cs.length) (layCs3 pr e base cs j n).2.2).1,(layCs3 pr e base cs j n).2.1++(layRs3 e base r (j+cs.length) (layCs3 pr e base cs j n).2.2).2.1,(layRs3 e base r (j+cs.length) (layCs3 pr e base cs j n).2.2).2.2)
def packV3:List (V3 Δ N)→V3 Δ N
 | [x]=>x
 | xs=>.tup xs
def absent3 (ob:Ups Δ N R M):Ups Δ N R M→Bool
 | []=>true
 | (k,_)::r=>(match getO3 ob k with | none=>true | some _=>false)&&absent3 ob r
def argV3:List Sh→List Δ→Option (List (V3 Δ N))
 | [],[]=>some []
 | .one::r,x::xs=>match argV3 r xs with
  | some vs=>some (.one (.d x)::vs)
  | none=>none
 | .agg n::r,xs=>if (xs.take n).length=n then (match argV3 r (xs.drop n) with
  | some vs=>some (.agg ((xs.take n).map .d)::vs)
  | none=>none) else none
 | .ptr n::r,xs=>if (xs.take n).length=n then (match argV3 r (xs.drop n) with
  | some vs=>some (.one (.dp (xs.take n) 0)::vs)
  | none=>none) else none
 | _,_=>none
def argsK (ob:Ups Δ N R M):List Sh→List (V3 Δ N)→(List Δ→List Nat→Ω)→Ω
 | [],[],k=>k [] []
 | .one::r,.one x::vs,k=>toD3 pr ob 4 x fun d rd=>argsK ob r vs fun ds rd'=>k (d::ds) (rd++rd')
 | .agg n::r,.agg xs::vs,k=>if xs.length=n then toDs3 (toD3 pr ob 4) xs fun d rd=>argsK ob r vs fun ds rd'=>k (d++ds) (rd++rd') else pr.fail
 | .ptr n::r,.one (.dp row o)::vs,k=>if row.length=n∧o=0 then argsK ob r vs fun ds rd'=>k (row++ds) rd' else pr.fail
 | .ptr n::r,.one (.d x)::vs,k=>pr.ptrW n x fun w=>argsK ob r vs fun ds rd'=>k (cellsOf pr n w++ds) rd'
 | .ptr n::r,.one (.ptr key o)::vs,k=>match getO3 ob key with
  | some (.box cells _)=>if cells.length=n∧o=0 then toDs3 (toD3 pr ob 3) cells fun d rd=>argsK ob r vs fun ds rd'=>k (d++ds) (key::rd++rd') else pr.fail
  | _=>pr.fail
 | .ptr n::r,.one (.pa key i o c)::vs,k=>match getO3 ob key with
  | some (.arr rows size _ _)=>if size=n∧o=0 then pr.eqN c (pr.len rows) (pr.rowAt size rows i fun w=>argsK ob r vs fun ds rd'=>k (cellsOf pr size w++ds) (key::rd')) else pr.fail
  | _=>pr.fail
 | _,_,_=>pr.fail
def L3.isD:L3 Δ N→Bool
 | .d _ | .b _ | .i _ _ | .nil | .dp _ _=>true
 | _=>false
def L3.isF:L3 Δ N→Bool
 | .fn _ caps=>caps.all L3.isD
 | x=>x.isD
def V3.isD:V3 Δ N→Bool
 | .one l=>l.isF
 | .agg ls=>ls.all L3.isD
 | .tup _=>false
structure Ms where
 args:List (V3 Unit Unit)
 obs:List (Nat×O3 Unit Unit Unit Unit)
 res:Option (Bool×Nat)
 ref:Option Nat
 wn:Bool
structure Cf3 where
 inl:Nat→Option Bd
 draw:Nat→Nat→Array Oper→List (Nat×Nat)
 lp:Nat→Nat→Nat→List (Sk×List Sk×List (Ex×Sk))
 jn:Nat→Nat→Nat→Option (List (Sk×List (Ex×Sk)))
 gj:Nat→Nat→Nat→Option (Nat×List (Sk×List (Ex×Sk)))
 ash:Nat→Option (List Sh)
 rsk:Nat→List RS
 iv:String→Nat
 ms:Nat→Option Ms
 sp:Nat→Option (Nat×Nat×Nat)
 cb:Nat→Nat→Bool
 fz:Nat→Nat→Nat→List (Option Nat×Nat)
 ar:Nat→Nat→Option Nat
 nz:Nat→Nat→Nat→List ((Option Nat×Nat)×(Nat×Nat×Nat))
def fn3:V3 Δ N→Option (Nat×List (L3 Δ N))
 | .one (.fn f caps)=>if f < 2000000 then some (f,caps) else none
 | _=>none
def leafOf (e:E) (p:RK×Nat):Y Δ N R M:=match p.1 with
 | .d=>.d (pr.ld e p.2)
 | .own _ _=>.r (pr.lr e p.2)
 | .om _=>.m (pr.lm e p.2)
def callK (cfg:Cf3) (ob:Ups Δ N R M) (dst:Option Nat) (f:Nat) (args:List (V3 Δ N)) (caps:List (L3 Δ N)) (k:K3 Δ N R M Ω):Ω:=match cfg.ash f with
 | none=>pr.fail
 | some sh=>argsK pr ob sh (args++caps.map .one) fun ds rd=>pr.bnd (pr.call f ds) ((cfg.rsk f).map fun rs=>fun e =>
   let vs:=(layRs3 pr e (baseOf dst) rs 0 0).1
   let us:=(layRs3 pr e (baseOf dst) rs 0 0).2.1
   if nodupN (us.map (·.1))=true∧absent3 ob us=true then
    (if (args.all V3.isD&&caps.all L3.isD)=true then k (packV3 vs) us (rd++us.map (·.1)) else pr.lits ((rs.flatMap (·.2)).zipIdx.map (leafOf pr e)) (k (packV3 vs) us (rd++us.map (·.1))))
   else pr.fail)
def shs3:List (V3 Δ N)→Option (List Sh)
 | []=>some []
 | .one (.dp _ _)::_=>none
 | .one (.ptr _ _)::_=>none
 | .one (.pa _ _ _ _)::_=>none
 | .one _::r=>match shs3 r with
  | some s=>some (.one::s)
  | none=>none
 | .agg xs::r=>match shs3 r with
  | some s=>some (.agg xs.length::s)
  | none=>none
 | .tup _::_=>none
def opC3 (cfg:Cf3) (P:Program) (ob:Ups Δ N R M) (dst:Option Nat) (ρ:Operand→V3 Δ N) (op:Op) (k:K3 Δ N R M Ω):Ω:=match calleeOf op with
 | some (fo,args)=>match ρ fo with
  | .one (.fn f caps)=>if f < 2000000 then callK pr cfg ob dst f (args.map ρ) caps k else callK pr cfg ob dst (f - 2000000) (caps.map .one++args.map ρ) [] k
  | .one (.d x)=>match shs3 (args.map ρ) with
   | some sh=>argsK pr ob sh (args.map ρ) fun ds rd=>pr.bnd (pr.callD x sh ds) [fun e=>if (args.map ρ).all V3.isD=true then k (.one (.d (pr.ld e 0))) [] rd else pr.lits [.d (pr.ld e 0)] (k (.one (.d (pr.ld e 0))) [] rd)]
   | none=>pr.fail
  | _=>pr.fail
 | none=>match invOf op with
  | some (recv,name)=>match ρ recv with
   | .one (.d x)=>pr.bnd (pr.callD x [.met name (cfg.iv name)] []) [fun e =>
    let vs:=(layRs3 pr e (baseOf dst) (List.replicate (cfg.iv name) (false,[.d])) 0 0).1
    let us:=(layRs3 pr e (baseOf dst) (List.replicate (cfg.iv name) (false,[.d])) 0 0).2.1
    if nodupN (us.map (·.1))=true∧absent3 ob us=true then k (packV3 vs) us (us.map (·.1)) else pr.fail]
   | _=>pr.fail
  | none=>op3 pr P ob dst ρ op k
mutual
def leafM (ρ:Nat→Nat):L3 Unit Unit→L3 Δ N→Option (List Δ)
 | .d _,x=>match scal pr x with
  | some y=>some [y]
  | none=>none
 | .fn f cs,.fn f' cs'=>if f=f' then leafMs ρ cs cs' else none
 | .mk c,.mk k=>if ρ c=k then some [] else none
 | .ptr c o,.ptr k o'=>if ρ c=k∧o=o' then some [] else none
 | .dp r o,.dp row o'=>if r.length=row.length∧o=o' then some row else none
 | .mq c,.mq k=>if ρ c=k then some [] else none
 | .slk c none _ _,.slk k none n c'=>if ρ c=k then some [pr.natD n,pr.natD c'] else none
 | _,_=>none
def leafMs (ρ:Nat→Nat):List (L3 Unit Unit)→List (L3 Δ N)→Option (List Δ)
 | [],[]=>some []
 | s::ss,x::xs=>match leafM ρ s x,leafMs ρ ss xs with
  | some a,some b=>some (a++b)
  | _,_=>none
 | _,_=>none
end
def leafV (ρ:Nat→Nat):V3 Unit Unit→V3 Δ N→Option (List Δ)
 | .one (.slk c none _ _),.one (.slk k none _ _)=>if ρ c=k then some [] else none
 | .one s,.one x=>leafM pr ρ s x
 | .agg ss,.agg xs=>leafMs pr ρ ss xs
 | _,_=>none
def leafVs (ρ:Nat→Nat):List (V3 Unit Unit)→List (V3 Δ N)→Option (List Δ)
 | [],[]=>some []
 | s::ss,x::xs=>match leafV pr ρ s x,leafVs ρ ss xs with
  | some a,some b=>some (a++b)
  | _,_=>none
 | _,_=>none
def leafOb (ρ:Nat→Nat) (ob:Ups Δ N R M) (wn:Bool):List (Nat×O3 Unit Unit Unit Unit)→Option (List Δ)
 | []=>some []
 | (c,.box cells e)::r=>match getO3 ob (ρ c) with
  | some (.box cells' e')=>if e=e' then (match leafMs pr ρ cells cells',leafOb ρ ob wn r with
   | some a,some b=>some (a++b)
   | _,_=>none) else none
  | _=>none
 | (c,.mp g _ true)::r=>match getO3 ob (ρ c) with
  | some (.mp g' m true)=>if g=g' then (match leafOb ρ ob wn r with
   | some b=>some (pr.mpD g m::b)
   | none=>none) else none
  | _=>none
 | (c,.am _ size elem)::r=>match getO3 ob (ρ c) with
  | some (.am m size' elem')=>if size=size'∧elem=elem' then (match leafOb ρ ob wn r with
   | some b=>some (pr.mpD true m::b)
   | none=>none) else none
  | _=>none
 | (c,.arr _ size elem _)::r=>match getO3 ob (ρ c) with
  | some (.arr rows size' elem' own)=>if size=size'∧elem=elem'∧own=wn then (match leafOb ρ ob wn r with
   | some b=>some (pr.slD size rows::b)
   | none=>none) else none
  | _=>none
 | _=>none
mutual
def fillM (dn:Δ→N) (ρ:Nat→Nat):L3 Unit Unit→List Δ→Option (L3 Δ N×List Δ)
 | .d _,x::xs=>some (.d x,xs)
 | .fn f cs,xs=>match fillMs dn ρ cs xs with
  | some (ys,r)=>some (.fn f ys,r)
  | none=>none
 | .mk c,xs=>some (.mk (ρ c),xs)
 | .mq c,xs=>some (.mq (ρ c),xs)
 | .slk c none _ _,x::y::xs=>some (.slk (ρ c) none (dn x) (dn y),xs)
 | .ptr c o,xs=>some (.ptr (ρ c) o,xs)
 | .dp r o,xs=>if (xs.take r.length).length=r.length then some (.dp (xs.take r.length) o,xs.drop r.length) else none
 | _,_=>none
def fillMs (dn:Δ→N) (ρ:Nat→Nat):List (L3 Unit Unit)→List Δ→Option (List (L3 Δ N)×List Δ)
 | [],xs=>some ([],xs)
 | s::ss,xs=>match fillM dn ρ s xs with
  | some (y,r)=>match fillMs dn ρ ss r with
   | some (ys,r')=>some (y::ys,r')
   | none=>none
  | none=>none
end
def fillMV (ρ:Nat→Nat) (us:Ups Δ N R M):V3 Unit Unit→List Δ→Option (V3 Δ N×List Δ)
 | .one (.slk c none _ _),xs=>match getO3 us (ρ c) with
  | some (.arr rows _ _ _)=>some (.one (.slk (ρ c) none (pr.len rows) (pr.len rows)),xs)
  | _=>none
 | .one s,xs=>match fillM pr.dN ρ s xs with
  | some (y,r)=>some (.one y,r)
  | none=>none
 | .agg ss,xs=>match fillMs pr.dN ρ ss xs with
  | some (ys,r)=>some (.agg ys,r)
  | none=>none
 | _,_=>none
def fillMVs (ρ:Nat→Nat) (us:Ups Δ N R M):List (V3 Unit Unit)→List Δ→Option (List (V3 Δ N)×List Δ)
 | [],xs=>some ([],xs)
 | s::ss,xs=>match fillMV pr ρ us s xs with
  | some (y,r)=>match fillMVs ρ us ss r with
   | some (ys,r')=>some (y::ys,r')
   | none=>none
  | none=>none
def fillMO (ρ:Nat→Nat) (wn:Bool):List (Nat×O3 Unit Unit Unit Unit)→List Δ→(Ups Δ N R M→List Δ→Ω)→Ω
 | [],xs,k=>k [] xs
 | (c,.box cells e)::r,xs,k=>match fillMs pr.dN ρ cells xs with
  | some (ys,xs')=>fillMO ρ wn r xs' fun us zs=>k ((ρ c,.box ys e)::us) zs
  | none=>pr.fail
 | (c,.mp g _ true)::r,x::xs,k=>pr.asM g x fun m=>fillMO ρ wn r xs fun us zs=>k ((ρ c,.mp g m true)::us) zs
 | (c,.am _ size elem)::r,x::xs,k=>pr.asM true x fun m=>fillMO ρ wn r xs fun us zs=>k ((ρ c,.am m size elem)::us) zs
 | (c,.arr _ size elem _)::r,x::xs,k=>pr.rowsD size x fun rows=>fillMO ρ wn r xs fun us zs=>k ((ρ c,.arr rows size elem wn)::us) zs
 | _,_,_=>pr.fail
def chkVs:List (V3 Unit Unit)→List (V3 Δ N)→List (Nat×N×N)
 | .one (.slk _ none _ _)::ss,.one (.slk k none n c)::xs=>(k,n,c)::chkVs ss xs
 | _::ss,_::xs=>chkVs ss xs
 | _,_=>[]
def chkK (ob:Ups Δ N R M):List (Nat×N×N)→Ω→Ω
 | [],k=>k
 | (key,n,c)::r,k=>match getO3 ob key with
  | some (.arr rows _ _ _)=>pr.eqN n (pr.len rows) (pr.eqN c (pr.len rows) (chkK ob r k))
  | _=>pr.fail
mutual
def guessL:L3 Unit Unit→L3 Δ N→List (Nat×Nat)
 | .mk c,.mk k=>[(c,k)]
 | .mq c,.mq k=>[(c,k)]
 | .ptr c _,.ptr k _=>[(c,k)]
 | .slk c _ _ _,.slk k _ _ _=>[(c,k)]
 | .fn _ cs,.fn _ cs'=>guessLs cs cs'
 | _,_=>[]
def guessLs:List (L3 Unit Unit)→List (L3 Δ N)→List (Nat×Nat)
 | s::ss,x::xs=>guessL s x++guessLs ss xs
 | _,_=>[]
end
def guessVs:List (V3 Unit Unit)→List (V3 Δ N)→List (Nat×Nat)
 | .one s::ss,.one x::xs=>guessL s x++guessVs ss xs
 | .agg s::ss,.agg x::xs=>guessLs s x++guessVs ss xs
 | _::ss,_::xs=>guessVs ss xs
 | _,_=>[]
def guessO (ob:Ups Δ N R M) (al:List (Nat×Nat)):List (Nat×O3 Unit Unit Unit Unit)→List (Nat×Nat)
 | []=>[]
 | (c,.box cells _)::r=>(match al.find? (fun p=>p.1==c) with
  | some (_,k)=>match getO3 ob k with
   | some (.box cells' _)=>guessLs cells cells'
   | _=>[]
  | none=>[])++guessO ob al r
 | _::r=>guessO ob al r
def renK (al:List (Nat×Nat)) (c:Nat):Nat:=match al.find? (fun p=>p.1==c) with
 | some (_,k)=>k
 | none=>c
mutual
def cntL:L3 Unit Unit→Nat
 | .d _=>1
 | .fn _ cs=>cntLs cs
 | .dp r _=>r.length
 | .slk _ none _ _=>2
 | _=>0
def cntLs:List (L3 Unit Unit)→Nat
 | []=>0
 | x::xs=>cntL x+cntLs xs
end
def cntO:List (Nat×O3 Unit Unit Unit Unit)→Nat
 | []=>0
 | (_,.box cells _)::r=>cntLs cells+cntO r
 | (_,_)::r=>1+cntO r
def okMs (ms:Ms):Bool :=
 let C:=ms.obs.map (·.1)
 nodupN C&&(V3.keysF ms.args).all C.contains&&(ms.obs.all fun p=>p.2.keysOf.all C.contains)&&(match ms.ref with | none=>true | some c=>C.contains c)
def resN:Option (Bool×Nat)→Nat
 | none=>0
 | some (_,n)=>n
def resMV (e:Nat→Δ):Option (Bool×Nat)→V3 Δ N
 | none=>.tup []
 | some (false,_)=>.one (.d (e 0))
 | some (true,n)=>.agg ((List.range n).map fun i=>.d (e i))
def preM:List (V3 Unit Unit)→List (V3 Δ N)→List (V3 Δ N)
 | .one (.d _)::ss,.one (.fn f cs)::xs=>(match scals pr cs with
  | some ds=>.one (.d (pr.fnD f ds))
  | none=>.one (.fn f cs))::preM ss xs
 | _::ss,x::xs=>x::preM ss xs
 | _,xs=>xs
def isSlk3:V3 Δ N→Bool
 | .one (.slk ..)=>true
 | _=>false
def formOK (ms:Ms) (args:List (V3 Δ N)):Bool:=if ms.args.isEmpty then args.any isSlk3 else (ms.args.map isSlk3==args.map isSlk3)
def realF (f:Nat):Nat:=if f < 300000 then f else if f < 600000 then f - 300000 else f - 600000
def slkL {Δ N:Type}:L3 Δ N→Bool
 | .slk ..=>true
 | _=>false
def sameSlk:List (L3 Unit Unit)→List (L3 Δ N)→Bool
 | [],[]=>true
 | x::xs,y::ys=>match slkL x,slkL y with
  | true,true=>sameSlk xs ys
  | false,false=>sameSlk xs ys
  | _,_=>false
 | _,_=>false
def fitMs (ms:Ms) (args:List (V3 Δ N)) (ob:Ups Δ N R M):Bool:=match ms.args,args with
 | .one (.ptr _ _)::_,.one (.ptr k _)::_=>match ms.obs,getO3 ob k with
  | (_,.box cells _)::_,some (.box cells' _)=>sameSlk cells cells'
  | _,_=>false
 | _,_=>false
def formOf (cfg:Cf3) (f:Nat) (args:List (V3 Δ N)) (ob:Ups Δ N R M):Nat:=match cfg.ms f with
 | some ms=>if formOK ms args=true then 0 else match cfg.ms (f+300000) with
  | some ms2=>if (ms2.args.isEmpty||fitMs ms2 args ob)=true then 1 else 2
  | none=>0
 | none=>0
def callMF (cfg:Cf3) (f:Nat) (args:List (V3 Δ N)) (ob:Ups Δ N R M) (kk:V3 Δ N→Ups Δ N R M→List Nat→Ω):Ω:=match cfg.ms f with
 | none=>pr.fail
 | some ms =>
  let args0:=args
  let args:=preM pr ms.args args
  let al:=guessVs ms.args args
  let al:=al++guessO ob al ms.obs
  if (okMs ms&&nodupN ((ms.obs.map (·.1)).map (renK al)))=true then
   match leafVs pr (renK al) ms.args args,leafOb pr (renK al) ob true ms.obs with
   | some xs,some ys=>chkK pr ob (chkVs ms.args args) (pr.bnd (pr.call (f+1000000) (ys++xs)) [fun e=>fillMO pr (renK al) ms.wn ms.obs ((List.range (cntO ms.obs)).map fun i=>pr.ld e (resN ms.res+i)) fun us _=>match ms.ref with
     | none=>kk (resMV (pr.ld e) ms.res) us (al.map (·.2)++ms.obs.map fun p=>renK al p.1)
     | some c=>match getO3 us (renK al c) with
      | some (.arr rows _ _ _)=>kk (.one (.slk (renK al c) none (pr.len rows) (pr.len rows))) us (al.map (·.2)++ms.obs.map fun p=>renK al p.1)
      | _=>pr.fail])
   | _,_=>pr.miss 8 f 0 0 [] .normal ⟨args0.zipIdx.map fun p=>(p.2,p.1),ob,[],none⟩ []
  else pr.miss 8 f 0 0 [] .normal ⟨args0.zipIdx.map fun p=>(p.2,p.1),ob,[],none⟩ []
def callMK (cfg:Cf3) (f:Nat) (args:List (V3 Δ N)) (ob:Ups Δ N R M) (kk:V3 Δ N→Ups Δ N R M→List Nat→Ω):Ω:=if f < 300000 then (match formOf cfg f args ob with
  | 0=>callMF pr cfg f args ob kk
  | 1=>callMF pr cfg (f+300000) args ob kk
  | _=>callMF pr cfg (f+600000) args ob kk) else pr.fail
def callM (cfg:Cf3) (f:Nat) (args:List (V3 Δ N)) (ob:Ups Δ N R M) (kk:V3 Δ N→Ups Δ N R M→Ω):Ω:=callMK pr cfg f args ob fun v us _=>kk v (addO3 us ob)
def resMC:Option (Bool×Nat)→V3 Δ N→Option (List (L3 Δ N))
 | none,.tup []=>some []
 | some (false,1),.one x=>some [x]
 | some (true,n),.agg xs=>if xs.length=n then some xs else none
 | _,_=>none
def chkRef (ms:Ms) (v:V3 Δ N) (ob:Ups Δ N R M) (k:List (L3 Δ N)→Ω):Ω:=match ms.ref with
 | none=>match resMC ms.res v with
  | none=>pr.fail
  | some cs=>k cs
 | some c=>match v with
  | .one (.slk key none n m)=>if key=c∧ms.res=none∧(ms.obs.map (·.1)).contains c=true then (match getO3 ob c with
   | some (.arr rows _ _ _)=>pr.eqN n (pr.len rows) (pr.eqN m (pr.len rows) (k []))
   | _=>pr.fail) else pr.fail
  | _=>pr.fail
def finK (ms:Ms) (ob:Ups Δ N R M) (cs:List (L3 Δ N)):Ω:=frzs3 pr ob cs fun ds us _=>match leafOb pr id (addO3 us ob) ms.wn ms.obs with
  | some ys=>pr.out 0 ((ds++ys).map .d)
  | none=>pr.fail
def finM (ms:Ms) (v:V3 Δ N) (ob:Ups Δ N R M):Ω:=chkRef pr ms v ob (finK pr ms ob)
def freeK3 (ob:Ups Δ N R M):Nat→Nat→Nat
 | 0,k=>k
 | n+1,k=>if ob.all fun p=>p.1 != k&&(Nat.blt p.1 (1000*(k+1))||Nat.ble (1000*(k+2)) p.1) then k else freeK3 ob n (k+1000000000)
def callSp (cfg:Cf3) (f:Nat) (args:List (V3 Δ N)) (b:Nat) (ob:Ups Δ N R M) (kk:V3 Δ N→Ups Δ N R M→Ω):Ω:=match cfg.sp f with
 | none=>pr.fail
 | some (size,elem,bs)=>match args with
  | [s,.one i,.one (.slk key2 none n2 c2)]=>match scal pr i,getO3 ob key2 with
   | some y,some (.arr rows2 size2 _ true)=>if size2=size then pr.eqN c2 (pr.len rows2) (pr.isNil (pr.seg rows2 none n2) pr.fail (
     let nilc:=pr.fits bs (pr.len (pr.seg rows2 none n2)) (pr.ins y (pr.rows []) (pr.seg rows2 none n2) fun r =>
      fresh3 pr ob (some (freeK3 ob 8 b)) (.arr r size elem true) (fun key=>.one (.slk key none (pr.len (pr.seg rows2 none n2)) (pr.len (pr.seg rows2 none n2)))) fun v us _=>kk v (addO3 us ob))
     match s with
     | .one .nil=>nilc
     | .one (.d x)=>pr.nilD x nilc
     | .one (.slk key none n c)=>if key=key2 then pr.fail else match getO3 ob key with
      | some (.arr rows size' elem' true)=>if size'=size∧elem'=elem then pr.eqN c (pr.len rows) (pr.eqN n (pr.len rows) (pr.fits bs (pr.addN n (pr.len (pr.seg rows2 none n2))) (pr.ins y rows (pr.seg rows2 none n2) fun r =>
        kk (.one (.slk key none (pr.addN n (pr.len (pr.seg rows2 none n2))) (pr.addN n (pr.len (pr.seg rows2 none n2))))) (addO3 [(key,.arr r size elem true)] ob)))) else pr.fail
      | _=>pr.fail
     | _=>pr.fail)) else pr.fail
   | _,_=>pr.fail
  | _=>pr.fail
abbrev Hd3 (Δ N R M Ω:Type):=List (V3 Δ N)→Ups Δ N R M→(Option Ex→Ups Δ N R M→Ω)→Ω
abbrev Rn3 (Δ N R M Ω:Type):=Nat→List (V3 Δ N)→Nat→Ups Δ N R M→(V3 Δ N→Ups Δ N R M→Ω)→Ω
def kd3 (ob:Ups Δ N R M) (b:Nat) (dst:Option Nat):Option Nat:=match dst with
 | some d=>some (freeK3 ob 8 (b*1000+d))
 | none=>none
def put3 (dst:Option Nat) (v:V3 Δ N) (ob:Ups Δ N R M) (st:S3 Δ N R M):S3 Δ N R M:=⟨match dst with | some d=>(d,v)::st.env | none=>st.env,ob,setYs st.ys dst,st.pend⟩
def envV3:List (V3 Δ N)→Nat→List (Nat×V3 Δ N)
 | [],_=>[]
 | x::xs,i=>(i,x)::envV3 xs (i+1)
def callee3 (v:V3 Δ N) (args:List (V3 Δ N)):Option (Nat×List (V3 Δ N)×List (L3 Δ N)):=match v with
 | .one (.fn f caps)=>if f < 2000000 then some (f,args++caps.map .one,caps) else some (f - 2000000,caps.map .one++args,caps)
 | _=>none
inductive Kind3 (Δ N:Type) where
 | copy (d:Nat)
 | yld (args:List Operand)
 | inl (f:Nat) (args:List (V3 Δ N))
 | op
def kindOf3 (cfg:Cf3) (ys:List Nat) (ρ:Operand→V3 Δ N) (o:Oper):Kind3 Δ N:=match o.op with
 | .move x=>match yOf ys x,o.dst with
  | true,some d=>.copy d
  | _,_=>.op
 | .assign x=>match yOf ys x,o.dst with
  | true,some d=>.copy d
  | _,_=>.op
 | op=>match calleeOf op with
  | none=>.op
  | some (fo,args)=>if yOf ys fo=true then .yld args else match callee3 (ρ fo) (args.map ρ) with
   | some (f,as,caps)=>match cfg.inl f with
    | some _=>.inl f as
    | none=>match (match ((args.map ρ).all V3.isD&&caps.all L3.isD) with | true=>none | false=>cfg.ms f) with
     | some _=>.inl f as
     | none=>match cfg.sp f with
      | some _=>.inl f as
      | none=>.op
   | none=>.op
def keyOf3 (cfg:Cf3) (f:Nat) (ob:Ups Δ N R M) (b:Nat) (dst:Option Nat):Option Nat:=match dst with
 | some d=>match cfg.ar f d with
  | some t=>some (b*1000+t)
  | none=>match cfg.cb f d with
   | true=>none
   | false=>kd3 ob b (some d)
 | none=>none
def frzSt:List (Option Nat×Nat)→S3 Δ N R M→(S3 Δ N R M→Ω)→Ω
 | [],st,kk=>kk st
 | (none,t)::r,st,kk=>match getE3 st.env t with
  | .one (.slk key off n c)=>frz3 pr st.ob (.slk key off n c) fun d us _=>frzSt r { st with env:=(t,.one (.d d))::st.env,ob:=addO3 us st.ob } kk
  | .one (.sln key n)=>frz3 pr st.ob (.sln key n) fun d us _=>frzSt r { st with env:=(t,.one (.d d))::st.env,ob:=addO3 us st.ob } kk
  | .one .nil=>frzSt r { st with env:=(t,.one (.d (pr.lit (.slice none 0 0))))::st.env } kk
  | _=>frzSt r st kk
 | (some b,i)::r,st,kk=>match getO3 st.ob b with
  | some (.box cells e)=>match cells[i]? with
   | some (.slk key off n c)=>frz3 pr st.ob (.slk key off n c) fun d us _=>frzSt r { st with ob:=(b,.box (cells.set i (.d d)) e)::addO3 us st.ob } kk
   | some .nil=>frzSt r { st with ob:=(b,.box (cells.set i (.d (pr.lit (.slice none 0 0)))) e)::st.ob } kk
   | some (.mk key)=>frz3 pr st.ob (.mk key) fun d us _=>frzSt r { st with ob:=(b,.box (cells.set i (.d d)) e)::addO3 us st.ob } kk
   | _=>frzSt r st kk
  | _=>frzSt r st kk
def fzOp (cfg:Cf3) (f b:Nat):Option Nat→List (Option Nat×Nat)
 | some d=>cfg.fz f b (1000000+d)
 | none=>[]
def run3 (cfg:Cf3) (P:Program) (fr:Fr) (hd:Option (Hd3 Δ N R M Ω)) (rn:Rn3 Δ N R M Ω) (o:Oper) (st:S3 Δ N R M) (k:S3 Δ N R M→Ω):Ω :=
 if dstOK fr.nt o.dst=true then
  match kindOf3 cfg st.ys (ev3 pr st.env) o with
  | .copy d=>k ⟨(d,.one .undef)::st.env,st.ob,d::st.ys,st.pend⟩
  | .yld args=>match hd,st.pend with
   | some h,none=>h (args.map (ev3 pr st.env)) st.ob fun p ob=>k { put3 o.dst (.one (.b p.isNone)) ob st with pend:=p }
   | _,_=>pr.fail
  | .inl f args=>rn f args (fr.b*1000+o.dst.getD 998+1) st.ob fun v ob=>k (put3 o.dst v ob st)
  | .op=>opC3 pr cfg P st.ob (keyOf3 cfg fr.f st.ob fr.b o.dst) (ev3 pr st.env) o.op fun v us _=>frzSt pr (fzOp cfg fr.f fr.b o.dst) (put3 o.dst v (addO3 us st.ob) st) k
 else pr.fail
def gateV (v:V3 Δ N):Option (Option Bool)×Option Δ:=match v with
 | .one (.b b)=>(some (some b),none)
 | .one (.d x)=>(none,some x)
 | .tup []=>(some none,none)
 | _=>(none,none)
def outK (kind f b p:Nat) (pk:List Nat) (js:List (Ex×Sk)) (e:Ex) (st:S3 Δ N R M):Ω:=match fitEx pr pk e st js 0 with
 | some (j,ys)=>pr.out j ys
 | none=>pr.miss kind f b p pk e st []
def ctx {α:Type} (pk:List Nat) (st:S3 Δ N R M):List (Sk×α)→Nat→Option (Nat×α)
 | [],_=>none
 | (sk,x)::r,j=>match fitS pr pk sk st with
  | some _=>some (j,x)
  | none=>ctx pk st r (j+1)
def okPk (pk:List Nat) (sk:Sk):Bool:=pk.all (sk.ob.map (·.1)).contains
def resume (pk:List Nat) (js:List (Ex×Sk)) (k:Ex→S3 Δ N R M→Ω):List (E→Ω):=js.map fun x=>match okPk pk x.2 with
 | true=>fun e=>k x.1 (fillS pr e x.2)
 | false=>fun _=>pr.fail
def step3 (cfg:Cf3) (P:Program) (fr:Fr) (hd:Option (Hd3 Δ N R M Ω)) (rn:Rn3 Δ N R M Ω) (ops:Array Oper) (o:Oper) (st:S3 Δ N R M) (k:S3 Δ N R M→Ω):Ω :=
 match o.guard with
  | none=>run3 pr cfg P fr hd rn o st k
  | some (j,want)=>match gateTmp ops j with
   | none=>pr.fail
   | some gt =>
    let skip:=fun (st:S3 Δ N R M)=>if dstOK fr.nt o.dst=true then k (put3 o.dst (.tup []) st.ob st) else pr.fail
    let st1:=fun (b:Bool)=>({ st with env:=(gt,.one (.b b))::st.env }:S3 Δ N R M)
    match gateV (getE3 st.env gt),want with
    | (some none,_),_=>skip st
    | (some (some true),_),true=>run3 pr cfg P fr hd rn o st k
    | (some (some false),_),false=>run3 pr cfg P fr hd rn o st k
    | (some (some _),_),_=>skip st
    | (none,some x),true=>pr.cond x (run3 pr cfg P fr hd rn o (st1 true) k) (skip (st1 false))
    | (none,some x),false=>pr.cond x (skip (st1 true)) (run3 pr cfg P fr hd rn o (st1 false) k)
    | (none,none),_=>pr.fail
def dynGate (ops:Array Oper) (env:List (Nat×V3 Δ N)) (o:Oper):Bool:=match o.guard with
 | none=>false
 | some (j,_)=>match gateTmp ops j with
  | none=>false
  | some gt=>match getE3 env gt with
   | .one (.d _)=>true
   | _=>false
def ops3 (cfg:Cf3) (P:Program) (fr:Fr) (hd:Option (Hd3 Δ N R M Ω)) (rn:Rn3 Δ N R M Ω) (ops:Array Oper) (id:Nat):Nat→Nat→List Oper→S3 Δ N R M→(S3 Δ N R M→Ω)→Ω
 | _,_,[],st,k=>k st
 | 0,_,_::_,_,_=>pr.fail
 | n+1,i,o::rest,st,k=>match (match dynGate ops st.env o with | true=>cfg.gj fr.f fr.b (id*1000+i) | false=>none) with
  | none=>step3 pr cfg P fr hd rn ops o st fun st'=>ops3 cfg P fr hd rn ops id n (i+1) rest st' k
  | some (len,cs)=>match ctx pr fr.pr st cs 0 with
   | none=>pr.miss 6 fr.f fr.b (id*1000+i) fr.pr .normal st []
   | some (c,js)=>pr.bnd (step3 pr cfg P fr hd rn ops o st fun st'=>ops3 cfg P fr hd rn ops id n (i+1) (rest.take len) st' (outK pr (4+10*c) fr.f fr.b (id*1000+i) fr.pr js .normal))
    (resume pr fr.pr js fun _ st'=>ops3 cfg P fr hd rn ops id n (i+1+len) (rest.drop len) st' k)
abbrev Log:=List (List Nat×List Nat)
def farOK (pairs:List (Nat×Nat)) (i:Nat) (log:Log) (rd wr:List Nat):Bool :=
 pairs.all fun p=>if p.2=i then (match log[p.1]? with
  | some (rj,wj)=>(wj.all fun x=>!(rd.contains x)&&!(wr.contains x))&&(rj.all fun x=>!(wr.contains x))
  | none=>false) else true
def keyDr (cfg:Cf3) (fr:Fr) (o:Oper):Option Nat:=match o.dst with
 | some d=>match cfg.ar fr.f d with
  | some t=>some (fr.b*1000+t)
  | none=>match cfg.cb fr.f d with
   | true=>none
   | false=>some d
 | none=>none
def msCall (cfg:Cf3) (ρ:Operand→V3 Δ N) (o:Oper):Option (Nat×List (V3 Δ N)):=match kindOf3 cfg [] ρ o with
 | .inl f args=>match cfg.inl f,cfg.ms f with
  | none,some _=>some (f,args)
  | _,_=>none
 | _=>none
def ownO3:O3 Δ N R M→Bool
 | .box ..=>true
 | .arr _ _ _ own=>own
 | .mp _ _ own=>own
 | .ml ..=>true
 | .am ..=>true
 | .arn ..=>false
def inlDr (cfg:Cf3) (fr:Fr) (rn:Rn3 Δ N R M Ω) (q:Nat) (o:Oper) (f:Nat) (args:List (V3 Δ N)) (ob:Ups Δ N R M) (k:V3 Δ N→Ups Δ N R M→List Nat→Ω):Ω:=match gcO3 [] args ob with
 | none=>pr.fail
 | some kept =>
  let ks:=kept.map (·.1)
  if (nodupN ks&&(kept.all fun p=>ownO3 p.2&&p.2.keysOf.all ks.contains)&&args.all fun v=>v.keysOf.all ks.contains)=true then
   match cfg.gj fr.f fr.b q with
   | none=>pr.fail
   | some (_,cs)=>match ctx pr ks ⟨[],kept,[],none⟩ cs 0 with
    | none=>pr.miss 6 fr.f fr.b q ks .normal ⟨[],kept,[],none⟩ []
    | some (c,js)=>pr.bnd (rn f args (fr.b*1000+o.dst.getD 998+1) kept fun v ob'=>outK pr (4+10*c) fr.f fr.b q ks js .normal ⟨[(0,v)],ob',[],none⟩)
     (resume pr ks js fun _ st' =>
      let us:=st'.ob.map (·.1)
      if (nodupN us&&((us.filter fun q=>!ks.contains q).all fun q=>(getO3 ob q).isNone)&&ks.all us.contains&&(st'.ob.all fun p=>p.2.keysOf.all us.contains)&&(getE3 st'.env 0).keysOf.all us.contains)=true then k (getE3 st'.env 0) st'.ob (ks++us.filter fun q=>!ks.contains q) else pr.fail)
  else pr.fail
def inlCall (cfg:Cf3) (ρ:Operand→V3 Δ N) (o:Oper):Option (Nat×List (V3 Δ N)):=match kindOf3 cfg [] ρ o with
 | .inl f args=>match cfg.inl f with
  | some _=>some (f,args)
  | none=>none
 | _=>none
def goDr (cfg:Cf3) (P:Program) (fr:Fr) (rn:Rn3 Δ N R M Ω) (q:Nat) (o:Oper) (st:S3 Δ N R M) (k:V3 Δ N→Ups Δ N R M→List Nat→Ω):Ω:=match msCall cfg (ev3 pr st.env) o with
 | some (f,as)=>callMK pr cfg f as st.ob k
 | none=>match inlCall cfg (ev3 pr st.env) o with
  | some p=>inlDr pr cfg fr rn q o p.1 p.2 st.ob k
  | none=>opC3 pr cfg P st.ob (keyDr cfg fr o) (ev3 pr st.env) o.op k
def dr3 (cfg:Cf3) (P:Program) (fr:Fr) (rn:Rn3 Δ N R M Ω) (id:Nat) (ops:Array Oper) (pairs:List (Nat×Nat)):List Oper→Nat→Log→S3 Δ N R M→(S3 Δ N R M→Ω)→Ω
 | [],_,_,st,k=>k st
 | o::rest,i,log,st,k =>
  let next:=fun (st:S3 Δ N R M) (v:V3 Δ N) (us:Ups Δ N R M) (rd:List Nat) =>
   if (dstOK fr.nt o.dst&&farOK pairs i log rd (us.map (·.1)))=true then dr3 cfg P fr rn id ops pairs rest (i+1) (log++[(rd,us.map (·.1))]) (put3 o.dst v (addO3 us st.ob) st) k else pr.fail
  let go:=fun (st:S3 Δ N R M)=>goDr pr cfg P fr rn (id*1000+i) o st (next st)
  let skip:=fun (st:S3 Δ N R M)=>dr3 cfg P fr rn id ops pairs rest (i+1) (log++[([],[])]) (put3 o.dst (.tup []) st.ob st) k
  match o.guard with
  | none=>go st
  | some (j,want)=>match gateTmp ops j with
   | none=>pr.fail
   | some gt =>
    let st1:=fun (b:Bool)=>({ st with env:=(gt,.one (.b b))::st.env }:S3 Δ N R M)
    match gateV (getE3 st.env gt),want with
    | (some none,_),_=>skip st
    | (some (some true),_),true=>go st
    | (some (some false),_),false=>go st
    | (some (some _),_),_=>skip st
    | (none,some x),true=>pr.cond x (go (st1 true)) (skip (st1 false))
    | (none,some x),false=>pr.cond x (skip (st1 true)) (go (st1 false))
    | (none,none),_=>pr.fail
abbrev Ev3 (Δ N R M Ω:Type):=Fr→Option (Hd3 Δ N R M Ω)→Nat→Nat→Code→S3 Δ N R M→(Ex→S3 Δ N R M→Ω)→Ω
def keysO3 (ob:Ups Δ N R M):List Nat:=dedup (ob.map (·.1)) []
def inlEnd3 (P:Program) (bd:Bd) (ob:Ups Δ N R M) (kk:V3 Δ N→Ups Δ N R M→Ω) (st':S3 Δ N R M):Ω :=
 resV3 pr P st'.ob st'.env bd.res fun vs=>match gcO3 (keysO3 ob) vs st'.ob with
  | some ob'=>kk (packV3 vs) ob'
  | none=>pr.fail
def byForm (cfg:Cf3) (f:Nat) (args:List (V3 Δ N)):Bool:=match cfg.ms f with
 | some ms=>formOK ms args
 | none=>false
def rnOf3 (cfg:Cf3) (P:Program) (ex:Ev3 Δ N R M Ω):Rn3 Δ N R M Ω:=fun f args b ob kk=>if byForm cfg f args=true then callM pr cfg f args ob kk else match cfg.inl f with
 | none=>match cfg.ms f with
  | some _=>callM pr cfg f args ob kk
  | none=>callSp pr cfg f args b ob kk
 | some bd=>if args.length≤bd.nt then ex ⟨f,b,bd.nt,true,keysO3 ob,false⟩ none 0 1 bd.code ⟨envV3 args 0,ob,[],none⟩ (fun e st=>match e with
   | .exit _=>pr.fail
   | .normal=>inlEnd3 pr P bd ob kk st
   | .ret=>inlEnd3 pr P bd ob kk st) else pr.fail
def bdy3 (ob:Ups Δ N R M) (kk:Option Ex→Ups Δ N R M→Ω) (e2:Ex) (st2:S3 Δ N R M):Ω:=match gcO3 (keysO3 ob) [] st2.ob with
 | some ob'=>kk (match e2 with | .normal=>none | .exit i=>some (.exit i) | .ret=>some .ret) ob'
 | none=>pr.fail
def rngH3 (ex:Ev3 Δ N R M Ω) (fr:Fr) (cur p:Nat) (ps:Array Tmp) (assign body:Code) (env:List (Nat×V3 Δ N)):Hd3 Δ N R M Ω:=fun vals ob kk=>if vals.length=ps.size then
  ex ⟨fr.f,fr.b,fr.nt,false,keysO3 ob,false⟩ none cur (2*p) assign ⟨((ps.toList.zip vals).reverse++env),ob,[],none⟩ (fun e st1=>match e with
   | .normal=>ex ⟨fr.f,fr.b,fr.nt,false,keysO3 st1.ob,false⟩ none cur (2*p+1) body st1 (bdy3 pr ob kk)
   | .exit _=>pr.fail
   | .ret=>pr.fail)
 else pr.fail
def itEnd3 (st:S3 Δ N R M) (k:Ex→S3 Δ N R M→Ω) (st':S3 Δ N R M):Ω:=match gcO3 (keysO3 st.ob) [] st'.ob with
 | some ob'=>k (match st'.pend with | none=>.normal | some e=>e) ⟨st.env,ob',[],st.pend⟩
 | none=>pr.fail
def exIn (id:Nat):Ex→Ex
 | .exit i=>if i=id then .normal else .exit i
 | .normal=>.normal
 | .ret=>.ret
def nulSt:List ((Option Nat×Nat)×(Nat×Nat×Nat))→S3 Δ N R M→S3 Δ N R M
 | [],st=>st
 | ((none,t),key,size,elem)::r,st=>match getE3 st.env t with
  | .one .nil=>match getO3 st.ob key with
   | none=>nulSt r { st with env:=(t,.one (.sln key (pr.natN 0)))::st.env,ob:=(key,.arn (pr.rows []) size elem true)::st.ob }
   | some _=>nulSt r st
  | _=>nulSt r st
 | ((some b,i),key,size,elem)::r,st=>match getO3 st.ob key with
  | none=>match getO3 st.ob b with
   | some (.box cells e)=>match cells[i]? with
    | some .nil=>nulSt r { st with ob:=(b,.box (cells.set i (.sln key (pr.natN 0))) e)::(key,.arn (pr.rows []) size elem true)::st.ob }
    | _=>nulSt r st
   | _=>nulSt r st
  | some _=>nulSt r st
def frzE (l:List (Option Nat×Nat)) (l2:List ((Option Nat×Nat)×(Nat×Nat×Nat))) (k:Ex→S3 Δ N R M→Ω) (e:Ex) (st:S3 Δ N R M):Ω:=match e with
 | .normal=>frzSt pr l st fun st=>k .normal (nulSt pr l2 st)
 | .exit i=>k (.exit i) st
 | .ret=>k .ret st
def exec3 (cfg:Cf3) (P:Program):Nat→Ev3 Δ N R M Ω
 | 0,_,_,_,_,_,_,_=>pr.fail
 | n+1,fr,hd,cur,p,c,st,k=>match c with
  | .skip=>k .normal st
  | .label _=>k .normal st
  | .ret=>k .ret st
  | .exit id=>k (.exit id) st
  | .region id ops draw=>match draw with
   | false=>ops3 pr cfg P fr hd (rnOf3 pr cfg P (exec3 cfg P n)) ops id ops.size 0 ops.toList st (k .normal)
   | true=>match st.ys with
    | []=>dr3 pr cfg P fr (rnOf3 pr cfg P (exec3 cfg P n)) id ops (cfg.draw fr.f id ops) ops.toList 0 [] st (k .normal)
    | _=>pr.fail
  | .seq a b =>
   let kk:=fun (e:Ex) (st':S3 Δ N R M)=>match e with
    | .normal=>exec3 cfg P n fr hd cur (2*p+1) b st' k
    | .exit i=>k (.exit i) st'
    | .ret=>k .ret st'
   match cfg.jn fr.f fr.b p with
    | none=>exec3 cfg P n fr hd cur (2*p) a st (frzE pr (cfg.fz fr.f fr.b p) (cfg.nz fr.f fr.b p) kk)
    | some cs=>match ctx pr fr.pr st cs 0 with
     | none=>pr.miss 5 fr.f fr.b p fr.pr .normal st []
     | some (c,js)=>pr.bnd (exec3 cfg P n fr hd cur (2*p) a st (frzE pr (cfg.fz fr.f fr.b p) (cfg.nz fr.f fr.b p) (outK pr (10*c) fr.f fr.b p fr.pr js))) (resume pr fr.pr js kk)
  | .cond c a b=>match c with
   | .tmp t=>match getE3 st.env t with
    | .one (.b true)=>exec3 cfg P n fr hd cur (2*p) a st k
    | .one (.b false)=>exec3 cfg P n fr hd cur (2*p+1) b st k
    | .one (.d x)=>pr.cond x (exec3 cfg P n fr hd cur (2*p) a { st with env:=(t,.one (.b true))::st.env } k) (exec3 cfg P n fr hd cur (2*p+1) b { st with env:=(t,.one (.b false))::st.env } k)
    | _=>pr.fail
   | .const (.bool true)=>exec3 cfg P n fr hd cur (2*p) a st k
   | .const (.bool false)=>exec3 cfg P n fr hd cur (2*p+1) b st k
   | _=>pr.fail
  | .block id c=>match c with
   | .loop body=>match ctx pr fr.pr st (cfg.lp fr.f fr.b id) 0 with
    | none=>pr.miss 7 fr.f fr.b id fr.pr .normal st []
    | some (c,sks,outs)=>match fitAny pr fr.pr st sks 0 with
     | none=>pr.miss (1+10*c) fr.f fr.b id fr.pr .normal st []
     | some (i0,ys0)=>pr.bnd (pr.loop (sks.map fun sk=>fun J e=>if okPk fr.pr sk=false then pr.fail else exec3 cfg P n fr hd id (2*p) body (fillS pr e sk) fun e' st'=>match e' with
       | .normal=>(match fitAny pr fr.pr st' sks 0 with
        | some (j,ys)=>J j ys
        | none=>pr.miss (1+10*c) fr.f fr.b id fr.pr .normal st' [])
       | .exit i=>outK pr (2+10*c) fr.f fr.b id fr.pr outs (exIn id (.exit i)) st'
       | .ret=>outK pr (2+10*c) fr.f fr.b id fr.pr outs .ret st') i0 ys0) (resume pr fr.pr outs k)
   | c=>exec3 cfg P n fr hd id (2*p) c st fun e st'=>match e with
    | .normal=>k .normal st'
    | .ret=>k .ret st'
    | .exit i=>if i=id then k .normal st' else k (.exit i) st'
  | .rangeFunc g ps assign body=>if fr.rng=true then
    match st.ys with
    | []=>match fn3 (ev3 pr st.env g) with
     | none=>pr.fail
     | some (f,caps)=>match cfg.inl f with
      | none=>pr.fail
      | some bd=>if caps.length+1≤bd.nt∧bd.res=[]∧ps.toList.all (fun p=>decide (p < fr.nt))=true then
        exec3 cfg P n ⟨f,(fr.b+1)*1000,bd.nt,false,keysO3 st.ob,false⟩ (some (rngH3 pr (exec3 cfg P n) fr cur p ps assign body st.env)) 0 1 bd.code ⟨envV3 (.one .undef::caps.map .one) 0,st.ob,[0],none⟩ (fun e st'=>match e with
         | .exit _=>pr.fail
         | .normal=>itEnd3 pr st k st'
         | .ret=>itEnd3 pr st k st')
       else pr.fail
    | _=>pr.fail
   else pr.fail
  | _=>pr.fail
def fin3 (cfg:Cf3) (P:Program) (f:Nat) (res:List ResultVar) (e:Ex) (st:S3 Δ N R M):Ω :=
 let go:=resV3 pr P st.ob st.env res fun vs=>match rsFind st.ob vs (cfg.rsk f) 0 with
  | none=>pr.miss 3 f 0 0 [] e st (vs.map (formV st.ob))
  | some (j,rs)=>match allD rs with
   | true=>rdsK pr st.ob vs fun ys=>pr.out j ys
   | false=>rvsK pr st.ob rs vs fun ys ks=>if nodupN ks=true then pr.out j ys else pr.fail
 match e with
 | .exit _=>pr.fail
 | .normal=>go
 | .ret=>go
end
end Go.VE
namespace Go.VE
open Go.RowKit
abbrev Rr:=List (List D)
abbrev Mr:=List Value×List (List D)
abbrev Yr:=Y D Nat Rr Mr
abbrev Out:=Option (Nat×List Yr)
abbrev L3r:=L3 D Nat
abbrev V3r:=V3 D Nat
abbrev O3r:=O3 D Nat Rr Mr
abbrev S3r:=S3 D Nat Rr Mr
abbrev Ur:=Ups D Nat Rr Mr
def loopR (bs:List ((Nat→List Yr→Out)→List Yr→Out)):Nat→Nat→List Yr→Out
 | 0,_,_=>none
 | m+1,j,ys=>match bs[j]? with
  | some b=>b (loopR bs m) ys
  | none=>none
def binD (op:BinOp) (bl:Bool):D→D→Option D
 | .lit (.int k a),.lit (.int k' b)=>(aBin op k a k' b).map .lit
 | .lit (.bool a),.lit (.bool b)=>if bl=true then (match op with
   | .eql=>some (.lit (.bool (a==b)))
   | .neq=>some (.lit (.bool (a != b)))
   | _=>none) else none
 | .lit (.string a),.lit (.string b)=>(aStr op a b).map .lit
 | _,_=>none
def unD (op:UnOp):D→Option D
 | .lit (.bool b)=>match op with | .not=>some (.lit (.bool !b)) | _=>none
 | .lit (.int k n)=>match op with | .neg=>some (.lit (.int k (k.wrap (0 - n)))) | _=>none
 | _=>none
def mmD (mx:Bool):D→D→Option D
 | .lit (.int k a),.lit (.int k' b)=>if k=k' then some (.lit (.int k (if mx then max a b else min a b))) else none
 | _,_=>none
def intD:D→Option Int
 | .lit (.int _ n)=>some n
 | _=>none
def oIntD:Option D→Option (Option Int)
 | none=>some none
 | some x=>(intD x).map some
def lenDD:D→Option Nat
 | .sl _ rows=>some rows.length
 | .lit (.slice none 0 0)=>some 0
 | _=>none
def rowsDD (es:Nat):D→Option Rr
 | .lit (.slice none 0 0)=>some []
 | .sl size rows=>if size=es then some rows else none
 | _=>none
def cutDD (es:Nat) (l h:Option Int):D→Option D
 | .sl size rows=>if size=es then (if 0≤l.getD 0∧l.getD 0≤h.getD rows.length∧h.getD rows.length≤rows.length then some (.sl size ((rows.drop (l.getD 0).toNat).take (h.getD rows.length - l.getD 0).toNat)) else none) else none
 | .lit (.slice none 0 0)=>if l.getD 0=0∧h.getD 0=0 then some (.lit (.slice none 0 0)) else none
 | _=>none
def litD:D→Option Value
 | .lit v=>some v
 | _=>none
def asMD (agg:Bool):D→Option Mr
 | .mp agg' keys vals=>if agg=agg' then some (keys,vals) else none
 | .lit (.map none)=>some ([],[])
 | _=>none
def lookD (kd:Nat) (zs:List Value) (m:Mr) (key:D):Option (List D×D):=match litD key with
 | some v=>if isKey kd v=true then (match mFind kd v m.1 0 with
  | some (some j)=>match m.2[j]? with
   | some r=>if r.length=zs.length then some (r,.lit (.bool true)) else none
   | none=>none
  | some none=>some (zs.map .lit,.lit (.bool false))
  | none=>none) else none
 | none=>none
def updD (kd:Nat) (m:Mr) (key:D) (ds:List D):Option Mr:=match litD key with
 | some v=>if isKey kd v=true then (match mFind kd v m.1 0 with
  | some (some j)=>some (m.1,m.2.set j ds)
  | some none=>some (m.1++[v],m.2++[ds])
  | none=>none) else none
 | none=>none
def optO {α:Type} (o:Option α) (k:α→Out):Out:=match o with
 | some a=>k a
 | none=>none
def ynLit:Yr→Bool
 | .d x=>x.isLit
 | .r rows=>rows.all fun r=>r.all D.isLit
 | .m m=>m.2.all fun r=>r.all D.isLit
 | .n _=>true
def selR (ks:List Out) (j:Nat):Out:=match ks[j]? with
 | some k=>k
 | none=>none
def findD2 (kd:Nat) (m:Mr) (key:D):Option (Option Nat):=match litD key with
 | some v=>if isKey kd v=true then mFind kd v m.1 0 else none
 | none=>none
def addKD (kd:Nat) (m:Mr) (key:D) (j:Nat):Option Mr:=match litD key with
 | some v=>if isKey kd v=true∧j=m.1.length∧j < m.2.length then (match mFind kd v m.1 0 with
  | some none=>some (m.1++[v],m.2)
  | _=>none) else none
 | none=>none
def setRCD (r:Rr) (j off:Nat) (ds:List D):Rr:=r.set j ((r.getD j []).take off++ds++(r.getD j []).drop (off+ds.length))
def selKD (kd:Nat) (keys:List Value) (key:D) (ks:List Out):Out:=match litD key with
 | some v=>if isKey kd v=true then (match mFind kd v keys 0 with
  | some (some j)=>selR ks j
  | _=>none) else none
 | none=>none
def dNr:D→Nat
 | .lit (.int _ n)=>n.toNat
 | _=>0
def real (Fn:Nat→List D→Out) (FnD:D→List Sh→List D→Out) (m:Nat):Pr D Nat Rr (List D) Mr (List Yr) Out where
 fail:=none
 out j ys:=some (j,ys)
 bnd o ks:=match o with
  | some (j,ys)=>(match ks[j]? with | some k=>k ys | none=>none)
  | none=>none
 loop bs j ys:=loopR bs m j ys
 call:=Fn
 callD:=FnD
 miss _ _ _ _ _ _ _ _:=none
 cond x a b:=match x with | .lit (.bool true)=>a | .lit (.bool false)=>b | _=>none
 ld e j:=match e[j]? with | some (.d x)=>x | _=>default
 ln e j:=match e[j]? with | some (.n x)=>x | _=>0
 lr e j:=match e[j]? with | some (.r x)=>x | _=>[]
 lm e j:=match e[j]? with | some (.m x)=>x | _=>([],[])
 lit v:=.lit v
 natD n:=.lit (.int .i64 n)
 dN x:=dNr x
 natN n:=n
 addN a b:=a+b
 slD s r:=.sl s r
 slN s r:=match r with
  | []=>.lit (.slice none 0 0)
  | a::t=>.sl s (a::t)
 dpD r o:=.dp r o
 fnD f l:=.fn f l
 mpD g m:=.mp g m.1 m.2
 ifD t g l:=.ifc t g l
 len r:=r.length
 rows l:=l
 repl n z:=List.replicate n z
 app a b:=a++b
 seg r o n:=(r.drop (o.getD 0)).take n
 setR r i l:=r.set i l
 emp:=([],[])
 cell w j:=w.getD j default
 eqN a b k:=if a=b then k else none
 leN a b k:=if a≤b then k else none
 ptrW n x k:=match x with | .dp row 0=>if row.length=n then k row else none | _=>none
 isPtr x k:=match x with | .dp _ _=>k | _=>none
 nilD x k:=match x with | .lit (.slice none 0 0)=>k | _=>none
 rowAt s r i k:=match r[i]? with
  | some w=>if w.length=s then k w else none
  | none=>none
 bin op b x y k:=optO (binD op b x y) k
 un op x k:=optO (unD op x) k
 eqs ks ng x y k:=match cellsEq ks (x.map .d) (y.map .d) with
  | some b=>k (.lit (.bool (if ng then !b else b)))
  | none=>none
 mm mx x y k:=optO (mmD mx x y) k
 mkN bs x y k:=match x,y with
  | .lit (.int a n),.lit (.int b n')=>if a=b∧n=n'∧0≤n∧bs*n≤140737488355328∧n≤9223372036854775807 then k n.toNat else none
  | _,_=>none
 gap bs x k:=match x with
  | .lit (.int _ n)=>if 0 < n∧bs*n≤140737488355328∧n≤9223372036854775807 then k n.toNat else none
  | _=>none
 cut l h n k e:=match oIntD l,oIntD h with
  | some l,some h=>if 0≤l.getD 0∧l.getD 0≤h.getD n∧h.getD n≤n then (if l.getD 0=0∨l.getD 0 < h.getD n then k (l.getD 0).toNat (h.getD n - l.getD 0).toNat else e) else none
  | _,_=>none
 cutD es x l h k:=match oIntD l,oIntD h with
  | some l,some h=>optO (cutDD es l h x) k
  | _,_=>none
 cutNil l h k:=match oIntD l,oIntD h with
  | some l,some h=>if l.getD 0=0∧h.getD 0=0 then k else none
  | _,_=>none
 selI n x ks:=match x with
  | .lit (.int _ z)=>if 0≤z∧z < n then selR ks z.toNat else none
  | _=>none
 inx x n k:=match x with
  | .lit (.int _ z)=>if 0≤z∧z < n then k z.toNat else none
  | _=>none
 rowD es x i k:=match x,i with
  | .sl size rows,.lit (.int _ z)=>if size=es∧0≤z then (match rows[z.toNat]? with
   | some r=>if r.length=es then k r else none
   | none=>none) else none
  | _,_=>none
 lenD x k:=match lenDD x with
  | some n=>k (.lit (.int .i64 n))
  | none=>none
 lenS x k:=match x with
  | .lit (.string s)=>k (.lit (.int .i64 s.size))
  | _=>none
 atS x i k:=match intD i with
  | some z=>(match strAt (.one (.d x)) z with
   | some v=>k (.lit v)
   | none=>none)
  | none=>none
 cutS x l h k:=match oIntD l,oIntD h with
  | some zl,some zh=>(match strCut (.one (.d x)) zl zh with
   | some v=>k (.lit v)
   | none=>none)
  | _,_=>none
 strB x k:=match rowInts x with
  | some l=>k (.lit (.string (strOfI l)))
  | none=>none
 rowsD es x k:=match rowsDD es x with
  | some r=>k r
  | none=>none
 isNil r a b:=match r with | []=>a | _::_=>b
 fits bs n k:=if n*bs≤140737488355328∧n≤maxLen then k else none
 asM agg x k:=match asMD agg x with
  | some m=>k m
  | none=>none
 look kd zs m key k:=match lookD kd zs m key with
  | some p=>k p.1 p.2
  | none=>none
 upd kd m key ds k:=match updD kd m key ds with
  | some m'=>k m'
  | none=>none
 lits ys k:=if ys.all ynLit=true then k else none
 nilE x a b:=match x with
  | .lit (.slice none 0 0)=>a
  | .sl _ _=>b
  | _=>none
 cvI kd y k:=match y with | .lit (.int _ n)=>k (.lit (.int kd (kd.wrap n))) | _=>none
 ins y rows new k:=match y with | .lit (.int .i64 z)=>if 0≤z∧z.toNat≤rows.length then k (rows.take z.toNat++new++rows.drop z.toNat) else none | _=>none
 mulN s i:=s*i
 minN a b:=min a b
 cellN w off i:=w.getD (off+i) default
 selN i ds:=ds.getD i default
 updN i q new old:=if i=q then new else old
 mrows m:=m.2
 mset m r:=(m.1,r)
 setRC:=setRCD
 find kd m key k e:=match findD2 kd m key with
  | some (some j)=>k j
  | some none=>e
  | none=>none
 addK kd m key j k:=match addKD kd m key j with
  | some m'=>k m'
  | none=>none
 selK:=selKD
mutual
def eL:L3r→L
 | .d x=>.d x
 | .b v=>.d (.lit (.bool v))
 | .i k n=>.d (.lit (.int k n))
 | .nil=>.d (.lit (.slice none 0 0))
 | .dp r o=>.d (.dp r o)
 | .fn f cs=>.fn f (eLs cs)
 | .slk k o n c=>.slk k (o.getD 0) n c
 | .pa k i o c=>.pa k i o c
 | .ptr k o=>.ptr k o
 | .mk k=>.mk k
 | .mq k=>.mq k
 | .pb k j o=>.pb k j o
 | .px k b _ es i o=>.ptr k (b+es*i+o)
 | .np=>.d (.lit (.pointer none))
 | .sln k n=>.sln k n
 | .undef=>.undef
def eLs:List L3r→List L
 | []=>[]
 | x::xs=>eL x::eLs xs
end
mutual
def eV:V3r→V
 | .one x=>.one (eL x)
 | .agg xs=>.agg (eLs xs)
 | .tup xs=>.tup (eVs xs)
def eVs:List V3r→List V
 | []=>[]
 | x::xs=>eV x::eVs xs
end
def eO:O3r→O
 | .box cs e=>.box (eLs cs) e
 | .arr rows s e o=>.arr rows s e o
 | .mp g m o=>.mp g m.1 m.2 o
 | .ml ks cs=>.ml ks (eLs cs)
 | .am m s e=>.am m.1 m.2 s e
 | .arn rows s e o=>match rows with
  | []=>.nul
  | a::t=>.arr (a::t) s e o
def eEnv (env:List (Nat×V3r)):List (Nat×V):=env.map fun p=>(p.1,eV p.2)
def eOb (ob:Ur):List (Nat×O):=ob.map fun p=>(p.1,eO p.2)
def eS (st:S3r):S2:=⟨eEnv st.env,eOb st.ob,st.ys,st.pend⟩
theorem eLs_map:∀ xs:List L3r,eLs xs=xs.map eL
 | []=>rfl
 | x::xs=>by simp [eLs,eLs_map xs]
theorem eVs_map:∀ xs:List V3r,eVs xs=xs.map eV
 | []=>rfl
 | x::xs=>by simp [eVs,eVs_map xs]
theorem getE_e (t:Nat):∀ env:List (Nat×V3r),getE (eEnv env) t=eV (getE3 env t)
 | []=>rfl
 | (k,v)::r=>by
  simp only [eEnv,List.map_cons,getE,getE3]
  split
  ·rfl
  ·exact getE_e t r
theorem rawO_e (k:Nat):∀ ob:Ur,rawO (eOb ob) k=(getO3 ob k).map eO
 | []=>rfl
 | (j,o)::r=>by
  simp only [eOb,List.map_cons,rawO,getO3]
  split
  ·rfl
  ·exact rawO_e k r
theorem getO_e (k:Nat):∀ ob:Ur,getO (eOb ob) k=(getO3 ob k).bind fun o=>(eO o).val
 | []=>rfl
 | (j,o)::r=>by
  simp only [eOb,List.map_cons,getO,getO3]
  split
  ·rfl
  ·exact getO_e k r
theorem eO_arn {rows:Rr} {s e:Nat} {o:Bool} (h:rows≠[]):eO (.arn rows s e o)=.arr rows s e o:=by
 cases rows with
 | nil=>exact absurd rfl h
 | cons a t=>rfl
theorem getO_arn {ob:Ur} {k:Nat} {rows:Rr} {s e:Nat} {o:Bool} (hk:getO3 ob k=some (.arn rows s e o)) (h:rows≠[]):getO (eOb ob) k=some (.arr rows s e o):=by
 rw [getO_e,hk,Option.bind_some,eO_arn h];rfl
theorem getO_arn0 {ob:Ur} {k:Nat} {s e:Nat} {o:Bool} (hk:getO3 ob k=some (.arn [] s e o)):getO (eOb ob) k=none:=by
 rw [getO_e,hk];rfl
theorem addO_e:∀ us ob:Ur,eOb (addO3 us ob)=addO (eOb us) (eOb ob)
 | [],ob=>rfl
 | (k,o)::r,ob=>by
  show eOb (addO3 r ((k,o)::ob))=addO (eOb r) ((k,eO o)::eOb ob)
  rw [addO_e r];rfl
variable {Fn:Nat→List D→Out} {FnD:D→List Sh→List D→Out} {m:Nat}
theorem lit3_e (v:Value):eL (lit3 (real Fn FnD m) v)=.d (.lit v):=by
 unfold lit3;split<;>simp [eL,real]
theorem lits3_e (vs:List Value):eLs (vs.map (lit3 (real Fn FnD m)))=litsL vs:=by
 rw [eLs_map,List.map_map];unfold litsL;congr 1;funext v;exact lit3_e v
theorem constV_e (v:Value):eV (constV3 (real Fn FnD m) v)=constV v:=by
 unfold constV3 constV
 split
 ·split<;>rename_i h<;>simp [eV,lits3_e,eL,h]
 ·split<;>rename_i h<;>simp [eV,lit3_e,eL,h]
theorem ev_e (env:List (Nat×V3r)) (x:Operand):eV (ev3 (real Fn FnD m) env x)=ev (getE (eEnv env)) x:=by
 cases x with
 | tmp t=>exact (getE_e t env).symm
 | const v=>exact constV_e v
 | global g=>rfl
 | func f=>simp only [ev3,ev];split<;>simp [eV,eL,eLs]
theorem ev_fun (env:List (Nat×V3r)):(fun x=>eV (ev3 (real Fn FnD m) env x))=ev (getE (eEnv env)):=funext (ev_e env)
theorem scal_e {x:L3r} {y:D} (h:scal (real Fn FnD m) x=some y):eL x=.d y:=by
 unfold scal at h;split at h<;>first | (cases h;simp [eL,real]) | cases h
theorem scal1_e {x:V3r} {y:D} (h:scal1 (real Fn FnD m) x=some y):eV x=.one (.d y):=by
 unfold scal1 at h;split at h
 ·simp only [eV,scal_e h]
 ·cases h
theorem isDef_e (x:L3r):(eL x).isDef=x.isDef:=by cases x<;>simp [eL,L.isDef,L3.isDef]
theorem cells_e (v:V3r):(eV v).cells=v.cells.map eLs:=by
 cases v with
 | one x=>simp only [eV,V.cells,V3.cells,isDef_e];split<;>simp [eLs]
 | agg xs =>
  simp only [eV,V.cells,V3.cells,eLs_map,List.all_map]
  have:(L.isDef ∘ eL)=(L3.isDef:L3r→Bool):=funext isDef_e
  rw [this];split<;>simp [eLs_map]
 | tup xs=>simp [eV,V.cells,V3.cells]
theorem eLs_length (xs:List L3r):(eLs xs).length=xs.length:=by rw [eLs_map,List.length_map]
theorem getCells_e (g:Bool) (s off:Nat) (cs:List L3r):getCells g s off (eLs cs)=(getCells3 g s off cs).map eV:=by
 unfold getCells getCells3
 cases g with
 | true=>simp only [eLs_length,if_true];split<;>simp [eV,eLs_map,List.map_drop,List.map_take]
 | false =>
  simp only [Bool.false_eq_true,if_false,eLs_map,List.getElem?_map]
  cases cs[off]?<;>simp [eV]
theorem mkV_e (g:Bool) (xs:List L3r):mkV g (eLs xs)=(mkV3 g xs).map eV:=by
 cases g with
 | true=>simp [mkV,mkV3,eV]
 | false =>
  match xs with
  | []=>rfl
  | [x]=>simp [mkV,mkV3,eV,eLs]
  | x::y::r=>rfl
theorem addrOff_e {n:Nat} {v u:V3r} (h:addrOff3 (real Fn FnD m) n v=some u):addrOff n (eV v)=some (eV u):=by
 unfold addrOff3 at h
 split at h<;>first | (cases h;simp [addrOff,eV,eL,real,Nat.add_assoc]) | cases h
theorem fill_e (pl:Nat→Option (Nat×Nat)):∀ (ps:List (Nat×V3r)) (cs:List L3r),fillL pl (eLs cs) (ps.map fun p=>(p.1,eV p.2))=(fill3 pl cs ps).map eLs
 | [],cs=>rfl
 | (i,v)::r,cs=>by
  simp only [List.map_cons,fillL,fill3,cells_e]
  cases pl i with
  | none=>rfl
  | some q =>
   obtain ⟨off,size⟩:=q
   cases hv:v.cells with
   | none=>rfl
   | some vs =>
    simp only [Option.map_some,eLs_length]
    split
    ·rw [←fill_e pl r]
     congr 1
     simp only [eLs_map,List.map_append,List.map_take,List.map_drop]
    ·rfl
theorem oneCells_e:∀ vs:List V3r,oneCells (vs.map eV)=(oneCells3 vs).map eLs
 | []=>rfl
 | .one x::r=>by
  simp only [List.map_cons,eV,oneCells,oneCells3,isDef_e,oneCells_e r]
  split
  ·cases oneCells3 r<;>simp [eLs]
  ·rfl
 | .agg xs::r=>rfl
 | .tup xs::r=>rfl
theorem cellsOf_e {w:List D} {s:Nat} (h:w.length=s):cellsOf (real Fn FnD m) s w=w:=by
 subst h
 unfold cellsOf
 apply List.ext_getElem?
 intro i
 simp only [List.getElem?_map,real,List.getD_eq_getElem?_getD]
 by_cases hi:i < w.length
 ·rw [List.getElem?_range hi];simp [hi]
 ·rw [List.getElem?_eq_none (by simpa using hi)];simp;omega
theorem eLs_d (w:List D):eLs (w.map .d)=w.map .d:=by rw [eLs_map,List.map_map];rfl
theorem isAgg_e (v:V3r):isAggV (eV v)=isAgg3 v:=by cases v<;>rfl
theorem eOb_nil:eOb []=[]:=rfl
theorem eOb_cons (k:Nat) (o:O3r) (r:Ur):eOb ((k,o)::r)=(k,eO o)::eOb r:=rfl
theorem eOb_append (a b:Ur):eOb (a++b)=eOb a++eOb b:=by simp [eOb]
end Go.VE
namespace Go.VE
open Go.RowKit
variable {P:Program} {Fn:Nat→List D→Out} {FnD:D→List Sh→List D→Out} {m:Nat} {r:Nat×List Yr} {ob:Ur}
theorem Q.reads_bind {α β:Type} (o:Ob) (q:Q α) (f:α→Q β):(q.bind f).reads o=q.reads o++(match q.run o with | some a=>(f a).reads o | none=>[]):=by
 induction q with
 | ret a=>rfl
 | get k g ih=>simp only [Q.bind,Q.reads,Q.run,ih,List.cons_append]
 | fail=>rfl
def OKQ (ob:Ur) (q:Q Res) (k:K3 D Nat Rr Mr Out) (r:Nat×List Yr):Prop :=
 ∃ v us rd,q.run (getO (eOb ob))=some (eV v,eOb us)∧(∀ x∈q.reads (getO (eOb ob)),x∈rd)∧k v us rd=some r
theorem OKQ.ret {v:V3r} {us:Ur} {rd:List Nat} {k:K3 D Nat Rr Mr Out} (h:k v us rd=some r):OKQ ob (.ret (eV v,eOb us)) k r:=⟨v,us,rd,rfl,by simp [Q.reads],h⟩
theorem OKQ.ret0 {v:V3r} {rd:List Nat} {k:K3 D Nat Rr Mr Out} (h:k v [] rd=some r):OKQ ob (.ret (eV v,[])) k r:=OKQ.ret (us:=[]) h
theorem OKQ.get {key:Nat} {f:Option O→Q Res} {k:K3 D Nat Rr Mr Out} {rd0:List Nat} (h:OKQ ob (f (getO (eOb ob) key)) (fun v us rd=>k v us (rd0++rd)) r) (hk:key∈rd0):OKQ ob (.get key f) k r:=by
 obtain ⟨v,us,rd,h1,h2,h3⟩:=h
 refine ⟨v,us,rd0++rd,h1,?_,h3⟩
 intro x hx
 simp only [Q.reads,List.mem_cons] at hx
 rcases hx with rfl | hx
 ·exact List.mem_append_left _ hk
 ·exact List.mem_append_right _ (h2 x hx)
theorem optK_ok {o:Option V3r} {o':Option V} {rd:List Nat} {k:K3 D Nat Rr Mr Out} (h:optK (real Fn FnD m) o rd k=some r) (ho:∀ v,o=some v→o'=some (eV v)):∃ v,o'=some (eV v)∧k v [] rd=some r:=by
 unfold optK at h
 split at h
 ·rename_i v;exact ⟨v,ho v rfl,h⟩
 ·cases h
theorem OKQ.mk {q:Q Res} {k:K3 D Nat Rr Mr Out} {v:V3r} {us:Ur} {rd:List Nat} (h1:q.run (getO (eOb ob))=some (eV v,eOb us)) (h2:∀ x∈q.reads (getO (eOb ob)),x∈rd) (h3:k v us rd=some r):OKQ ob q k r:=⟨v,us,rd,h1,h2,h3⟩
theorem real_eqN {a b:Nat} {k:Out} (h:(real Fn FnD m).eqN a b k=some r):a=b∧k=some r:=by
 simp only [real] at h;split at h
 ·exact ⟨‹_›,h⟩
 ·cases h
theorem real_leN {a b:Nat} {k:Out} (h:(real Fn FnD m).leN a b k=some r):a≤b∧k=some r:=by
 simp only [real] at h;split at h
 ·exact ⟨‹_›,h⟩
 ·cases h
theorem real_nilD {x:D} {k:Out} (h:(real Fn FnD m).nilD x k=some r):x=.lit (.slice none 0 0)∧k=some r:=by
 simp only [real] at h;split at h
 ·exact ⟨rfl,h⟩
 ·cases h
theorem real_ptrW {n:Nat} {x:D} {k:List D→Out} (h:(real Fn FnD m).ptrW n x k=some r):∃ row,x=.dp row 0∧row.length=n∧k row=some r:=by
 simp only [real] at h;split at h
 ·split at h
  ·exact ⟨_,rfl,‹_›,h⟩
  ·cases h
 ·cases h
theorem real_isPtr {x:D} {k:Out} (h:(real Fn FnD m).isPtr x k=some r):(∃ row o,x=.dp row o)∧k=some r:=by
 simp only [real] at h;split at h
 ·exact ⟨⟨_,_,rfl⟩,h⟩
 ·cases h
theorem real_rowAt {s i:Nat} {rows:Rr} {k:List D→Out} (h:(real Fn FnD m).rowAt s rows i k=some r):∃ w,rows[i]?=some w∧w.length=s∧k w=some r:=by
 simp only [real] at h;split at h
 ·split at h
  ·exact ⟨_,‹_›,‹_›,h⟩
  ·cases h
 ·cases h
theorem optO_some {α:Type} {o:Option α} {k:α→Out} (h:optO o k=some r):∃ a,o=some a∧k a=some r:=by
 unfold optO at h;split at h
 ·exact ⟨_,rfl,h⟩
 ·cases h
theorem real_inx {x:D} {n:Nat} {k:Nat→Out} (h:(real Fn FnD m).inx x n k=some r):∃ kk z,x=.lit (.int kk z)∧(0≤z∧z < (n:Int))∧k z.toNat=some r:=by
 simp only [real] at h;split at h
 ·split at h
  ·exact ⟨_,_,rfl,‹_›,h⟩
  ·cases h
 ·cases h
theorem real_selI {x:D} {n:Nat} {ks:List Out} (h:(real Fn FnD m).selI n x ks=some r):∃ kk z,x=.lit (.int kk z)∧(0≤z∧z < (n:Int))∧selR ks z.toNat=some r:=by
 simp only [real] at h;split at h
 ·split at h
  ·exact ⟨_,_,rfl,‹_›,h⟩
  ·cases h
 ·cases h
theorem real_rowD {es:Nat} {x i:D} {k:List D→Out} (h:(real Fn FnD m).rowD es x i k=some r):∃ rows kk z w,x=.sl es rows∧i=.lit (.int kk z)∧0≤z∧rows[z.toNat]?=some w∧w.length=es∧k w=some r:=by
 simp only [real] at h;split at h
 ·split at h
  ·rename_i hz
   obtain ⟨rfl,hz⟩:=hz
   split at h
   ·split at h
    ·exact ⟨_,_,_,_,rfl,rfl,hz,‹_›,‹_›,h⟩
    ·cases h
   ·cases h
  ·cases h
 ·cases h
theorem real_cut {l h':Option D} {n:Nat} {k:Nat→Nat→Out} {e:Out} (h:(real Fn FnD m).cut l h' n k e=some r):∃ zl zh,oIntD l=some zl∧oIntD h'=some zh∧(0≤zl.getD 0∧zl.getD 0≤zh.getD n∧zh.getD n≤n) ∧
  (((zl.getD 0=0∨zl.getD 0 < zh.getD n)∧k (zl.getD 0).toNat (zh.getD n - zl.getD 0).toNat=some r)∨(¬ (zl.getD 0=0∨zl.getD 0 < zh.getD n)∧e=some r)):=by
 simp only [real] at h;split at h
 ·rename_i zl zh h1 h2
  split at h
  ·split at h
   ·exact ⟨zl,zh,h1,h2,‹_›,.inl ⟨‹_›,h⟩⟩
   ·exact ⟨zl,zh,h1,h2,‹_›,.inr ⟨‹_›,h⟩⟩
  ·cases h
 ·cases h
theorem real_cutD {es:Nat} {x:D} {l h':Option D} {k:D→Out} (h:(real Fn FnD m).cutD es x l h' k=some r):∃ zl zh z,oIntD l=some zl∧oIntD h'=some zh∧cutDD es zl zh x=some z∧k z=some r:=by
 simp only [real] at h;split at h
 ·obtain ⟨z,h1,h2⟩:=optO_some h;exact ⟨_,_,z,‹_›,‹_›,h1,h2⟩
 ·cases h
theorem real_cutNil {l h':Option D} {k:Out} (h:(real Fn FnD m).cutNil l h' k=some r):∃ zl zh,oIntD l=some zl∧oIntD h'=some zh∧(zl.getD 0=0∧zh.getD 0=0)∧k=some r:=by
 simp only [real] at h;split at h
 ·split at h
  ·exact ⟨_,_,‹_›,‹_›,‹_›,h⟩
  ·cases h
 ·cases h
theorem real_cond {x:D} {a b:Out} (h:(real Fn FnD m).cond x a b=some r):(x=.lit (.bool true)∧a=some r)∨(x=.lit (.bool false)∧b=some r):=by
 simp only [real] at h;split at h
 ·exact .inl ⟨rfl,h⟩
 ·exact .inr ⟨rfl,h⟩
 ·cases h
theorem real_bnd {o:Out} {ks:List (List Yr→Out)} (h:(real Fn FnD m).bnd o ks=some r):∃ j ys k,o=some (j,ys)∧ks[j]?=some k∧k ys=some r:=by
 simp only [real] at h;split at h
 ·split at h
  ·exact ⟨_,_,_,rfl,‹_›,h⟩
  ·cases h
 ·cases h
theorem real_bin {op:BinOp} {bl:Bool} {x y:D} {k:D→Out} (h:(real Fn FnD m).bin op bl x y k=some r):∃ z,binD op bl x y=some z∧k z=some r:=optO_some h
theorem real_un {op:UnOp} {x:D} {k:D→Out} (h:(real Fn FnD m).un op x k=some r):∃ z,unD op x=some z∧k z=some r:=optO_some h
theorem real_mm {mx:Bool} {x y:D} {k:D→Out} (h:(real Fn FnD m).mm mx x y k=some r):∃ z,mmD mx x y=some z∧k z=some r:=optO_some h
theorem real_eqs {ks:List Nat} {ng:Bool} {x y:List D} {k:D→Out} (h:(real Fn FnD m).eqs ks ng x y k=some r):∃ b,cellsEq ks (x.map .d) (y.map .d)=some b∧k (.lit (.bool (if ng then !b else b)))=some r:=by
 simp only [real] at h;split at h
 ·exact ⟨_,‹_›,h⟩
 ·cases h
theorem real_mkN {bs:Nat} {x y:D} {k:Nat→Out} (h:(real Fn FnD m).mkN bs x y k=some r):∃ a n,x=.lit (.int a n)∧y=.lit (.int a n)∧(0≤n∧bs*n≤140737488355328∧n≤9223372036854775807)∧k n.toNat=some r:=by
 simp only [real] at h;split at h
 ·split at h
  ·rename_i hc;obtain ⟨rfl,rfl,hc⟩:=hc;exact ⟨_,_,rfl,rfl,hc,h⟩
  ·cases h
 ·cases h
theorem real_gap {bs:Nat} {x:D} {k:Nat→Out} (h:(real Fn FnD m).gap bs x k=some r):∃ a n,x=.lit (.int a n)∧(0 < n∧bs*n≤140737488355328∧n≤9223372036854775807)∧k n.toNat=some r:=by
 simp only [real] at h;split at h
 ·split at h
  ·exact ⟨_,_,rfl,‹_›,h⟩
  ·cases h
 ·cases h
theorem real_lenD {x:D} {k:D→Out} (h:(real Fn FnD m).lenD x k=some r):∃ n,lenDD x=some n∧k (.lit (.int .i64 n))=some r:=by
 simp only [real] at h;split at h
 ·exact ⟨_,‹_›,h⟩
 ·cases h
theorem real_lenS {x:D} {k:D→Out} (h:(real Fn FnD m).lenS x k=some r):∃ s,x=.lit (.string s)∧k (.lit (.int .i64 s.size))=some r:=by
 simp only [real] at h;split at h
 ·exact ⟨_,rfl,h⟩
 ·cases h
theorem real_atS {x i:D} {k:D→Out} (h:(real Fn FnD m).atS x i k=some r):∃ a z v,i=.lit (.int a z)∧strAt (.one (.d x)) z=some v∧k (.lit v)=some r:=by
 simp only [real] at h;split at h
 ·rename_i z hz
  split at h
  ·rename_i v hv
   unfold intD at hz
   split at hz
   ·cases hz;exact ⟨_,_,v,rfl,hv,h⟩
   ·cases hz
  ·cases h
 ·cases h
theorem real_cutS {x:D} {l h':Option D} {k:D→Out} (h:(real Fn FnD m).cutS x l h' k=some r):∃ zl zh v,oIntD l=some zl∧oIntD h'=some zh∧strCut (.one (.d x)) zl zh=some v∧k (.lit v)=some r:=by
 simp only [real] at h;split at h
 ·rename_i zl zh h1 h2
  split at h
  ·rename_i v hv;exact ⟨zl,zh,v,h1,h2,hv,h⟩
  ·cases h
 ·cases h
theorem real_strB {x:Rr} {k:D→Out} (h:(real Fn FnD m).strB x k=some r):∃ l,rowInts x=some l∧k (.lit (.string (strOfI l)))=some r:=by
 simp only [real] at h;split at h
 ·exact ⟨_,‹_›,h⟩
 ·cases h
theorem real_rowsD {es:Nat} {x:D} {k:Rr→Out} (h:(real Fn FnD m).rowsD es x k=some r):∃ rows,rowsDD es x=some rows∧k rows=some r:=by
 simp only [real] at h;split at h
 ·exact ⟨_,‹_›,h⟩
 ·cases h
theorem real_isNil {rows:Rr} {a b:Out} (h:(real Fn FnD m).isNil rows a b=some r):(rows=[]∧a=some r)∨(rows≠[]∧b=some r):=by
 cases rows with
 | nil=>exact .inl ⟨rfl,h⟩
 | cons x xs=>exact .inr ⟨by simp,h⟩
theorem real_fits {bs n:Nat} {k:Out} (h:(real Fn FnD m).fits bs n k=some r):n*bs≤140737488355328∧n≤maxLen∧k=some r:=by
 simp only [real] at h;split at h
 ·rename_i hc;exact ⟨hc.1,hc.2,h⟩
 ·cases h
theorem real_asM {agg:Bool} {x:D} {k:Mr→Out} (h:(real Fn FnD m).asM agg x k=some r):∃ mm,asMD agg x=some mm∧k mm=some r:=by
 simp only [real] at h;split at h
 ·exact ⟨_,‹_›,h⟩
 ·cases h
theorem real_look {kd:Nat} {zs:List Value} {mm:Mr} {key:D} {k:List D→D→Out} (h:(real Fn FnD m).look kd zs mm key k=some r):∃ p,lookD kd zs mm key=some p∧k p.1 p.2=some r:=by
 simp only [real] at h;split at h
 ·exact ⟨_,‹_›,h⟩
 ·cases h
theorem real_upd {kd:Nat} {mm:Mr} {key:D} {ds:List D} {k:Mr→Out} (h:(real Fn FnD m).upd kd mm key ds k=some r):∃ m',updD kd mm key ds=some m'∧k m'=some r:=by
 simp only [real] at h;split at h
 ·exact ⟨_,‹_›,h⟩
 ·cases h
theorem real_nilE {x:D} {a b:Out} (h:(real Fn FnD m).nilE x a b=some r):(x=.lit (.slice none 0 0)∧a=some r)∨∃ s rows,x=.sl s rows∧b=some r:=by
 simp only [real] at h
 split at h
 ·exact .inl ⟨rfl,h⟩
 ·exact .inr ⟨_,_,rfl,h⟩
 ·cases h
theorem real_cvI {kd:IntKind} {y:D} {k:D→Out} (h:(real Fn FnD m).cvI kd y k=some r):∃ a n,y=.lit (.int a n)∧k (.lit (.int kd (kd.wrap n)))=some r:=by
 simp only [real] at h;split at h
 ·exact ⟨_,_,rfl,h⟩
 ·cases h
theorem real_ins {y:D} {rows new:Rr} {k:Rr→Out} (h:(real Fn FnD m).ins y rows new k=some r):∃ z,y=.lit (.int .i64 z)∧(0≤z∧z.toNat≤rows.length)∧k (rows.take z.toNat++new++rows.drop z.toNat)=some r:=by
 simp only [real] at h;split at h
 ·split at h
  ·exact ⟨_,rfl,‹_›,h⟩
  ·cases h
 ·cases h
theorem real_lits {ys:List Yr} {k:Out} (h:(real Fn FnD m).lits ys k=some r):ys.all ynLit=true∧k=some r:=by
 simp only [real] at h;split at h
 ·exact ⟨‹_›,h⟩
 ·cases h
theorem real_find {kd:Nat} {mm:Mr} {key:D} {k:Nat→Out} {e:Out} (h:(real Fn FnD m).find kd mm key k e=some r):(∃ j,findD2 kd mm key=some (some j)∧k j=some r)∨(findD2 kd mm key=some none∧e=some r):=by
 simp only [real] at h;split at h
 ·exact .inl ⟨_,‹_›,h⟩
 ·exact .inr ⟨‹_›,h⟩
 ·cases h
theorem real_addK {kd:Nat} {mm:Mr} {key:D} {j:Nat} {k:Mr→Out} (h:(real Fn FnD m).addK kd mm key j k=some r):∃ m',addKD kd mm key j=some m'∧k m'=some r:=by
 simp only [real] at h;split at h
 ·exact ⟨_,‹_›,h⟩
 ·cases h
theorem scals_e':∀ {xs:List L3r} {ds:List D},scals (real Fn FnD m) xs=some ds→eLs xs=ds.map .d
 | [],ds,h=>by simp [scals] at h;subst h;rfl
 | x::xs,ds,h=>by
  simp only [scals] at h
  split at h
  ·rename_i y ys hy hys
   cases h
   simp [eLs,scal_e hy,scals_e' hys]
  ·cases h
theorem frzs_d (ds:List D) (o:Ob):(frzs (ds.map .d)).run o=some (ds,[])∧(frzs (ds.map .d)).reads o=[]:=by
 induction ds with
 | nil=>exact ⟨rfl,rfl⟩
 | cons d ds ih=>exact ⟨by simp [frzs,frz,Q.bind,Q.run_bind,ih.1,Q.run],by simp [frzs,frz,Q.bind,Q.reads_bind,ih.1,ih.2,Q.reads]⟩
theorem getCells_mk {g:Bool} {s off:Nat} {cells:List L} {v:V} (hl:off+s≤cells.length) (h:mkV g ((cells.drop off).take s)=some v):getCells g s off cells=some v:=by
 cases g with
 | true=>simp only [mkV] at h;simp [getCells,hl,← h]
 | false =>
  simp only [getCells,Bool.false_eq_true,if_false]
  unfold mkV at h
  split at h
  ·contradiction
  ·rename_i x hx
   cases h
   have h0:=congrArg (·[0]?) hx
   simp only [List.getElem?_take,List.getElem?_drop,List.getElem?_cons_zero,Nat.add_zero] at h0
   split at h0
   ·rw [h0];rfl
   ·cases h0
  ·cases h
theorem range_cells (w:List D) (off s:Nat) (h:off+s≤w.length):(List.range s).map (fun i=>w.getD (off+i) default)=(w.drop off).take s:=by
 apply List.ext_getElem?
 intro i
 simp only [List.getElem?_map,List.getElem?_take,List.getElem?_drop]
 by_cases hi:i < s
 ·rw [List.getElem?_range hi,if_pos hi,Option.map_some,List.getElem?_eq_getElem (by omega)]
  simp [List.getD_eq_getElem?_getD,List.getElem?_eq_getElem (show off+i < w.length by omega)]
 ·rw [List.getElem?_eq_none (by simpa using hi),if_neg hi];rfl
theorem colsX_ok {cells:List L3r} {b n es i:Nat} (hi:i < n):∀ {s o:Nat} {xs:List L3r},colsX (real Fn FnD m) cells b n es i o s=some xs→b+es*i+o+s≤cells.length→eLs xs=((eLs cells).drop (b+es*i+o)).take s
 | 0,o,xs,h,_=>by simp [colsX] at h;subst h;simp [eLs]
 | s+1,o,xs,h,hl=>by
  simp only [colsX] at h
  split at h
  ·rename_i ds ys hds hys
   cases h
   have ih:=colsX_ok hi hys (by omega)
   have h1:=scals_e' hds
   have h2:=congrArg (·[i]?) h1
   have hlt:b+es*i+o < cells.length:=by omega
   have hd:(eLs cells).drop (b+es*i+o)=eL cells[b+es*i+o]::(eLs cells).drop (b+es*i+o+1):=by
    rw [eLs_map,List.drop_eq_getElem_cons (by simpa using hlt)];simp
   simp only [eLs_map,List.map_map,List.getElem?_map,List.getElem?_range hi,Option.map_some,Function.comp] at h2
   rw [hd,List.take_succ_cons]
   simp only [eLs]
   rw [show b+es*i+o+1=b+es*i+(o+1) by omega,← ih]
   congr 1
   rw [List.getD_eq_getElem?_getD,show b+i*es+o=b+es*i+o by rw [Nat.mul_comm],List.getElem?_eq_getElem hlt,Option.getD_some] at h2
   simp only [real,eL,List.getD_eq_getElem?_getD]
   cases hq:ds[i]? with
   | none=>rw [hq] at h2;simp at h2
   | some z=>rw [hq] at h2;simp at h2;rw [h2];rfl
  ·cases h
theorem putX_ok {i b n es off:Nat} {ds:List D} {cells:List L3r} (hi:i < n) (hes:0 < es) (hb:b+n*es≤cells.length) (ho:off+ds.length≤es) (hd:(putX (real Fn FnD m) i b n es off ds cells).all L3.isDef=true) :
  eLs (putX (real Fn FnD m) i b n es off ds cells)=(eLs cells).take (b+es*i+off)++ds.map .d++(eLs cells).drop (b+es*i+off+(ds.map L.d).length):=by
 have hin:es*i+es≤n*es:=by rw [Nat.mul_comm es i,← Nat.succ_mul];exact Nat.mul_le_mul_right _ hi
 have hlen:b+es*i+off+(ds.map L.d).length≤(eLs cells).length:=by rw [eLs_length,List.length_map];omega
 apply List.ext_getElem?
 intro p
 rw [splice_get _ _ _ hlen,List.length_map]
 by_cases hp:p < cells.length
 ·have hx:(putX (real Fn FnD m) i b n es off ds cells)[p]?=some (if b≤p∧p < b+n*es∧off≤(p - b) % es∧(p - b) % es < off+ds.length then putC (real Fn FnD m) i ((p - b) / es) cells[p] ds[(p - b) % es - off]? else cells[p]):=by
   simp only [putX,List.getElem?_map,List.getElem?_zipIdx,List.getElem?_eq_getElem hp,Option.map_some,Nat.zero_add]
  have hdef:=List.all_eq_true.1 hd _ (List.mem_of_getElem? hx)
  rw [eLs_map,List.getElem?_map,hx,Option.map_some]
  have hcp:(eLs cells)[p]?=some (eL cells[p]):=by rw [eLs_map,List.getElem?_map,List.getElem?_eq_getElem hp];rfl
  have hmod:=Nat.div_add_mod (p - b) es
  by_cases hc:b≤p∧p < b+n*es∧off≤(p - b) % es∧(p - b) % es < off+ds.length
  ·rw [if_pos hc] at hdef ⊢
   obtain ⟨c1,c2,c3,c4⟩:=hc
   unfold putC at hdef ⊢
   split at hdef
   ·rename_i old new h1 h2
    simp only [real,eL]
    by_cases hq:i=(p - b) / es
    ·rw [if_pos hq,if_neg (by rw [←hq] at hmod;omega),if_pos (by rw [←hq] at hmod;omega)]
     rw [List.getElem?_map,show p - (b+es*i+off)=(p - b) % es - off by rw [←hq] at hmod;omega,h2];rfl
    ·rw [if_neg hq]
     have hnot:¬ (b+es*i+off≤p∧p < b+es*i+off+ds.length):=by
      rintro ⟨h3,h4⟩
      refine hq ?_
      have:p - b=es*i+(p - b - es*i):=by omega
      rw [this,Nat.mul_add_div hes,Nat.div_eq_of_lt (by omega)];rfl
     have:some (L.d old)=(eLs cells)[p]?:=by rw [hcp,scal_e h1]
     split
     ·exact this
     ·rw [if_neg (by omega)];exact this
   ·simp [L3.isDef] at hdef
  ·rw [if_neg hc]
   have hnot:¬ (b+es*i+off≤p∧p < b+es*i+off+ds.length):=by
    rintro ⟨h3,h4⟩
    refine hc ?_
    have e1:(p - b) % es=p - b - es*i:=by
     have:p - b=es*i+(p - b - es*i):=by omega
     rw [this,Nat.mul_add_mod,Nat.mod_eq_of_lt (by omega)];omega
    rw [e1]
    omega
   split
   ·exact hcp.symm
   ·rw [if_neg (by omega)];exact hcp.symm
 ·have h1:(eLs (putX (real Fn FnD m) i b n es off ds cells))[p]?=none:=List.getElem?_eq_none (by rw [eLs_length];simp [putX];omega)
  rw [h1]
  rw [eLs_length,List.length_map] at hlen
  rw [if_neg (by omega),if_neg (by omega),List.getElem?_eq_none (by rw [eLs_length];omega)]
theorem loadK_ok {g:Bool} {s:Nat} {x:V3r} {k:K3 D Nat Rr Mr Out} (h:loadK (real Fn FnD m) g s ob x k=some r):OKQ ob (loadQ g s (eV x)) k r:=by
 unfold loadK at h
 split at h
 ·rename_i key off
  split at h
  ·rename_i cells elem hk
   obtain ⟨v,h1,h2⟩:=optK_ok (o':=getCells g s off (eLs cells)) h fun v hv=>by rw [getCells_e,hv];rfl
   refine OKQ.mk (v:=v) (us:=[]) (rd:=[key]) ?_ ?_ h2
   ·simp [loadQ,eV,eL,Q.run,getO_e,hk,eO,pureR,h1,Q.opt,Q.bind,eOb_nil]
   ·simp [loadQ,eV,eL,Q.reads,getO_e,hk,eO,pureR,h1,Q.opt,Q.bind]
  ·cases h
 ·rename_i key i off c
  split at h
  ·rename_i rows size elem own hk
   obtain ⟨hc,h⟩:=real_eqN h
   obtain ⟨w,h1,h2,h⟩:=real_rowAt h
   rw [cellsOf_e h2] at h
   obtain ⟨v,h3,h4⟩:=optK_ok (o':=getCells g s off (w.map .d)) h fun v hv=>by rw [←eLs_d,getCells_e,hv];rfl
   have hc':c=rows.length:=hc
   refine OKQ.mk (v:=v) (us:=[]) (rd:=[key]) ?_ ?_ h4
   ·simp [loadQ,eV,eL,Q.run,getO_e,hk,eO,pureR,h1,h3,Q.opt,Q.bind,eOb_nil,Q.guard,hc']
   ·simp [loadQ,eV,eL,Q.reads,getO_e,hk,eO,pureR,h1,h3,Q.opt,Q.bind,Q.guard,hc']
  ·rename_i rows size elem own hk
   obtain ⟨hc,h⟩:=real_eqN h
   obtain ⟨w,h1,h2,h⟩:=real_rowAt h
   rw [cellsOf_e h2] at h
   obtain ⟨v,h3,h4⟩:=optK_ok (o':=getCells g s off (w.map .d)) h fun v hv=>by rw [←eLs_d,getCells_e,hv];rfl
   have hc':c=rows.length:=hc
   have hg:=getO_arn hk (by rintro rfl;simp at h1)
   refine OKQ.mk (v:=v) (us:=[]) (rd:=[key]) ?_ ?_ h4
   ·simp [loadQ,eV,eL,Q.run,hg,pureR,h1,h3,Q.opt,Q.bind,eOb_nil,Q.guard,hc']
   ·simp [loadQ,eV,eL,Q.reads,hg,pureR,h1,h3,Q.opt,Q.bind,Q.guard,hc']
  ·cases h
 ·rename_i row off
  obtain ⟨v,h1,h2⟩:=optK_ok (o':=getCells g s off (row.map .d)) h fun v hv=>by rw [←eLs_d,getCells_e,hv];rfl
  refine OKQ.mk (v:=v) (us:=[]) (rd:=[]) ?_ ?_ h2
  ·simp [loadQ,eV,eL,Q.run,pureR,h1,Q.opt,Q.bind,eOb_nil]
  ·simp [loadQ,eV,eL,Q.reads,pureR,h1,Q.opt,Q.bind]
 ·rename_i key j off
  split at h
  ·rename_i mm size elem hk
   obtain ⟨w,h1,h2,h⟩:=real_rowAt h
   obtain ⟨h3,h⟩:=real_leN h
   have h3':off+s≤w.length:=by rw [h2];exact h3
   have h1':mm.2[j]?=some w:=h1
   obtain ⟨v,h4,h5⟩:=optK_ok (o':=getCells g s off (w.map .d)) h fun v hv=>by
    refine getCells_mk (by simpa using h3') ?_
    have e:eLs ((List.range s).map fun i=>.d ((real Fn FnD m).cellN w off i))=((w.map L.d).drop off).take s:=by
     rw [←List.map_drop,← List.map_take,← range_cells w off s h3',eLs_map,List.map_map,List.map_map]
     rfl
    rw [←e,mkV_e,hv];rfl
   refine OKQ.mk (v:=v) (us:=[]) (rd:=[key]) ?_ ?_ h5
   ·simp [loadQ,eV,eL,Q.run,getO_e,hk,eO,pureR,h1',h4,Q.opt,Q.bind,eOb_nil]
   ·simp [loadQ,eV,eL,Q.reads,getO_e,hk,eO,pureR,h1',h4,Q.opt,Q.bind]
  ·cases h
 ·rename_i key b n es i off
  split at h
  ·rename_i cells elem hk
   split at h
   ·rename_i hle
    split at h
    ·rename_i xs hxs
     obtain ⟨h3,h⟩:=real_leN h
     have h3':i+1≤n:=h3
     have hin:es*i+es≤n*es:=by rw [Nat.mul_comm es i,← Nat.succ_mul];exact Nat.mul_le_mul_right _ h3'
     obtain ⟨v,h4,h5⟩:=optK_ok (o':=getCells g s (b+es*i+off) (eLs cells)) h fun v hv=>by
      refine getCells_mk (by rw [eLs_length];omega) ?_
      rw [←colsX_ok h3' hxs (by omega),mkV_e,hv];rfl
     refine OKQ.mk (v:=v) (us:=[]) (rd:=[key]) ?_ ?_ h5
     ·simp [loadQ,eV,eL,Q.run,getO_e,hk,eO,pureR,h4,Q.opt,Q.bind,eOb_nil]
     ·simp [loadQ,eV,eL,Q.reads,getO_e,hk,eO,pureR,h4,Q.opt,Q.bind]
    ·cases h
   ·cases h
  ·cases h
 ·cases h
theorem frz3_ok {x:L3r} {k:D→Ur→List Nat→Out} (h:frz3 (real Fn FnD m) ob x k=some r):∃ d us rd,(frz (eL x)).run (getO (eOb ob))=some (d,eOb us)∧(∀ q∈(frz (eL x)).reads (getO (eOb ob)),q∈rd)∧k d us rd=some r:=by
 unfold frz3 at h
 split at h
 ·rename_i key off n c
  split at h
  ·rename_i rows size elem own hk
   obtain ⟨hc,h⟩:=real_eqN h
   have hc':c=rows.length:=hc
   refine ⟨_,_,_,?_,?_,h⟩
   ·simp [frz,eL,Q.run,getO_e,hk,eO,Q.guard,hc',real,eOb_nil,eOb_cons]
   ·simp [frz,eL,Q.reads,getO_e,hk,eO,Q.guard,hc']
  ·cases h
 ·rename_i key
  split at h
  ·rename_i agg mm own hk
   refine ⟨_,_,_,?_,?_,h⟩
   ·simp [frz,eL,Q.run,getO_e,hk,eO,real,eOb_nil,eOb_cons]
   ·simp [frz,eL,Q.reads,getO_e,hk,eO]
  ·cases h
 ·rename_i key n
  split at h
  ·rename_i rows size elem own hk
   obtain ⟨hc,h⟩:=real_eqN h
   have hc':n=rows.length:=hc
   refine ⟨_,_,_,?_,?_,h⟩
   ·cases rows with
    | nil=>simp [frz,eL,Q.run,getO_arn0 hk,eO,Q.guard,hc',real,eOb_nil,eOb_cons]
    | cons a t=>simp [frz,eL,Q.run,getO_arn hk,eO,Q.guard,hc',real,eOb_nil,eOb_cons]
   ·cases rows with
    | nil=>simp [frz,eL,Q.reads,getO_arn0 hk,Q.guard,hc']
    | cons a t=>simp [frz,eL,Q.reads,getO_arn hk,Q.guard,hc']
  ·cases h
 ·split at h
  ·rename_i y hy
   refine ⟨_,_,_,?_,?_,h⟩
   ·rw [scal_e hy];simp [frz,Q.run,eOb_nil]
   ·rw [scal_e hy];simp [frz,Q.reads]
  ·cases h
theorem frzs3_ok:∀ {xs:List L3r} {k:List D→Ur→List Nat→Out},frzs3 (real Fn FnD m) ob xs k=some r→∃ ds us rd,(frzs (eLs xs)).run (getO (eOb ob))=some (ds,eOb us)∧(∀ q∈(frzs (eLs xs)).reads (getO (eOb ob)),q∈rd)∧k ds us rd=some r
 | [],k,h=>⟨[],[],[],by simp [eLs,frzs,Q.run,eOb_nil],by simp [eLs,frzs,Q.reads],h⟩
 | x::xs,k,h=>by
  simp only [frzs3] at h
  obtain ⟨d,us,rd,h1,h2,h⟩:=frz3_ok h
  obtain ⟨ds,us',rd',h3,h4,h⟩:=frzs3_ok h
  refine ⟨_,_,_,?_,?_,h⟩
  ·simp [eLs,frzs,Q.run_bind,h1,h3,Q.run,eOb_append]
  ·intro q hq
   simp only [eLs,frzs,Q.reads_bind,h1,h3,List.mem_append,Q.reads,List.not_mem_nil,or_false] at hq
   rcases hq with hq | hq
   ·exact List.mem_append_left _ (h2 q hq)
   ·exact List.mem_append_right _ (h4 q hq)
theorem fresh3_ok {dst:Option Nat} {o:O3r} {v:Nat→V3r} {v':Nat→V} {k:K3 D Nat Rr Mr Out} (h:fresh3 (real Fn FnD m) ob dst o v k=some r) (hv:∀ q,eV (v q)=v' q):OKQ ob (fresh dst (eO o) v') k r:=by
 unfold fresh3 at h
 split at h
 ·rename_i key
  split at h
  ·rename_i hk
   refine OKQ.mk ?_ ?_ h
   ·simp [fresh,Q.run,getO_e,hk,hv,eOb_nil,eOb_cons]
   ·simp [fresh,Q.reads,getO_e,hk]
  ·cases h
 ·cases h
theorem storeK_ok {x:V3r} {cs:List L3r} {k:K3 D Nat Rr Mr Out} (h:storeK (real Fn FnD m) ob x cs k=some r):OKQ ob (storeQ (eV x) (eLs cs)) k r:=by
 unfold storeK at h
 split at h
 ·rename_i key off
  split at h
  ·rename_i cells elem hk
   split at h
   ·rename_i hle
    refine OKQ.mk ?_ ?_ h
    ·simp [storeQ,eV,eL,Q.run,getO_e,hk,eO,Q.guard,hle,eOb_nil,eOb_cons,eLs_map,List.map_take,List.map_drop]
    ·simp [storeQ,eV,eL,Q.reads,getO_e,hk,eO,Q.guard,eLs_length,hle]
   ·cases h
  ·cases h
 ·rename_i key i off c
  split at h
  ·rename_i rows size elem own hk
   split at h
   ·obtain ⟨hc,h⟩:=real_eqN h
    have hc':c=rows.length:=hc
    obtain ⟨w,h1,h2,h⟩:=real_rowAt h
    obtain ⟨ds,us,rd,h3,h4,h⟩:=frzs3_ok h
    rw [cellsOf_e h2] at h
    split at h
    ·split at h
     ·rename_i hle
      refine OKQ.mk ?_ ?_ h
      ·simp only [storeQ,eV,eL,Q.run,getO_e,hk,Option.bind_some,eO,val_arr,Q.guard,hc',decide_true,Bool.and_true,h1,Q.opt,Q.bind,Q.run_bind,h3,Option.bind_some,h2,hle,eOb_nil,eOb_cons,List.isEmpty_nil]
       simp [real]
      ·intro q hq
       simp only [storeQ,eV,eL,Q.reads,getO_e,hk,Option.bind_some,eO,val_arr,Q.guard,hc',decide_true,Bool.and_true,h1,Q.opt,Q.bind,Q.reads_bind,h3,h2,hle,eOb_nil,List.isEmpty_nil,List.mem_cons,List.mem_append,List.not_mem_nil,or_false] at hq
       rcases hq with rfl | hq
       ·simp
       ·exact List.mem_cons_of_mem _ (h4 q hq)
     ·cases h
    ·cases h
   ·cases h
  ·cases h
 ·rename_i key j off
  split at h
  ·rename_i mm size elem hk
   split at h
   ·rename_i ds hds
    obtain ⟨w,h1,h2,h⟩:=real_rowAt h
    obtain ⟨h3,h⟩:=real_leN h
    have h3':off+ds.length≤w.length:=by rw [h2];exact h3
    have h1':mm.2[j]?=some w:=h1
    have hf:=frzs_d ds (getO (eOb ob))
    have hgd:mm.2.getD j []=w:=by rw [List.getD_eq_getElem?_getD,h1'];rfl
    refine OKQ.mk ?_ ?_ h
    ·simp only [storeQ,eV,eL,scals_e' hds,Q.run,getO_e,hk,Option.bind_some,eO,val_am,h1',Q.opt,Q.bind,Q.run_bind,hf.1,Option.bind_some,Q.guard,h3',decide_true,List.isEmpty_nil,Bool.and_true,eOb_nil,eOb_cons]
     simp only [real,setRCD,hgd]
    ·intro q hq
     simpa [storeQ,eV,eL,scals_e' hds,Q.reads,getO_e,hk,eO,h1',Q.opt,Q.bind,Q.reads_bind,hf.1,hf.2,Q.guard,h3'] using hq
   ·cases h
  ·cases h
 ·rename_i key b n es i off
  split at h
  ·rename_i cells elem hk
   split at h
   ·rename_i ds hds
    split at h
    ·rename_i hle
     obtain ⟨g1,g2,g3,g4⟩:=hle
     obtain ⟨h3,h⟩:=real_leN h
     have h3':i+1≤n:=h3
     have hin:es*i+es≤n*es:=by rw [Nat.mul_comm es i,← Nat.succ_mul];exact Nat.mul_le_mul_right _ h3'
     have hp:=putX_ok h3' g4 g1 g2 g3
     have hle':b+es*i+off+(ds.map L.d).length≤(eLs cells).length:=by rw [eLs_length,List.length_map];omega
     have hle2:b+es*i+off+ds.length≤(eLs cells).length:=by simpa using hle'
     refine OKQ.mk ?_ ?_ h
     ·simp only [storeQ,eV,eL,scals_e' hds,Q.run,getO_e,hk,Option.bind_some,eO,val_box,Q.guard,hle',decide_true,eOb_nil,eOb_cons,hp]
     ·simp [hle2,storeQ,eV,eL,scals_e' hds,Q.reads,getO_e,hk,eO,Q.guard]
    ·cases h
   ·cases h
  ·cases h
 ·cases h
end Go.VE
namespace Go.VE
open Go.RowKit
variable {P:Program} {Fn:Nat→List D→Out} {FnD:D→List Sh→List D→Out} {m:Nat} {r:Nat×List Yr} {ob:Ur}
theorem toDs3_ok {rec:L3r→(D→List Nat→Out)→Out} {f:L→Q D} (hrec:∀ x k,rec x k=some r→∃ d rd,(f (eL x)).run (getO (eOb ob))=some d∧(∀ q∈(f (eL x)).reads (getO (eOb ob)),q∈rd)∧k d rd=some r) :
  ∀ {xs:List L3r} {k:List D→List Nat→Out},toDs3 rec xs k=some r→∃ ds rd,(Q.mapM f (eLs xs)).run (getO (eOb ob))=some ds∧(∀ q∈(Q.mapM f (eLs xs)).reads (getO (eOb ob)),q∈rd)∧ds.length=xs.length∧k ds rd=some r
 | [],k,h=>⟨[],[],by simp [eLs,Q.mapM,Q.run],by simp [eLs,Q.mapM,Q.reads],rfl,h⟩
 | x::xs,k,h=>by
  simp only [toDs3] at h
  obtain ⟨d,rd,h1,h2,h⟩:=hrec _ _ h
  obtain ⟨ds,rd',h3,h4,h5,h⟩:=toDs3_ok hrec h
  refine ⟨_,_,?_,?_,?_,h⟩
  ·simp [eLs,Q.mapM,Q.run_bind,h1,h3,Q.run]
  ·intro q hq
   simp only [eLs,Q.mapM,Q.reads_bind,h1,h3,List.mem_append,Q.reads,List.not_mem_nil,or_false] at hq
   rcases hq with hq | hq
   ·exact List.mem_append_left _ (h2 q hq)
   ·exact List.mem_append_right _ (h4 q hq)
  ·simp [h5]
theorem toD3_ok:∀ (n:Nat) (x:L3r) (k:D→List Nat→Out),toD3 (real Fn FnD m) ob n x k=some r→∃ d rd,(toD n (eL x)).run (getO (eOb ob))=some d∧(∀ q∈(toD n (eL x)).reads (getO (eOb ob)),q∈rd)∧k d rd=some r:=by
 intro n
 induction n with
 | zero =>
  intro x k h
  cases x with
  | slk key off n' c =>
   simp only [toD3] at h
   split at h
   ·rename_i rows size elem own hk
    obtain ⟨hc,h⟩:=real_eqN h
    have hc':c=rows.length:=hc
    refine ⟨_,_,?_,?_,h⟩
    ·simp [toD,eL,Q.run,getO_e,hk,eO,Q.guard,hc',real]
    ·simp [toD,eL,Q.reads,getO_e,hk,eO,Q.guard,hc']
   ·cases h
  | pa key i off c =>
   simp only [toD3] at h
   split at h
   ·rename_i rows size elem own hk
    obtain ⟨hc,h⟩:=real_eqN h
    have hc':c=rows.length:=hc
    obtain ⟨w,h1,h2,h⟩:=real_rowAt h
    rw [cellsOf_e h2] at h
    refine ⟨_,_,?_,?_,h⟩
    ·simp [toD,eL,Q.run,getO_e,hk,eO,Q.guard,hc',h1,Q.opt,Q.bind,real]
    ·simp [toD,eL,Q.reads,getO_e,hk,eO,Q.guard,hc',h1,Q.opt,Q.bind]
   ·rename_i rows size elem own hk
    obtain ⟨hc,h⟩:=real_eqN h
    have hc':c=rows.length:=hc
    obtain ⟨w,h1,h2,h⟩:=real_rowAt h
    rw [cellsOf_e h2] at h
    have hg:=getO_arn hk (by rintro rfl;simp at h1)
    refine ⟨_,_,?_,?_,h⟩
    ·simp [toD,eL,Q.run,hg,Q.guard,hc',h1,Q.opt,Q.bind,real]
    ·simp [toD,eL,Q.reads,hg,Q.guard,hc',h1,Q.opt,Q.bind]
   ·cases h
  | sln key n' =>
   simp only [toD3] at h
   split at h
   ·rename_i rows size elem own hk
    obtain ⟨hc,h⟩:=real_eqN h
    have hc':n'=rows.length:=hc
    refine ⟨_,_,?_,?_,h⟩
    ·cases rows with
     | nil=>simp [toD,eL,Q.run,hc',real]
     | cons a t=>simp [toD,eL,Q.run,getO_arn hk,Q.guard,hc',real]
    ·cases rows with
     | nil=>simp [toD,eL,Q.reads,hc']
     | cons a t=>simp [toD,eL,Q.reads,getO_arn hk,Q.guard,hc']
   ·cases h
  | mk key =>
   simp only [toD3] at h
   split at h
   ·rename_i agg mm own hk
    refine ⟨_,_,?_,?_,h⟩
    ·simp [toD,eL,Q.run,getO_e,hk,eO,real]
    ·simp [toD,eL,Q.reads,getO_e,hk,eO]
   ·cases h
  | ptr _ _=>simp [toD3,scal,real] at h
  | fn _ _=>simp [toD3,scal,real] at h
  | undef=>simp [toD3,scal,real] at h
  | mq k0=>simp [toD3,scal,real] at h
  | pb k0 j0 o0=>simp [toD3,scal,real] at h
  | px k0 b0 n0 e0 i0 o0=>simp [toD3,scal,real] at h
  | np=>simp only [toD3,scal] at h;exact ⟨_,_,by simp [eL,toD,Q.run,real],by simp [eL,toD,Q.reads],h⟩
  | d x=>simp only [toD3,scal] at h;exact ⟨_,_,by simp [eL,toD,Q.run],by simp [eL,toD,Q.reads],h⟩
  | b x=>simp only [toD3,scal] at h;exact ⟨_,_,by simp [eL,toD,Q.run,real],by simp [eL,toD,Q.reads],h⟩
  | i x y=>simp only [toD3,scal] at h;exact ⟨_,_,by simp [eL,toD,Q.run,real],by simp [eL,toD,Q.reads],h⟩
  | nil=>simp only [toD3,scal] at h;exact ⟨_,_,by simp [eL,toD,Q.run,real],by simp [eL,toD,Q.reads],h⟩
  | dp x y=>simp only [toD3,scal] at h;exact ⟨_,_,by simp [eL,toD,Q.run,real],by simp [eL,toD,Q.reads],h⟩
 | succ n ih =>
  intro x k h
  cases x with
  | slk key off n' c =>
   simp only [toD3] at h
   split at h
   ·rename_i rows size elem own hk
    obtain ⟨hc,h⟩:=real_eqN h
    have hc':c=rows.length:=hc
    refine ⟨_,_,?_,?_,h⟩
    ·simp [toD,eL,Q.run,getO_e,hk,eO,Q.guard,hc',real]
    ·simp [toD,eL,Q.reads,getO_e,hk,eO,Q.guard,hc']
   ·cases h
  | pa key i off c =>
   simp only [toD3] at h
   split at h
   ·rename_i rows size elem own hk
    obtain ⟨hc,h⟩:=real_eqN h
    have hc':c=rows.length:=hc
    obtain ⟨w,h1,h2,h⟩:=real_rowAt h
    rw [cellsOf_e h2] at h
    refine ⟨_,_,?_,?_,h⟩
    ·simp [toD,eL,Q.run,getO_e,hk,eO,Q.guard,hc',h1,Q.opt,Q.bind,real]
    ·simp [toD,eL,Q.reads,getO_e,hk,eO,Q.guard,hc',h1,Q.opt,Q.bind]
   ·rename_i rows size elem own hk
    obtain ⟨hc,h⟩:=real_eqN h
    have hc':c=rows.length:=hc
    obtain ⟨w,h1,h2,h⟩:=real_rowAt h
    rw [cellsOf_e h2] at h
    have hg:=getO_arn hk (by rintro rfl;simp at h1)
    refine ⟨_,_,?_,?_,h⟩
    ·simp [toD,eL,Q.run,hg,Q.guard,hc',h1,Q.opt,Q.bind,real]
    ·simp [toD,eL,Q.reads,hg,Q.guard,hc',h1,Q.opt,Q.bind]
   ·cases h
  | sln key n' =>
   simp only [toD3] at h
   split at h
   ·rename_i rows size elem own hk
    obtain ⟨hc,h⟩:=real_eqN h
    have hc':n'=rows.length:=hc
    refine ⟨_,_,?_,?_,h⟩
    ·cases rows with
     | nil=>simp [toD,eL,Q.run,hc',real]
     | cons a t=>simp [toD,eL,Q.run,getO_arn hk,Q.guard,hc',real]
    ·cases rows with
     | nil=>simp [toD,eL,Q.reads,hc']
     | cons a t=>simp [toD,eL,Q.reads,getO_arn hk,Q.guard,hc']
   ·cases h
  | mk key =>
   simp only [toD3] at h
   split at h
   ·rename_i agg mm own hk
    refine ⟨_,_,?_,?_,h⟩
    ·simp [toD,eL,Q.run,getO_e,hk,eO,real]
    ·simp [toD,eL,Q.reads,getO_e,hk,eO]
   ·cases h
  | ptr key off =>
   simp only [toD3] at h
   split at h
   ·rename_i cells elem hk
    obtain ⟨ds,rd,h1,h2,_,h⟩:=toDs3_ok (f:=toD n) ih h
    refine ⟨_,_,?_,?_,h⟩
    ·simp [toD,eL,Q.run,getO_e,hk,eO,Q.run_bind,h1,real]
    ·intro q hq
     simp only [toD,eL,Q.reads,getO_e,hk,Option.bind_some,eO,val_box,Q.reads_bind,h1,List.mem_cons,List.mem_append,List.not_mem_nil,or_false] at hq
     rcases hq with rfl | hq
     ·simp
     ·exact List.mem_cons_of_mem _ (h2 q hq)
   ·cases h
  | fn f cs =>
   simp only [toD3] at h
   obtain ⟨ds,rd,h1,h2,_,h⟩:=toDs3_ok (f:=toD n) ih h
   refine ⟨_,_,?_,?_,h⟩
   ·simp [toD,eL,Q.run_bind,h1,Q.run,real]
   ·intro q hq
    simp only [toD,eL,Q.reads_bind,h1,Q.reads,List.mem_append,List.not_mem_nil,or_false] at hq
    exact h2 q hq
  | undef=>simp [toD3,scal,real] at h
  | mq k0=>simp [toD3,scal,real] at h
  | pb k0 j0 o0=>simp [toD3,scal,real] at h
  | px k0 b0 n0 e0 i0 o0=>simp [toD3,scal,real] at h
  | np=>simp only [toD3,scal] at h;exact ⟨_,_,by simp [eL,toD,Q.run,real],by simp [eL,toD,Q.reads],h⟩
  | d x=>simp only [toD3,scal] at h;exact ⟨_,_,by simp [eL,toD,Q.run],by simp [eL,toD,Q.reads],h⟩
  | b x=>simp only [toD3,scal] at h;exact ⟨_,_,by simp [eL,toD,Q.run,real],by simp [eL,toD,Q.reads],h⟩
  | i x y=>simp only [toD3,scal] at h;exact ⟨_,_,by simp [eL,toD,Q.run,real],by simp [eL,toD,Q.reads],h⟩
  | nil=>simp only [toD3,scal] at h;exact ⟨_,_,by simp [eL,toD,Q.run,real],by simp [eL,toD,Q.reads],h⟩
  | dp x y=>simp only [toD3,scal] at h;exact ⟨_,_,by simp [eL,toD,Q.run,real],by simp [eL,toD,Q.reads],h⟩
theorem scal_int {x:L3r} {k:IntKind} {z:Int} (h:scal (real Fn FnD m) x=some (.lit (.int k z))):vInt? (.one (eL x))=some (k,z):=by rw [scal_e h];rfl
theorem idxC_ok {es:Nat} {x:V3r} {k:K3 D Nat Rr Mr Out} {j:Nat} (h:idxC (real Fn FnD m) es x k j=some r):∃ v,addrOff (j*es) (eV x)=some (eV v)∧k v [] []=some r:=by
 unfold idxC at h
 exact optK_ok (o':=addrOff (j*es) (eV x)) h fun v hv=>addrOff_e hv
theorem indexK_ok {arr:Option Nat} {e:Nat} {es:Nat} {x:V3r} {i:L3r} {k:K3 D Nat Rr Mr Out} (h:indexK (real Fn FnD m) arr es ob x i k=some r):∃ kk z,vInt? (.one (eL i))=some (kk,z)∧OKQ ob (indexQ (arr.map fun n=>(n,e)) es (eV x) z) k r:=by
 unfold indexK at h
 cases arr with
 | some n =>
  simp only at h
  split at h
  ·rename_i kk z
   split at h
   ·rename_i hz
    obtain ⟨v,h1,h2⟩:=idxC_ok h
    refine ⟨kk,z,rfl,OKQ.mk (v:=v) (us:=[]) (rd:=[]) ?_ ?_ h2⟩
    ·simp [indexQ,pureR,hz,h1,Q.opt,Q.bind,Q.run,eOb_nil]
    ·simp [indexQ,pureR,hz,h1,Q.opt,Q.bind,Q.reads]
   ·cases h
  ·rename_i y
   have sel:(real Fn FnD m).selI n y ((List.range n).map (idxC (real Fn FnD m) es x k))=some r→∃ kk z,vInt? (.one (eL (.d y)))=some (kk,z)∧OKQ ob (indexQ ((some n).map fun n=>(n,e)) es (eV x) z) k r:=by
    intro h
    obtain ⟨kk,z,rfl,hz,h⟩:=real_selI h
    simp only [selR,List.getElem?_map] at h
    rw [List.getElem?_range (by omega)] at h
    obtain ⟨v,h1,h2⟩:=idxC_ok (Fn:=Fn) (FnD:=FnD) (m:=m) h
    refine ⟨kk,z,rfl,OKQ.mk (v:=v) (us:=[]) (rd:=[]) ?_ ?_ h2⟩
    ·simp [indexQ,pureR,hz,h1,Q.opt,Q.bind,Q.run,eOb_nil]
    ·simp [indexQ,pureR,hz,h1,Q.opt,Q.bind,Q.reads]
   split at h
   ·rename_i key j off
    obtain ⟨kk,z,rfl,hz,h⟩:=real_inx h
    have hz':0≤z∧z < (n:Int):=hz
    refine ⟨kk,z,rfl,OKQ.mk (us:=[]) (rd:=[]) ?_ ?_ h⟩
    ·simp [indexQ,pureR,hz',addrOff,eV,eL,Q.opt,Q.bind,Q.run,eOb_nil,real,Nat.mul_comm]
    ·simp [indexQ,pureR,hz',addrOff,eV,eL,Q.opt,Q.bind,Q.reads]
   ·rename_i key off
    split at h
    ·split at h
     ·obtain ⟨kk,z,rfl,hz,h⟩:=real_inx h
      have hz':0≤z∧z < (n:Int):=hz
      refine ⟨kk,z,rfl,OKQ.mk (us:=[]) (rd:=[]) ?_ ?_ h⟩
      ·simp [indexQ,pureR,hz',addrOff,eV,eL,Q.opt,Q.bind,Q.run,eOb_nil,Nat.mul_comm]
      ·simp [indexQ,pureR,hz',addrOff,eV,eL,Q.opt,Q.bind,Q.reads]
     ·exact sel h
    ·cases h
   ·exact sel h
  ·cases h
 | none =>
  simp only at h
  split at h
  ·cases h
  ·rename_i y hy
   split at h
   ·rename_i key off n c
    split at h
    ·rename_i rows size elem own hk
     split at h
     ·rename_i hs
      subst hs
      obtain ⟨hc,h⟩:=real_eqN h
      have hc':c=rows.length:=hc
      obtain ⟨kk,z,rfl,hz,h⟩:=real_inx h
      refine ⟨kk,z,scal_int hy,OKQ.mk ?_ ?_ h⟩
      ·simp only [indexQ,eV,eL,Q.run,getO_e,hk,Option.bind_some,Option.map_none,eO,val_arr,Q.guard,hc',and_self,decide_true,pureR,Q.opt,eOb_nil]
       rw [if_pos hz]
       cases off<;>simp [Q.run,Q.bind,real]
      ·simp only [indexQ,eV,eL,Q.reads,getO_e,hk,Option.bind_some,Option.map_none,eO,val_arr,Q.guard,hc',and_self,decide_true,pureR,Q.opt]
       rw [if_pos hz]
       simp [Q.reads,Q.bind]
     ·cases h
    ·cases h
   ·rename_i key n
    split at h
    ·rename_i rows size elem own hk
     split at h
     ·rename_i hs
      subst hs
      obtain ⟨hc,h⟩:=real_eqN h
      have hc':n=rows.length:=hc
      obtain ⟨kk,z,rfl,hz,h⟩:=real_inx h
      have hg:=getO_arn hk (by rintro rfl;simp at hc';omega)
      refine ⟨kk,z,scal_int hy,OKQ.mk ?_ ?_ h⟩
      ·simp only [indexQ,eV,eL,Q.run,hg,Option.map_none,Q.guard,hc',and_self,decide_true,pureR,Q.opt,eOb_nil]
       rw [if_pos (by rw [←hc'];exact hz)]
       simp [Q.run,Q.bind]
      ·simp only [indexQ,eV,eL,Q.reads,hg,Option.map_none,Q.guard,hc',and_self,decide_true,pureR,Q.opt]
       rw [if_pos (by rw [←hc'];exact hz)]
       simp [Q.reads,Q.bind]
     ·cases h
    ·cases h
   ·rename_i z0
    obtain ⟨rows,kk,z,w,rfl,rfl,hz,hw,hl,h⟩:=real_rowD h
    rw [cellsOf_e hl] at h
    refine ⟨kk,z,scal_int hy,OKQ.mk ?_ ?_ h⟩
    ·simp [indexQ,eV,eL,Q.guard,hz,hw,pureR,Q.opt,Q.bind,Q.run,eOb_nil]
    ·simp [indexQ,eV,eL,Q.guard,hz,hw,pureR,Q.opt,Q.bind,Q.reads]
   ·cases h
theorem scalO_ok {ρ:Operand→V3r} {o:Option Operand} {d:Option D} {z:Option Int} (h:scalO (real Fn FnD m) ρ o=some d) (hz:oIntD d=some z):oInt (fun x=>eV (ρ x)) o=some z:=by
 unfold scalO at h
 split at h
 ·cases h;simp only [oIntD] at hz;cases hz;rfl
 ·split at h
  ·rename_i y hy
   cases h
   simp only [oIntD,Option.map_eq_some_iff] at hz
   obtain ⟨n,hn,rfl⟩:=hz
   unfold intD at hn
   split at hn
   ·cases hn;simp [oInt,scal1_e hy,vInt?]
   ·cases hn
  ·cases h
theorem cutK_ok {es:Nat} {x:V3r} {ρ:Operand→V3r} {lo hi:Option Operand} {l h':Option D} {k:K3 D Nat Rr Mr Out} (hl:scalO (real Fn FnD m) ρ lo=some l) (hh:scalO (real Fn FnD m) ρ hi=some h') (h:cutK (real Fn FnD m) es ob x l h' k=some r) :
  ∃ zl zh,oInt (fun x=>eV (ρ x)) lo=some zl∧oInt (fun x=>eV (ρ x)) hi=some zh∧OKQ ob (cutQ es (eV x) zl zh) k r:=by
 unfold cutK at h
 split at h
 ·rename_i key off n c
  split at h
  ·rename_i rows size elem own hk
   split at h
   case isFalse=>cases h
   rename_i hs
   subst hs
   obtain ⟨hc,h⟩:=real_eqN h
   have hc':c=rows.length:=hc
   cases l with
   | none =>
    obtain ⟨zl,zh,hzl,hzh,hb,h | ⟨_,h⟩⟩:=real_cut h
    ·obtain ⟨hb2,h⟩:=h
     simp only [oIntD,Option.some.injEq] at hzl
     subst hzl
     refine ⟨none,zh,scalO_ok hl rfl,scalO_ok hh hzh,OKQ.mk ?_ ?_ h⟩
     ·simp only [cutQ,eV,eL,Q.run,getO_e,hk,Option.bind_some,eO,val_arr,Q.guard,hc',and_self,decide_true,pureR,Q.opt,eOb_nil]
      rw [if_pos hb,if_pos hb2]
      simp [Q.run,Q.bind]
     ·simp only [cutQ,eV,eL,Q.reads,getO_e,hk,Option.bind_some,eO,val_arr,Q.guard,hc',and_self,decide_true,pureR,Q.opt]
      rw [if_pos hb,if_pos hb2]
      simp [Q.reads,Q.bind]
    ·cases h
   | some y =>
    obtain ⟨zl,zh,hzl,hzh,hb,⟨hb2,h⟩ | ⟨hb2,h⟩⟩:=real_cut h
    ·refine ⟨zl,zh,scalO_ok hl hzl,scalO_ok hh hzh,OKQ.mk ?_ ?_ h⟩
     ·simp only [cutQ,eV,eL,Q.run,getO_e,hk,Option.bind_some,eO,val_arr,Q.guard,hc',and_self,decide_true,pureR,Q.opt,eOb_nil]
      rw [if_pos hb,if_pos hb2]
      cases off<;>simp [Q.run,Q.bind,real]
     ·simp only [cutQ,eV,eL,Q.reads,getO_e,hk,Option.bind_some,eO,val_arr,Q.guard,hc',and_self,decide_true,pureR,Q.opt]
      rw [if_pos hb,if_pos hb2]
      simp [Q.reads,Q.bind]
    ·refine ⟨zl,zh,scalO_ok hl hzl,scalO_ok hh hzh,OKQ.mk ?_ ?_ h⟩
     ·simp only [cutQ,eV,eL,Q.run,getO_e,hk,Option.bind_some,eO,val_arr,Q.guard,hc',and_self,decide_true,pureR,Q.opt,eOb_nil]
      rw [if_pos hb,if_neg hb2]
      simp [Q.run,Q.bind,real]
     ·simp only [cutQ,eV,eL,Q.reads,getO_e,hk,Option.bind_some,eO,val_arr,Q.guard,hc',and_self,decide_true,pureR,Q.opt]
      rw [if_pos hb,if_neg hb2]
      simp [Q.reads,Q.bind]
  ·cases h
 ·rename_i y
  obtain ⟨zl,zh,z,hzl,hzh,hz,h⟩:=real_cutD h
  refine ⟨zl,zh,scalO_ok hl hzl,scalO_ok hh hzh,?_⟩
  unfold cutDD at hz
  split at hz
  ·rename_i size rows
   split at hz
   case isFalse=>cases hz
   rename_i hs
   subst hs
   split at hz
   ·rename_i hb
    cases hz
    refine OKQ.mk ?_ ?_ h
    ·simp only [cutQ,eV,eL,Q.guard,decide_true,pureR,eOb_nil]
     rw [if_pos hb]
     simp [Q.opt,Q.bind,Q.run]
    ·simp only [cutQ,eV,eL,Q.guard,decide_true,pureR]
     rw [if_pos hb]
     simp [Q.opt,Q.bind,Q.reads]
   ·cases hz
  ·split at hz
   ·rename_i hb
    cases hz
    refine OKQ.mk ?_ ?_ h
    ·simp [cutQ,eV,eL,pureR,hb,Q.opt,Q.bind,Q.run,eOb_nil]
    ·simp [cutQ,eV,eL,pureR,hb,Q.opt,Q.bind,Q.reads]
   ·cases hz
  ·cases hz
 ·obtain ⟨zl,zh,hzl,hzh,hb,h⟩:=real_cutNil h
  refine ⟨zl,zh,scalO_ok hl hzl,scalO_ok hh hzh,OKQ.mk ?_ ?_ h⟩
  ·simp [cutQ,eV,eL,pureR,hb,Q.opt,Q.bind,Q.run,eOb_nil]
  ·simp [cutQ,eV,eL,pureR,hb,Q.opt,Q.bind,Q.reads]
 ·cases h
end Go.VE
namespace Go.VE
open Go.RowKit
variable {P:Program} {Fn:Nat→List D→Out} {FnD:D→List Sh→List D→Out} {m:Nat} {r:Nat×List Yr} {ob:Ur}
theorem rowsK_ok {ρ:Operand→V3r} {size n:Nat}:∀ {parts:List (Nat×Operand)} {rows:Rr} {k:List (List D)→Ur→List Nat→Out},rows.length=n→rowsK (real Fn FnD m) ob size n rows (parts.map fun p=>(p.1,ρ p.2)) k=some r →
  ∃ rows' us rd,(rowsOf (fun x=>eV (ρ x)) size rows parts).run (getO (eOb ob))=some (rows',eOb us)∧(∀ q∈(rowsOf (fun x=>eV (ρ x)) size rows parts).reads (getO (eOb ob)),q∈rd)∧k rows' us rd=some r
 | [],rows,k,hn,h=>⟨rows,[],[],by simp [rowsOf,Q.run,eOb_nil],by simp [rowsOf,Q.reads],h⟩
 | (i,x)::rest,rows,k,hn,h=>by
  simp only [List.map_cons,rowsK] at h
  split at h
  ·cases h
  ·rename_i cs hcs
   split at h
   ·rename_i hc
    obtain ⟨ds,us,rd,h1,h2,h⟩:=frzs3_ok h
    obtain ⟨rows',us',rd',h3,h4,h⟩:=rowsK_ok (rows:=rows.set i ds) (by simp [hn]) h
    have hce:(eV (ρ x)).cells=some (eLs cs):=by rw [cells_e,hcs];rfl
    have hgd:(decide ((eLs cs).length=size∧i < rows.length))=true:=by simp [eLs_length,hc,hn]
    refine ⟨_,_,_,?_,?_,h⟩
    ·simp only [rowsOf,hce,Q.opt,Q.bind,hgd,Q.guard,Q.run_bind,h1,h3,Option.bind_some,Q.run,eOb_append]
    ·intro q hq
     simp only [rowsOf,hce,Q.opt,Q.bind,hgd,Q.guard,Q.reads_bind,h1,h3,Q.reads,List.append_nil,List.mem_append] at hq
     rcases hq with hq | hq
     ·exact List.mem_append_left _ (h2 q hq)
     ·exact List.mem_append_right _ (h4 q hq)
   ·cases h
theorem srcK_ok {es:Nat} {x:V3r} {k:Rr→List Nat→Out} (h:srcK (real Fn FnD m) es ob x k=some r):∃ rows rd,(srcRows es (eV x)).run (getO (eOb ob))=some rows∧(∀ q∈(srcRows es (eV x)).reads (getO (eOb ob)),q∈rd)∧k rows rd=some r:=by
 unfold srcK at h
 split at h
 ·exact ⟨[],[],by simp [srcRows,srcRows0,eV,eL,Q.run],by simp [srcRows,srcRows0,eV,eL,Q.reads],h⟩
 ·obtain ⟨rows,hr,h⟩:=real_rowsD h
  refine ⟨rows,[],?_,?_,h⟩
  ·unfold rowsDD at hr
   split at hr
   ·cases hr;simp [srcRows,srcRows0,eV,eL,Q.run]
   ·split at hr
    ·rename_i hs;cases hr;simp [srcRows,srcRows0,eV,eL,Q.run,Q.guard,hs]
    ·cases hr
   ·cases hr
  ·unfold rowsDD at hr
   split at hr
   ·simp [srcRows,srcRows0,eV,eL,Q.reads]
   ·split at hr
    ·rename_i hs;simp [srcRows,srcRows0,eV,eL,Q.reads,Q.guard,hs]
    ·cases hr
   ·cases hr
 ·rename_i key off n c
  split at h
  ·rename_i rows size elem own hk
   split at h
   ·rename_i hs
    subst hs
    obtain ⟨hc,h⟩:=real_eqN h
    have hc':c=rows.length:=hc
    refine ⟨_,_,?_,?_,h⟩
    ·simp [srcRows,srcRows0,eV,eL,Q.run,getO_e,hk,eO,Q.guard,hc',real]
    ·simp [srcRows,srcRows0,eV,eL,Q.reads,getO_e,hk,eO,Q.guard,hc']
   ·cases h
  ·cases h
 ·rename_i key n
  split at h
  ·rename_i rows size elem own hk
   split at h
   ·rename_i hs
    subst hs
    obtain ⟨hc,h⟩:=real_eqN h
    have hc':n=rows.length:=hc
    refine ⟨_,_,?_,?_,h⟩
    ·cases rows with
     | nil=>simp [srcRows,eV,eL,Q.run,hc']
     | cons a t=>simp [srcRows,srcRows0,eV,eL,Q.run,getO_arn hk,Q.guard,hc']
    ·cases rows with
     | nil=>simp [srcRows,eV,eL,Q.reads,hc']
     | cons a t=>simp [srcRows,srcRows0,eV,eL,Q.reads,getO_arn hk,Q.guard,hc']
   ·cases h
  ·cases h
 ·cases h
theorem appendK_ok {dst:Option Nat} {elem size bytes:Nat} {s:V3r} {new:Rr} {rd:List Nat} {k:K3 D Nat Rr Mr Out} (h:appendK (real Fn FnD m) ob dst elem size bytes s new rd k=some r) :
  ∃ v us rd',(appendQ dst elem size bytes (eV s) new).run (getO (eOb ob))=some (eV v,eOb us)∧(∀ q∈(appendQ dst elem size bytes (eV s) new).reads (getO (eOb ob)),q∈rd')∧k v us (rd++rd')=some r:=by
 unfold appendK at h
 have nilc:appendN (real Fn FnD m) ob dst elem size bytes (.one .nil) new rd k=some r→∃ v us rd',(appendQ dst elem size bytes (.one (.d (.lit (.slice none 0 0)))) new).run (getO (eOb ob))=some (eV v,eOb us)∧(∀ q∈(appendQ dst elem size bytes (.one (.d (.lit (.slice none 0 0)))) new).reads (getO (eOb ob)),q∈rd')∧k v us (rd++rd')=some r:=by
  intro h
  unfold appendN at h
  rcases real_isNil h with ⟨hn0,h9⟩ | ⟨hne,h⟩
  ·subst hn0
   refine ⟨.one .nil,[],[],?_,?_,by simpa using h9⟩
   ·simp [appendQ,appendQ0,eV,eL,Q.run,eOb_nil]
   ·simp [appendQ,appendQ0,Q.reads]
  ·obtain ⟨h1,h2,h⟩:=real_fits h
   have h1':new.length*bytes≤140737488355328:=h1
   have h2':new.length≤maxLen:=h2
   obtain ⟨v,us,rd',h3,h4,h⟩:=fresh3_ok (v':=fun key=>.one (.slk key 0 new.length new.length)) h (fun q=>by simp [eV,eL,real])
   refine ⟨v,us,rd',?_,?_,h⟩
   ·simp only [appendQ,appendQ0]
    rw [if_neg hne,show decide (new.length*bytes≤140737488355328∧new.length≤maxLen)=true from by simp [h1',h2']]
    exact h3
   ·intro q hq
    simp only [appendQ,appendQ0] at hq
    rw [if_neg hne,show decide (new.length*bytes≤140737488355328∧new.length≤maxLen)=true from by simp [h1',h2']] at hq
    exact h4 q hq
 split at h
 ·exact nilc h
 ·obtain ⟨rfl,h⟩:=real_nilD h
  exact nilc h
 ·rename_i key n c
  split at h
  ·rename_i rows size' elem' own hk
   split at h
   ·split at h
    ·rename_i hse
     obtain ⟨rfl,rfl⟩:=hse
     obtain ⟨hc,h⟩:=real_eqN h
     have hc':c=rows.length:=hc
     obtain ⟨hn,h⟩:=real_eqN h
     have hn':n=rows.length:=hn
     obtain ⟨h1,h2,h9⟩:=real_fits h
     have h1':(n+new.length)*bytes≤140737488355328:=h1
     have h2':n+new.length≤maxLen:=h2
     subst hn' hc'
     refine ⟨_,_,[key],?_,?_,h9⟩
     ·simp [appendQ,appendQ0,eV,eL,Q.run,getO_e,hk,eO,Q.guard,h1',h2',real,eOb_nil,eOb_cons]
     ·simp [appendQ,appendQ0,eV,eL,Q.reads,getO_e,hk,eO,Q.guard,h1',h2']
    ·cases h
   ·cases h
  ·cases h
 ·rename_i key n
  split at h
  ·rename_i rows size' elem' own hk
   split at h
   ·split at h
    ·rename_i hse
     obtain ⟨rfl,rfl⟩:=hse
     obtain ⟨hc,h⟩:=real_eqN h
     have hc':n=rows.length:=hc
     obtain ⟨h1,h2,h9⟩:=real_fits h
     have h1':(n+new.length)*bytes≤140737488355328:=h1
     have h2':n+new.length≤maxLen:=h2
     subst hc'
     refine ⟨_,_,[key],?_,?_,h9⟩
     ·cases rows with
      | nil =>
       have h1'':new.length*bytes≤140737488355328:=by simpa using h1'
       have h2'':new.length≤maxLen:=by simpa using h2'
       cases new with
       | nil=>simp [appendQ,eV,eL,Q.run,getO_arn0 hk,eO,Q.guard,real,eOb_nil,eOb_cons]
       | cons x y =>
        simp only [List.length_cons] at h1'' h2''
        simp [appendQ,eV,eL,Q.run,getO_arn0 hk,eO,Q.guard,h1'',h2'',real,eOb_nil,eOb_cons]
      | cons a t =>
       simp only [List.length_cons] at h1' h2'
       simp [appendQ,eV,eL,Q.run,getO_arn hk,eO,Q.guard,h1',h2',real,eOb_nil,eOb_cons]
     ·cases rows with
      | nil =>
       have h1'':new.length*bytes≤140737488355328:=by simpa using h1'
       have h2'':new.length≤maxLen:=by simpa using h2'
       simp [appendQ,eV,eL,Q.reads,getO_arn0 hk,Q.guard,h1'',h2'']
      | cons a t =>
       simp only [List.length_cons] at h1' h2'
       simp [appendQ,eV,eL,Q.reads,getO_arn hk,Q.guard,h1',h2']
    ·cases h
   ·cases h
  ·cases h
 ·cases h
theorem litD_ok {x:D} {v:Value} (h:litD x=some v):x=.lit v:=by
 unfold litD at h;split at h<;>cases h;rfl
theorem lookD_ok {kd:Nat} {agg:Bool} {zs:List Value} {mm:Mr} {key:D} {p:List D×D} (h:lookD kd zs mm key=some p):∃ v b,key=.lit v∧isKey kd v=true∧p.2=.lit (.bool b)∧p.1.length=zs.length∧(mFind kd v mm.1 0).bind (mGet agg zs mm.2)=(mkV agg (p.1.map .d)).map fun u=>(u,b):=by
 unfold lookD at h
 split at h
 ·rename_i v hv
  have:=litD_ok hv
  subst this
  split at h
  ·rename_i hk
   split at h
   ·rename_i j hf
    split at h
    ·rename_i w hw
     split at h
     ·rename_i hl
      cases h
      exact ⟨v,true,rfl,hk,rfl,hl,by simp [hf,mGet,hw]⟩
     ·cases h
    ·cases h
   ·rename_i hf
    cases h
    refine ⟨v,false,rfl,hk,rfl,by simp,?_⟩
    simp [hf,mGet,litsL,Function.comp_def]
   ·cases h
  ·cases h
 ·cases h
theorem lookK_ok {kd:Nat} {agg ok:Bool} {zs:List Value} {x:V3r} {key:D} {k:K3 D Nat Rr Mr Out} (h:lookK (real Fn FnD m) kd agg ok zs ob x key k=some r):∃ v,key=.lit v∧isKey kd v=true∧OKQ ob (lookQ kd agg ok zs (eV x) v) k r:=by
 have fin:∀ (mm:Mr) (rd:List Nat) (F:List D→D→Out),(real Fn FnD m).look kd zs mm key F=some r→(∀ w f,F w f=some r→∃ v,mkV3 agg ((cellsOf (real Fn FnD m) zs.length w).map .d)=some v∧k (if ok then .tup [v,.one (.d f)] else v) [] rd=some r)→∃ v u b,key=.lit v∧isKey kd v=true∧(mFind kd v mm.1 0).bind (mGet agg zs mm.2)=some (eV u,b)∧k (if ok then .tup [u,.one (.d (.lit (.bool b)))] else u) [] rd=some r:=by
  intro mm rd F h hF
  obtain ⟨p,hp,h⟩:=real_look h
  obtain ⟨v,b,h1,h2,h3,h4,h5⟩:=lookD_ok (agg:=agg) hp
  obtain ⟨u,hu,h⟩:=hF _ _ h
  rw [cellsOf_e h4] at hu
  refine ⟨v,u,b,h1,h2,?_,by rw [←h3];exact h⟩
  rw [h5,← eLs_d,mkV_e,hu];rfl
 have tupe:∀ (u:V3r) (b:Bool),eV (if ok then .tup [u,.one (.d (.lit (.bool b)))] else u)=if ok then .tup [eV u,vlit (.bool b)] else eV u:=by
  intro u b;cases ok<;>simp [eV,eVs,eL,vlit]
 unfold lookK at h
 simp only at h
 split at h
 ·rename_i y
  obtain ⟨mm,hm,h⟩:=real_asM h
  obtain ⟨v,u,b,h1,h2,h3,h4⟩:=fin mm [] _ h (fun w f hw=>by split at hw;exact ⟨_,‹_›,hw⟩;cases hw)
  refine ⟨v,h1,h2,OKQ.mk ?_ ?_ h4⟩
  ·rw [tupe,eOb_nil]
   unfold asMD at hm
   split at hm
   ·split at hm
    ·rename_i hg
     cases hm
     subst hg
     simp only at h3
     simp [lookQ,eV,eL,Q.guard,h3,Q.opt,Q.bind,Q.run]
    ·cases hm
   ·cases hm
    have h3':mGet agg zs [] none=some (eV u,b):=by simpa [mFind] using h3
    simp [lookQ,eV,eL,h3',Q.opt,Q.bind,Q.run]
   ·cases hm
  ·unfold asMD at hm
   split at hm
   ·split at hm
    ·rename_i hg
     cases hm
     subst hg
     simp only at h3
     simp [lookQ,eV,eL,Q.guard,h3,Q.opt,Q.bind,Q.reads]
    ·cases hm
   ·cases hm
    have h3':mGet agg zs [] none=some (eV u,b):=by simpa [mFind] using h3
    simp [lookQ,eV,eL,h3',Q.opt,Q.bind,Q.reads]
   ·cases hm
 ·rename_i q
  split at h
  ·rename_i agg' mm own hk
   split at h
   ·rename_i hg
    have hg':agg=agg':=by simpa using hg
    subst hg'
    obtain ⟨v,u,b,h1,h2,h3,h4⟩:=fin mm [q] _ h (fun w f hw=>by split at hw;exact ⟨_,‹_›,hw⟩;cases hw)
    refine ⟨v,h1,h2,OKQ.mk ?_ ?_ h4⟩
    ·rw [tupe,eOb_nil]
     simp [lookQ,eV,eL,Q.run,Q.bind,getO_e,hk,eO,Q.guard,h3,Q.opt]
    ·simp [lookQ,eV,eL,Q.reads,Q.bind,getO_e,hk,eO,Q.guard,h3,Q.opt]
   ·cases h
  ·cases h
 ·cases h
theorem updK_ok {kd:Nat} {agg:Bool} {x v:V3r} {key:D} {k:K3 D Nat Rr Mr Out} (h:updK (real Fn FnD m) kd agg ob x key v k=some r):∃ kv,key=.lit kv∧OKQ ob (updQ kd agg (eV x) kv (eV v)) k r:=by
 unfold updK at h
 split at h
 ·rename_i q
  split at h
  ·rename_i agg' mm own hk
   split at h
   ·rename_i hc
    simp only [Bool.and_eq_true,beq_iff_eq] at hc
    obtain ⟨⟨rfl,rfl⟩,ha⟩:=hc
    split at h
    ·cases h
    ·rename_i cs hcs
     obtain ⟨ds,us,rd,h1,h2,h⟩:=frzs3_ok h
     split at h
     ·obtain ⟨m',hm,h⟩:=real_upd h
      unfold updD at hm
      split at hm
      ·rename_i kv hkv
       have:=litD_ok hkv
       subst this
       split at hm
       ·rename_i hkey
        have hce:(eV v).cells=some (eLs cs):=by rw [cells_e,hcs];rfl
        have hag:(isAggV (eV v)==agg)=true:=by rw [isAgg_e];simpa using ha
        refine ⟨kv,rfl,?_⟩
        split at hm
        ·rename_i j hf
         cases hm
         refine OKQ.mk ?_ ?_ h
         ·simp only [updQ,eV,eL,Q.run,getO_e,hk,Option.bind_some,eO,val_mp,hag,hkey,beq_self_eq_true,Bool.and_self,Q.guard,hce,Q.opt,Q.bind,Q.run_bind,h1,Option.bind_some,eOb_nil,List.isEmpty_nil,hf,eOb_cons]
         ·intro y hy
          simp only [updQ,eV,eL,Q.reads,getO_e,hk,Option.bind_some,eO,val_mp,hag,hkey,beq_self_eq_true,Bool.and_self,Q.guard,hce,Q.opt,Q.bind,Q.reads_bind,h1,eOb_nil,List.isEmpty_nil,hf,List.append_nil,List.mem_cons] at hy
          rcases hy with rfl | hy
          ·simp
          ·exact List.mem_cons_of_mem _ (h2 y hy)
        ·rename_i hf
         cases hm
         refine OKQ.mk ?_ ?_ h
         ·simp only [updQ,eV,eL,Q.run,getO_e,hk,Option.bind_some,eO,val_mp,hag,hkey,beq_self_eq_true,Bool.and_self,Q.guard,hce,Q.opt,Q.bind,Q.run_bind,h1,Option.bind_some,eOb_nil,List.isEmpty_nil,hf,eOb_cons]
         ·intro y hy
          simp only [updQ,eV,eL,Q.reads,getO_e,hk,Option.bind_some,eO,val_mp,hag,hkey,beq_self_eq_true,Bool.and_self,Q.guard,hce,Q.opt,Q.bind,Q.reads_bind,h1,eOb_nil,List.isEmpty_nil,hf,List.append_nil,List.mem_cons] at hy
          rcases hy with rfl | hy
          ·simp
          ·exact List.mem_cons_of_mem _ (h2 y hy)
        ·cases hm
       ·cases hm
      ·cases hm
     ·cases h
   ·cases h
  ·cases h
 ·cases h
theorem lookPK_ok {kd:Nat} {zs:List Value} {q:Nat} {key:D} {k:K3 D Nat Rr Mr Out} (h:lookPK (real Fn FnD m) kd zs ob q key k=some r):∃ kv,key=.lit kv∧isKey kd kv=true∧OKQ ob (lookP kd q kv zs) k r:=by
 unfold lookPK at h
 split at h
 ·rename_i keys vals hk
  have h':selKD kd keys key (vals.map fun x=>k (.one x) [] [q])=some r:=h
  unfold selKD at h'
  split at h'
  ·rename_i kv hkv
   have:=litD_ok hkv
   subst this
   split at h'
   ·rename_i hkey
    split at h'
    ·rename_i j hf
     simp only [selR,List.getElem?_map] at h'
     cases hx:vals[j]? with
     | none=>rw [hx] at h';cases h'
     | some x =>
      rw [hx] at h'
      simp only [Option.map_some] at h'
      refine ⟨kv,rfl,hkey,OKQ.mk ?_ ?_ h'⟩
      ·simp [lookP,Q.run,getO_e,hk,eO,hf,eLs_map,hx,Q.opt,Q.bind,eV,eOb_nil]
      ·simp [lookP,Q.reads,getO_e,hk,eO,hf,eLs_map,hx,Q.opt,Q.bind]
    ·cases h'
   ·cases h'
  ·cases h'
 ·rename_i mm size elem hk
  have fin:∀ {o:Option Nat},findD2 kd mm key=some o→∃ kv,key=.lit kv∧isKey kd kv=true∧mFind kd kv mm.1 0=some o:=by
   intro o ho
   unfold findD2 at ho
   split at ho
   ·rename_i kv hkv
    split at ho
    ·exact ⟨kv,litD_ok hkv,‹_›,ho⟩
    ·cases ho
   ·cases ho
  rcases real_find h with ⟨j,hj,h9⟩ | ⟨hj,h9⟩
  ·obtain ⟨kv,rfl,hkey,hf⟩:=fin hj
   refine ⟨kv,rfl,hkey,OKQ.mk ?_ ?_ h9⟩
   ·simp [lookP,Q.run,getO_e,hk,eO,hf,Q.opt,Q.bind,eV,eL,eOb_nil,real]
   ·simp [lookP,Q.reads,getO_e,hk,eO,hf,Q.opt,Q.bind]
  ·obtain ⟨kv,rfl,hkey,hf⟩:=fin hj
   clear h
   split at h9
   ·refine ⟨kv,rfl,hkey,OKQ.mk ?_ ?_ h9⟩
    ·simp [lookP,Q.run,getO_e,hk,eO,hf,Q.opt,Q.bind,eV,lit3_e,eOb_nil,vlit]
    ·simp [lookP,Q.reads,getO_e,hk,eO,hf,Q.opt,Q.bind]
   ·cases h9
 ·cases h
theorem keyV_ok {x:L3r} {v:Value} (h:keyV x=some v):eL x=.d (.lit v):=by
 unfold keyV at h;split at h<;>cases h<;>rfl
theorem updPK_ok {kd:Nat} {g:Bool} {q:Nat} {key:L3r} {v:V3r} {k:K3 D Nat Rr Mr Out} (h:updPK (real Fn FnD m) kd ob q key v k=some r):∃ kv,eL key=.d (.lit kv)∧OKQ ob (updQ kd g (.one (.mq q)) kv (eV v)) k r:=by
 unfold updPK at h
 split at h
 ·rename_i keys vals hk
  split at h
  ·rename_i kv x hkv
   split at h
   ·rename_i hc
    simp only [Bool.and_eq_true] at hc
    split at h
    ·rename_i hf
     refine ⟨kv,keyV_ok hkv,OKQ.mk ?_ ?_ h⟩
     ·simp [updQ,Q.run,getO_e,hk,eO,Q.guard,hc.1,eV,isDef_e,hc.2,hf,Q.opt,Q.bind,eOb_nil,eOb_cons,eLs_map,eL]
     ·simp [updQ,Q.reads,getO_e,hk,eO,Q.guard,hc.1,eV,isDef_e,hc.2,hf,Q.opt,Q.bind]
    ·cases h
   ·cases h
  ·cases h
 ·rename_i mm size elem hk
  split at h
  ·rename_i y q' j off hy
   split at h
   ·rename_i hq
    subst hq
    obtain ⟨ho,h8⟩:=real_eqN h
    have ho':off=0:=ho
    clear h
    obtain ⟨m',hm,h9⟩:=real_addK h8
    clear h8
    clear ho
    subst ho'
    unfold addKD at hm
    split at hm
    ·rename_i kv hkv
     have:=litD_ok hkv
     subst this
     split at hm
     ·rename_i hc
      obtain ⟨c1,c2,c3⟩:=hc
      split at hm
      ·rename_i hf
       cases hm
       refine ⟨kv,scal_e hy,OKQ.mk ?_ ?_ h9⟩
       ·simp [updQ,Q.run,getO_e,hk,eO,Q.guard,c1,eV,eL,c2,hf,Q.opt,Q.bind,eOb_nil,eOb_cons,show mm.1.length < mm.2.length by omega]
       ·simp [updQ,Q.reads,getO_e,hk,eO,Q.guard,c1,eV,eL,c2,hf,Q.opt,Q.bind,show mm.1.length < mm.2.length by omega]
      ·cases hm
     ·cases hm
    ·cases hm
   ·cases h
  ·cases h
 ·cases h
theorem mm2D_ok {mx:Bool} {a b z:D} (h:mmD mx a b=some z):mm2 mx (.one (.d a)) (.one (.d b))=some (.one (.d z)):=by
 unfold mmD at h
 split at h
 ·split at h
  ·rename_i hk;cases h;simp [mm2,vInt?,hk,vlit]
  ·cases h
 ·cases h
theorem mmK_ok {mx:Bool}:∀ {l:List D} {a:D} {k:D→Out},mmK (real Fn FnD m) mx a l k=some r→∃ z,mmF mx (.one (.d a)) (l.map fun x=>.one (.d x))=some (.one (.d z))∧k z=some r
 | [],a,k,h=>⟨a,rfl,h⟩
 | y::l,a,k,h=>by
  simp only [mmK] at h
  obtain ⟨z,hz,h⟩:=real_mm h
  obtain ⟨z',h1,h2⟩:=mmK_ok h
  exact ⟨z',by simp only [List.map_cons,mmF,mm2D_ok hz,Option.bind_some];exact h1,h2⟩
theorem scalL_ok {ρ:Operand→V3r}:∀ {xs:List Operand} {ys:List D},scalL (real Fn FnD m) ρ xs=some ys→xs.map (fun x=>eV (ρ x))=ys.map fun y=>.one (.d y)
 | [],ys,h=>by simp only [scalL,Option.some.injEq] at h;subst h;rfl
 | x::xs,ys,h=>by
  simp only [scalL] at h
  split at h
  ·rename_i y ys' h1 h2
   cases h
   simp only [List.map_cons,scal1_e h1,scalL_ok h2]
  ·cases h
theorem scals_ok:∀ {xs:List L3r} {ys:List D},scals (real Fn FnD m) xs=some ys→eLs xs=ys.map .d
 | [],ys,h=>by simp only [scals,Option.some.injEq] at h;subst h;rfl
 | x::xs,ys,h=>by
  simp only [scals] at h
  split at h
  ·rename_i y ys' h1 h2
   cases h
   simp only [eLs,scal_e h1,scals_ok h2,List.map_cons]
  ·cases h
theorem binD_ok {op:BinOp} {t:Nat} {a b z:D} (h:binD op (boolC P t) a b=some z):binQ P op t (.one (.d a)) (.one (.d b))=some (.one (.d z)):=by
 unfold binD at h
 split at h
 ·simp only [Option.map_eq_some_iff] at h
  obtain ⟨v,hv,rfl⟩:=h
  simp [binQ,hv,vlit]
 ·split at h
  ·rename_i hb
   split at h
   ·cases h;simp [binQ,hb,vlit]
   ·cases h;simp [binQ,hb,vlit]
   ·cases h
  ·cases h
 ·simp only [Option.map_eq_some_iff] at h
  obtain ⟨v,hv,rfl⟩:=h
  simp [binQ,hv,vlit]
 ·cases h
theorem binK_ok {op:BinOp} {t:Nat} {x y:V3r} {k:K3 D Nat Rr Mr Out} (h:binK (real Fn FnD m) P op t x y k=some r):OKQ ob (pureR (binQ P op t (eV x) (eV y))) k r:=by
 unfold binK at h
 split at h
 ·split at h
  ·rename_i hel
   split at h
   ·rename_i a ha
    rcases real_nilE h with ⟨rfl,h⟩ | ⟨s,rows,rfl,h⟩
    ·refine OKQ.mk ?_ ?_ h<;>simp [eV,scal_e ha,binQ,nilQ,hel,pureR,Q.opt,Q.bind,Q.run,Q.reads,eL,eOb_nil,vlit]
    ·refine OKQ.mk ?_ ?_ h<;>simp [eV,scal_e ha,binQ,nilQ,hel,pureR,Q.opt,Q.bind,Q.run,Q.reads,eL,eOb_nil,vlit]
   ·rename_i a ha
    rcases real_nilE h with ⟨rfl,h⟩ | ⟨s,rows,rfl,h⟩
    ·refine OKQ.mk ?_ ?_ h<;>simp [eV,scal_e ha,binQ,nilQ,hel,pureR,Q.opt,Q.bind,Q.run,Q.reads,eL,eOb_nil,vlit]
    ·refine OKQ.mk ?_ ?_ h<;>simp [eV,scal_e ha,binQ,nilQ,hel,pureR,Q.opt,Q.bind,Q.run,Q.reads,eL,eOb_nil,vlit]
   ·cases h
  rename_i hel
  split at h
  ·rename_i hp
   split at h
   ·refine OKQ.mk ?_ ?_ h<;>simp [eV,binQ,nilP,hel,hp,pureR,Q.opt,Q.bind,Q.run,Q.reads,eL,eOb_nil,vlit]
   ·refine OKQ.mk ?_ ?_ h<;>simp [eV,binQ,nilP,hel,hp,pureR,Q.opt,Q.bind,Q.run,Q.reads,eL,eOb_nil,vlit]
   ·refine OKQ.mk ?_ ?_ h<;>simp [eV,binQ,nilP,hel,hp,pureR,Q.opt,Q.bind,Q.run,Q.reads,eL,eOb_nil,vlit]
   ·refine OKQ.mk ?_ ?_ h<;>simp [eV,binQ,nilP,hel,hp,pureR,Q.opt,Q.bind,Q.run,Q.reads,eL,eOb_nil,vlit]
   ·cases h
  split at h
  ·rename_i a b ha hb
   obtain ⟨z,hz,h⟩:=real_bin h
   refine OKQ.mk ?_ ?_ h
   ·simp [eV,scal_e ha,scal_e hb,binD_ok hz,pureR,Q.opt,Q.bind,Q.run,eL,eOb_nil]
   ·simp [eV,scal_e ha,scal_e hb,binD_ok hz,pureR,Q.opt,Q.bind,Q.reads]
  ·cases h
 ·rename_i xs ys
  split at h
  ·rename_i ks xs' ys' hks hxs hys
   split at h
   ·rename_i hag
    split at h
    ·obtain ⟨b,hb,h⟩:=real_eqs h
     refine OKQ.mk ?_ ?_ h
     ·simp [eV,scals_ok hxs,scals_ok hys,binQ,hks,hag,hb,pureR,Q.opt,Q.bind,Q.run,eL,eOb_nil,vlit]
     ·simp [eV,scals_ok hxs,scals_ok hys,binQ,hks,hag,hb,pureR,Q.opt,Q.bind,Q.reads]
    ·obtain ⟨b,hb,h⟩:=real_eqs h
     refine OKQ.mk ?_ ?_ h
     ·simp [eV,scals_ok hxs,scals_ok hys,binQ,hks,hag,hb,pureR,Q.opt,Q.bind,Q.run,eL,eOb_nil,vlit]
     ·simp [eV,scals_ok hxs,scals_ok hys,binQ,hks,hag,hb,pureR,Q.opt,Q.bind,Q.reads]
    ·cases h
   ·cases h
  ·cases h
 ·cases h
theorem lenDD_ok {x:D} {n:Nat} (h:lenDD x=some n):lenQ (.one (.d x))=some n:=by
 unfold lenDD at h;split at h<;>cases h<;>rfl
end Go.VE
namespace Go.VE
open Go.RowKit
variable {P:Program} {Fn:Nat→List D→Out} {FnD:D→List Sh→List D→Out} {m:Nat} {r:Nat×List Yr} {ob:Ur}
theorem OKQ.pure {o:Option V} {v:V3r} {k:K3 D Nat Rr Mr Out} (ho:o=some (eV v)) (h:k v [] []=some r):OKQ ob (pureR o) k r:=by
 subst ho;exact OKQ.mk (us:=[]) (by simp [pureR,Q.opt,Q.bind,Q.run,eOb_nil]) (by simp [pureR,Q.opt,Q.bind,Q.reads]) h
theorem OKQ.cond {q:Q Res} {k:K3 D Nat Rr Mr Out} (b:Bool) (hb:b=true) (h:OKQ ob q k r):OKQ ob (Q.guard b q) k r:=by subst hb;exact h
theorem OKQ.some {α:Type} {o:Option α} {a:α} {f:α→Q Res} {k:K3 D Nat Rr Mr Out} (ho:o=.some a) (h:OKQ ob (f a) k r):OKQ ob ((Q.opt o).bind f) k r:=by subst ho;exact h
theorem OKQ.bind {α:Type} {q:Q α} {a:α} {f:α→Q Res} {k:K3 D Nat Rr Mr Out} {v:V3r} {us:Ur} {rd rd':List Nat} (h1:q.run (getO (eOb ob))=.some a) (h2:∀ x∈q.reads (getO (eOb ob)),x∈rd) (h3:(f a).run (getO (eOb ob))=.some (eV v,eOb us)) (h4:∀ x∈(f a).reads (getO (eOb ob)),x∈rd') (h:k v us (rd++rd')=.some r):OKQ ob (q.bind f) k r:=by
 refine ⟨v,us,rd++rd',by rw [Q.run_bind,h1];exact h3,fun x hx=>?_,h⟩
 rw [Q.reads_bind,h1] at hx
 rcases List.mem_append.1 hx with hx | hx
 ·exact List.mem_append_left _ (h2 x hx)
 ·exact List.mem_append_right _ (h4 x hx)
theorem callOpK_ok {dst:Option Nat} {ρ:Operand→V3r} {c:Call} {k:K3 D Nat Rr Mr Out} (h:callOpK (real Fn FnD m) P ob dst ρ c k=some r):OKQ ob (aop P dst (fun x=>eV (ρ x)) (.call c)) k r:=by
 unfold callOpK at h
 simp only [aop]
 split at h
 ·
  rename_i hc
  simp only [hc]
  split at h
  ·rename_i x hx
   simp only [hx]
   split at h
   ·rename_i t ht
    simp only [ht]
    split at h
    ·rename_i e he
     simp only [he]
     split at h
     ·rename_i q o n c' hρ
      refine OKQ.pure (v:=.one (.d (.lit (.int .i64 n)))) ?_ h
      simp [hρ,eV,eL,lenQ,vlit]
     ·rename_i q n hρ
      refine OKQ.pure (v:=.one (.d (.lit (.int .i64 n)))) ?_ h
      simp [hρ,eV,eL,lenQ,vlit]
     ·rename_i hρ
      refine OKQ.pure (v:=.one (.i .i64 0)) ?_ h
      simp [hρ,eV,eL,lenQ,vlit]
     ·rename_i y hρ
      obtain ⟨n,hn,h⟩:=real_lenD h
      refine OKQ.pure (v:=.one (.d (.lit (.int .i64 n)))) ?_ h
      simp [hρ,eV,eL,lenDD_ok hn,vlit]
     ·cases h
    ·rename_i he
     simp only [he]
     split at h
     ·rename_i hs
      simp only [hs,Q.guard]
      split at h
      ·rename_i y hy
       obtain ⟨s,rfl,h⟩:=real_lenS h
       refine OKQ.pure (v:=.one (.d (.lit (.int .i64 s.size)))) ?_ h
       simp [scal1_e hy,strLen,eV,eL,vlit]
      ·cases h
     ·cases h
   ·cases h
  ·cases h
 ·
  rename_i hc
  simp only [hc]
  split at h
  ·rename_i x t hx ht
   simp only [hx,ht]
   split at h
   ·rename_i hρ
    split at h
    ·rename_i he
     have hρ':eV (ρ x)=.one (.d (.lit (.slice none 0 0))):=by rw [hρ];rfl
     simp only [hρ',he,Q.guard]
     exact OKQ.mk (v:=.one (.i .i64 0)) (us:=[]) (by simp [Q.run,eV,eL,vlit,eOb_nil]) (by simp [Q.reads]) h
    ·cases h
   ·rename_i y hρ
    split at h
    ·rename_i he
     obtain ⟨rfl,h⟩:=real_nilD h
     have hρ':eV (ρ x)=.one (.d (.lit (.slice none 0 0))):=by rw [hρ];rfl
     simp only [hρ',he,Q.guard]
     exact OKQ.mk (v:=.one (.i .i64 0)) (us:=[]) (by simp [Q.run,eV,eL,vlit,eOb_nil]) (by simp [Q.reads]) h
    ·cases h
   ·cases h
  ·cases h
 ·
  rename_i hc
  simp only [hc]
  split at h
  ·rename_i x t hx ht
   simp only [hx,ht]
   split at h
   ·rename_i zs hz
    obtain ⟨e,he,hze⟩:=Option.bind_eq_some_iff.1 hz
    split at h
    ·rename_i hpos
     have body:OKQ ob (clearQ zs (eV (ρ x))) k r→OKQ ob ((Q.opt (elemC P t)).bind fun e=>(Q.opt (zeroC P e)).bind fun zs=>Q.guard (decide (0 < zs.length)) (clearQ zs (eV (ρ x)))) k r:=fun hb=>by
      exact OKQ.some he (OKQ.some hze (OKQ.cond _ (by simp [hpos]) hb))
     refine body ?_
     split at h
     ·rename_i hρ
      rw [hρ]
      exact OKQ.mk (v:=.tup []) (us:=[]) (by simp [clearQ,Q.run,eV,eL,eVs,eOb_nil]) (by simp [clearQ,eV,eL,Q.reads]) h
     ·rename_i y hρ
      obtain ⟨rfl,h⟩:=real_nilD h
      rw [hρ]
      exact OKQ.mk (v:=.tup []) (us:=[]) (by simp [clearQ,Q.run,eV,eL,eVs,eOb_nil]) (by simp [clearQ,eV,eL,Q.reads]) h
     ·rename_i key off n c hρ
      split at h
      ·rename_i rows size elem hk
       split at h
       ·rename_i hsz
        obtain ⟨hcc,h⟩:=real_eqN h
        obtain ⟨hoff,h⟩:=real_eqN h
        rw [hρ]
        have hl:(zs.map (real Fn FnD m).lit)=zs.map D.lit:=rfl
        have hob:getO (eOb ob) key=some (.arr rows size elem true):=by rw [getO_e,hk];rfl
        have hlen:c=rows.length:=hcc
        cases off with
        | none =>
         have hoff':n=rows.length:=hoff
         have h1:(clearQ zs (.one (.slk key 0 n c))).run (getO (eOb ob))=some (.tup [],[(key,.arr (List.replicate n (zs.map D.lit)) size elem true)]):=by
          simp [clearQ,Q.run,hob,hlen,hsz,hoff',Q.guard]
         have h2:(clearQ zs (.one (.slk key 0 n c))).reads (getO (eOb ob))=[key]:=by
          simp [clearQ,Q.reads,hob,hlen,hsz,hoff',Q.guard]
         exact OKQ.mk (v:=.tup []) (us:=[(key,.arr (List.replicate n (zs.map D.lit)) size elem true)]) (rd:=[key]) h1 (fun q hq=>by
          have hq':q∈(clearQ zs (.one (.slk key 0 n c))).reads (getO (eOb ob)):=hq
          rw [h2] at hq';exact hq') h
        | some o =>
         have hoff':o+n=rows.length:=hoff
         have h1:(clearQ zs (.one (.slk key o n c))).run (getO (eOb ob))=some (.tup [],[(key,.arr (rows.take o++List.replicate n (zs.map D.lit)) size elem true)]):=by
          simp [clearQ,Q.run,hob,hlen,hsz,hoff',Q.guard]
         have h2:(clearQ zs (.one (.slk key o n c))).reads (getO (eOb ob))=[key]:=by
          simp [clearQ,Q.reads,hob,hlen,hsz,hoff',Q.guard]
         exact OKQ.mk (v:=.tup []) (us:=[(key,.arr (rows.take o++List.replicate n (zs.map D.lit)) size elem true)]) (rd:=[key]) h1 (fun q hq=>by
          have hq':q∈(clearQ zs (.one (.slk key o n c))).reads (getO (eOb ob)):=hq
          rw [h2] at hq';exact hq') h
       ·cases h
      ·cases h
     ·cases h
    ·cases h
   ·cases h
  ·cases h
 ·
  rename_i hc
  simp only [hc]
  split at h
  ·rename_i x y t t' hx ht
   simp only [hx,ht]
   split at h
   ·rename_i e he
    split at h
    ·rename_i sz hs
     split at h
     ·rename_i htt
      refine OKQ.some he (OKQ.some hs (OKQ.cond _ (by simpa using htt) ?_))
      obtain ⟨new,rd,h1,h2,h⟩:=srcK_ok h
      split at h
      ·rename_i key n c hρ
       split at h
       ·rename_i rows size elem hk
        split at h
        ·rename_i hsz
         obtain ⟨hcc,h⟩:=real_eqN h
         obtain ⟨hn,h⟩:=real_eqN h
         have hcc':c=rows.length:=hcc
         have hn':n=rows.length:=hn
         have hob:getO (eOb ob) key=some (.arr rows size elem true):=by rw [getO_e,hk];rfl
         have hx':eV (ρ x)=.one (.slk key 0 n c):=by rw [hρ];rfl
         have htk:(rows.drop new.length).take n=rows.drop new.length:=List.take_of_length_le (by simp;omega)
         refine OKQ.mk ?_ ?_ h
         ·rw [Q.run_bind,h1,hx']
          simp only [Option.bind_some,copyQ,Q.run,hob,Q.guard,hcc',hn',hsz,Bool.true_and,and_self,decide_true]
          simp only [real,Option.getD_none,Option.getD_some,List.drop_zero,eV,eL,vlit,eOb_cons,eOb_nil,eO]
          rw [←hn',htk]
         ·intro q hq
          rw [Q.reads_bind,h1,hx'] at hq
          simp only [copyQ,Q.reads,hob,Q.guard,hcc',hn',hsz,Bool.true_and,and_self,decide_true,List.mem_append,List.mem_cons,List.not_mem_nil,or_false] at hq
          rcases hq with hq | rfl
          ·exact List.mem_append_left _ (h2 q hq)
          ·simp
        ·cases h
       ·cases h
      ·cases h
     ·cases h
    ·cases h
   ·cases h
  ·cases h
 ·
  rename_i hc
  simp only [hc]
  split at h
  ·rename_i a l hl
   obtain ⟨z,h1,h2⟩:=mmK_ok h
   refine OKQ.pure (v:=.one (.d z)) ?_ h2
   rw [scalL_ok hl,List.map_cons]
   simp only [mmList,h1,eV,eL]
  ·cases h
 ·
  rename_i hc
  simp only [hc]
  split at h
  ·rename_i a l hl
   obtain ⟨z,h1,h2⟩:=mmK_ok h
   refine OKQ.pure (v:=.one (.d z)) ?_ h2
   rw [scalL_ok hl,List.map_cons]
   simp only [mmList,h1,eV,eL]
  ·cases h
 ·
  rename_i hc
  simp only [hc]
  split at h
  ·rename_i s x t t' hs ht
   simp only [hs,ht]
   split at h
   ·cases h
   ·rename_i e he
    split at h
    ·rename_i sz bs zs h1 h2 h3
     split at h
     ·rename_i ik hik
      simp only [hik]
      have gapc:∀ y,scal1 (real Fn FnD m) (ρ x)=some y→0 < sz∧zs.length=sz→eV (ρ s)=.one (.d (.lit (.slice none 0 0)))→((real Fn FnD m).gap bs y fun n=>fresh3 (real Fn FnD m) ob dst (.arr ((real Fn FnD m).repl n (zs.map (real Fn FnD m).lit)) sz e true) (fun key=>.one (.slk key none n n)) k)=some r→OKQ ob (match eV (ρ s) with
        | .one (.d (.lit (.slice none 0 0)))=>(Q.opt (elemC P t)).bind fun e=>(Q.opt (sizeC P e)).bind fun sz=>(Q.opt (bytesC P e)).bind fun bs=>(Q.opt (zeroC P e)).bind fun zs=>(Q.opt (vInt? (eV (ρ x)))).bind fun n =>
         Q.guard (decide (0 < sz∧zs.length=sz∧0 < n.2∧bs*n.2≤140737488355328∧n.2≤9223372036854775807)) (fresh dst (.arr (List.replicate n.2.toNat (zs.map .lit)) sz e true) fun k=>.one (.slk k 0 n.2.toNat n.2.toNat))
        | _=>.fail) k r:=by
       intro y hy hcond hρ' h
       obtain ⟨a,n,rfl,hn,h⟩:=real_gap h
       simp only [hρ',he,h1,h2,h3,Q.opt,Q.bind,scal1_e hy,vInt?]
       have hn1:0 < n:=hn.1
       have hn2:(bs:Int)*n≤140737488355328:=hn.2.1
       have hn3:n≤9223372036854775807:=hn.2.2
       refine OKQ.cond _ (by simp [hcond,hn1,hn2,hn3]) ?_
       have:=fresh3_ok (v':=fun key=>.one (.slk key 0 n.toNat n.toNat)) h (fun q=>by simp [eV,eL])
       simpa [eO,real] using this
      split at h
      ·rename_i y hρ hy
       split at h
       ·rename_i hcond
        exact gapc y hy hcond (by rw [hρ];rfl) h
       ·cases h
      ·rename_i x0 y hρ hy
       split at h
       ·rename_i hcond
        obtain ⟨rfl,h⟩:=real_nilD h
        exact gapc y hy hcond (by rw [hρ];rfl) h
       ·cases h
      ·cases h
     ·rename_i hik
      simp only [hik]
      split at h
      ·rename_i hcond
       simp only [he,h1,h2,h3,Q.opt,Q.bind]
       refine OKQ.cond _ (by simp [hcond]) ?_
       obtain ⟨rows,rd,g1,g2,h⟩:=srcK_ok h
       obtain ⟨v,us,rd',g3,g4,h⟩:=appendK_ok h
       exact OKQ.bind g1 g2 g3 g4 h
      ·cases h
    ·cases h
  ·cases h
 ·cases h
theorem eV_mq {v:V3r} {k:Nat} (h:eV v=.one (.mq k)):v=.one (.mq k):=by
 cases v with
 | one x=>cases x<;>simp_all [eV,eL]
 | agg xs=>simp [eV] at h
 | tup xs=>simp [eV] at h
theorem op3_ok {dst:Option Nat} {ρ:Operand→V3r} {op:Op} {k:K3 D Nat Rr Mr Out} (h:op3 (real Fn FnD m) P ob dst ρ op k=some r):OKQ ob (aop P dst (fun x=>eV (ρ x)) op) k r:=by
 cases op with
 | move x=>exact OKQ.ret0 h
 | assign x=>exact OKQ.ret0 h
 | pick c a b =>
  simp only [op3] at h
  simp only [aop]
  split at h
  ·rename_i hc
   exact OKQ.pure (v:=ρ a) (by simp [hc,eV,eL,vBool?]) h
  ·rename_i hc
   exact OKQ.pure (v:=ρ b) (by simp [hc,eV,eL,vBool?]) h
  ·rename_i y hc
   rcases real_cond h with ⟨rfl,h⟩ | ⟨rfl,h⟩
   ·exact OKQ.pure (v:=ρ a) (by simp [hc,eV,eL,vBool?]) h
   ·exact OKQ.pure (v:=ρ b) (by simp [hc,eV,eL,vBool?]) h
  ·cases h
 | box elem x =>
  simp only [op3] at h
  simp only [aop]
  split at h
  ·rename_i cs hcs
   refine OKQ.some (a:=eLs cs) (by rw [cells_e,hcs];rfl) ?_
   cases dst with
   | some q =>
    simp only at h
    split at h
    ·rename_i mm size elem' hk
     split at h
     ·rename_i ds hds
      split at h
      ·rename_i hc
       obtain ⟨rfl,hl⟩:=hc
       have hf:=frzs_d ds (getO (eOb ob))
       have hce:=scals_e' hds
       have hln:ds.length=size:=by rw [←hl,← eLs_length cs,hce,List.length_map]
       refine OKQ.mk ?_ ?_ h
       ·simp [boxQ,hce,hln,Q.run,getO_e,hk,eO,Q.guard,Q.run_bind,hf.1,eV,eL,eOb_nil,eOb_cons,real]
       ·intro q' hq
        simpa [boxQ,hce,hln,Q.reads,getO_e,hk,eO,Q.guard,Q.reads_bind,hf.1,hf.2] using hq
      ·cases h
     ·cases h
    ·unfold fresh3 at h
     simp only at h
     split at h
     ·rename_i hk
      refine OKQ.mk ?_ ?_ h
      ·simp [boxQ,Q.run,getO_e,hk,eV,eL,eO,eOb_nil,eOb_cons]
      ·simp [boxQ,Q.reads,getO_e,hk]
     ·cases h
   | none =>
    obtain ⟨ds,us,rd,h1,h2,h⟩:=frzs3_ok h
    refine OKQ.mk (v:=.one (.dp ds 0)) (us:=us) (rd:=rd) ?_ ?_ h
    ·rw [Q.run_bind,h1];rfl
    ·intro q hq
     rw [Q.reads_bind,h1] at hq
     simp only [Q.reads,List.append_nil] at hq
     exact h2 q hq
  ·cases h
 | alloc elem =>
  simp only [op3] at h
  simp only [aop]
  split at h
  ·rename_i zs hz
   refine OKQ.some hz ?_
   have:=fresh3_ok (v':=fun key=>.one (.ptr key 0)) h (fun q=>by simp [eV,eL])
   rwa [eO,lits3_e] at this
  ·cases h
 | build t parts =>
  simp only [op3] at h
  simp only [aop]
  split at h
  ·rename_i zs hz
   split at h
   ·rename_i hc
    refine OKQ.some hz (OKQ.cond _ hc ?_)
    split at h
    ·rename_i cs hcs
     refine OKQ.pure (v:=.agg cs) ?_ h
     have:=fill_e (placeC P t) (parts.toList.map fun p=>(p.1,ρ p.2)) (zs.map (lit3 (real Fn FnD m)))
     rw [lits3_e,hcs,List.map_map] at this
     rw [show (parts.toList.map fun p=>(p.1,eV (ρ p.2)))=(parts.toList.map ((fun p=>(p.1,eV p.2)) ∘ fun p=>(p.1,ρ p.2))) from rfl,this]
     simp [eV]
    ·cases h
   ·cases h
  ·cases h
 | buildSlice t len parts =>
  simp only [op3] at h
  simp only [aop]
  split at h
  ·cases h
  ·rename_i e he
   split at h
   ·rename_i s zs hs hz
    split at h
    ·rename_i hc
     obtain ⟨rows,us,rd,h1,h2,h⟩:=rowsK_ok (n:=len) (ρ:=ρ) (by simp) h
     cases dst with
     | none =>
      refine OKQ.some he (OKQ.some hs (OKQ.some hz (OKQ.cond _ (by simp [hc]) ?_)))
      have hl:(List.replicate len (zs.map (real Fn FnD m).lit))=List.replicate len (zs.map .lit):=rfl
      rw [hl] at h1 h2
      refine OKQ.bind (v:=.one (.d (.sl s rows))) (us:=us) (rd':=[]) h1 h2 ?_ ?_ (by rw [List.append_nil];exact h)
      ·simp [layRow,Q.bind,Q.run,eV,eL]
      ·intro x hx;simp [layRow,Q.bind,Q.reads] at hx
     | some q0 =>
     obtain ⟨v,u,rd',h3,h4,h⟩:=fresh3_ok (v':=fun key=>.one (.slk key 0 len len)) h (fun q=>by simp [eV,eL,real])
     refine OKQ.some he (OKQ.some hs (OKQ.some hz (OKQ.cond _ (by simp [hc]) ?_)))
     have hl:(List.replicate len (zs.map (real Fn FnD m).lit))=List.replicate len (zs.map .lit):=rfl
     rw [hl] at h1 h2
     refine OKQ.bind (v:=v) (us:=us++u) (rd':=rd') h1 h2 ?_ ?_ h
     ·rw [Q.run_bind,show (layRow (some q0) rows s e len).run (getO (eOb ob))=some (eV v,eOb u) from h3]
      simp [Q.run,eOb_append]
     ·intro x hx
      rw [Q.reads_bind,show (layRow (some q0) rows s e len).run (getO (eOb ob))=some (eV v,eOb u) from h3] at hx
      simp only [Q.reads,List.append_nil] at hx
      exact h4 x hx
    ·cases h
   ·cases h
 | load t a =>
  simp only [op3] at h
  simp only [aop]
  split at h
  ·rename_i g s hg hs
   exact OKQ.some hg (OKQ.some hs (loadK_ok h))
  ·cases h
 | store t a x =>
  simp only [op3] at h
  simp only [aop]
  split at h
  ·rename_i cs hcs
   split at h
   ·rename_i hs
    exact OKQ.some (a:=eLs cs) (by rw [cells_e,hcs];rfl) (OKQ.cond _ (by rw [eLs_length];exact hs) (storeK_ok h))
   ·cases h
  ·cases h
 | nilCheck x =>
  simp only [op3] at h
  simp only [aop]
  split at h
  ·rename_i hρ;rw [hρ] at h ⊢;exact OKQ.ret0 (v:=.one (.ptr _ _)) h
  ·rename_i hρ;rw [hρ] at h ⊢;exact OKQ.ret0 (v:=.one (.pa _ _ _ _)) h
  ·rename_i hρ;rw [hρ] at h ⊢;exact OKQ.ret0 (v:=.one (.dp _ _)) h
  ·rename_i hρ;rw [hρ] at h ⊢;exact OKQ.ret0 (v:=.one (.pb _ _ _)) h
  ·rename_i hρ;rw [hρ] at h ⊢;exact OKQ.ret0 (v:=.one (.px _ _ _ _ _ _)) h
  ·rename_i y hρ
   obtain ⟨⟨row,o,rfl⟩,h⟩:=real_isPtr h
   rw [hρ] at h ⊢
   exact OKQ.ret0 (v:=.one (.d (.dp row o))) h
  ·cases h
 | binOp op t x y z=>exact binK_ok h
 | unOp op t x =>
  simp only [op3] at h
  simp only [aop]
  split at h
  ·rename_i v hv
   exact OKQ.pure (v:=.one (.b !v)) (by simp [hv,eV,eL,V.lit?,vlit]) h
  ·rename_i y hv
   obtain ⟨z,hz,h⟩:=real_un h
   unfold unD at hz
   split at hz
   ·cases hz
    exact OKQ.pure (by simp [hv,eV,eL,V.lit?,vlit]) h
   ·cases hz
   ·cases hz
  ·split at h
   ·rename_i y hy
    obtain ⟨z,hz,h⟩:=real_un h
    unfold unD at hz
    split at hz
    ·cases hz
    ·cases hz
     refine OKQ.pure (v:=.one (.d _)) ?_ h
     simp [scal1_e hy,V.lit?,vlit,eV,eL]
    ·cases hz
   ·cases h
  ·cases h
 | makeFunc fn first captured =>
  simp only [op3] at h
  simp only [aop]
  split at h
  ·rename_i f caps h2 h3
   have e1:oneCells (first.toList.map fun x=>eV (ρ x))=some []:=by
    have:=oneCells_e (first.toList.map ρ)
    rw [h2,List.map_map] at this
    exact this
   have e2:oneCells (captured.toList.map fun x=>eV (ρ x))=some (eLs caps):=by
    have:=oneCells_e (captured.toList.map ρ)
    rw [h3,List.map_map] at this
    exact this
   split at h
   ·rename_i hlt
    simp only [e1,e2,if_pos hlt]
    exact OKQ.ret0 (v:=.one (.fn f caps)) h
   ·cases h
  ·rename_i f c cs h2 h3
   have e1:oneCells (first.toList.map fun x=>eV (ρ x))=some (eL c::eLs cs):=by
    have:=oneCells_e (first.toList.map ρ)
    rw [h2,List.map_map] at this
    exact this
   have e2:oneCells (captured.toList.map fun x=>eV (ρ x))=some []:=by
    have:=oneCells_e (captured.toList.map ρ)
    rw [h3,List.map_map] at this
    exact this
   simp only [e1,e2]
   exact OKQ.ret0 (v:=.one (.fn (f+2000000) (c::cs))) h
  ·cases h
 | index t x ix =>
  simp only [op3] at h
  simp only [aop]
  by_cases hst:strC P t=true
  ·rw [if_pos hst] at h ⊢
   split at h
   ·rename_i a b hx hi
    obtain ⟨kk,z,v,rfl,hv,h⟩:=real_atS h
    refine OKQ.some (a:=(kk,z)) (by simp [scal1_e hi,vInt?]) (OKQ.pure (v:=.one (.d (.lit v))) ?_ h)
    rw [scal1_e hx,hv]
    simp [vlit,eV,eL]
   ·cases h
  rw [if_neg hst] at h ⊢
  split at h
  ·rename_i p hp
   split at h
   ·rename_i s g cs hs hg hx
    split at h
    ·rename_i kk z hix
     split at h
     ·rename_i hz
      obtain ⟨v,hv,h⟩:=optK_ok h (fun v hv=>by
       have:=getCells_e g s (z.toNat*s) cs
       rw [hv] at this
       exact this)
      refine OKQ.some (a:=(kk,z)) (by simp [hix,eV,eL,vInt?]) (OKQ.some hp (OKQ.some hs (OKQ.some hg ?_)))
      simp only [hx,eV]
      exact OKQ.cond _ (by simp [hz]) (OKQ.pure hv h)
     ·cases h
    ·rename_i y hix
     split at h
     ·rename_i ds hds
      split at h
      ·rename_i hln
       obtain ⟨kk,z,rfl,hz,h⟩:=real_inx h
       have hz':0≤z∧z < (p.1:Int):=hz
       have hzn:z.toNat < p.1:=by omega
       have hmul:z.toNat*s+s≤p.1*s:=by rw [←Nat.succ_mul];exact Nat.mul_le_mul_right _ hzn
       have hce:=scals_e' hds
       obtain ⟨v,hv,h⟩:=optK_ok (o':=getCells g s (z.toNat*s) (eLs cs)) h (fun v hv=>by
        refine getCells_mk (by rw [hce,List.length_map];omega) ?_
        have e:eLs ((List.range s).map fun q=>L3.d ((real Fn FnD m).selN z.toNat ((List.range p.1).map fun j=>ds.getD (j*s+q) ((real Fn FnD m).lit .nilFunc))))=((eLs cs).drop (z.toNat*s)).take s:=by
         rw [hce,eLs_map]
         apply List.ext_getElem?
         intro q
         simp only [List.getElem?_map,List.getElem?_take,List.getElem?_drop]
         by_cases hq:q < s
         ·rw [List.getElem?_range hq,if_pos hq,List.getElem?_eq_getElem (show z.toNat*s+q < ds.length by omega)]
          simp [eL,real,List.getD_eq_getElem?_getD,List.getElem?_range hzn,List.getElem?_eq_getElem (show z.toNat*s+q < ds.length by omega)]
         ·rw [List.getElem?_eq_none (by simpa using hq),if_neg hq];rfl
        rw [←e,mkV_e,hv];rfl)
       refine OKQ.some (a:=(kk,z)) (by simp [hix,eV,eL,vInt?]) (OKQ.some hp (OKQ.some hs (OKQ.some hg ?_)))
       simp only [hx,eV]
       exact OKQ.cond _ (by simp [hz']) (OKQ.pure hv h)
      ·cases h
     obtain ⟨kk,z,rfl,hz,h⟩:=real_selI h
     unfold selR at h
     split at h
     ·rename_i kont hk
      rw [List.getElem?_map] at hk
      obtain ⟨j,hj,rfl⟩:=Option.map_eq_some_iff.1 hk
      have hjz:j=z.toNat:=by
       have:=(List.getElem?_eq_some_iff.1 hj).2
       simpa using this.symm
      subst hjz
      obtain ⟨v,hv,h⟩:=optK_ok h (fun v hv=>by
       have:=getCells_e g s (z.toNat*s) cs
       rw [hv] at this
       exact this)
      refine OKQ.some (a:=(kk,z)) (by simp [hix,eV,eL,vInt?]) (OKQ.some hp (OKQ.some hs (OKQ.some hg ?_)))
      simp only [hx,eV]
      exact OKQ.cond _ (by simp [hz]) (OKQ.pure hv h)
     ·cases h
    ·cases h
   ·cases h
  ·cases h
 | convert src dst x =>
  simp only [op3] at h
  simp only [aop]
  by_cases hst:strC P dst=true
  ·rw [if_pos hst] at h ⊢
   split at h
   ·rename_i he
    obtain ⟨rows,rd,g1,g2,h⟩:=srcK_ok h
    obtain ⟨l,hl,h⟩:=real_strB h
    obtain ⟨e,h1,h2⟩:=Option.bind_eq_some_iff.1 he
    refine OKQ.some h1 (OKQ.cond _ (by simp [h2]) (OKQ.bind g1 g2 (v:=.one (.d (.lit (.string (strOfI l))))) (us:=[]) ?_ ?_ h))
    ·rw [hl]
     simp [pureR,Q.opt,Q.bind,Q.run,vlit,eV,eL,eOb_nil]
    ·rw [hl]
     simp [pureR,Q.opt,Q.bind,Q.reads]
   ·cases h
  rw [if_neg hst] at h ⊢
  split at h
  ·rename_i k0 kd y h1 h2 h3
   obtain ⟨a,n,rfl,h⟩:=real_cvI h
   refine OKQ.some h1 (OKQ.some h2 (OKQ.some (a:=(a,n)) (by simp [scal1_e h3,vInt?]) ?_))
   exact OKQ.ret0 (v:=.one (.d (.lit (.int kd (kd.wrap n))))) h
  ·cases h
 | makeInterface t x =>
  simp only [op3] at h
  simp only [aop]
  have fz:∀ zs:List D,(frzs (zs.map L.d)).run (getO (eOb ob))=some (zs,[])∧(frzs (zs.map L.d)).reads (getO (eOb ob))=[]:=by
   intro zs
   induction zs with
   | nil=>exact ⟨rfl,rfl⟩
   | cons c cs ih=>simp [frzs,frz,Q.bind,Q.run_bind,Q.reads_bind,Q.run,Q.reads,ih.1,ih.2]
  split at h
  ·rename_i hc
   split at h
   ·rename_i y hg hy
    split at h
    ·rename_i z hz
     refine OKQ.cond _ (by simp [hc,hg,hy,eV,isAggV]) ?_
     have hz':=scal_e hz
     refine OKQ.some (a:=[z].map L.d) (by simp [hy,eV,hz',V.cells,L.isDef]) ?_
     refine OKQ.mk (v:=.one (.d (.ifc t false [z]))) (us:=[]) (rd:=[]) ?_ ?_ h
     ·rw [Q.run_bind,(fz [z]).1];simp [Q.run,hy,eV,eL,isAggV,eOb_nil]
     ·intro q hq;rw [Q.reads_bind,(fz [z]).1,(fz [z]).2] at hq;simp [Q.reads] at hq
    ·cases h
   ·rename_i ys hg hy
    split at h
    ·rename_i zs hz
     refine OKQ.cond _ (by simp [hc,hg,hy,eV,isAggV]) ?_
     have hz':=scals_ok hz
     refine OKQ.some (a:=zs.map L.d) (by simp [hy,eV,hz',V.cells,L.isDef,Function.comp_def]) ?_
     refine OKQ.mk (v:=.one (.d (.ifc t true zs))) (us:=[]) (rd:=[]) ?_ ?_ h
     ·rw [Q.run_bind,(fz zs).1];simp [Q.run,hy,eV,eL,isAggV,eOb_nil]
     ·intro q hq;rw [Q.reads_bind,(fz zs).1,(fz zs).2] at hq;simp [Q.reads] at hq
    ·cases h
   ·cases h
  ·cases h
 | makeSlice t l c =>
  simp only [op3] at h
  simp only [aop]
  split at h
  ·cases h
  ·rename_i e he
   split at h
   ·rename_i s zs bs hs hz hb
    split at h
    ·rename_i n n' hn hn'
     split at h
     ·rename_i hc
      obtain ⟨a,z,rfl,rfl,hz2,h⟩:=real_mkN h
      refine OKQ.some he (OKQ.some hs (OKQ.some hz (OKQ.some hb (OKQ.some (a:=(a,z)) (by simp [scal1_e hn,vInt?]) (OKQ.some (a:=(a,z)) (by simp [scal1_e hn',vInt?]) (OKQ.cond _ (by simp [hc,hz2]) ?_))))))
      have:=fresh3_ok (v':=fun key=>.one (.slk key 0 z.toNat z.toNat)) h (fun q=>by simp [eV,eL])
      simpa [eO,real] using this
     ·cases h
    ·cases h
   ·cases h
 | slice t x lo hi mx =>
  simp only [op3] at h
  simp only [aop]
  by_cases hst:strC P t=true
  ·rw [if_pos hst] at h ⊢
   split at h
   ·rename_i a l h' hx hl hh
    obtain ⟨zl,zh,v,h1,h2,hv,h⟩:=real_cutS h
    refine OKQ.cond _ rfl (OKQ.some (scalO_ok hl h1) (OKQ.some (scalO_ok hh h2) (OKQ.pure (v:=.one (.d (.lit v))) ?_ h)))
    rw [scal1_e hx,hv]
    simp [vlit,eV,eL]
   ·cases h
  rw [if_neg hst] at h ⊢
  split at h
  ·rename_i e he
   split at h
   ·rename_i l h' s hl hh hs
    obtain ⟨zl,zh,h1,h2,h3⟩:=cutK_ok hl hh h
    exact OKQ.cond _ (by simp [he]) (OKQ.some h1 (OKQ.some h2 (OKQ.some he (OKQ.some hs h3))))
   ·cases h
  ·cases h
 | fieldAddr s x f =>
  simp only [op3] at h
  simp only [aop]
  split at h
  ·rename_i p hp
   split at h
   ·rename_i y hρ
    split at h
    ·rename_i n _
     obtain ⟨row,rfl,hl,h⟩:=real_ptrW h
     rw [cellsOf_e hl] at h
     obtain ⟨v,h1,h2⟩:=optK_ok (o':=addrOff p.1 (eV (.one (.dp row 0)))) h fun v hv=>addrOff_e hv
     refine OKQ.some hp (OKQ.pure ?_ h2)
     rw [hρ];exact h1
    ·cases h
   ·obtain ⟨v,h1,h2⟩:=optK_ok (o':=addrOff p.1 (eV (ρ x))) h fun v hv=>addrOff_e hv
    exact OKQ.some hp (OKQ.pure h1 h2)
  ·cases h
 | field s x f =>
  simp only [op3] at h
  simp only [aop]
  split at h
  ·rename_i p cs hp hx
   obtain ⟨v,h1,h2⟩:=optK_ok (o':=getCells p.2.2 p.2.1 p.1 (eLs cs)) h fun v hv=>by rw [getCells_e,hv];rfl
   refine OKQ.some hp ?_
   have:eV (ρ x)=.agg (eLs cs):=by rw [hx];simp [eV]
   simp only [this]
   exact OKQ.pure h1 h2
  ·cases h
 | indexAddr t x ix =>
  simp only [op3] at h
  simp only [aop]
  split at h
  ·rename_i i hi
   have hi':eV (ρ ix)=.one (eL i):=by rw [hi];simp [eV]
   split at h
   ·rename_i p hp
    split at h
    ·rename_i s hs
     obtain ⟨kk,z,h1,h2⟩:=indexK_ok (e:=p.2) h
     refine OKQ.some (a:=(kk,z)) (by rw [hi'];exact h1) ?_
     simp only [hp]
     exact OKQ.some hs h2
    ·cases h
   ·rename_i hp
    split at h
    ·rename_i e he
     split at h
     ·rename_i s hs
      obtain ⟨kk,z,h1,h2⟩:=indexK_ok (e:=0) h
      refine OKQ.some (a:=(kk,z)) (by rw [hi'];exact h1) ?_
      simp only [hp,he]
      exact OKQ.some hs h2
     ·cases h
    ·cases h
  ·cases h
 | makeMap t rr =>
  cases rr with
  | some _=>simp [op3,real] at h
  | none =>
   simp only [op3] at h
   simp only [aop]
   split at h
   ·rename_i kd g hk hg
    refine OKQ.cond _ (by simp [hk]) (OKQ.some hg ?_)
    split at h
    ·rename_i a b c d ho
     have ho2:(.mp a b c d:O)=.mp g [] [] true:=by
      obtain ⟨e,_,h3⟩:=Option.bind_eq_some_iff.1 ho
      unfold mapO at h3
      split at h3
      ·obtain ⟨_,_,h4⟩:=Option.map_eq_some_iff.1 h3;cases h4
      ·cases h3
      ·exact (Option.some.inj h3).symm
     rw [ho2] at ho
     refine OKQ.some ho ?_
     have:=fresh3_ok (v':=fun key=>.one (.mk key)) h (fun q=>by simp [eV,eL])
     simpa [eO,real,show mapL (O.mp g [] [] true)=fun key=>V.one (L.mk key) from rfl] using this
    ·rename_i a b ho
     have ho2:(.ml a b:O)=.ml [] []:=by
      obtain ⟨e,_,h3⟩:=Option.bind_eq_some_iff.1 ho
      unfold mapO at h3
      split at h3
      ·obtain ⟨_,_,h4⟩:=Option.map_eq_some_iff.1 h3;cases h4
      ·exact (Option.some.inj h3).symm
      ·cases h3
     rw [ho2] at ho
     refine OKQ.some ho ?_
     have:=fresh3_ok (v':=fun key=>.one (.mq key)) h (fun q=>by simp [eV,eL])
     simpa [eO,eLs,show mapL (O.ml [] [])=fun key=>V.one (L.mq key) from rfl] using this
    ·rename_i a b s t' ho
     have ho2:(.am a b s t':O)=.am [] [] s t':=by
      obtain ⟨e,_,h3⟩:=Option.bind_eq_some_iff.1 ho
      unfold mapO at h3
      split at h3
      ·obtain ⟨_,_,h4⟩:=Option.map_eq_some_iff.1 h3;cases h4;rfl
      ·cases h3
      ·cases h3
     rw [ho2] at ho
     refine OKQ.some ho ?_
     have:=fresh3_ok (v':=fun key=>.one (.mq key)) h (fun q=>by simp [eV,eL])
     simpa [eO,real,show mapL (O.am [] [] s t')=fun key=>V.one (L.mq key) from rfl] using this
    ·cases h
   ·cases h
 | lookup t x ix ok =>
  simp only [op3] at h
  simp only [aop]
  split at h
  ·rename_i kd e hk he
   split at h
   ·rename_i g zs key hg hz hkey
    split at h
    ·rename_i hzs
     split at h
     ·rename_i q hq
      split at h
      ·rename_i hok
       obtain ⟨v,h1,h2,h3⟩:=lookPK_ok h
       subst h1
       have hx':eV (ρ x)=.one (.mq q):=by rw [hq];rfl
       refine OKQ.some hk (OKQ.some he (OKQ.some hg (OKQ.some hz (OKQ.some (a:=v) (by simp [scal1_e hkey,V.lit?]) ?_))))
       simp only [hx']
       exact OKQ.cond _ (by simp only [Bool.and_eq_true] at hok;simp [h2,hzs,hok.1,hok.2]) h3
      ·cases h
     ·rename_i hnq
      obtain ⟨v,h1,h2,h3⟩:=lookK_ok h
      subst h1
      refine OKQ.some hk (OKQ.some he (OKQ.some hg (OKQ.some hz (OKQ.some (a:=v) (by simp [scal1_e hkey,V.lit?]) ?_))))
      split
      ·rename_i q hq;exact absurd (eV_mq hq) (hnq q)
      ·exact OKQ.cond _ (by simp [h2,hzs]) h3
    ·cases h
   ·cases h
  ·cases h
 | mapUpdate t q kk v =>
  simp only [op3] at h
  simp only [aop]
  split at h
  ·rename_i kd g hk hg
   rcases hme:melemC P t with _ | e
   ·rw [hme] at hg;cases hg
   rw [hme] at hg
   split at h
   ·rename_i r0 hq
    split at h
    ·rename_i x hx
     obtain ⟨kv,h1,h2⟩:=updPK_ok (g:=g) h
     have hq':eV (ρ q)=.one (.mq r0):=by rw [hq];rfl
     refine OKQ.some hk (OKQ.some rfl (OKQ.some hg (OKQ.some (a:=kv) (by rw [hx];simp [eV,h1,V.lit?]) ?_)))
     rw [hq'];exact h2
    ·cases h
   ·split at h
    ·rename_i key hkey
     obtain ⟨kv,h1,h2⟩:=updK_ok h
     subst h1
     exact OKQ.some hk (OKQ.some rfl (OKQ.some hg (OKQ.some (a:=kv) (by simp [scal1_e hkey,V.lit?]) h2)))
    ·cases h
  ·cases h
 | insert t q kk v =>
  simp only [op3] at h
  simp only [aop]
  split at h
  ·rename_i kd g hk hg
   rcases hme:melemC P t with _ | e
   ·rw [hme] at hg;cases hg
   rw [hme] at hg
   split at h
   ·rename_i r0 hq
    split at h
    ·rename_i x hx
     obtain ⟨kv,h1,h2⟩:=updPK_ok (g:=g) h
     have hq':eV (ρ q)=.one (.mq r0):=by rw [hq];rfl
     refine OKQ.some hk (OKQ.some rfl (OKQ.some hg (OKQ.some (a:=kv) (by rw [hx];simp [eV,h1,V.lit?]) ?_)))
     rw [hq'];exact h2
    ·cases h
   ·split at h
    ·rename_i key hkey
     obtain ⟨kv,h1,h2⟩:=updK_ok h
     subst h1
     exact OKQ.some hk (OKQ.some rfl (OKQ.some hg (OKQ.some (a:=kv) (by simp [scal1_e hkey,V.lit?]) h2)))
    ·cases h
  ·cases h
 | extract t i =>
  simp only [op3] at h
  simp only [aop]
  split at h
  ·rename_i vs hρ
   obtain ⟨v,h1,h2⟩:=optK_ok (o':=(eVs vs)[i]?) h fun v hv=>by rw [eVs_map,List.getElem?_map,hv];rfl
   have:eV (ρ t)=.tup (eVs vs):=by rw [hρ];simp [eV]
   simp only [this]
   exact OKQ.pure h1 h2
  ·cases h
 | call c=>exact callOpK_ok h
 | _=>simp [op3,real] at h
end Go.VE
