/- An evaluator whose data are abstract: what is known before the data is worked out, the rest is handed to a record of operations. -/
import Derived.Test.YtaagapoglhndjaaGreatDoorMc
namespace Go.VE
open Go.RowKit
section
inductive L3 (Δ N:Type) where
 | d (x:Δ)
 | b (v:Bool)
 | i (k:IntKind) (n:Int)
 | nil
 | dp (row:List Δ) (off:Nat)
 | fn (f:Nat) (caps:List (L3 Δ N))
 | slk (k:Nat) (off:Option N) (n c:N)
 | pa (k:Nat) (i:N) (off:Nat) (c:N)
 | ptr (k off:Nat)
 | mk (k:Nat)
 | mq (k:Nat)
 | pb (k:Nat) (j off:N)
 | px (k base n es:Nat) (i:N) (off:Nat)
 | np
 | sln (k:Nat) (n:N)
 | undef
inductive V3 (Δ N:Type) where
 | one (x:L3 Δ N)
 | agg (xs:List (L3 Δ N))
 | tup (xs:List (V3 Δ N))
inductive O3 (Δ N R M:Type) where
 | box (cells:List (L3 Δ N)) (elem:Nat)
 | arr (rows:R) (size elem:Nat) (own:Bool)
 | mp (agg:Bool) (m:M) (own:Bool)
 | ml (keys:List Value) (vals:List (L3 Δ N))
 | am (m:M) (size elem:Nat)
 | arn (rows:R) (size elem:Nat) (own:Bool)
structure S3 (Δ N R M:Type) where
 env:List (Nat×V3 Δ N)
 ob:List (Nat×O3 Δ N R M)
 ys:List Nat
 pend:Option Ex
instance {Δ N:Type}:Inhabited (L3 Δ N):=⟨.undef⟩
instance {Δ N:Type}:Inhabited (V3 Δ N):=⟨.one .undef⟩
inductive Y (Δ N R M:Type) where
 | d (x:Δ)
 | n (x:N)
 | r (x:R)
 | m (x:M)
abbrev Sk:=S3 Unit Unit Unit Unit
inductive Sh where
 | one
 | agg (n:Nat)
 | ptr (n:Nat)
 | met (name:String) (n:Nat)
inductive RK where
 | d
 | own (size elem:Nat)
 | om (agg:Bool)
abbrev RS:=List (Bool×List RK)
structure Pr (Δ N R W M E Ω:Type) where
 fail:Ω
 out:Nat→List (Y Δ N R M)→Ω
 bnd:Ω→List (E→Ω)→Ω
 loop:List ((Nat→List (Y Δ N R M)→Ω)→E→Ω)→Nat→List (Y Δ N R M)→Ω
 call:Nat→List Δ→Ω
 callD:Δ→List Sh→List Δ→Ω
 miss:Nat→Nat→Nat→Nat→List Nat→Ex→S3 Δ N R M→RS→Ω
 cond:Δ→Ω→Ω→Ω
 ld:E→Nat→Δ
 ln:E→Nat→N
 lr:E→Nat→R
 lm:E→Nat→M
 lit:Value→Δ
 natD:N→Δ
 dN:Δ→N
 natN:Nat→N
 addN:N→N→N
 slD:Nat→R→Δ
 slN:Nat→R→Δ
 dpD:List Δ→Nat→Δ
 fnD:Nat→List Δ→Δ
 mpD:Bool→M→Δ
 ifD:Nat→Bool→List Δ→Δ
 len:R→N
 rows:List (List Δ)→R
 repl:N→List Δ→R
 app:R→R→R
 seg:R→Option N→N→R
 setR:R→N→List Δ→R
 emp:M
 cell:W→Nat→Δ
 eqN:N→N→Ω→Ω
 leN:N→N→Ω→Ω
 nilD:Δ→Ω→Ω
 ptrW:Nat→Δ→(W→Ω)→Ω
 isPtr:Δ→Ω→Ω
 rowAt:Nat→R→N→(W→Ω)→Ω
 bin:BinOp→Bool→Δ→Δ→(Δ→Ω)→Ω
 un:UnOp→Δ→(Δ→Ω)→Ω
 eqs:List Bool→Bool→List Δ→List Δ→(Δ→Ω)→Ω
 mm:Bool→Δ→Δ→(Δ→Ω)→Ω
 mkN:Nat→Δ→Δ→(N→Ω)→Ω
 gap:Nat→Δ→(N→Ω)→Ω
 cut:Option Δ→Option Δ→N→(N→N→Ω)→Ω→Ω
 cutD:Nat→Δ→Option Δ→Option Δ→(Δ→Ω)→Ω
 cutNil:Option Δ→Option Δ→Ω→Ω
 selI:Nat→Δ→List Ω→Ω
 inx:Δ→N→(N→Ω)→Ω
 rowD:Nat→Δ→Δ→(W→Ω)→Ω
 lenD:Δ→(Δ→Ω)→Ω
 lenS:Δ→(Δ→Ω)→Ω
 rowsD:Nat→Δ→(R→Ω)→Ω
 isNil:R→Ω→Ω→Ω
 fits:Nat→N→Ω→Ω
 asM:Bool→Δ→(M→Ω)→Ω
 look:Nat→List Value→M→Δ→(W→Δ→Ω)→Ω
 upd:Nat→M→Δ→List Δ→(M→Ω)→Ω
 lits:List (Y Δ N R M)→Ω→Ω
 cvI:IntKind→Δ→(Δ→Ω)→Ω
 nilE:Δ→Ω→Ω→Ω
 ins:Δ→R→R→(R→Ω)→Ω
 mulN:Nat→N→N
 minN:N→N→N
 cellN:W→N→Nat→Δ
 selN:N→List Δ→Δ
 updN:N→Nat→Δ→Δ→Δ
 mrows:M→R
 mset:M→R→M
 setRC:R→N→N→List Δ→R
 find:Nat→M→Δ→(N→Ω)→Ω→Ω
 addK:Nat→M→Δ→N→(M→Ω)→Ω
 selK:Nat→List Value→Δ→List Ω→Ω
section
variable {Δ N R W M E Ω:Type} (pr:Pr Δ N R W M E Ω)
def dc:List (Nat×V3 Δ N)→Nat→V3 Δ N
 | [],_=>.one .undef
 | (k,v)::r,t=>if t=k then v else dc r t
def aX:List (Nat×O3 Δ N R M)→Nat→Option (O3 Δ N R M)
 | [],_=>none
 | (k,o)::r,j=>if j=k then some o else aX r j
def cD:List (Nat×O3 Δ N R M)→List (Nat×O3 Δ N R M)→List (Nat×O3 Δ N R M)
 | [],ob=>ob
 | (k,o)::r,ob=>cD r ((k,o)::ob)
mutual
def L3.keysOf:L3 Δ N→List Nat
 | .slk k _ _ _=>[k]
 | .pa k _ _ _=>[k]
 | .ptr k _=>[k]
 | .mk k=>[k]
 | .mq k=>[k]
 | .pb k _ _=>[k]
 | .px k _ _ _ _ _=>[k]
 | .sln k _=>[k]
 | .fn _ caps=>L3.keysF caps
 | _=>[]
def L3.keysF:List (L3 Δ N)→List Nat
 | []=>[]
 | x::xs=>x.keysOf++L3.keysF xs
end
mutual
def V3.keysOf:V3 Δ N→List Nat
 | .one x=>x.keysOf
 | .agg xs=>L3.keysF xs
 | .tup xs=>V3.keysF xs
def V3.keysF:List (V3 Δ N)→List Nat
 | []=>[]
 | x::xs=>x.keysOf++V3.keysF xs
end
def O3.keysOf:O3 Δ N R M→List Nat
 | .box cells _=>L3.keysF cells
 | .ml _ vals=>L3.keysF vals
 | _=>[]
def qr (ob:List (Nat×O3 Δ N R M)):List Nat→List (Nat×O3 Δ N R M)
 | []=>[]
 | k::ks=>match aX ob k with
  | some o=>(k,o)::qr ob ks
  | none=>qr ob ks
def kF (ob:List (Nat×O3 Δ N R M)):List Nat→List Nat
 | []=>[]
 | k::ks=>match aX ob k with
  | some o=>o.keysOf++kF ob ks
  | none=>kF ob ks
def td (ob:List (Nat×O3 Δ N R M)):Nat→List Nat→List Nat
 | 0,ks=>ks
 | n+1,ks=>td ob n (gv (kF ob ks) ks)
def tP (pk:List Nat) (vs:List (V3 Δ N)) (ob:List (Nat×O3 Δ N R M)):Option (List (Nat×O3 Δ N R M)) :=
 let ks:=td ob 6 (gv (V3.keysF vs) pk)
 let ob':=qr ob ks
 if (vs.all fun v=>v.keysOf.all fun k=>ks.contains k)&&(ob'.all fun p=>p.2.keysOf.all fun k=>ks.contains k) then some ob' else none
def tC:Value→L3 Δ N
 | .bool v=>.b v
 | .int k n=>.i k n
 | .slice none 0 0=>.nil
 | .pointer none=>.np
 | v=>.d (pr.lit v)
def u0:Value→V3 Δ N
 | .agg cs=>if cs.toList.all plain then .agg (cs.toList.map (tC pr)) else .one .undef
 | v=>if plain v then .one (tC pr v) else .one .undef
def wV (env:List (Nat×V3 Δ N)):Operand→V3 Δ N
 | .tmp t=>dc env t
 | .const v=>u0 pr v
 | .global _=>.one .undef
 | .func f=>if f < 2000000 then .one (.fn f []) else .one .undef
def dE:L3 Δ N→Option Δ
 | .d x=>some x
 | .b v=>some (pr.lit (.bool v))
 | .i k n=>some (pr.lit (.int k n))
 | .nil=>some (pr.lit (.slice none 0 0))
 | .np=>some (pr.lit (.pointer none))
 | .dp row off=>some (pr.dpD row off)
 | _=>none
def iL:V3 Δ N→Option Δ
 | .one x=>dE pr x
 | _=>none
def gh:List (L3 Δ N)→Option (List Δ)
 | []=>some []
 | x::xs=>match dE pr x,gh xs with
  | some y,some ys=>some (y::ys)
  | _,_=>none
def rK (ρ:Operand→V3 Δ N):Option Operand→Option (Option Δ)
 | none=>some none
 | some x=>match iL pr (ρ x) with
  | some y=>some (some y)
  | none=>none
def rL (ρ:Operand→V3 Δ N):List Operand→Option (List Δ)
 | []=>some []
 | x::xs=>match iL pr (ρ x),rL ρ xs with
  | some y,some ys=>some (y::ys)
  | _,_=>none
def L3.isDef:L3 Δ N→Bool | .undef=>false | _=>true
def V3.cells:V3 Δ N→Option (List (L3 Δ N))
 | .one x=>if x.isDef then some [x] else none
 | .agg xs=>if xs.all L3.isDef then some xs else none
 | .tup _=>none
def v6 (agg:Bool) (xs:List (L3 Δ N)):Option (V3 Δ N):=match agg,xs with
 | true,xs=>some (.agg xs)
 | false,[x]=>some (.one x)
 | false,_=>none
def eB (agg:Bool) (s off:Nat) (cells:List (L3 Δ N)):Option (V3 Δ N) :=
 if agg then (if off+s≤cells.length then some (.agg ((cells.drop off).take s)) else none)
 else match cells[off]? with
  | some x=>some (.one x)
  | none=>none
def zU (place:Nat→Option (Nat×Nat)) (cells:List (L3 Δ N)):List (Nat×V3 Δ N)→Option (List (L3 Δ N))
 | []=>some cells
 | (i,v)::rest=>match place i,v.cells with
  | some (off,size),some cs=>if cs.length=size∧off+size≤cells.length then zU place (cells.take off++cs++cells.drop (off+size)) rest else none
  | _,_=>none
def kV (n:Nat):V3 Δ N→Option (V3 Δ N)
 | .one (.ptr k off)=>some (.one (.ptr k (off+n)))
 | .one (.pa k i off c)=>some (.one (.pa k i (off+n) c))
 | .one (.dp r off)=>some (.one (.dp r (off+n)))
 | .one (.pb k j off)=>some (.one (.pb k j (pr.addN off (pr.natN n))))
 | .one (.px k b m es i off)=>some (.one (.px k b m es i (off+n)))
 | _=>none
def i5:List (V3 Δ N)→Option (List (L3 Δ N))
 | []=>some []
 | .one x::r=>if x.isDef then (match i5 r with
  | some xs=>some (x::xs)
  | none=>none) else none
 | _::_=>none
def cellsOf (size:Nat) (r:W):List Δ:=(List.range size).map (pr.cell r)
abbrev dx (Δ N R M:Type):=List (Nat×O3 Δ N R M)
abbrev K3 (Δ N R M Ω:Type):=V3 Δ N→dx Δ N R M→List Nat→Ω
def ly (o:Option (V3 Δ N)) (rd:List Nat) (k:K3 Δ N R M Ω):Ω:=match o with
 | some v=>k v [] rd
 | none=>pr.fail
def ep (ob:dx Δ N R M) (dst:Option Nat) (o:O3 Δ N R M) (v:Nat→V3 Δ N) (k:K3 Δ N R M Ω):Ω:=match dst with
 | some key=>match aX ob key with
  | none=>k (v key) [(key,o)] [key]
  | some _=>pr.fail
 | none=>pr.fail
def tS (ob:dx Δ N R M) (x:L3 Δ N) (k:Δ→dx Δ N R M→List Nat→Ω):Ω:=match x with
 | .slk key off n c=>match aX ob key with
  | some (.arr rows size elem _)=>pr.eqN c (pr.len rows) (k (pr.slD size (pr.seg rows off n)) [(key,.arr rows size elem false)] [key])
  | _=>pr.fail
 | .mk key=>match aX ob key with
  | some (.mp agg m _)=>k (pr.mpD agg m) [(key,.mp agg m false)] [key]
  | _=>pr.fail
 | .sln key n=>match aX ob key with
  | some (.arn rows size elem _)=>pr.eqN n (pr.len rows) (k (pr.slN size rows) [(key,.arn rows size elem false)] [key])
  | _=>pr.fail
 | x=>match dE pr x with
  | some y=>k y [] []
  | none=>pr.fail
def oH (ob:dx Δ N R M):List (L3 Δ N)→(List Δ→dx Δ N R M→List Nat→Ω)→Ω
 | [],k=>k [] [] []
 | x::xs,k=>tS pr ob x fun d u rd=>oH ob xs fun ds us rd'=>k (d::ds) (u++us) (rd++rd')
def ol (rec:L3 Δ N→(Δ→List Nat→Ω)→Ω):List (L3 Δ N)→(List Δ→List Nat→Ω)→Ω
 | [],k=>k [] []
 | x::xs,k=>rec x fun d rd=>ol rec xs fun ds rd'=>k (d::ds) (rd++rd')
def dD (ob:dx Δ N R M):Nat→L3 Δ N→(Δ→List Nat→Ω)→Ω
 | _,.slk key off n' c,k=>match aX ob key with
  | some (.arr rows size _ _)=>pr.eqN c (pr.len rows) (k (pr.slD size (pr.seg rows off n')) [key])
  | _=>pr.fail
 | _,.pa key i off c,k=>match aX ob key with
  | some (.arr rows size _ _)=>pr.eqN c (pr.len rows) (pr.rowAt size rows i fun r=>k (pr.dpD (cellsOf pr size r) off) [key])
  | some (.arn rows size _ _)=>pr.eqN c (pr.len rows) (pr.rowAt size rows i fun r=>k (pr.dpD (cellsOf pr size r) off) [key])
  | _=>pr.fail
 | _,.mk key,k=>match aX ob key with
  | some (.mp agg m _)=>k (pr.mpD agg m) [key]
  | _=>pr.fail
 | _,.sln key n',k=>match aX ob key with
  | some (.arn rows size _ _)=>pr.eqN n' (pr.len rows) (k (pr.slN size rows) [key])
  | _=>pr.fail
 | n+1,.ptr key off,k=>match aX ob key with
  | some (.box cells _)=>ol (dD ob n) cells fun ds rd=>k (pr.dpD ds off) (key::rd)
  | _=>pr.fail
 | n+1,.fn f caps,k=>ol (dD ob n) caps fun ds rd=>k (pr.fnD f ds) rd
 | _,x,k=>match dE pr x with
  | some y=>k y []
  | none=>pr.fail
def colX (cells:List (L3 Δ N)) (base n es o:Nat):Option (List Δ):=gh pr ((List.range n).map fun q=>cells.getD (base+q*es+o) .undef)
def vK (cells:List (L3 Δ N)) (base n es:Nat) (i:N):Nat→Nat→Option (List (L3 Δ N))
 | _,0=>some []
 | o,s+1=>match colX pr cells base n es o,vK cells base n es i (o+1) s with
  | some ds,some xs=>some (.d (pr.selN i ds)::xs)
  | _,_=>none
def HI (i:N) (q:Nat) (x:L3 Δ N) (new:Option Δ):L3 Δ N:=match dE pr x,new with
 | some old,some nw=>.d (pr.updN i q nw old)
 | _,_=>.undef
def uR (i:N) (base n es off:Nat) (ds:List Δ) (cells:List (L3 Δ N)):List (L3 Δ N):=cells.zipIdx.map fun p =>
 if base≤p.2∧p.2 < base+n*es∧off≤(p.2 - base) % es∧(p.2 - base) % es < off+ds.length then HI pr i ((p.2 - base) / es) p.1 ds[(p.2 - base) % es - off]? else p.1
def zo (agg:Bool) (s:Nat) (ob:dx Δ N R M) (x:V3 Δ N) (k:K3 Δ N R M Ω):Ω:=match x with
 | .one (.ptr key off)=>match aX ob key with
  | some (.box cells _)=>ly pr (eB agg s off cells) [key] k
  | _=>pr.fail
 | .one (.pa key i off c)=>match aX ob key with
  | some (.arr rows size _ _)=>pr.eqN c (pr.len rows) (pr.rowAt size rows i fun r=>ly pr (eB agg s off ((cellsOf pr size r).map .d)) [key] k)
  | some (.arn rows size _ _)=>pr.eqN c (pr.len rows) (pr.rowAt size rows i fun r=>ly pr (eB agg s off ((cellsOf pr size r).map .d)) [key] k)
  | _=>pr.fail
 | .one (.dp row off)=>ly pr (eB agg s off (row.map .d)) [] k
 | .one (.pb key j off)=>match aX ob key with
  | some (.am m size _)=>pr.rowAt size (pr.mrows m) j fun r=>pr.leN (pr.addN off (pr.natN s)) (pr.natN size) (ly pr (v6 agg ((List.range s).map fun i=>.d (pr.cellN r off i))) [key] k)
  | _=>pr.fail
 | .one (.px key b n es i off)=>match aX ob key with
  | some (.box cells _)=>if b+n*es≤cells.length∧off+s≤es then (match vK pr cells b n es i off s with
   | some xs=>pr.leN (pr.addN i (pr.natN 1)) (pr.natN n) (ly pr (v6 agg xs) [key] k)
   | none=>pr.fail) else pr.fail
  | _=>pr.fail
 | _=>pr.fail
def xk (ob:dx Δ N R M) (x:V3 Δ N) (cs:List (L3 Δ N)) (k:K3 Δ N R M Ω):Ω:=match x with
 | .one (.ptr key off)=>match aX ob key with
  | some (.box cells elem)=>if off+cs.length≤cells.length then k (.one .undef) [(key,.box (cells.take off++cs++cells.drop (off+cs.length)) elem)] [key] else pr.fail
  | _=>pr.fail
 | .one (.pa key i off c)=>match aX ob key with
  | some (.arr rows size elem own)=>match own with
   | true=>pr.eqN c (pr.len rows) (pr.rowAt size rows i fun r=>oH pr ob cs fun ds us rd=>match us with
    | []=>if off+ds.length≤size then k (.one .undef) [(key,.arr (pr.setR rows i ((cellsOf pr size r).take off++ds++(cellsOf pr size r).drop (off+ds.length))) size elem own)] (key::rd) else pr.fail
    | _=>pr.fail)
   | false=>pr.fail
  | _=>pr.fail
 | .one (.pb key j off)=>match aX ob key with
  | some (.am m size elem)=>match gh pr cs with
   | some ds=>pr.rowAt size (pr.mrows m) j fun _=>pr.leN (pr.addN off (pr.natN ds.length)) (pr.natN size) (k (.one .undef) [(key,.am (pr.mset m (pr.setRC (pr.mrows m) j off ds)) size elem)] [key])
   | none=>pr.fail
  | _=>pr.fail
 | .one (.px key b n es i off)=>match aX ob key with
  | some (.box cells elem)=>match gh pr cs with
   | some ds=>if b+n*es≤cells.length∧off+ds.length≤es∧(uR pr i b n es off ds cells).all L3.isDef=true∧0 < es then pr.leN (pr.addN i (pr.natN 1)) (pr.natN n) (k (.one .undef) [(key,.box (uR pr i b n es off ds cells) elem)] [key]) else pr.fail
   | none=>pr.fail
  | _=>pr.fail
 | _=>pr.fail
def B6 (es:Nat) (x:V3 Δ N) (k:K3 Δ N R M Ω) (j:Nat):Ω:=ly pr (kV pr (j*es) x) [] k
def tJ (arr:Option Nat) (es:Nat) (ob:dx Δ N R M) (x:V3 Δ N) (i:L3 Δ N) (k:K3 Δ N R M Ω):Ω:=match arr with
 | some n=>match i with
  | .i _ z=>if 0≤z∧z < n then B6 pr es x k z.toNat else pr.fail
  | .d y=>match x with
   | .one (.pb key j off)=>pr.inx y (pr.natN n) fun i=>k (.one (.pb key j (pr.addN off (pr.mulN es i)))) [] []
   | .one (.ptr key off)=>match aX ob key with
    | some (.box cells _)=>match gh pr ((cells.drop off).take (n*es)) with
     | some _=>pr.inx y (pr.natN n) fun i=>k (.one (.px key off n es i 0)) [] []
     | none=>pr.selI n y ((List.range n).map (B6 pr es x k))
    | _=>pr.fail
   | _=>pr.selI n y ((List.range n).map (B6 pr es x k))
  | _=>pr.fail
 | none=>match dE pr i with
  | none=>pr.fail
  | some y=>match x with
   | .one (.slk key off n c)=>match aX ob key with
    | some (.arr rows size _ _)=>if size=es then pr.eqN c (pr.len rows) (pr.inx y n fun j=>k (.one (.pa key (match off with | none=>j | some o=>pr.addN o j) 0 c)) [] [key]) else pr.fail
    | _=>pr.fail
   | .one (.sln key n)=>match aX ob key with
    | some (.arn rows size _ _)=>if size=es then pr.eqN n (pr.len rows) (pr.inx y n fun j=>k (.one (.pa key j 0 n)) [] [key]) else pr.fail
    | _=>pr.fail
   | .one (.d z)=>pr.rowD es z y fun r=>k (.one (.dp (cellsOf pr es r) 0)) [] []
   | _=>pr.fail
def Ij (es:Nat) (ob:dx Δ N R M) (x:V3 Δ N) (l h:Option Δ) (k:K3 Δ N R M Ω):Ω:=match x with
 | .one (.slk key off n c)=>match aX ob key with
  | some (.arr rows size _ _)=>if size=es then pr.eqN c (pr.len rows) (match l with
    | none=>pr.cut l h n (fun _ m=>k (.one (.slk key off m c)) [] [key]) pr.fail
    | some _=>pr.cut l h n (fun o m=>k (.one (.slk key (some (match off with | none=>o | some o'=>pr.addN o' o)) m c)) [] [key]) (k (.one (.d (pr.slD es (pr.rows [])))) [] [key])) else pr.fail
  | _=>pr.fail
 | .one (.d y)=>pr.cutD es y l h fun z=>k (.one (.d z)) [] []
 | .one .nil=>pr.cutNil l h (k (.one .nil) [] [])
 | _=>pr.fail
def yL (ob:dx Δ N R M) (size n:Nat) (rows:List (List Δ)):List (Nat×V3 Δ N)→(List (List Δ)→dx Δ N R M→List Nat→Ω)→Ω
 | [],k=>k rows [] []
 | (i,v)::rest,k=>match v.cells with
  | none=>pr.fail
  | some cs=>if cs.length=size∧i < n then oH pr ob cs fun ds us rd=>yL ob size n (rows.set i ds) rest fun rows' us' rd'=>k rows' (us++us') (rd++rd') else pr.fail
def EH (es:Nat) (ob:dx Δ N R M) (x:V3 Δ N) (k:R→List Nat→Ω):Ω:=match x with
 | .one .nil=>k (pr.rows []) []
 | .one (.d y)=>pr.rowsD es y fun r=>k r []
 | .one (.slk key off n c)=>match aX ob key with
  | some (.arr rows size _ _)=>if size=es then pr.eqN c (pr.len rows) (k (pr.seg rows off n) [key]) else pr.fail
  | _=>pr.fail
 | .one (.sln key n)=>match aX ob key with
  | some (.arn rows size _ _)=>if size=es then pr.eqN n (pr.len rows) (k rows [key]) else pr.fail
  | _=>pr.fail
 | _=>pr.fail
def pv (ob:dx Δ N R M) (dst:Option Nat) (elem size bytes:Nat) (s:V3 Δ N) (new:R) (rd:List Nat) (k:K3 Δ N R M Ω):Ω :=
 pr.isNil new (k s [] rd) (pr.fits bytes (pr.len new) (ep pr ob dst (.arr new size elem true) (fun key=>.one (.slk key none (pr.len new) (pr.len new))) fun v u rd'=>k v u (rd++rd')))
def ub (ob:dx Δ N R M) (dst:Option Nat) (elem size bytes:Nat) (s:V3 Δ N) (new:R) (rd:List Nat) (k:K3 Δ N R M Ω):Ω:=match s with
 | .one .nil=>pv pr ob dst elem size bytes (.one .nil) new rd k
 | .one (.d y)=>pr.nilD y (pv pr ob dst elem size bytes (.one .nil) new rd k)
 | .one (.slk key none n c)=>match aX ob key with
  | some (.arr rows size' elem' own)=>match own with
   | true=>if size'=size∧elem'=elem then pr.eqN c (pr.len rows) (pr.eqN n (pr.len rows) (pr.fits bytes (pr.addN n (pr.len new)) (k (.one (.slk key none (pr.addN n (pr.len new)) (pr.addN n (pr.len new)))) [(key,.arr (pr.app rows new) size elem true)] (rd++[key])))) else pr.fail
   | false=>pr.fail
  | _=>pr.fail
 | .one (.sln key n)=>match aX ob key with
  | some (.arn rows size' elem' own)=>match own with
   | true=>if size'=size∧elem'=elem then pr.eqN n (pr.len rows) (pr.fits bytes (pr.addN n (pr.len new)) (k (.one (.sln key (pr.addN n (pr.len new)))) [(key,.arn (pr.app rows new) size elem true)] (rd++[key]))) else pr.fail
   | false=>pr.fail
  | _=>pr.fail
 | _=>pr.fail
def xH (kd:Nat) (zs:List Value) (ob:dx Δ N R M) (q:Nat) (key:Δ) (k:K3 Δ N R M Ω):Ω:=match aX ob q with
 | some (.ml keys vals)=>pr.selK kd keys key (vals.map fun x=>k (.one x) [] [q])
 | some (.am m _ _)=>pr.find kd m key (fun j=>k (.one (.pb q j (pr.natN 0))) [] [q]) (match zs with
  | [z]=>k (.one (tC pr z)) [] [q]
  | _=>pr.fail)
 | _=>pr.fail
def CW (kd:Nat) (agg ok:Bool) (zs:List Value) (ob:dx Δ N R M) (x:V3 Δ N) (key:Δ) (k:K3 Δ N R M Ω):Ω :=
 let lG:=fun (m:M) (rd:List Nat)=>pr.look kd zs m key fun r f=>match v6 agg ((cellsOf pr zs.length r).map .d) with
  | some v=>k (if ok then .tup [v,.one (.d f)] else v) [] rd
  | none=>pr.fail
 match x with
  | .one (.d y)=>pr.asM agg y fun m=>lG m []
  | .one (.mk q)=>match aX ob q with
   | some (.mp agg' m _)=>if agg==agg' then lG m [q] else pr.fail
   | _=>pr.fail
  | _=>pr.fail
def D6:V3 Δ N→Bool | .agg _=>true | _=>false
def EE (kd:Nat) (agg:Bool) (ob:dx Δ N R M) (x:V3 Δ N) (key:Δ) (v:V3 Δ N) (k:K3 Δ N R M Ω):Ω:=match x with
 | .one (.mk q)=>match aX ob q with
  | some (.mp agg' m own)=>if (own&&agg==agg'&&D6 v==agg)=true then (match v.cells with
   | none=>pr.fail
   | some cs=>oH pr ob cs fun ds us rd=>match us with
    | []=>pr.upd kd m key ds fun m'=>k (.one .undef) [(q,.mp agg m' true)] (q::rd)
    | _=>pr.fail) else pr.fail
  | _=>pr.fail
 | _=>pr.fail
def HW:L3 Δ N→Option Value
 | .i k n=>some (.int k n)
 | .b v=>some (.bool v)
 | _=>none
def yD (kd:Nat) (ob:dx Δ N R M) (q:Nat) (key:L3 Δ N) (v:V3 Δ N) (k:K3 Δ N R M Ω):Ω:=match aX ob q with
 | some (.ml keys vals)=>match HW key,v with
  | some kv,.one x=>if (fC kd kv&&x.isDef)=true then (match d4 kd kv keys 0 with
   | some none=>k (.one .undef) [(q,.ml (keys++[kv]) (vals++[x]))] [q]
   | _=>pr.fail) else pr.fail
  | _,_=>pr.fail
 | some (.am m size elem)=>match dE pr key,v with
  | some y,.one (.pb q' j off)=>if q'=q then pr.eqN off (pr.natN 0) (pr.addK kd m y j fun m'=>k (.one .undef) [(q,.am m' size elem)] [q]) else pr.fail
  | _,_=>pr.fail
 | _=>pr.fail
def mmK (mx:Bool):Δ→List Δ→(Δ→Ω)→Ω
 | a,[],k=>k a
 | a,y::r,k=>pr.mm mx a y fun z=>mmK mx z r k
def Iq (P:Program) (op:BinOp) (t:Nat) (x y:V3 Δ N) (k:K3 Δ N R M Ω):Ω:=match x,y with
 | .one x,.one y=>if (cg P t).isSome=true then (match op,y,dE pr x with
  | .eql,.nil,some a=>pr.nilE a (k (.one (.b true)) [] []) (k (.one (.b false)) [] [])
  | .neq,.nil,some a=>pr.nilE a (k (.one (.b false)) [] []) (k (.one (.b true)) [] [])
  | _,_,_=>pr.fail) else if HJ P t=true then (match op,x,y with
  | .eql,.np,.np=>k (.one (.b true)) [] []
  | .neq,.np,.np=>k (.one (.b false)) [] []
  | .eql,.pb _ _ _,.np=>k (.one (.b false)) [] []
  | .neq,.pb _ _ _,.np=>k (.one (.b true)) [] []
  | _,_,_=>pr.fail) else match dE pr x,dE pr y with
  | some a,some b=>pr.bin op (Ac P t) a b fun z=>k (.one (.d z)) [] []
  | _,_=>pr.fail
 | .agg xs,.agg ys=>match kO P 8 t,gh pr xs,gh pr ys with
  | some ks,some xs,some ys=>if dq P t=some true then (match op with
   | .eql=>pr.eqs ks false xs ys fun z=>k (.one (.d z)) [] []
   | .neq=>pr.eqs ks true xs ys fun z=>k (.one (.d z)) [] []
   | _=>pr.fail) else pr.fail
  | _,_,_=>pr.fail
 | _,_=>pr.fail
def u4 (P:Program) (ob:dx Δ N R M) (dst:Option Nat) (ρ:Operand→V3 Δ N) (c:Call) (k:K3 Δ N R M Ω):Ω:=match c.callee with
 | .builtin .len=>match c.args.toList with
  | [x]=>match c.argTypes.toList with
   | [t]=>match cg P t with
    | some _=>match ρ x with
     | .one (.slk _ _ n _)=>k (.one (.d (pr.natD n))) [] []
     | .one (.sln _ n)=>k (.one (.d (pr.natD n))) [] []
     | .one .nil=>k (.one (.i .i64 0)) [] []
     | .one (.d y)=>pr.lenD y fun z=>k (.one (.d z)) [] []
     | _=>pr.fail
    | none=>if Hj P t=true then (match iL pr (ρ x) with
     | some y=>pr.lenS y fun z=>k (.one (.d z)) [] []
     | none=>pr.fail) else pr.fail
   | _=>pr.fail
  | _=>pr.fail
 | .builtin .cap=>match c.args.toList,c.argTypes.toList with
  | [x],[t]=>match ρ x with
   | .one .nil=>if (cg P t).isSome=true then k (.one (.i .i64 0)) [] [] else pr.fail
   | .one (.d y)=>if (cg P t).isSome=true then pr.nilD y (k (.one (.i .i64 0)) [] []) else pr.fail
   | _=>pr.fail
  | _,_=>pr.fail
 | .builtin .clear=>match c.args.toList,c.argTypes.toList with
  | [x],[t]=>match (cg P t).bind (cx P) with
   | some zs=>if 0 < zs.length then (match ρ x with
    | .one .nil=>k (.tup []) [] []
    | .one (.d y)=>pr.nilD y (k (.tup []) [] [])
    | .one (.slk key off n c)=>match aX ob key with
     | some (.arr rows size elem true)=>if size=zs.length then pr.eqN c (pr.len rows) (pr.eqN (match off with | none=>n | some o=>pr.addN o n) (pr.len rows) (k (.tup []) [(key,.arr (match off with | none=>pr.repl n (zs.map pr.lit) | some o=>pr.app (pr.seg rows none o) (pr.repl n (zs.map pr.lit))) size elem true)] [key])) else pr.fail
     | _=>pr.fail
    | _=>pr.fail) else pr.fail
   | none=>pr.fail
  | _,_=>pr.fail
 | .builtin .copy=>match c.args.toList,c.argTypes.toList with
  | [x,y],[t,t']=>match cg P t with
   | some e=>match bq P e with
    | some sz=>if t=t'∧0 < sz then EH pr sz ob (ρ y) fun new rd=>(match ρ x with
     | .one (.slk key none n c)=>match aX ob key with
      | some (.arr rows size elem true)=>if size=sz then pr.eqN c (pr.len rows) (pr.eqN n (pr.len rows) (k (.one (.d (pr.natD (pr.minN n (pr.len new))))) [(key,.arr (pr.app (pr.seg new none n) (pr.seg rows (some (pr.len new)) n)) size elem true)] (rd++[key]))) else pr.fail
      | _=>pr.fail
     | _=>pr.fail) else pr.fail
    | none=>pr.fail
   | none=>pr.fail
  | _,_=>pr.fail
 | .builtin .min=>match rL pr ρ c.args.toList with
  | some (a::r)=>mmK pr false a r fun z=>k (.one (.d z)) [] []
  | _=>pr.fail
 | .builtin .max=>match rL pr ρ c.args.toList with
  | some (a::r)=>mmK pr true a r fun z=>k (.one (.d z)) [] []
  | _=>pr.fail
 | .builtin .append=>match c.args.toList,c.argTypes.toList with
  | [s,x],[t,t']=>match cg P t with
   | none=>pr.fail
   | some e=>match bq P e,gI P e,cx P e with
    | some sz,some bs,some zs=>match rx P t' with
     | some _=>match ρ s,iL pr (ρ x) with
      | .one .nil,some y=>if 0 < sz∧zs.length=sz then pr.gap bs y fun n=>ep pr ob dst (.arr (pr.repl n (zs.map pr.lit)) sz e true) (fun key=>.one (.slk key none n n)) k else pr.fail
      | .one (.d x),some y=>if 0 < sz∧zs.length=sz then pr.nilD x (pr.gap bs y fun n=>ep pr ob dst (.arr (pr.repl n (zs.map pr.lit)) sz e true) (fun key=>.one (.slk key none n n)) k) else pr.fail
      | _,_=>pr.fail
     | none=>if t=t'∧0 < sz∧0 < bs∧zs.length=sz then EH pr sz ob (ρ x) fun new rd=>ub pr ob dst e sz bs (ρ s) new rd k else pr.fail
    | _,_,_=>pr.fail
  | _,_=>pr.fail
 | _=>pr.fail
def nI (P:Program) (ob:dx Δ N R M) (dst:Option Nat) (ρ:Operand→V3 Δ N) (op:Op) (k:K3 Δ N R M Ω):Ω:=match op with
 | .move x=>k (ρ x) [] []
 | .assign x=>k (ρ x) [] []
 | .pick c a b=>match ρ c with
  | .one (.b true)=>k (ρ a) [] []
  | .one (.b false)=>k (ρ b) [] []
  | .one (.d y)=>pr.cond y (k (ρ a) [] []) (k (ρ b) [] [])
  | _=>pr.fail
 | .box elem x=>match (ρ x).cells with
  | some cs=>match dst with
   | none=>oH pr ob cs fun ds us rd=>k (.one (.dp ds 0)) us rd
   | some key=>match aX ob key with
    | some (.am m size elem')=>match gh pr cs with
     | some ds=>if elem'=elem∧cs.length=size then k (.one (.pb key (pr.len (pr.mrows m)) (pr.natN 0))) [(key,.am (pr.mset m (pr.app (pr.mrows m) (pr.rows [ds]))) size elem)] [key] else pr.fail
     | none=>pr.fail
    | _=>ep pr ob dst (.box cs elem) (fun key=>.one (.ptr key 0)) k
  | none=>pr.fail
 | .alloc elem=>match cx P elem with
  | some zs=>ep pr ob dst (.box (zs.map (tC pr)) elem) (fun key=>.one (.ptr key 0)) k
  | none=>pr.fail
 | .build t parts=>match cx P t with
  | some zs=>if (dq P t==some true&&D1 P t)=true then (match zU (kE P t) (zs.map (tC pr)) (parts.toList.map fun p=>(p.1,ρ p.2)) with
   | some cs=>k (.agg cs) [] []
   | none=>pr.fail) else pr.fail
  | none=>pr.fail
 | .buildSlice t len parts=>match cg P t with
  | none=>pr.fail
  | some e=>match bq P e,cx P e with
   | some s,some zs=>if 0 < s∧zs.length=s∧len*s≤16777216 then yL pr ob s len (List.replicate len (zs.map pr.lit)) (parts.toList.map fun p=>(p.1,ρ p.2)) fun rows us rd =>
     match dst with
     | some _=>ep pr ob dst (.arr (pr.rows rows) s e true) (fun key=>.one (.slk key none (pr.natN len) (pr.natN len))) fun v u rd'=>k v (us++u) (rd++rd')
     | none=>k (.one (.d (pr.slD s (pr.rows rows)))) us rd else pr.fail
   | _,_=>pr.fail
 | .load t a=>match dq P t,bq P t with
  | some g,some s=>zo pr g s ob (ρ a) k
  | _,_=>pr.fail
 | .store t a x=>match (ρ x).cells with
  | some cs=>if (bq P t==some cs.length)=true then xk pr ob (ρ a) cs k else pr.fail
  | none=>pr.fail
 | .nilCheck x=>match ρ x with
  | .one (.ptr ..)=>k (ρ x) [] []
  | .one (.pa ..)=>k (ρ x) [] []
  | .one (.dp ..)=>k (ρ x) [] []
  | .one (.pb ..)=>k (ρ x) [] []
  | .one (.px ..)=>k (ρ x) [] []
  | .one (.d y)=>pr.isPtr y (k (ρ x) [] [])
  | _=>pr.fail
 | .binOp op t x y _=>Iq pr P op t (ρ x) (ρ y) k
 | .unOp op _ x=>match op,ρ x with
  | .not,.one (.b v)=>k (.one (.b !v)) [] []
  | .not,.one (.d y)=>pr.un .not y fun z=>k (.one (.d z)) [] []
  | .neg,v=>match iL pr v with
   | some y=>pr.un .neg y fun z=>k (.one (.d z)) [] []
   | none=>pr.fail
  | _,_=>pr.fail
 | .makeFunc fn first captured=>match fn,i5 (first.toList.map ρ),i5 (captured.toList.map ρ) with
  | .func f,some [],some caps=>if f < 2000000 then k (.one (.fn f caps)) [] [] else pr.fail
  | .func f,some (c::cs),some []=>k (.one (.fn (f+2000000) (c::cs))) [] []
  | _,_,_=>pr.fail
 | .makeInterface t x=>if FL P t=true then (match dq P t,ρ x with
  | some false,.one y=>match dE pr y with
   | some z=>k (.one (.d (pr.ifD t false [z]))) [] []
   | none=>pr.fail
  | some true,.agg ys=>match gh pr ys with
   | some zs=>k (.one (.d (pr.ifD t true zs))) [] []
   | none=>pr.fail
  | _,_=>pr.fail) else pr.fail
 | .makeSlice t l c=>match cg P t with
  | none=>pr.fail
  | some e=>match bq P e,cx P e,gI P e with
   | some s,some zs,some bs=>match iL pr (ρ l),iL pr (ρ c) with
    | some n,some m=>if 0 < s∧zs.length=s then pr.mkN bs n m fun n=>ep pr ob dst (.arr (pr.repl n (zs.map pr.lit)) s e true) (fun key=>.one (.slk key none n n)) k else pr.fail
    | _,_=>pr.fail
   | _,_,_=>pr.fail
 | .slice t x lo hi mx=>match cg P t,mx with
  | some e,none=>match rK pr ρ lo,rK pr ρ hi,bq P e with
   | some l,some h,some s=>Ij pr s ob (ρ x) l h k
   | _,_,_=>pr.fail
  | _,_=>pr.fail
 | .fieldAddr s x f=>match jX P s f with
  | some p=>match ρ x with
   | .one (.d y)=>match bq P s with
    | some n=>pr.ptrW n y fun w=>ly pr (kV pr p.1 (.one (.dp (cellsOf pr n w) 0))) [] k
    | none=>pr.fail
   | v=>ly pr (kV pr p.1 v) [] k
  | none=>pr.fail
 | .field s x f=>match jX P s f,ρ x with
  | some p,.agg cs=>ly pr (eB p.2.2 p.2.1 p.1 cs) [] k
  | _,_=>pr.fail
 | .indexAddr t x ix=>match ρ ix with
  | .one i=>match u9 P t with
   | some p=>match bq P p.2 with
    | some s=>tJ pr (some p.1) s ob (ρ x) i k
    | none=>pr.fail
   | none=>match cg P t with
    | some e=>match bq P e with
     | some s=>tJ pr none s ob (ρ x) i k
     | none=>pr.fail
    | none=>pr.fail
  | _=>pr.fail
 | .index t x ix=>match u9 P t with
  | some p=>match bq P p.2,dq P p.2,ρ x with
   | some s,some g,.agg cs=>match ρ ix with
    | .one (.i _ z)=>if 0≤z∧z < p.1 then ly pr (eB g s (z.toNat*s) cs) [] k else pr.fail
    | .one (.d y)=>match gh pr cs with
     | some ds=>if ds.length=p.1*s then pr.inx y (pr.natN p.1) fun i=>ly pr (v6 g ((List.range s).map fun q=>.d (pr.selN i ((List.range p.1).map fun j=>ds.getD (j*s+q) (pr.lit .nilFunc))))) [] k else pr.fail
     | none=>pr.selI p.1 y ((List.range p.1).map fun j=>ly pr (eB g s (j*s) cs) [] k)
    | _=>pr.fail
   | _,_,_=>pr.fail
  | none=>pr.fail
 | .convert src dst x=>match rx P src,rx P dst,iL pr (ρ x) with
  | some _,some kd,some y=>pr.cvI kd y fun z=>k (.one (.d z)) [] []
  | _,_,_=>pr.fail
 | .makeMap t none=>match mT P t,(eJ P t).bind (dq P) with
  | some _,some g=>match (eJ P t).bind fun e=>xG P e g with
   | some (.mp ..)=>ep pr ob dst (.mp g pr.emp true) (fun key=>.one (.mk key)) k
   | some (.ml ..)=>ep pr ob dst (.ml [] []) (fun key=>.one (.mq key)) k
   | some (.am _ _ s t')=>ep pr ob dst (.am pr.emp s t') (fun key=>.one (.mq key)) k
   | _=>pr.fail
  | _,_=>pr.fail
 | .lookup t x ix ok=>match mT P t,eJ P t with
  | some kd,some e=>match dq P e,cx P e,iL pr (ρ ix) with
   | some g,some zs,some key=>if nv P e g=true then (match ρ x with
    | .one (.mq q)=>if (!ok&&!g)=true then xH pr kd zs ob q key k else pr.fail
    | v=>CW pr kd g ok zs ob v key k) else pr.fail
   | _,_,_=>pr.fail
  | _,_=>pr.fail
 | .mapUpdate t m q v=>match mT P t,(eJ P t).bind (dq P) with
  | some kd,some g=>match ρ m with
   | .one (.mq r)=>match ρ q with
    | .one x=>yD pr kd ob r x (ρ v) k
    | _=>pr.fail
   | u=>match iL pr (ρ q) with
    | some key=>EE pr kd g ob u key (ρ v) k
    | none=>pr.fail
  | _,_=>pr.fail
 | .insert t m q v=>match mT P t,(eJ P t).bind (dq P) with
  | some kd,some g=>match ρ m with
   | .one (.mq r)=>match ρ q with
    | .one x=>yD pr kd ob r x (ρ v) k
    | _=>pr.fail
   | u=>match iL pr (ρ q) with
    | some key=>EE pr kd g ob u key (ρ v) k
    | none=>pr.fail
  | _,_=>pr.fail
 | .extract t i=>match ρ t with
  | .tup vs=>ly pr vs[i]? [] k
  | _=>pr.fail
 | .call c=>u4 pr P ob dst ρ c k
 | _=>pr.fail
end
end
section
section
variable {Δ N R W M E Ω:Type} (pr:Pr Δ N R W M E Ω)
def Cd (a b:Value):Bool:=BL 0 a b==some true||BL 1 a b==some true||BL 2 a b==some true
def nE:List Value→List Value→Bool
 | [],[]=>true
 | a::as,b::bs=>Cd a b&&nE as bs
 | _,_=>false
mutual
def gW:L3 Unit Unit→L3 Δ N→Option (List (Y Δ N R M))
 | .d _,x=>match dE pr x with
  | some y=>some [.d y]
  | none=>none
 | .b v,.b v'=>if v=v' then some [] else none
 | .i k n,.i k' n'=>if k=k'∧n=n' then some [] else none
 | .nil,.nil=>some []
 | .dp r o,.dp r' o'=>if r.length=r'.length∧o=o' then some (r'.map .d) else none
 | .fn f cs,.fn f' cs'=>if f=f' then mZ cs cs' else none
 | .slk k none _ _,.slk k' none n c=>if k=k' then some [.n n,.n c] else none
 | .slk k (some _) _ _,.slk k' (some o) n c=>if k=k' then some [.n o,.n n,.n c] else none
 | .slk k (some _) _ _,.slk k' none n c=>if k=k' then some [.n (pr.natN 0),.n n,.n c] else none
 | .pa k _ o _,.pa k' i o' c=>if k=k'∧o=o' then some [.n i,.n c] else none
 | .ptr k o,.ptr k' o'=>if k=k'∧o=o' then some [] else none
 | .mk k,.mk k'=>if k=k' then some [] else none
 | .mq k,.mq k'=>if k=k' then some [] else none
 | .pb k _ _,.pb k' j o=>if k=k' then some [.n j,.n o] else none
 | .px k b n es _ o,.px k' b' n' es' i o'=>if k=k'∧b=b'∧n=n'∧es=es'∧o=o' then some [.n i] else none
 | .np,.np=>some []
 | .sln k _,.sln k' n=>if k=k' then some [.n n] else none
 | .undef,.undef=>some []
 | _,_=>none
def mZ:List (L3 Unit Unit)→List (L3 Δ N)→Option (List (Y Δ N R M))
 | [],[]=>some []
 | x::xs,y::ys=>match gW x y,mZ xs ys with
  | some a,some b=>some (a++b)
  | _,_=>none
 | _,_=>none
end
mutual
def oY:V3 Unit Unit→V3 Δ N→Option (List (Y Δ N R M))
 | .one x,.one y=>gW pr x y
 | .agg xs,.agg ys=>mZ pr xs ys
 | .tup xs,.tup ys=>sv xs ys
 | _,_=>none
def sv:List (V3 Unit Unit)→List (V3 Δ N)→Option (List (Y Δ N R M))
 | [],[]=>some []
 | x::xs,y::ys=>match oY x y,sv xs ys with
  | some a,some b=>some (a++b)
  | _,_=>none
 | _,_=>none
end
def Ia:O3 Unit Unit Unit Unit→O3 Δ N R M→Option (List (Y Δ N R M))
 | .box cs e,.box cs' e'=>if e=e' then mZ pr cs cs' else none
 | .arr _ s e o,.arr rows s' e' o'=>if s=s'∧e=e'∧o=o' then some [.r rows] else none
 | .mp g _ o,.mp g' m o'=>if g=g'∧o=o' then some [.m m] else none
 | .ml ks cs,.ml ks' cs'=>if nE ks ks'=true then mZ pr cs cs' else none
 | .am _ s e,.am m s' e'=>if s=s'∧e=e' then some [.m m] else none
 | .arn _ s e o,.arn rows s' e' o'=>if s=s'∧e=e'∧o=o' then some [.r rows] else none
 | _,_=>none
def I9 (s:V3 Unit Unit) (x:V3 Δ N):Option (List (Y Δ N R M)):=match s with
 | .one .undef=>some []
 | s=>oY pr s x
def qD (env:List (Nat×V3 Δ N)):List (Nat×V3 Unit Unit)→Option (List (Y Δ N R M))
 | []=>some []
 | (t,v)::r=>match I9 pr v (dc env t),qD env r with
  | some a,some b=>some (a++b)
  | _,_=>none
def zK (ob:dx Δ N R M):dx Unit Unit Unit Unit→Option (List (Y Δ N R M))
 | []=>some []
 | (k,o)::r=>match aX ob k with
  | some o'=>match Ia pr o o',zK ob r with
   | some a,some b=>some (a++b)
   | _,_=>none
  | none=>none
def C7 (sk:Sk):Bool:=(sk.env.all fun p=>p.2.keysOf.all fun k=>(sk.ob.map (·.1)).contains k)&&(sk.ob.all fun p=>p.2.keysOf.all fun k=>(sk.ob.map (·.1)).contains k)
def Fv:Ex→Ex→Bool
 | .normal,.normal=>true
 | .ret,.ret=>true
 | .exit i,.exit j=>i==j
 | _,_=>false
def xz:Option Ex→Option Ex→Bool
 | none,none=>true
 | some a,some b=>Fv a b
 | _,_=>false
def tX (pk:List Nat) (sk:Sk) (st:S3 Δ N R M):Option (List (Y Δ N R M)) :=
 if (C7 sk&&pk.all (sk.ob.map (·.1)).contains&&xz sk.pend st.pend&&sk.ys.all st.ys.contains)=true then
  match qD pr st.env sk.env,zK pr st.ob sk.ob with
  | some a,some b=>some (a++b)
  | _,_=>none
 else none
def md (pk:List Nat) (st:S3 Δ N R M):List Sk→Nat→Option (Nat×List (Y Δ N R M))
 | [],_=>none
 | sk::r,j=>match tX pr pk sk st with
  | some ys=>some (j,ys)
  | none=>md pk st r (j+1)
def sw (pk:List Nat) (e:Ex) (st:S3 Δ N R M):List (Ex×Sk)→Nat→Option (Nat×List (Y Δ N R M))
 | [],_=>none
 | (x,sk)::r,j=>if Fv x e=true then (match tX pr pk sk st with
  | some ys=>some (j,ys)
  | none=>sw pk e st r (j+1)) else sw pk e st r (j+1)
mutual
def bx (e:E):L3 Unit Unit→Nat→L3 Δ N×Nat
 | .d _,j=>(.d (pr.ld e j),j+1)
 | .b v,j=>(.b v,j)
 | .i k n,j=>(.i k n,j)
 | .nil,j=>(.nil,j)
 | .dp r o,j=>(.dp ((List.range r.length).map fun i=>pr.ld e (j+i)) o,j+r.length)
 | .fn f cs,j=>(.fn f (dv e cs j).1,(dv e cs j).2)
 | .slk k none _ _,j=>(.slk k none (pr.ln e j) (pr.ln e (j+1)),j+2)
 | .slk k (some _) _ _,j=>(.slk k (some (pr.ln e j)) (pr.ln e (j+1)) (pr.ln e (j+2)),j+3)
 | .pa k _ o _,j=>(.pa k (pr.ln e j) o (pr.ln e (j+1)),j+2)
 | .ptr k o,j=>(.ptr k o,j)
 | .mk k,j=>(.mk k,j)
 | .mq k,j=>(.mq k,j)
 | .pb k _ _,j=>(.pb k (pr.ln e j) (pr.ln e (j+1)),j+2)
 | .px k b n es _ o,j=>(.px k b n es (pr.ln e j) o,j+1)
 | .np,j=>(.np,j)
 | .sln k _,j=>(.sln k (pr.ln e j),j+1)
 | .undef,j=>(.undef,j)
def dv (e:E):List (L3 Unit Unit)→Nat→List (L3 Δ N)×Nat
 | [],j=>([],j)
 | x::xs,j=>((bx e x j).1::(dv e xs (bx e x j).2).1,(dv e xs (bx e x j).2).2)
end
mutual
def dm (e:E):V3 Unit Unit→Nat→V3 Δ N×Nat
 | .one x,j=>(.one (bx pr e x j).1,(bx pr e x j).2)
 | .agg xs,j=>(.agg (dv pr e xs j).1,(dv pr e xs j).2)
 | .tup xs,j=>(.tup (fZ e xs j).1,(fZ e xs j).2)
def fZ (e:E):List (V3 Unit Unit)→Nat→List (V3 Δ N)×Nat
 | [],j=>([],j)
 | x::xs,j=>((dm e x j).1::(fZ e xs (dm e x j).2).1,(fZ e xs (dm e x j).2).2)
end
def eu (e:E):O3 Unit Unit Unit Unit→Nat→O3 Δ N R M×Nat
 | .box cs el,j=>(.box (dv pr e cs j).1 el,(dv pr e cs j).2)
 | .arr _ s el o,j=>(.arr (pr.lr e j) s el o,j+1)
 | .mp g _ o,j=>(.mp g (pr.lm e j) o,j+1)
 | .ml ks cs,j=>(.ml ks (dv pr e cs j).1,(dv pr e cs j).2)
 | .am _ s el,j=>(.am (pr.lm e j) s el,j+1)
 | .arn _ s el o,j=>(.arn (pr.lr e j) s el o,j+1)
def ef (e:E):List (Nat×V3 Unit Unit)→Nat→List (Nat×V3 Δ N)×Nat
 | [],j=>([],j)
 | (t,v)::r,j=>((t,(dm pr e v j).1)::(ef e r (dm pr e v j).2).1,(ef e r (dm pr e v j).2).2)
def iq (e:E):dx Unit Unit Unit Unit→Nat→dx Δ N R M×Nat
 | [],j=>([],j)
 | (k,o)::r,j=>((k,(eu pr e o j).1)::(iq e r (eu pr e o j).2).1,(iq e r (eu pr e o j).2).2)
def eH (e:E) (sk:Sk):S3 Δ N R M :=
 ⟨(ef pr e sk.env 0).1,(iq pr e sk.ob (ef pr e sk.env 0).2).1,sk.ys,sk.pend⟩
def ot (P:Program) (ob:dx Δ N R M) (env:List (Nat×V3 Δ N)):List ResultVar→(List (V3 Δ N)→Ω)→Ω
 | [],k=>k []
 | .tmp t::r,k=>ot P ob env r fun vs=>k (dc env t::vs)
 | .cell a T::r,k=>match dq P T,bq P T with
  | some g,some s=>zo pr g s ob (dc env a) fun v _ _=>ot P ob env r fun vs=>k (v::vs)
  | _,_=>pr.fail
def rcK (ob:dx Δ N R M):RK→L3 Δ N→(Y Δ N R M→List Nat→Ω)→Ω
 | .d,.slk key none n c,k=>match aX ob key with
  | some (.arr rows size _ _)=>pr.eqN c (pr.len rows) (pr.leN n (pr.len rows) (k (.d (pr.slD size (pr.seg rows none n))) [key]))
  | _=>pr.fail
 | .own s e,.slk key none n c,k=>match aX ob key with
  | some (.arr rows size elem true)=>if s=size∧e=elem then pr.eqN c (pr.len rows) (pr.leN n (pr.len rows) (k (.r (pr.seg rows none n)) [key])) else pr.fail
  | _=>pr.fail
 | .d,.mk key,k=>match aX ob key with
  | some (.mp agg m _)=>k (.d (pr.mpD agg m)) [key]
  | _=>pr.fail
 | .om g,.mk key,k=>match aX ob key with
  | some (.mp agg m true)=>if g=agg then k (.m m) [key] else pr.fail
  | _=>pr.fail
 | .d,x,k=>match dE pr x with
  | some y=>k (.d y) []
  | none=>pr.fail
 | _,_,_=>pr.fail
def Cv (ob:dx Δ N R M):List RK→List (L3 Δ N)→(List (Y Δ N R M)→List Nat→Ω)→Ω
 | [],[],k=>k [] []
 | r::rs,x::xs,k=>rcK pr ob r x fun y u=>Cv ob rs xs fun ys us=>k (y::ys) (u++us)
 | _,_,_=>pr.fail
def iI (ob:dx Δ N R M):RS→List (V3 Δ N)→(List (Y Δ N R M)→List Nat→Ω)→Ω
 | [],[],k=>k [] []
 | (false,[r])::rs,.one x::vs,k=>rcK pr ob r x fun y u=>iI ob rs vs fun ys us=>k (y::ys) (u++us)
 | (true,r)::rs,.agg xs::vs,k=>Cv pr ob r xs fun y u=>iI ob rs vs fun ys us=>k (y++ys) (u++us)
 | _,_,_=>pr.fail
def Gz (ob:dx Δ N R M):RK→L3 Δ N→Bool
 | .d,.undef=>false
 | .d,_=>true
 | .own s e,.slk key none _ _=>match aX ob key with
  | some (.arr _ size elem own)=>own&&s==size&&e==elem
  | _=>false
 | .om g,.mk key=>match aX ob key with
  | some (.mp agg _ own)=>own&&g==agg
  | _=>false
 | _,_=>false
def tf (ob:dx Δ N R M):List RK→List (L3 Δ N)→Bool
 | [],[]=>true
 | r::rs,x::xs=>Gz ob r x&&tf ob rs xs
 | _,_=>false
def lM (ob:dx Δ N R M):RS→List (V3 Δ N)→Bool
 | [],[]=>true
 | (false,[r])::rs,.one x::vs=>Gz ob r x&&lM ob rs vs
 | (true,r)::rs,.agg xs::vs=>tf ob r xs&&lM ob rs vs
 | _,_=>false
def RK.isD:RK→Bool | .d=>true | _=>false
def FQ (rs:RS):Bool:=rs.all fun p=>p.2.all RK.isD
def pS (ob:dx Δ N R M) (vs:List (V3 Δ N)):List RS→Nat→Option (Nat×RS)
 | [],_=>none
 | x::r,j=>if lM ob x vs=true then some (j,x) else pS ob vs r (j+1)
def GK (ob:dx Δ N R M):L3 Δ N→RK
 | .slk key none _ _=>match aX ob key with
  | some (.arr _ size elem true)=>.own size elem
  | _=>.d
 | .mk key=>match aX ob key with
  | some (.mp agg _ true)=>.om agg
  | _=>.d
 | _=>.d
def GJ (ob:dx Δ N R M):V3 Δ N→Bool×List RK
 | .one x=>(false,[GK ob x])
 | .agg xs=>(true,xs.map (GK ob))
 | .tup _=>(false,[])
def uH (ob:dx Δ N R M):List (V3 Δ N)→(List (Y Δ N R M)→Ω)→Ω
 | [],k=>k []
 | .one x::vs,k=>dD pr ob 4 x fun y _=>uH ob vs fun ys=>k (.d y::ys)
 | .agg xs::vs,k=>ol (dD pr ob 4) xs fun y _=>uH ob vs fun ys=>k (y.map .d++ys)
 | .tup _::_,_=>pr.fail
def ii:List Nat→Bool
 | []=>true
 | x::xs=>!xs.contains x&&ii xs
def mP (e:E) (base:Nat):RK→Nat→Nat→L3 Δ N×dx Δ N R M×Nat
 | .d,j,n=>(.d (pr.ld e j),[],n)
 | .own size elem,j,n=>(.slk (base+n) none (pr.len (pr.lr e j)) (pr.len (pr.lr e j)),[(base+n,.arr (pr.lr e j) size elem true)],n+1)
 | .om agg,j,n=>(.mk (base+n),[(base+n,.mp agg (pr.lm e j) true)],n+1)
def dK (e:E) (base:Nat):List RK→Nat→Nat→List (L3 Δ N)×dx Δ N R M×Nat
 | [],_,n=>([],[],n)
 | x::xs,j,n=>((mP pr e base x j n).1::(dK e base xs (j+1) (mP pr e base x j n).2.2).1,(mP pr e base x j n).2.1++(dK e base xs (j+1) (mP pr e base x j n).2.2).2.1,(dK e base xs (j+1) (mP pr e base x j n).2.2).2.2)
def AQ (g:Bool) (xs:List (L3 Δ N)):V3 Δ N:=match g,xs with
 | false,[x]=>.one x
 | _,xs=>.agg xs
def cj (e:E) (base:Nat):RS→Nat→Nat→List (V3 Δ N)×dx Δ N R M×Nat
 | [],_,n=>([],[],n)
 | (g,cs)::r,j,n=>(AQ g (dK pr e base cs j n).1::(cj e base r (j+cs.length) (dK pr e base cs j n).2.2).1,(dK pr e base cs j n).2.1++(cj e base r (j+cs.length) (dK pr e base cs j n).2.2).2.1,(cj e base r (j+cs.length) (dK pr e base cs j n).2.2).2.2)
def eI:List (V3 Δ N)→V3 Δ N
 | [x]=>x
 | xs=>.tup xs
def ni (ob:dx Δ N R M):dx Δ N R M→Bool
 | []=>true
 | (k,_)::r=>(match aX ob k with | none=>true | some _=>false)&&ni ob r
def ne:List Sh→List Δ→Option (List (V3 Δ N))
 | [],[]=>some []
 | .one::r,x::xs=>match ne r xs with
  | some vs=>some (.one (.d x)::vs)
  | none=>none
 | .agg n::r,xs=>if (xs.take n).length=n then (match ne r (xs.drop n) with
  | some vs=>some (.agg ((xs.take n).map .d)::vs)
  | none=>none) else none
 | .ptr n::r,xs=>if (xs.take n).length=n then (match ne r (xs.drop n) with
  | some vs=>some (.one (.dp (xs.take n) 0)::vs)
  | none=>none) else none
 | _,_=>none
def iA (ob:dx Δ N R M):List Sh→List (V3 Δ N)→(List Δ→List Nat→Ω)→Ω
 | [],[],k=>k [] []
 | .one::r,.one x::vs,k=>dD pr ob 4 x fun d rd=>iA ob r vs fun ds rd'=>k (d::ds) (rd++rd')
 | .agg n::r,.agg xs::vs,k=>if xs.length=n then ol (dD pr ob 4) xs fun d rd=>iA ob r vs fun ds rd'=>k (d++ds) (rd++rd') else pr.fail
 | .ptr n::r,.one (.dp row o)::vs,k=>if row.length=n∧o=0 then iA ob r vs fun ds rd'=>k (row++ds) rd' else pr.fail
 | .ptr n::r,.one (.d x)::vs,k=>pr.ptrW n x fun w=>iA ob r vs fun ds rd'=>k (cellsOf pr n w++ds) rd'
 | .ptr n::r,.one (.ptr key o)::vs,k=>match aX ob key with
  | some (.box cells _)=>if cells.length=n∧o=0 then ol (dD pr ob 3) cells fun d rd=>iA ob r vs fun ds rd'=>k (d++ds) (key::rd++rd') else pr.fail
  | _=>pr.fail
 | .ptr n::r,.one (.pa key i o c)::vs,k=>match aX ob key with
  | some (.arr rows size _ _)=>if size=n∧o=0 then pr.eqN c (pr.len rows) (pr.rowAt size rows i fun w=>iA ob r vs fun ds rd'=>k (cellsOf pr size w++ds) (key::rd')) else pr.fail
  | _=>pr.fail
 | _,_,_=>pr.fail
def L3.isD:L3 Δ N→Bool
 | .d _ | .b _ | .i _ _ | .nil | .dp _ _=>true
 | _=>false
def L3.isF:L3 Δ N→Bool
 | .fn _ caps=>caps.all L3.isD
 | x=>x.isD
def V3.isD:V3 Δ N→Bool
 | .one l=>l.isF
 | .agg ls=>ls.all L3.isD
 | .tup _=>false
structure Ms where
 args:List (V3 Unit Unit)
 obs:List (Nat×O3 Unit Unit Unit Unit)
 res:Option (Bool×Nat)
 ref:Option Nat
 wn:Bool
structure Cf3 where
 inl:Nat→Option Bd
 draw:Nat→Nat→Array Oper→List (Nat×Nat)
 lp:Nat→Nat→Nat→List (Sk×List Sk×List (Ex×Sk))
 jn:Nat→Nat→Nat→Option (List (Sk×List (Ex×Sk)))
 gj:Nat→Nat→Nat→Option (Nat×List (Sk×List (Ex×Sk)))
 ash:Nat→Option (List Sh)
 rsk:Nat→List RS
 iv:String→Nat
 ms:Nat→Option Ms
 sp:Nat→Option (Nat×Nat×Nat)
 cb:Nat→Nat→Bool
 fz:Nat→Nat→Nat→List (Option Nat×Nat)
 ar:Nat→Nat→Option Nat
 nz:Nat→Nat→Nat→List ((Option Nat×Nat)×(Nat×Nat×Nat))
def fn3:V3 Δ N→Option (Nat×List (L3 Δ N))
 | .one (.fn f caps)=>if f < 2000000 then some (f,caps) else none
 | _=>none
def xL (e:E) (p:RK×Nat):Y Δ N R M:=match p.1 with
 | .d=>.d (pr.ld e p.2)
 | .own _ _=>.r (pr.lr e p.2)
 | .om _=>.m (pr.lm e p.2)
def Aa (cfg:Cf3) (ob:dx Δ N R M) (dst:Option Nat) (f:Nat) (args:List (V3 Δ N)) (caps:List (L3 Δ N)) (k:K3 Δ N R M Ω):Ω:=match cfg.ash f with
 | none=>pr.fail
 | some sh=>iA pr ob sh (args++caps.map .one) fun ds rd=>pr.bnd (pr.call f ds) ((cfg.rsk f).map fun rs=>fun e =>
   let vs:=(cj pr e (dO dst) rs 0 0).1
   let us:=(cj pr e (dO dst) rs 0 0).2.1
   if ii (us.map (·.1))=true∧ni ob us=true then
    (if (args.all V3.isD&&caps.all L3.isD)=true then k (eI vs) us (rd++us.map (·.1)) else pr.lits ((rs.flatMap (·.2)).zipIdx.map (xL pr e)) (k (eI vs) us (rd++us.map (·.1))))
   else pr.fail)
def Ho:List (V3 Δ N)→Option (List Sh)
 | []=>some []
 | .one (.dp _ _)::_=>none
 | .one (.ptr _ _)::_=>none
 | .one (.pa _ _ _ _)::_=>none
 | .one _::r=>match Ho r with
  | some s=>some (.one::s)
  | none=>none
 | .agg xs::r=>match Ho r with
  | some s=>some (.agg xs.length::s)
  | none=>none
 | .tup _::_=>none
def F6 (cfg:Cf3) (P:Program) (ob:dx Δ N R M) (dst:Option Nat) (ρ:Operand→V3 Δ N) (op:Op) (k:K3 Δ N R M Ω):Ω:=match gw op with
 | some (fo,args)=>match ρ fo with
  | .one (.fn f caps)=>if f < 2000000 then Aa pr cfg ob dst f (args.map ρ) caps k else Aa pr cfg ob dst (f - 2000000) (caps.map .one++args.map ρ) [] k
  | .one (.d x)=>match Ho (args.map ρ) with
   | some sh=>iA pr ob sh (args.map ρ) fun ds rd=>pr.bnd (pr.callD x sh ds) [fun e=>if (args.map ρ).all V3.isD=true then k (.one (.d (pr.ld e 0))) [] rd else pr.lits [.d (pr.ld e 0)] (k (.one (.d (pr.ld e 0))) [] rd)]
   | none=>pr.fail
  | _=>pr.fail
 | none=>match qt op with
  | some (recv,name)=>match ρ recv with
   | .one (.d x)=>pr.bnd (pr.callD x [.met name (cfg.iv name)] []) [fun e =>
    let vs:=(cj pr e (dO dst) (List.replicate (cfg.iv name) (false,[.d])) 0 0).1
    let us:=(cj pr e (dO dst) (List.replicate (cfg.iv name) (false,[.d])) 0 0).2.1
    if ii (us.map (·.1))=true∧ni ob us=true then k (eI vs) us (us.map (·.1)) else pr.fail]
   | _=>pr.fail
  | none=>nI pr P ob dst ρ op k
mutual
def ce (ρ:Nat→Nat):L3 Unit Unit→L3 Δ N→Option (List Δ)
 | .d _,x=>match dE pr x with
  | some y=>some [y]
  | none=>none
 | .fn f cs,.fn f' cs'=>if f=f' then fA ρ cs cs' else none
 | .mk c,.mk k=>if ρ c=k then some [] else none
 | .ptr c o,.ptr k o'=>if ρ c=k∧o=o' then some [] else none
 | .dp r o,.dp row o'=>if r.length=row.length∧o=o' then some row else none
 | .mq c,.mq k=>if ρ c=k then some [] else none
 | .slk c none _ _,.slk k none n c'=>if ρ c=k then some [pr.natD n,pr.natD c'] else none
 | _,_=>none
def fA (ρ:Nat→Nat):List (L3 Unit Unit)→List (L3 Δ N)→Option (List Δ)
 | [],[]=>some []
 | s::ss,x::xs=>match ce ρ s x,fA ρ ss xs with
  | some a,some b=>some (a++b)
  | _,_=>none
 | _,_=>none
end
def kb (ρ:Nat→Nat):V3 Unit Unit→V3 Δ N→Option (List Δ)
 | .one (.slk c none _ _),.one (.slk k none _ _)=>if ρ c=k then some [] else none
 | .one s,.one x=>ce pr ρ s x
 | .agg ss,.agg xs=>fA pr ρ ss xs
 | _,_=>none
def iV (ρ:Nat→Nat):List (V3 Unit Unit)→List (V3 Δ N)→Option (List Δ)
 | [],[]=>some []
 | s::ss,x::xs=>match kb pr ρ s x,iV ρ ss xs with
  | some a,some b=>some (a++b)
  | _,_=>none
 | _,_=>none
def cK (ρ:Nat→Nat) (ob:dx Δ N R M) (wn:Bool):List (Nat×O3 Unit Unit Unit Unit)→Option (List Δ)
 | []=>some []
 | (c,.box cells e)::r=>match aX ob (ρ c) with
  | some (.box cells' e')=>if e=e' then (match fA pr ρ cells cells',cK ρ ob wn r with
   | some a,some b=>some (a++b)
   | _,_=>none) else none
  | _=>none
 | (c,.mp g _ true)::r=>match aX ob (ρ c) with
  | some (.mp g' m true)=>if g=g' then (match cK ρ ob wn r with
   | some b=>some (pr.mpD g m::b)
   | none=>none) else none
  | _=>none
 | (c,.am _ size elem)::r=>match aX ob (ρ c) with
  | some (.am m size' elem')=>if size=size'∧elem=elem' then (match cK ρ ob wn r with
   | some b=>some (pr.mpD true m::b)
   | none=>none) else none
  | _=>none
 | (c,.arr _ size elem _)::r=>match aX ob (ρ c) with
  | some (.arr rows size' elem' own)=>if size=size'∧elem=elem'∧own=wn then (match cK ρ ob wn r with
   | some b=>some (pr.slD size rows::b)
   | none=>none) else none
  | _=>none
 | _=>none
mutual
def fk (dn:Δ→N) (ρ:Nat→Nat):L3 Unit Unit→List Δ→Option (L3 Δ N×List Δ)
 | .d _,x::xs=>some (.d x,xs)
 | .fn f cs,xs=>match gH dn ρ cs xs with
  | some (ys,r)=>some (.fn f ys,r)
  | none=>none
 | .mk c,xs=>some (.mk (ρ c),xs)
 | .mq c,xs=>some (.mq (ρ c),xs)
 | .slk c none _ _,x::y::xs=>some (.slk (ρ c) none (dn x) (dn y),xs)
 | .ptr c o,xs=>some (.ptr (ρ c) o,xs)
 | .dp r o,xs=>if (xs.take r.length).length=r.length then some (.dp (xs.take r.length) o,xs.drop r.length) else none
 | _,_=>none
def gH (dn:Δ→N) (ρ:Nat→Nat):List (L3 Unit Unit)→List Δ→Option (List (L3 Δ N)×List Δ)
 | [],xs=>some ([],xs)
 | s::ss,xs=>match fk dn ρ s xs with
  | some (y,r)=>match gH dn ρ ss r with
   | some (ys,r')=>some (y::ys,r')
   | none=>none
  | none=>none
end
def iZ (ρ:Nat→Nat) (us:dx Δ N R M):V3 Unit Unit→List Δ→Option (V3 Δ N×List Δ)
 | .one (.slk c none _ _),xs=>match aX us (ρ c) with
  | some (.arr rows _ _ _)=>some (.one (.slk (ρ c) none (pr.len rows) (pr.len rows)),xs)
  | _=>none
 | .one s,xs=>match fk pr.dN ρ s xs with
  | some (y,r)=>some (.one y,r)
  | none=>none
 | .agg ss,xs=>match gH pr.dN ρ ss xs with
  | some (ys,r)=>some (.agg ys,r)
  | none=>none
 | _,_=>none
def iS (ρ:Nat→Nat) (us:dx Δ N R M):List (V3 Unit Unit)→List Δ→Option (List (V3 Δ N)×List Δ)
 | [],xs=>some ([],xs)
 | s::ss,xs=>match iZ pr ρ us s xs with
  | some (y,r)=>match iS ρ us ss r with
   | some (ys,r')=>some (y::ys,r')
   | none=>none
  | none=>none
def fP (ρ:Nat→Nat) (wn:Bool):List (Nat×O3 Unit Unit Unit Unit)→List Δ→(dx Δ N R M→List Δ→Ω)→Ω
 | [],xs,k=>k [] xs
 | (c,.box cells e)::r,xs,k=>match gH pr.dN ρ cells xs with
  | some (ys,xs')=>fP ρ wn r xs' fun us zs=>k ((ρ c,.box ys e)::us) zs
  | none=>pr.fail
 | (c,.mp g _ true)::r,x::xs,k=>pr.asM g x fun m=>fP ρ wn r xs fun us zs=>k ((ρ c,.mp g m true)::us) zs
 | (c,.am _ size elem)::r,x::xs,k=>pr.asM true x fun m=>fP ρ wn r xs fun us zs=>k ((ρ c,.am m size elem)::us) zs
 | (c,.arr _ size elem _)::r,x::xs,k=>pr.rowsD size x fun rows=>fP ρ wn r xs fun us zs=>k ((ρ c,.arr rows size elem wn)::us) zs
 | _,_,_=>pr.fail
def kS:List (V3 Unit Unit)→List (V3 Δ N)→List (Nat×N×N)
 | .one (.slk _ none _ _)::ss,.one (.slk k none n c)::xs=>(k,n,c)::kS ss xs
 | _::ss,_::xs=>kS ss xs
 | _,_=>[]
def FM (ob:dx Δ N R M):List (Nat×N×N)→Ω→Ω
 | [],k=>k
 | (key,n,c)::r,k=>match aX ob key with
  | some (.arr rows _ _ _)=>pr.eqN n (pr.len rows) (pr.eqN c (pr.len rows) (FM ob r k))
  | _=>pr.fail
mutual
def Df:L3 Unit Unit→L3 Δ N→List (Nat×Nat)
 | .mk c,.mk k=>[(c,k)]
 | .mq c,.mq k=>[(c,k)]
 | .ptr c _,.ptr k _=>[(c,k)]
 | .slk c _ _ _,.slk k _ _ _=>[(c,k)]
 | .fn _ cs,.fn _ cs'=>pn cs cs'
 | _,_=>[]
def pn:List (L3 Unit Unit)→List (L3 Δ N)→List (Nat×Nat)
 | s::ss,x::xs=>Df s x++pn ss xs
 | _,_=>[]
end
def li:List (V3 Unit Unit)→List (V3 Δ N)→List (Nat×Nat)
 | .one s::ss,.one x::xs=>Df s x++li ss xs
 | .agg s::ss,.agg x::xs=>pn s x++li ss xs
 | _::ss,_::xs=>li ss xs
 | _,_=>[]
def tM (ob:dx Δ N R M) (al:List (Nat×Nat)):List (Nat×O3 Unit Unit Unit Unit)→List (Nat×Nat)
 | []=>[]
 | (c,.box cells _)::r=>(match al.find? (fun p=>p.1==c) with
  | some (_,k)=>match aX ob k with
   | some (.box cells' _)=>pn cells cells'
   | _=>[]
  | none=>[])++tM ob al r
 | _::r=>tM ob al r
def t8 (al:List (Nat×Nat)) (c:Nat):Nat:=match al.find? (fun p=>p.1==c) with
 | some (_,k)=>k
 | none=>c
mutual
def Ik:L3 Unit Unit→Nat
 | .d _=>1
 | .fn _ cs=>vN cs
 | .dp r _=>r.length
 | .slk _ none _ _=>2
 | _=>0
def vN:List (L3 Unit Unit)→Nat
 | []=>0
 | x::xs=>Ik x+vN xs
end
def n9:List (Nat×O3 Unit Unit Unit Unit)→Nat
 | []=>0
 | (_,.box cells _)::r=>vN cells+n9 r
 | (_,_)::r=>1+n9 r
def AR (ms:Ms):Bool :=
 let C:=ms.obs.map (·.1)
 ii C&&(V3.keysF ms.args).all C.contains&&(ms.obs.all fun p=>p.2.keysOf.all C.contains)&&(match ms.ref with | none=>true | some c=>C.contains c)
def xr:Option (Bool×Nat)→Nat
 | none=>0
 | some (_,n)=>n
def kA (e:Nat→Δ):Option (Bool×Nat)→V3 Δ N
 | none=>.tup []
 | some (false,_)=>.one (.d (e 0))
 | some (true,n)=>.agg ((List.range n).map fun i=>.d (e i))
def tq:List (V3 Unit Unit)→List (V3 Δ N)→List (V3 Δ N)
 | .one (.d _)::ss,.one (.fn f cs)::xs=>(match gh pr cs with
  | some ds=>.one (.d (pr.fnD f ds))
  | none=>.one (.fn f cs))::tq ss xs
 | _::ss,x::xs=>x::tq ss xs
 | _,xs=>xs
def xQ:V3 Δ N→Bool
 | .one (.slk ..)=>true
 | _=>false
def Dq (ms:Ms) (args:List (V3 Δ N)):Bool:=if ms.args.isEmpty then args.any xQ else (ms.args.map xQ==args.map xQ)
def pY (f:Nat):Nat:=if f < 300000 then f else if f < 600000 then f - 300000 else f - 600000
def slkL {Δ N:Type}:L3 Δ N→Bool
 | .slk ..=>true
 | _=>false
def sW:List (L3 Unit Unit)→List (L3 Δ N)→Bool
 | [],[]=>true
 | x::xs,y::ys=>match slkL x,slkL y with
  | true,true=>sW xs ys
  | false,false=>sW xs ys
  | _,_=>false
 | _,_=>false
def fitMs (ms:Ms) (args:List (V3 Δ N)) (ob:dx Δ N R M):Bool:=match ms.args,args with
 | .one (.ptr _ _)::_,.one (.ptr k _)::_=>match ms.obs,aX ob k with
  | (_,.box cells _)::_,some (.box cells' _)=>sW cells cells'
  | _,_=>false
 | _,_=>false
def I7 (cfg:Cf3) (f:Nat) (args:List (V3 Δ N)) (ob:dx Δ N R M):Nat:=match cfg.ms f with
 | some ms=>if Dq ms args=true then 0 else match cfg.ms (f+300000) with
  | some ms2=>if (ms2.args.isEmpty||fitMs ms2 args ob)=true then 1 else 2
  | none=>0
 | none=>0
def qG (cfg:Cf3) (f:Nat) (args:List (V3 Δ N)) (ob:dx Δ N R M) (kk:V3 Δ N→dx Δ N R M→List Nat→Ω):Ω:=match cfg.ms f with
 | none=>pr.fail
 | some ms =>
  let args0:=args
  let args:=tq pr ms.args args
  let al:=li ms.args args
  let al:=al++tM ob al ms.obs
  if (AR ms&&ii ((ms.obs.map (·.1)).map (t8 al)))=true then
   match iV pr (t8 al) ms.args args,cK pr (t8 al) ob true ms.obs with
   | some xs,some ys=>FM pr ob (kS ms.args args) (pr.bnd (pr.call (f+1000000) (ys++xs)) [fun e=>fP pr (t8 al) ms.wn ms.obs ((List.range (n9 ms.obs)).map fun i=>pr.ld e (xr ms.res+i)) fun us _=>match ms.ref with
     | none=>kk (kA (pr.ld e) ms.res) us (al.map (·.2)++ms.obs.map fun p=>t8 al p.1)
     | some c=>match aX us (t8 al c) with
      | some (.arr rows _ _ _)=>kk (.one (.slk (t8 al c) none (pr.len rows) (pr.len rows))) us (al.map (·.2)++ms.obs.map fun p=>t8 al p.1)
      | _=>pr.fail])
   | _,_=>pr.miss 8 f 0 0 [] .normal ⟨args0.zipIdx.map fun p=>(p.2,p.1),ob,[],none⟩ []
  else pr.miss 8 f 0 0 [] .normal ⟨args0.zipIdx.map fun p=>(p.2,p.1),ob,[],none⟩ []
def u5 (cfg:Cf3) (f:Nat) (args:List (V3 Δ N)) (ob:dx Δ N R M) (kk:V3 Δ N→dx Δ N R M→List Nat→Ω):Ω:=if f < 300000 then (match I7 cfg f args ob with
  | 0=>qG pr cfg f args ob kk
  | 1=>qG pr cfg (f+300000) args ob kk
  | _=>qG pr cfg (f+600000) args ob kk) else pr.fail
def DE (cfg:Cf3) (f:Nat) (args:List (V3 Δ N)) (ob:dx Δ N R M) (kk:V3 Δ N→dx Δ N R M→Ω):Ω:=u5 pr cfg f args ob fun v us _=>kk v (cD us ob)
def Cm:Option (Bool×Nat)→V3 Δ N→Option (List (L3 Δ N))
 | none,.tup []=>some []
 | some (false,1),.one x=>some [x]
 | some (true,n),.agg xs=>if xs.length=n then some xs else none
 | _,_=>none
def DD (ms:Ms) (v:V3 Δ N) (ob:dx Δ N R M) (k:List (L3 Δ N)→Ω):Ω:=match ms.ref with
 | none=>match Cm ms.res v with
  | none=>pr.fail
  | some cs=>k cs
 | some c=>match v with
  | .one (.slk key none n m)=>if key=c∧ms.res=none∧(ms.obs.map (·.1)).contains c=true then (match aX ob c with
   | some (.arr rows _ _ _)=>pr.eqN n (pr.len rows) (pr.eqN m (pr.len rows) (k []))
   | _=>pr.fail) else pr.fail
  | _=>pr.fail
def Ib (ms:Ms) (ob:dx Δ N R M) (cs:List (L3 Δ N)):Ω:=oH pr ob cs fun ds us _=>match cK pr id (cD us ob) ms.wn ms.obs with
  | some ys=>pr.out 0 ((ds++ys).map .d)
  | none=>pr.fail
def Fq (ms:Ms) (v:V3 Δ N) (ob:dx Δ N R M):Ω:=DD pr ms v ob (Ib pr ms ob)
def nR (ob:dx Δ N R M):Nat→Nat→Nat
 | 0,k=>k
 | n+1,k=>if ob.all fun p=>p.1 != k&&(Nat.blt p.1 (1000*(k+1))||Nat.ble (1000*(k+2)) p.1) then k else nR ob n (k+1000000000)
def yk (cfg:Cf3) (f:Nat) (args:List (V3 Δ N)) (b:Nat) (ob:dx Δ N R M) (kk:V3 Δ N→dx Δ N R M→Ω):Ω:=match cfg.sp f with
 | none=>pr.fail
 | some (size,elem,bs)=>match args with
  | [s,.one i,.one (.slk key2 none n2 c2)]=>match dE pr i,aX ob key2 with
   | some y,some (.arr rows2 size2 _ true)=>if size2=size then pr.eqN c2 (pr.len rows2) (pr.isNil (pr.seg rows2 none n2) pr.fail (
     let nilc:=pr.fits bs (pr.len (pr.seg rows2 none n2)) (pr.ins y (pr.rows []) (pr.seg rows2 none n2) fun r =>
      ep pr ob (some (nR ob 8 b)) (.arr r size elem true) (fun key=>.one (.slk key none (pr.len (pr.seg rows2 none n2)) (pr.len (pr.seg rows2 none n2)))) fun v us _=>kk v (cD us ob))
     match s with
     | .one .nil=>nilc
     | .one (.d x)=>pr.nilD x nilc
     | .one (.slk key none n c)=>if key=key2 then pr.fail else match aX ob key with
      | some (.arr rows size' elem' true)=>if size'=size∧elem'=elem then pr.eqN c (pr.len rows) (pr.eqN n (pr.len rows) (pr.fits bs (pr.addN n (pr.len (pr.seg rows2 none n2))) (pr.ins y rows (pr.seg rows2 none n2) fun r =>
        kk (.one (.slk key none (pr.addN n (pr.len (pr.seg rows2 none n2))) (pr.addN n (pr.len (pr.seg rows2 none n2))))) (cD [(key,.arr r size elem true)] ob)))) else pr.fail
      | _=>pr.fail
     | _=>pr.fail)) else pr.fail
   | _,_=>pr.fail
  | _=>pr.fail
abbrev Hd3 (Δ N R M Ω:Type):=List (V3 Δ N)→dx Δ N R M→(Option Ex→dx Δ N R M→Ω)→Ω
abbrev GO (Δ N R M Ω:Type):=Nat→List (V3 Δ N)→Nat→dx Δ N R M→(V3 Δ N→dx Δ N R M→Ω)→Ω
def kd3 (ob:dx Δ N R M) (b:Nat) (dst:Option Nat):Option Nat:=match dst with
 | some d=>some (nR ob 8 (b*1000+d))
 | none=>none
def gC (dst:Option Nat) (v:V3 Δ N) (ob:dx Δ N R M) (st:S3 Δ N R M):S3 Δ N R M:=⟨match dst with | some d=>(d,v)::st.env | none=>st.env,ob,lC st.ys dst,st.pend⟩
def kf:List (V3 Δ N)→Nat→List (Nat×V3 Δ N)
 | [],_=>[]
 | x::xs,i=>(i,x)::kf xs (i+1)
def u3 (v:V3 Δ N) (args:List (V3 Δ N)):Option (Nat×List (V3 Δ N)×List (L3 Δ N)):=match v with
 | .one (.fn f caps)=>if f < 2000000 then some (f,args++caps.map .one,caps) else some (f - 2000000,caps.map .one++args,caps)
 | _=>none
inductive Kind3 (Δ N:Type) where
 | copy (d:Nat)
 | yld (args:List Operand)
 | inl (f:Nat) (args:List (V3 Δ N))
 | op
def gT (cfg:Cf3) (ys:List Nat) (ρ:Operand→V3 Δ N) (o:Oper):Kind3 Δ N:=match o.op with
 | .move x=>match yOf ys x,o.dst with
  | true,some d=>.copy d
  | _,_=>.op
 | .assign x=>match yOf ys x,o.dst with
  | true,some d=>.copy d
  | _,_=>.op
 | op=>match gw op with
  | none=>.op
  | some (fo,args)=>if yOf ys fo=true then .yld args else match u3 (ρ fo) (args.map ρ) with
   | some (f,as,caps)=>match cfg.inl f with
    | some _=>.inl f as
    | none=>match (match ((args.map ρ).all V3.isD&&caps.all L3.isD) with | true=>none | false=>cfg.ms f) with
     | some _=>.inl f as
     | none=>match cfg.sp f with
      | some _=>.inl f as
      | none=>.op
   | none=>.op
def HX (cfg:Cf3) (f:Nat) (ob:dx Δ N R M) (b:Nat) (dst:Option Nat):Option Nat:=match dst with
 | some d=>match cfg.ar f d with
  | some t=>some (b*1000+t)
  | none=>match cfg.cb f d with
   | true=>none
   | false=>kd3 ob b (some d)
 | none=>none
def xp (cfg:Cf3) (P:Program) (fr:Fr) (hd:Option (Hd3 Δ N R M Ω)) (rn:GO Δ N R M Ω) (o:Oper) (st:S3 Δ N R M) (k:S3 Δ N R M→Ω):Ω :=
 if iu fr.nt o.dst=true then
  match gT cfg st.ys (wV pr st.env) o with
  | .copy d=>k ⟨(d,.one .undef)::st.env,st.ob,d::st.ys,st.pend⟩
  | .yld args=>match hd,st.pend with
   | some h,none=>h (args.map (wV pr st.env)) st.ob fun p ob=>k { gC o.dst (.one (.b p.isNone)) ob st with pend:=p }
   | _,_=>pr.fail
  | .inl f args=>rn f args (fr.b*1000+o.dst.getD 998+1) st.ob fun v ob=>k (gC o.dst v ob st)
  | .op=>F6 pr cfg P st.ob (HX cfg fr.f st.ob fr.b o.dst) (wV pr st.env) o.op fun v us _=>k (gC o.dst v (cD us st.ob) st)
 else pr.fail
def oG (v:V3 Δ N):Option (Option Bool)×Option Δ:=match v with
 | .one (.b b)=>(some (some b),none)
 | .one (.d x)=>(none,some x)
 | .tup []=>(some none,none)
 | _=>(none,none)
def ru (kind f b p:Nat) (pk:List Nat) (js:List (Ex×Sk)) (e:Ex) (st:S3 Δ N R M):Ω:=match sw pr pk e st js 0 with
 | some (j,ys)=>pr.out j ys
 | none=>pr.miss kind f b p pk e st []
def ctx {α:Type} (pk:List Nat) (st:S3 Δ N R M):List (Sk×α)→Nat→Option (Nat×α)
 | [],_=>none
 | (sk,x)::r,j=>match tX pr pk sk st with
  | some _=>some (j,x)
  | none=>ctx pk st r (j+1)
def HQ (pk:List Nat) (sk:Sk):Bool:=pk.all (sk.ob.map (·.1)).contains
def lN (pk:List Nat) (js:List (Ex×Sk)) (k:Ex→S3 Δ N R M→Ω):List (E→Ω):=js.map fun x=>match HQ pk x.2 with
 | true=>fun e=>k x.1 (eH pr e x.2)
 | false=>fun _=>pr.fail
def yG (cfg:Cf3) (P:Program) (fr:Fr) (hd:Option (Hd3 Δ N R M Ω)) (rn:GO Δ N R M Ω) (ops:Array Oper) (o:Oper) (st:S3 Δ N R M) (k:S3 Δ N R M→Ω):Ω :=
 match o.guard with
  | none=>xp pr cfg P fr hd rn o st k
  | some (j,want)=>match fY ops j with
   | none=>pr.fail
   | some gt =>
    let skip:=fun (st:S3 Δ N R M)=>if iu fr.nt o.dst=true then k (gC o.dst (.tup []) st.ob st) else pr.fail
    let st1:=fun (b:Bool)=>({ st with env:=(gt,.one (.b b))::st.env }:S3 Δ N R M)
    match oG (dc st.env gt),want with
    | (some none,_),_=>skip st
    | (some (some true),_),true=>xp pr cfg P fr hd rn o st k
    | (some (some false),_),false=>xp pr cfg P fr hd rn o st k
    | (some (some _),_),_=>skip st
    | (none,some x),true=>pr.cond x (xp pr cfg P fr hd rn o (st1 true) k) (skip (st1 false))
    | (none,some x),false=>pr.cond x (skip (st1 true)) (xp pr cfg P fr hd rn o (st1 false) k)
    | (none,none),_=>pr.fail
def FF (ops:Array Oper) (env:List (Nat×V3 Δ N)) (o:Oper):Bool:=match o.guard with
 | none=>false
 | some (j,_)=>match fY ops j with
  | none=>false
  | some gt=>match dc env gt with
   | .one (.d _)=>true
   | _=>false
def tr (cfg:Cf3) (P:Program) (fr:Fr) (hd:Option (Hd3 Δ N R M Ω)) (rn:GO Δ N R M Ω) (ops:Array Oper) (id:Nat):Nat→Nat→List Oper→S3 Δ N R M→(S3 Δ N R M→Ω)→Ω
 | _,_,[],st,k=>k st
 | 0,_,_::_,_,_=>pr.fail
 | n+1,i,o::rest,st,k=>match (match FF ops st.env o with | true=>cfg.gj fr.f fr.b (id*1000+i) | false=>none) with
  | none=>yG pr cfg P fr hd rn ops o st fun st'=>tr cfg P fr hd rn ops id n (i+1) rest st' k
  | some (len,cs)=>match ctx pr fr.pr st cs 0 with
   | none=>pr.miss 6 fr.f fr.b (id*1000+i) fr.pr .normal st []
   | some (c,js)=>pr.bnd (yG pr cfg P fr hd rn ops o st fun st'=>tr cfg P fr hd rn ops id n (i+1) (rest.take len) st' (ru pr (4+10*c) fr.f fr.b (id*1000+i) fr.pr js .normal))
    (lN pr fr.pr js fun _ st'=>tr cfg P fr hd rn ops id n (i+1+len) (rest.drop len) st' k)
abbrev Iw:=List (List Nat×List Nat)
def oM (pairs:List (Nat×Nat)) (i:Nat) (log:Iw) (rd wr:List Nat):Bool :=
 pairs.all fun p=>if p.2=i then (match log[p.1]? with
  | some (rj,wj)=>(wj.all fun x=>!(rd.contains x)&&!(wr.contains x))&&(rj.all fun x=>!(wr.contains x))
  | none=>false) else true
def qq (cfg:Cf3) (fr:Fr) (o:Oper):Option Nat:=match o.dst with
 | some d=>match cfg.ar fr.f d with
  | some t=>some (fr.b*1000+t)
  | none=>match cfg.cb fr.f d with
   | true=>none
   | false=>some d
 | none=>none
def xC (cfg:Cf3) (ρ:Operand→V3 Δ N) (o:Oper):Option (Nat×List (V3 Δ N)):=match gT cfg [] ρ o with
 | .inl f args=>match cfg.inl f,cfg.ms f with
  | none,some _=>some (f,args)
  | _,_=>none
 | _=>none
def z6:O3 Δ N R M→Bool
 | .box ..=>true
 | .arr _ _ _ own=>own
 | .mp _ _ own=>own
 | .ml ..=>true
 | .am ..=>true
 | .arn ..=>false
def Da (cfg:Cf3) (fr:Fr) (rn:GO Δ N R M Ω) (q:Nat) (o:Oper) (f:Nat) (args:List (V3 Δ N)) (ob:dx Δ N R M) (k:V3 Δ N→dx Δ N R M→List Nat→Ω):Ω:=match tP [] args ob with
 | none=>pr.fail
 | some kept =>
  let ks:=kept.map (·.1)
  if (ii ks&&(kept.all fun p=>z6 p.2&&p.2.keysOf.all ks.contains)&&args.all fun v=>v.keysOf.all ks.contains)=true then
   match cfg.gj fr.f fr.b q with
   | none=>pr.fail
   | some (_,cs)=>match ctx pr ks ⟨[],kept,[],none⟩ cs 0 with
    | none=>pr.miss 6 fr.f fr.b q ks .normal ⟨[],kept,[],none⟩ []
    | some (c,js)=>pr.bnd (rn f args (fr.b*1000+o.dst.getD 998+1) kept fun v ob'=>ru pr (4+10*c) fr.f fr.b q ks js .normal ⟨[(0,v)],ob',[],none⟩)
     (lN pr ks js fun _ st' =>
      let us:=st'.ob.map (·.1)
      if (ii us&&((us.filter fun q=>!ks.contains q).all fun q=>(aX ob q).isNone)&&ks.all us.contains&&(st'.ob.all fun p=>p.2.keysOf.all us.contains)&&(dc st'.env 0).keysOf.all us.contains)=true then k (dc st'.env 0) st'.ob (ks++us.filter fun q=>!ks.contains q) else pr.fail)
  else pr.fail
def tI (cfg:Cf3) (ρ:Operand→V3 Δ N) (o:Oper):Option (Nat×List (V3 Δ N)):=match gT cfg [] ρ o with
 | .inl f args=>match cfg.inl f with
  | some _=>some (f,args)
  | none=>none
 | _=>none
def I4 (cfg:Cf3) (P:Program) (fr:Fr) (rn:GO Δ N R M Ω) (q:Nat) (o:Oper) (st:S3 Δ N R M) (k:V3 Δ N→dx Δ N R M→List Nat→Ω):Ω:=match xC cfg (wV pr st.env) o with
 | some (f,as)=>u5 pr cfg f as st.ob k
 | none=>match tI cfg (wV pr st.env) o with
  | some p=>Da pr cfg fr rn q o p.1 p.2 st.ob k
  | none=>F6 pr cfg P st.ob (qq cfg fr o) (wV pr st.env) o.op k
def Ec (cfg:Cf3) (P:Program) (fr:Fr) (rn:GO Δ N R M Ω) (id:Nat) (ops:Array Oper) (pairs:List (Nat×Nat)):List Oper→Nat→Iw→S3 Δ N R M→(S3 Δ N R M→Ω)→Ω
 | [],_,_,st,k=>k st
 | o::rest,i,log,st,k =>
  let next:=fun (st:S3 Δ N R M) (v:V3 Δ N) (us:dx Δ N R M) (rd:List Nat) =>
   if (iu fr.nt o.dst&&oM pairs i log rd (us.map (·.1)))=true then Ec cfg P fr rn id ops pairs rest (i+1) (log++[(rd,us.map (·.1))]) (gC o.dst v (cD us st.ob) st) k else pr.fail
  let go:=fun (st:S3 Δ N R M)=>I4 pr cfg P fr rn (id*1000+i) o st (next st)
  let skip:=fun (st:S3 Δ N R M)=>Ec cfg P fr rn id ops pairs rest (i+1) (log++[([],[])]) (gC o.dst (.tup []) st.ob st) k
  match o.guard with
  | none=>go st
  | some (j,want)=>match fY ops j with
   | none=>pr.fail
   | some gt =>
    let st1:=fun (b:Bool)=>({ st with env:=(gt,.one (.b b))::st.env }:S3 Δ N R M)
    match oG (dc st.env gt),want with
    | (some none,_),_=>skip st
    | (some (some true),_),true=>go st
    | (some (some false),_),false=>go st
    | (some (some _),_),_=>skip st
    | (none,some x),true=>pr.cond x (go (st1 true)) (skip (st1 false))
    | (none,some x),false=>pr.cond x (skip (st1 true)) (go (st1 false))
    | (none,none),_=>pr.fail
abbrev Ev3 (Δ N R M Ω:Type):=Fr→Option (Hd3 Δ N R M Ω)→Nat→Nat→Code→S3 Δ N R M→(Ex→S3 Δ N R M→Ω)→Ω
def e8 (ob:dx Δ N R M):List Nat:=gv (ob.map (·.1)) []
def iO (P:Program) (bd:Bd) (ob:dx Δ N R M) (kk:V3 Δ N→dx Δ N R M→Ω) (st':S3 Δ N R M):Ω :=
 ot pr P st'.ob st'.env bd.res fun vs=>match tP (e8 ob) vs st'.ob with
  | some ob'=>kk (eI vs) ob'
  | none=>pr.fail
def Il (cfg:Cf3) (f:Nat) (args:List (V3 Δ N)):Bool:=match cfg.ms f with
 | some ms=>Dq ms args
 | none=>false
def yM (cfg:Cf3) (P:Program) (ex:Ev3 Δ N R M Ω):GO Δ N R M Ω:=fun f args b ob kk=>if Il cfg f args=true then DE pr cfg f args ob kk else match cfg.inl f with
 | none=>match cfg.ms f with
  | some _=>DE pr cfg f args ob kk
  | none=>yk pr cfg f args b ob kk
 | some bd=>if args.length≤bd.nt then ex ⟨f,b,bd.nt,true,e8 ob,false⟩ none 0 1 bd.code ⟨kf args 0,ob,[],none⟩ (fun e st=>match e with
   | .exit _=>pr.fail
   | .normal=>iO pr P bd ob kk st
   | .ret=>iO pr P bd ob kk st) else pr.fail
def bdy3 (ob:dx Δ N R M) (kk:Option Ex→dx Δ N R M→Ω) (e2:Ex) (st2:S3 Δ N R M):Ω:=match tP (e8 ob) [] st2.ob with
 | some ob'=>kk (match e2 with | .normal=>none | .exit i=>some (.exit i) | .ret=>some .ret) ob'
 | none=>pr.fail
def Gx (ex:Ev3 Δ N R M Ω) (fr:Fr) (cur p:Nat) (ps:Array Tmp) (assign body:Code) (env:List (Nat×V3 Δ N)):Hd3 Δ N R M Ω:=fun vals ob kk=>if vals.length=ps.size then
  ex ⟨fr.f,fr.b,fr.nt,false,e8 ob,false⟩ none cur (2*p) assign ⟨((ps.toList.zip vals).reverse++env),ob,[],none⟩ (fun e st1=>match e with
   | .normal=>ex ⟨fr.f,fr.b,fr.nt,false,e8 st1.ob,false⟩ none cur (2*p+1) body st1 (bdy3 pr ob kk)
   | .exit _=>pr.fail
   | .ret=>pr.fail)
 else pr.fail
def tG (st:S3 Δ N R M) (k:Ex→S3 Δ N R M→Ω) (st':S3 Δ N R M):Ω:=match tP (e8 st.ob) [] st'.ob with
 | some ob'=>k (match st'.pend with | none=>.normal | some e=>e) ⟨st.env,ob',[],st.pend⟩
 | none=>pr.fail
def Fu (id:Nat):Ex→Ex
 | .exit i=>if i=id then .normal else .exit i
 | .normal=>.normal
 | .ret=>.ret
def jq:List (Option Nat×Nat)→S3 Δ N R M→(S3 Δ N R M→Ω)→Ω
 | [],st,kk=>kk st
 | (none,t)::r,st,kk=>match dc st.env t with
  | .one (.slk key off n c)=>tS pr st.ob (.slk key off n c) fun d us _=>jq r { st with env:=(t,.one (.d d))::st.env,ob:=cD us st.ob } kk
  | .one (.sln key n)=>tS pr st.ob (.sln key n) fun d us _=>jq r { st with env:=(t,.one (.d d))::st.env,ob:=cD us st.ob } kk
  | .one .nil=>jq r { st with env:=(t,.one (.d (pr.lit (.slice none 0 0))))::st.env } kk
  | _=>jq r st kk
 | (some b,i)::r,st,kk=>match aX st.ob b with
  | some (.box cells e)=>match cells[i]? with
   | some (.slk key off n c)=>tS pr st.ob (.slk key off n c) fun d us _=>jq r { st with ob:=(b,.box (cells.set i (.d d)) e)::cD us st.ob } kk
   | some .nil=>jq r { st with ob:=(b,.box (cells.set i (.d (pr.lit (.slice none 0 0)))) e)::st.ob } kk
   | some (.mk key)=>tS pr st.ob (.mk key) fun d us _=>jq r { st with ob:=(b,.box (cells.set i (.d d)) e)::cD us st.ob } kk
   | _=>jq r st kk
  | _=>jq r st kk
def kG:List ((Option Nat×Nat)×(Nat×Nat×Nat))→S3 Δ N R M→S3 Δ N R M
 | [],st=>st
 | ((none,t),key,size,elem)::r,st=>match dc st.env t with
  | .one .nil=>match aX st.ob key with
   | none=>kG r { st with env:=(t,.one (.sln key (pr.natN 0)))::st.env,ob:=(key,.arn (pr.rows []) size elem true)::st.ob }
   | some _=>kG r st
  | _=>kG r st
 | ((some b,i),key,size,elem)::r,st=>match aX st.ob key with
  | none=>match aX st.ob b with
   | some (.box cells e)=>match cells[i]? with
    | some .nil=>kG r { st with ob:=(b,.box (cells.set i (.sln key (pr.natN 0))) e)::(key,.arn (pr.rows []) size elem true)::st.ob }
    | _=>kG r st
   | _=>kG r st
  | some _=>kG r st
def I6 (l:List (Option Nat×Nat)) (l2:List ((Option Nat×Nat)×(Nat×Nat×Nat))) (k:Ex→S3 Δ N R M→Ω) (e:Ex) (st:S3 Δ N R M):Ω:=match e with
 | .normal=>jq pr l st fun st=>k .normal (kG pr l2 st)
 | .exit i=>k (.exit i) st
 | .ret=>k .ret st
def cm (cfg:Cf3) (P:Program):Nat→Ev3 Δ N R M Ω
 | 0,_,_,_,_,_,_,_=>pr.fail
 | n+1,fr,hd,cur,p,c,st,k=>match c with
  | .skip=>k .normal st
  | .label _=>k .normal st
  | .ret=>k .ret st
  | .exit id=>k (.exit id) st
  | .region id ops draw=>match draw with
   | false=>tr pr cfg P fr hd (yM pr cfg P (cm cfg P n)) ops id ops.size 0 ops.toList st (k .normal)
   | true=>match st.ys with
    | []=>Ec pr cfg P fr (yM pr cfg P (cm cfg P n)) id ops (cfg.draw fr.f id ops) ops.toList 0 [] st (k .normal)
    | _=>pr.fail
  | .seq a b =>
   let kk:=fun (e:Ex) (st':S3 Δ N R M)=>match e with
    | .normal=>cm cfg P n fr hd cur (2*p+1) b st' k
    | .exit i=>k (.exit i) st'
    | .ret=>k .ret st'
   match cfg.jn fr.f fr.b p with
    | none=>cm cfg P n fr hd cur (2*p) a st (I6 pr (cfg.fz fr.f fr.b p) (cfg.nz fr.f fr.b p) kk)
    | some cs=>match ctx pr fr.pr st cs 0 with
     | none=>pr.miss 5 fr.f fr.b p fr.pr .normal st []
     | some (c,js)=>pr.bnd (cm cfg P n fr hd cur (2*p) a st (I6 pr (cfg.fz fr.f fr.b p) (cfg.nz fr.f fr.b p) (ru pr (10*c) fr.f fr.b p fr.pr js))) (lN pr fr.pr js kk)
  | .cond c a b=>match c with
   | .tmp t=>match dc st.env t with
    | .one (.b true)=>cm cfg P n fr hd cur (2*p) a st k
    | .one (.b false)=>cm cfg P n fr hd cur (2*p+1) b st k
    | .one (.d x)=>pr.cond x (cm cfg P n fr hd cur (2*p) a { st with env:=(t,.one (.b true))::st.env } k) (cm cfg P n fr hd cur (2*p+1) b { st with env:=(t,.one (.b false))::st.env } k)
    | _=>pr.fail
   | .const (.bool true)=>cm cfg P n fr hd cur (2*p) a st k
   | .const (.bool false)=>cm cfg P n fr hd cur (2*p+1) b st k
   | _=>pr.fail
  | .block id c=>match c with
   | .loop body=>match ctx pr fr.pr st (cfg.lp fr.f fr.b id) 0 with
    | none=>pr.miss 7 fr.f fr.b id fr.pr .normal st []
    | some (c,sks,outs)=>match md pr fr.pr st sks 0 with
     | none=>pr.miss (1+10*c) fr.f fr.b id fr.pr .normal st []
     | some (i0,ys0)=>pr.bnd (pr.loop (sks.map fun sk=>fun J e=>if HQ fr.pr sk=false then pr.fail else cm cfg P n fr hd id (2*p) body (eH pr e sk) fun e' st'=>match e' with
       | .normal=>(match md pr fr.pr st' sks 0 with
        | some (j,ys)=>J j ys
        | none=>pr.miss (1+10*c) fr.f fr.b id fr.pr .normal st' [])
       | .exit i=>ru pr (2+10*c) fr.f fr.b id fr.pr outs (Fu id (.exit i)) st'
       | .ret=>ru pr (2+10*c) fr.f fr.b id fr.pr outs .ret st') i0 ys0) (lN pr fr.pr outs k)
   | c=>cm cfg P n fr hd id (2*p) c st fun e st'=>match e with
    | .normal=>k .normal st'
    | .ret=>k .ret st'
    | .exit i=>if i=id then k .normal st' else k (.exit i) st'
  | .rangeFunc g ps assign body=>if fr.rng=true then
    match st.ys with
    | []=>match fn3 (wV pr st.env g) with
     | none=>pr.fail
     | some (f,caps)=>match cfg.inl f with
      | none=>pr.fail
      | some bd=>if caps.length+1≤bd.nt∧bd.res=[]∧ps.toList.all (fun p=>decide (p < fr.nt))=true then
        cm cfg P n ⟨f,(fr.b+1)*1000,bd.nt,false,e8 st.ob,false⟩ (some (Gx pr (cm cfg P n) fr cur p ps assign body st.env)) 0 1 bd.code ⟨kf (.one .undef::caps.map .one) 0,st.ob,[0],none⟩ (fun e st'=>match e with
         | .exit _=>pr.fail
         | .normal=>tG pr st k st'
         | .ret=>tG pr st k st')
       else pr.fail
    | _=>pr.fail
   else pr.fail
  | _=>pr.fail
def fin3 (cfg:Cf3) (P:Program) (f:Nat) (res:List ResultVar) (e:Ex) (st:S3 Δ N R M):Ω :=
 let go:=ot pr P st.ob st.env res fun vs=>match pS st.ob vs (cfg.rsk f) 0 with
  | none=>pr.miss 3 f 0 0 [] e st (vs.map (GJ st.ob))
  | some (j,rs)=>match FQ rs with
   | true=>uH pr st.ob vs fun ys=>pr.out j ys
   | false=>iI pr st.ob rs vs fun ys ks=>if ii ks=true then pr.out j ys else pr.fail
 match e with
 | .exit _=>pr.fail
 | .normal=>go
 | .ret=>go
end
end
section
abbrev Rr:=List (List D)
abbrev Mr:=List Value×List (List D)
abbrev Yr:=Y D Nat Rr Mr
abbrev az:=Option (Nat×List Yr)
abbrev gx:=L3 D Nat
abbrev cv:=V3 D Nat
abbrev BM:=O3 D Nat Rr Mr
abbrev j4:=S3 D Nat Rr Mr
abbrev Ur:=dx D Nat Rr Mr
def bh (bs:List ((Nat→List Yr→az)→List Yr→az)):Nat→Nat→List Yr→az
 | 0,_,_=>none
 | m+1,j,ys=>match bs[j]? with
  | some b=>b (bh bs m) ys
  | none=>none
def iz (op:BinOp) (bl:Bool):D→D→Option D
 | .lit (.int k a),.lit (.int k' b)=>(DP op k a k' b).map .lit
 | .lit (.bool a),.lit (.bool b)=>if bl=true then (match op with
   | .eql=>some (.lit (.bool (a==b)))
   | .neq=>some (.lit (.bool (a != b)))
   | _=>none) else none
 | .lit (.string a),.lit (.string b)=>(FU op a b).map .lit
 | _,_=>none
def unD (op:UnOp):D→Option D
 | .lit (.bool b)=>match op with | .not=>some (.lit (.bool !b)) | _=>none
 | .lit (.int k n)=>match op with | .neg=>some (.lit (.int k (k.wrap (0 - n)))) | _=>none
 | _=>none
def mmD (mx:Bool):D→D→Option D
 | .lit (.int k a),.lit (.int k' b)=>if k=k' then some (.lit (.int k (if mx then max a b else min a b))) else none
 | _,_=>none
def intD:D→Option Int
 | .lit (.int _ n)=>some n
 | _=>none
def fK:Option D→Option (Option Int)
 | none=>some none
 | some x=>(intD x).map some
def zq:D→Option Nat
 | .sl _ rows=>some rows.length
 | .lit (.slice none 0 0)=>some 0
 | _=>none
def jL (es:Nat):D→Option Rr
 | .lit (.slice none 0 0)=>some []
 | .sl size rows=>if size=es then some rows else none
 | _=>none
def A6 (es:Nat) (l h:Option Int):D→Option D
 | .sl size rows=>if size=es then (if 0≤l.getD 0∧l.getD 0≤h.getD rows.length∧h.getD rows.length≤rows.length then some (.sl size ((rows.drop (l.getD 0).toNat).take (h.getD rows.length - l.getD 0).toNat)) else none) else none
 | .lit (.slice none 0 0)=>if l.getD 0=0∧h.getD 0=0 then some (.lit (.slice none 0 0)) else none
 | _=>none
def tB:D→Option Value
 | .lit v=>some v
 | _=>none
def rC (agg:Bool):D→Option Mr
 | .mp agg' keys vals=>if agg=agg' then some (keys,vals) else none
 | .lit (.map none)=>some ([],[])
 | _=>none
def va (kd:Nat) (zs:List Value) (m:Mr) (key:D):Option (List D×D):=match tB key with
 | some v=>if fC kd v=true then (match d4 kd v m.1 0 with
  | some (some j)=>match m.2[j]? with
   | some r=>if r.length=zs.length then some (r,.lit (.bool true)) else none
   | none=>none
  | some none=>some (zs.map .lit,.lit (.bool false))
  | none=>none) else none
 | none=>none
def Hg (kd:Nat) (m:Mr) (key:D) (ds:List D):Option Mr:=match tB key with
 | some v=>if fC kd v=true then (match d4 kd v m.1 0 with
  | some (some j)=>some (m.1,m.2.set j ds)
  | some none=>some (m.1++[v],m.2++[ds])
  | none=>none) else none
 | none=>none
def oT {α:Type} (o:Option α) (k:α→az):az:=match o with
 | some a=>k a
 | none=>none
def oh:Yr→Bool
 | .d x=>x.isLit
 | .r rows=>rows.all fun r=>r.all D.isLit
 | .m m=>m.2.all fun r=>r.all D.isLit
 | .n _=>true
def lL (ks:List az) (j:Nat):az:=match ks[j]? with
 | some k=>k
 | none=>none
def mg (kd:Nat) (m:Mr) (key:D):Option (Option Nat):=match tB key with
 | some v=>if fC kd v=true then d4 kd v m.1 0 else none
 | none=>none
def wa (kd:Nat) (m:Mr) (key:D) (j:Nat):Option Mr:=match tB key with
 | some v=>if fC kd v=true∧j=m.1.length∧j < m.2.length then (match d4 kd v m.1 0 with
  | some none=>some (m.1++[v],m.2)
  | _=>none) else none
 | none=>none
def iT (r:Rr) (j off:Nat) (ds:List D):Rr:=r.set j ((r.getD j []).take off++ds++(r.getD j []).drop (off+ds.length))
def Cb (kd:Nat) (keys:List Value) (key:D) (ks:List az):az:=match tB key with
 | some v=>if fC kd v=true then (match d4 kd v keys 0 with
  | some (some j)=>lL ks j
  | _=>none) else none
 | none=>none
def Bt:D→Nat
 | .lit (.int _ n)=>n.toNat
 | _=>0
def aa (Fn:Nat→List D→az) (FnD:D→List Sh→List D→az) (m:Nat):Pr D Nat Rr (List D) Mr (List Yr) az where
 fail:=none
 out j ys:=some (j,ys)
 bnd o ks:=match o with
  | some (j,ys)=>(match ks[j]? with | some k=>k ys | none=>none)
  | none=>none
 loop bs j ys:=bh bs m j ys
 call:=Fn
 callD:=FnD
 miss _ _ _ _ _ _ _ _:=none
 cond x a b:=match x with | .lit (.bool true)=>a | .lit (.bool false)=>b | _=>none
 ld e j:=match e[j]? with | some (.d x)=>x | _=>default
 ln e j:=match e[j]? with | some (.n x)=>x | _=>0
 lr e j:=match e[j]? with | some (.r x)=>x | _=>[]
 lm e j:=match e[j]? with | some (.m x)=>x | _=>([],[])
 lit v:=.lit v
 natD n:=.lit (.int .i64 n)
 dN x:=Bt x
 natN n:=n
 addN a b:=a+b
 slD s r:=.sl s r
 slN s r:=match r with
  | []=>.lit (.slice none 0 0)
  | a::t=>.sl s (a::t)
 dpD r o:=.dp r o
 fnD f l:=.fn f l
 mpD g m:=.mp g m.1 m.2
 ifD t g l:=.ifc t g l
 len r:=r.length
 rows l:=l
 repl n z:=List.replicate n z
 app a b:=a++b
 seg r o n:=(r.drop (o.getD 0)).take n
 setR r i l:=r.set i l
 emp:=([],[])
 cell w j:=w.getD j default
 eqN a b k:=if a=b then k else none
 leN a b k:=if a≤b then k else none
 ptrW n x k:=match x with | .dp row 0=>if row.length=n then k row else none | _=>none
 isPtr x k:=match x with | .dp _ _=>k | _=>none
 nilD x k:=match x with | .lit (.slice none 0 0)=>k | _=>none
 rowAt s r i k:=match r[i]? with
  | some w=>if w.length=s then k w else none
  | none=>none
 bin op b x y k:=oT (iz op b x y) k
 un op x k:=oT (unD op x) k
 eqs ks ng x y k:=match cA ks (x.map .d) (y.map .d) with
  | some b=>k (.lit (.bool (if ng then !b else b)))
  | none=>none
 mm mx x y k:=oT (mmD mx x y) k
 mkN bs x y k:=match x,y with
  | .lit (.int a n),.lit (.int b n')=>if a=b∧n=n'∧0≤n∧bs*n≤140737488355328∧n≤9223372036854775807 then k n.toNat else none
  | _,_=>none
 gap bs x k:=match x with
  | .lit (.int _ n)=>if 0 < n∧bs*n≤140737488355328∧n≤9223372036854775807 then k n.toNat else none
  | _=>none
 cut l h n k e:=match fK l,fK h with
  | some l,some h=>if 0≤l.getD 0∧l.getD 0≤h.getD n∧h.getD n≤n then (if l.getD 0=0∨l.getD 0 < h.getD n then k (l.getD 0).toNat (h.getD n - l.getD 0).toNat else e) else none
  | _,_=>none
 cutD es x l h k:=match fK l,fK h with
  | some l,some h=>oT (A6 es l h x) k
  | _,_=>none
 cutNil l h k:=match fK l,fK h with
  | some l,some h=>if l.getD 0=0∧h.getD 0=0 then k else none
  | _,_=>none
 selI n x ks:=match x with
  | .lit (.int _ z)=>if 0≤z∧z < n then lL ks z.toNat else none
  | _=>none
 inx x n k:=match x with
  | .lit (.int _ z)=>if 0≤z∧z < n then k z.toNat else none
  | _=>none
 rowD es x i k:=match x,i with
  | .sl size rows,.lit (.int _ z)=>if size=es∧0≤z then (match rows[z.toNat]? with
   | some r=>if r.length=es then k r else none
   | none=>none) else none
  | _,_=>none
 lenD x k:=match zq x with
  | some n=>k (.lit (.int .i64 n))
  | none=>none
 lenS x k:=match x with
  | .lit (.string s)=>k (.lit (.int .i64 s.size))
  | _=>none
 rowsD es x k:=match jL es x with
  | some r=>k r
  | none=>none
 isNil r a b:=match r with | []=>a | _::_=>b
 fits bs n k:=if n*bs≤140737488355328∧n≤maxLen then k else none
 asM agg x k:=match rC agg x with
  | some m=>k m
  | none=>none
 look kd zs m key k:=match va kd zs m key with
  | some p=>k p.1 p.2
  | none=>none
 upd kd m key ds k:=match Hg kd m key ds with
  | some m'=>k m'
  | none=>none
 lits ys k:=if ys.all oh=true then k else none
 nilE x a b:=match x with
  | .lit (.slice none 0 0)=>a
  | .sl _ _=>b
  | _=>none
 cvI kd y k:=match y with | .lit (.int _ n)=>k (.lit (.int kd (kd.wrap n))) | _=>none
 ins y rows new k:=match y with | .lit (.int .i64 z)=>if 0≤z∧z.toNat≤rows.length then k (rows.take z.toNat++new++rows.drop z.toNat) else none | _=>none
 mulN s i:=s*i
 minN a b:=min a b
 cellN w off i:=w.getD (off+i) default
 selN i ds:=ds.getD i default
 updN i q new old:=if i=q then new else old
 mrows m:=m.2
 mset m r:=(m.1,r)
 setRC:=iT
 find kd m key k e:=match mg kd m key with
  | some (some j)=>k j
  | some none=>e
  | none=>none
 addK kd m key j k:=match wa kd m key j with
  | some m'=>k m'
  | none=>none
 selK:=Cb
mutual
def eL:gx→L
 | .d x=>.d x
 | .b v=>.d (.lit (.bool v))
 | .i k n=>.d (.lit (.int k n))
 | .nil=>.d (.lit (.slice none 0 0))
 | .dp r o=>.d (.dp r o)
 | .fn f cs=>.fn f (bV cs)
 | .slk k o n c=>.slk k (o.getD 0) n c
 | .pa k i o c=>.pa k i o c
 | .ptr k o=>.ptr k o
 | .mk k=>.mk k
 | .mq k=>.mq k
 | .pb k j o=>.pb k j o
 | .px k b _ es i o=>.ptr k (b+es*i+o)
 | .np=>.d (.lit (.pointer none))
 | .sln k n=>.sln k n
 | .undef=>.undef
def bV:List gx→List L
 | []=>[]
 | x::xs=>eL x::bV xs
end
mutual
def eV:cv→V
 | .one x=>.one (eL x)
 | .agg xs=>.agg (bV xs)
 | .tup xs=>.tup (cI xs)
def cI:List cv→List V
 | []=>[]
 | x::xs=>eV x::cI xs
end
def eO:BM→O
 | .box cs e=>.box (bV cs) e
 | .arr rows s e o=>.arr rows s e o
 | .mp g m o=>.mp g m.1 m.2 o
 | .ml ks cs=>.ml ks (bV cs)
 | .am m s e=>.am m.1 m.2 s e
 | .arn rows s e o=>match rows with
  | []=>.nul
  | a::t=>.arr (a::t) s e o
def bv (env:List (Nat×cv)):List (Nat×V):=env.map fun p=>(p.1,eV p.2)
def aD (ob:Ur):List (Nat×O):=ob.map fun p=>(p.1,eO p.2)
def eS (st:j4):S2:=⟨bv st.env,aD st.ob,st.ys,st.pend⟩
theorem bj:∀ xs:List gx,bV xs=xs.map eL
 | []=>rfl
 | x::xs=>by simp [bV,bj xs]
theorem dw:∀ xs:List cv,cI xs=xs.map eV
 | []=>rfl
 | x::xs=>by simp [cI,dw xs]
theorem eM (t:Nat):∀ env:List (Nat×cv),bg (bv env) t=eV (dc env t)
 | []=>rfl
 | (k,v)::r=>by
  simp only [bv,K0,bg,dc]
  split
  ·rfl
  ·exact eM t r
theorem xv (k:Nat):∀ ob:Ur,lQ (aD ob) k=(aX ob k).map eO
 | []=>rfl
 | (j,o)::r=>by
  simp only [aD,K0,lQ,aX]
  split
  ·rfl
  ·exact xv k r
theorem aq (k:Nat):∀ ob:Ur,ai (aD ob) k=(aX ob k).bind fun o=>(eO o).val
 | []=>rfl
 | (j,o)::r=>by
  simp only [aD,K0,ai,aX]
  split
  ·rfl
  ·exact aq k r
theorem Ic {rows:Rr} {s e:Nat} {o:Bool} (h:rows≠[]):eO (.arn rows s e o)=.arr rows s e o:=by
 cases rows with
 | nil=>exact absurd rfl h
 | cons a t=>rfl
theorem db {ob:Ur} {k:Nat} {rows:Rr} {s e:Nat} {o:Bool} (hk:aX ob k=some (.arn rows s e o)) (h:rows≠[]):ai (aD ob) k=some (.arr rows s e o):=by
 rw [aq,hk,Ke,Ic h];rfl
theorem jm {ob:Ur} {k:Nat} {s e:Nat} {o:Bool} (hk:aX ob k=some (.arn [] s e o)):ai (aD ob) k=none:=by
 rw [aq,hk];rfl
theorem fR:∀ us ob:Ur,aD (cD us ob)=DO (aD us) (aD ob)
 | [],ob=>rfl
 | (k,o)::r,ob=>by
  show aD (cD r ((k,o)::ob))=DO (aD r) ((k,eO o)::aD ob)
  rw [fR r];rfl
variable {Fn:Nat→List D→az} {FnD:D→List Sh→List D→az} {m:Nat}
theorem xJ (v:Value):eL (tC (aa Fn FnD m) v)=.d (.lit v):=by
 unfold tC;split<;>simp [eL,aa]
theorem tA (vs:List Value):bV (vs.map (tC (aa Fn FnD m)))=gM vs:=by
 rw [bj,Mn];unfold gM;congr 1;funext v;exact xJ v
theorem DB (v:Value):eV (u0 (aa Fn FnD m) v)=nZ v:=by
 unfold u0 nZ
 split
 ·split<;>rename_i h<;>simp [eV,tA,eL,h]
 ·split<;>rename_i h<;>simp [eV,xJ,eL,h]
theorem ye (env:List (Nat×cv)) (x:Operand):eV (wV (aa Fn FnD m) env x)=ev (bg (bv env)) x:=by
 cases x with
 | tmp t=>exact (eM t env).symm
 | const v=>exact DB v
 | global g=>rfl
 | func f=>simp only [wV,ev];split<;>simp [eV,eL,bV]
theorem Dx (env:List (Nat×cv)):(fun x=>eV (wV (aa Fn FnD m) env x))=ev (bg (bv env)):=funext (ye env)
theorem cM {x:gx} {y:D} (h:dE (aa Fn FnD m) x=some y):eL x=.d y:=by
 unfold dE at h;split at h<;>first | (cases h;simp [eL,aa]) | cases h
theorem eT {x:cv} {y:D} (h:iL (aa Fn FnD m) x=some y):eV x=.one (.d y):=by
 unfold iL at h;split at h
 ·simp only [eV,cM h]
 ·cases h
theorem mU (x:gx):(eL x).isDef=x.isDef:=by cases x<;>simp [eL,L.isDef,L3.isDef]
theorem na (v:cv):(eV v).cells=v.cells.map bV:=by
 cases v with
 | one x=>simp only [eV,V.cells,V3.cells,mU];split<;>simp [bV]
 | agg xs =>
  simp only [eV,V.cells,V3.cells,bj,List.all_map]
  have:(L.isDef ∘ eL)=(L3.isDef:gx→Bool):=funext mU
  rw [this];split<;>simp [bj]
 | tup xs=>simp [eV,V.cells,V3.cells]
theorem co (xs:List gx):(bV xs).length=xs.length:=by rw [bj,K5]
theorem f0 (g:Bool) (s off:Nat) (cs:List gx):bA g s off (bV cs)=(eB g s off cs).map eV:=by
 unfold bA eB
 cases g with
 | true=>simp only [co,Jv];split<;>simp [eV,bj,List.map_drop,Vf]
 | false =>
  simp only [Jq,Jx,bj,Kn]
  cases cs[off]?<;>simp [eV]
theorem zi (g:Bool) (xs:List gx):AV g (bV xs)=(v6 g xs).map eV:=by
 cases g with
 | true=>simp [AV,v6,eV]
 | false =>
  match xs with
  | []=>rfl
  | [x]=>simp [AV,v6,eV,bV]
  | x::y::r=>rfl
theorem od {n:Nat} {v u:cv} (h:kV (aa Fn FnD m) n v=some u):dQ n (eV v)=some (eV u):=by
 unfold kV at h
 split at h<;>first | (cases h;simp [dQ,eV,eL,aa,Ta]) | cases h
theorem Du (pl:Nat→Option (Nat×Nat)):∀ (ps:List (Nat×cv)) (cs:List gx),jA pl (bV cs) (ps.map fun p=>(p.1,eV p.2))=(zU pl cs ps).map bV
 | [],cs=>rfl
 | (i,v)::r,cs=>by
  simp only [K0,jA,zU,na]
  cases pl i with
  | none=>rfl
  | some q =>
   obtain ⟨off,size⟩:=q
   cases hv:v.cells with
   | none=>rfl
   | some vs =>
    simp only [M3,co]
    split
    ·rw [←Du pl r]
     congr 1
     simp only [bj,Mm,Vf,List.map_drop]
    ·rfl
theorem ig:∀ vs:List cv,d0 (vs.map eV)=(i5 vs).map bV
 | []=>rfl
 | .one x::r=>by
  simp only [K0,eV,d0,i5,mU,ig r]
  split
  ·cases i5 r<;>simp [bV]
  ·rfl
 | .agg xs::r=>rfl
 | .tup xs::r=>rfl
theorem cX {w:List D} {s:Nat} (h:w.length=s):cellsOf (aa Fn FnD m) s w=w:=by
 subst h
 unfold cellsOf
 apply Mp
 intro i
 simp only [Kn,aa,Kd]
 by_cases hi:i < w.length
 ·rw [T0 hi];simp [hi]
 ·rw [Kx (by simpa using hi)];simp;omega
theorem zX (w:List D):bV (w.map .d)=w.map .d:=by rw [bj,Mn];rfl
theorem Fj (v:cv):eY (eV v)=D6 v:=by cases v<;>rfl
theorem aE:aD []=[]:=rfl
theorem aV (k:Nat) (o:BM) (r:Ur):aD ((k,o)::r)=(k,eO o)::aD r:=rfl
theorem ir (a b:Ur):aD (a++b)=aD a++aD b:=by simp [aD]
end
section
variable {P:Program} {Fn:Nat→List D→az} {FnD:D→List Sh→List D→az} {m:Nat} {r:Nat×List Yr} {ob:Ur}
theorem Q.reads_bind {α β:Type} (o:Ob) (q:Q α) (f:α→Q β):(q.bind f).reads o=q.reads o++(match q.run o with | some a=>(f a).reads o | none=>[]):=by
 induction q with
 | ret a=>rfl
 | get k g ih=>simp only [Q.bind,Q.reads,Q.run,ih,K2]
 | fail=>rfl
def OKQ (ob:Ur) (q:Q cw) (k:K3 D Nat Rr Mr az) (r:Nat×List Yr):Prop :=
 ∃ v us rd,q.run (ai (aD ob))=some (eV v,aD us)∧(∀ x∈q.reads (ai (aD ob)),x∈rd)∧k v us rd=some r
theorem OKQ.ret {v:cv} {us:Ur} {rd:List Nat} {k:K3 D Nat Rr Mr az} (h:k v us rd=some r):OKQ ob (.ret (eV v,aD us)) k r:=⟨v,us,rd,rfl,by simp [Q.reads],h⟩
theorem OKQ.ret0 {v:cv} {rd:List Nat} {k:K3 D Nat Rr Mr az} (h:k v [] rd=some r):OKQ ob (.ret (eV v,[])) k r:=OKQ.ret (us:=[]) h
theorem OKQ.get {key:Nat} {f:Option O→Q cw} {k:K3 D Nat Rr Mr az} {rd0:List Nat} (h:OKQ ob (f (ai (aD ob) key)) (fun v us rd=>k v us (rd0++rd)) r) (hk:key∈rd0):OKQ ob (.get key f) k r:=by
 obtain ⟨v,us,rd,h1,h2,h3⟩:=h
 refine ⟨v,us,rd0++rd,h1,?_,h3⟩
 intro x hx
 simp only [Q.reads,Ki] at hx
 rcases hx with rfl | hx
 ·exact Mc _ hk
 ·exact Ma _ (h2 x hx)
theorem ee {o:Option cv} {o':Option V} {rd:List Nat} {k:K3 D Nat Rr Mr az} (h:ly (aa Fn FnD m) o rd k=some r) (ho:∀ v,o=some v→o'=some (eV v)):∃ v,o'=some (eV v)∧k v [] rd=some r:=by
 unfold ly at h
 split at h
 ·rename_i v;exact ⟨v,ho v rfl,h⟩
 ·cases h
theorem OKQ.mk {q:Q cw} {k:K3 D Nat Rr Mr az} {v:cv} {us:Ur} {rd:List Nat} (h1:q.run (ai (aD ob))=some (eV v,aD us)) (h2:∀ x∈q.reads (ai (aD ob)),x∈rd) (h3:k v us rd=some r):OKQ ob q k r:=⟨v,us,rd,h1,h2,h3⟩
theorem b6 {a b:Nat} {k:az} (h:(aa Fn FnD m).eqN a b k=some r):a=b∧k=some r:=by
 simp only [aa] at h;split at h
 ·exact ⟨‹_›,h⟩
 ·cases h
theorem je {a b:Nat} {k:az} (h:(aa Fn FnD m).leN a b k=some r):a≤b∧k=some r:=by
 simp only [aa] at h;split at h
 ·exact ⟨‹_›,h⟩
 ·cases h
theorem jd {x:D} {k:az} (h:(aa Fn FnD m).nilD x k=some r):x=.lit (.slice none 0 0)∧k=some r:=by
 simp only [aa] at h;split at h
 ·exact ⟨rfl,h⟩
 ·cases h
theorem s3 {n:Nat} {x:D} {k:List D→az} (h:(aa Fn FnD m).ptrW n x k=some r):∃ row,x=.dp row 0∧row.length=n∧k row=some r:=by
 simp only [aa] at h;split at h
 ·split at h
  ·exact ⟨_,rfl,‹_›,h⟩
  ·cases h
 ·cases h
theorem xu {x:D} {k:az} (h:(aa Fn FnD m).isPtr x k=some r):(∃ row o,x=.dp row o)∧k=some r:=by
 simp only [aa] at h;split at h
 ·exact ⟨⟨_,_,rfl⟩,h⟩
 ·cases h
theorem di {s i:Nat} {rows:Rr} {k:List D→az} (h:(aa Fn FnD m).rowAt s rows i k=some r):∃ w,rows[i]?=some w∧w.length=s∧k w=some r:=by
 simp only [aa] at h;split at h
 ·split at h
  ·exact ⟨_,‹_›,‹_›,h⟩
  ·cases h
 ·cases h
theorem l9 {α:Type} {o:Option α} {k:α→az} (h:oT o k=some r):∃ a,o=some a∧k a=some r:=by
 unfold oT at h;split at h
 ·exact ⟨_,rfl,h⟩
 ·cases h
theorem kB {x:D} {n:Nat} {k:Nat→az} (h:(aa Fn FnD m).inx x n k=some r):∃ kk z,x=.lit (.int kk z)∧(0≤z∧z < (n:Int))∧k z.toNat=some r:=by
 simp only [aa] at h;split at h
 ·split at h
  ·exact ⟨_,_,rfl,‹_›,h⟩
  ·cases h
 ·cases h
theorem rZ {x:D} {n:Nat} {ks:List az} (h:(aa Fn FnD m).selI n x ks=some r):∃ kk z,x=.lit (.int kk z)∧(0≤z∧z < (n:Int))∧lL ks z.toNat=some r:=by
 simp only [aa] at h;split at h
 ·split at h
  ·exact ⟨_,_,rfl,‹_›,h⟩
  ·cases h
 ·cases h
theorem AA {es:Nat} {x i:D} {k:List D→az} (h:(aa Fn FnD m).rowD es x i k=some r):∃ rows kk z w,x=.sl es rows∧i=.lit (.int kk z)∧0≤z∧rows[z.toNat]?=some w∧w.length=es∧k w=some r:=by
 simp only [aa] at h;split at h
 ·split at h
  ·rename_i hz
   obtain ⟨rfl,hz⟩:=hz
   split at h
   ·split at h
    ·exact ⟨_,_,_,_,rfl,rfl,hz,‹_›,‹_›,h⟩
    ·cases h
   ·cases h
  ·cases h
 ·cases h
theorem uG {l h':Option D} {n:Nat} {k:Nat→Nat→az} {e:az} (h:(aa Fn FnD m).cut l h' n k e=some r):∃ zl zh,fK l=some zl∧fK h'=some zh∧(0≤zl.getD 0∧zl.getD 0≤zh.getD n∧zh.getD n≤n) ∧
  (((zl.getD 0=0∨zl.getD 0 < zh.getD n)∧k (zl.getD 0).toNat (zh.getD n - zl.getD 0).toNat=some r)∨(¬ (zl.getD 0=0∨zl.getD 0 < zh.getD n)∧e=some r)):=by
 simp only [aa] at h;split at h
 ·rename_i zl zh h1 h2
  split at h
  ·split at h
   ·exact ⟨zl,zh,h1,h2,‹_›,.inl ⟨‹_›,h⟩⟩
   ·exact ⟨zl,zh,h1,h2,‹_›,.inr ⟨‹_›,h⟩⟩
  ·cases h
 ·cases h
theorem AF {es:Nat} {x:D} {l h':Option D} {k:D→az} (h:(aa Fn FnD m).cutD es x l h' k=some r):∃ zl zh z,fK l=some zl∧fK h'=some zh∧A6 es zl zh x=some z∧k z=some r:=by
 simp only [aa] at h;split at h
 ·obtain ⟨z,h1,h2⟩:=l9 h;exact ⟨_,_,z,‹_›,‹_›,h1,h2⟩
 ·cases h
theorem uF {l h':Option D} {k:az} (h:(aa Fn FnD m).cutNil l h' k=some r):∃ zl zh,fK l=some zl∧fK h'=some zh∧(zl.getD 0=0∧zh.getD 0=0)∧k=some r:=by
 simp only [aa] at h;split at h
 ·split at h
  ·exact ⟨_,_,‹_›,‹_›,‹_›,h⟩
  ·cases h
 ·cases h
theorem i3 {x:D} {a b:az} (h:(aa Fn FnD m).cond x a b=some r):(x=.lit (.bool true)∧a=some r)∨(x=.lit (.bool false)∧b=some r):=by
 simp only [aa] at h;split at h
 ·exact .inl ⟨rfl,h⟩
 ·exact .inr ⟨rfl,h⟩
 ·cases h
theorem gi {o:az} {ks:List (List Yr→az)} (h:(aa Fn FnD m).bnd o ks=some r):∃ j ys k,o=some (j,ys)∧ks[j]?=some k∧k ys=some r:=by
 simp only [aa] at h;split at h
 ·split at h
  ·exact ⟨_,_,_,rfl,‹_›,h⟩
  ·cases h
 ·cases h
theorem Ct {op:BinOp} {bl:Bool} {x y:D} {k:D→az} (h:(aa Fn FnD m).bin op bl x y k=some r):∃ z,iz op bl x y=some z∧k z=some r:=l9 h
theorem yP {op:UnOp} {x:D} {k:D→az} (h:(aa Fn FnD m).un op x k=some r):∃ z,unD op x=some z∧k z=some r:=l9 h
theorem ES {mx:Bool} {x y:D} {k:D→az} (h:(aa Fn FnD m).mm mx x y k=some r):∃ z,mmD mx x y=some z∧k z=some r:=l9 h
theorem uE {ks:List Bool} {ng:Bool} {x y:List D} {k:D→az} (h:(aa Fn FnD m).eqs ks ng x y k=some r):∃ b,cA ks (x.map .d) (y.map .d)=some b∧k (.lit (.bool (if ng then !b else b)))=some r:=by
 simp only [aa] at h;split at h
 ·exact ⟨_,‹_›,h⟩
 ·cases h
theorem Cp {bs:Nat} {x y:D} {k:Nat→az} (h:(aa Fn FnD m).mkN bs x y k=some r):∃ a n,x=.lit (.int a n)∧y=.lit (.int a n)∧(0≤n∧bs*n≤140737488355328∧n≤9223372036854775807)∧k n.toNat=some r:=by
 simp only [aa] at h;split at h
 ·split at h
  ·rename_i hc;obtain ⟨rfl,rfl,hc⟩:=hc;exact ⟨_,_,rfl,rfl,hc,h⟩
  ·cases h
 ·cases h
theorem Cq {bs:Nat} {x:D} {k:Nat→az} (h:(aa Fn FnD m).gap bs x k=some r):∃ a n,x=.lit (.int a n)∧(0 < n∧bs*n≤140737488355328∧n≤9223372036854775807)∧k n.toNat=some r:=by
 simp only [aa] at h;split at h
 ·split at h
  ·exact ⟨_,_,rfl,‹_›,h⟩
  ·cases h
 ·cases h
theorem AD {x:D} {k:D→az} (h:(aa Fn FnD m).lenD x k=some r):∃ n,zq x=some n∧k (.lit (.int .i64 n))=some r:=by
 simp only [aa] at h;split at h
 ·exact ⟨_,‹_›,h⟩
 ·cases h
theorem AC {x:D} {k:D→az} (h:(aa Fn FnD m).lenS x k=some r):∃ s,x=.lit (.string s)∧k (.lit (.int .i64 s.size))=some r:=by
 simp only [aa] at h;split at h
 ·exact ⟨_,rfl,h⟩
 ·cases h
theorem pU {es:Nat} {x:D} {k:Rr→az} (h:(aa Fn FnD m).rowsD es x k=some r):∃ rows,jL es x=some rows∧k rows=some r:=by
 simp only [aa] at h;split at h
 ·exact ⟨_,‹_›,h⟩
 ·cases h
theorem pV {rows:Rr} {a b:az} (h:(aa Fn FnD m).isNil rows a b=some r):(rows=[]∧a=some r)∨(rows≠[]∧b=some r):=by
 cases rows with
 | nil=>exact .inl ⟨rfl,h⟩
 | cons x xs=>exact .inr ⟨by simp,h⟩
theorem jf {bs n:Nat} {k:az} (h:(aa Fn FnD m).fits bs n k=some r):n*bs≤140737488355328∧n≤maxLen∧k=some r:=by
 simp only [aa] at h;split at h
 ·rename_i hc;exact ⟨hc.1,hc.2,h⟩
 ·cases h
theorem pW {agg:Bool} {x:D} {k:Mr→az} (h:(aa Fn FnD m).asM agg x k=some r):∃ mm,rC agg x=some mm∧k mm=some r:=by
 simp only [aa] at h;split at h
 ·exact ⟨_,‹_›,h⟩
 ·cases h
theorem AB {kd:Nat} {zs:List Value} {mm:Mr} {key:D} {k:List D→D→az} (h:(aa Fn FnD m).look kd zs mm key k=some r):∃ p,va kd zs mm key=some p∧k p.1 p.2=some r:=by
 simp only [aa] at h;split at h
 ·exact ⟨_,‹_›,h⟩
 ·cases h
theorem Co {kd:Nat} {mm:Mr} {key:D} {ds:List D} {k:Mr→az} (h:(aa Fn FnD m).upd kd mm key ds k=some r):∃ m',Hg kd mm key ds=some m'∧k m'=some r:=by
 simp only [aa] at h;split at h
 ·exact ⟨_,‹_›,h⟩
 ·cases h
theorem s4 {x:D} {a b:az} (h:(aa Fn FnD m).nilE x a b=some r):(x=.lit (.slice none 0 0)∧a=some r)∨∃ s rows,x=.sl s rows∧b=some r:=by
 simp only [aa] at h
 split at h
 ·exact .inl ⟨rfl,h⟩
 ·exact .inr ⟨_,_,rfl,h⟩
 ·cases h
theorem Cr {kd:IntKind} {y:D} {k:D→az} (h:(aa Fn FnD m).cvI kd y k=some r):∃ a n,y=.lit (.int a n)∧k (.lit (.int kd (kd.wrap n)))=some r:=by
 simp only [aa] at h;split at h
 ·exact ⟨_,_,rfl,h⟩
 ·cases h
theorem uD {y:D} {rows new:Rr} {k:Rr→az} (h:(aa Fn FnD m).ins y rows new k=some r):∃ z,y=.lit (.int .i64 z)∧(0≤z∧z.toNat≤rows.length)∧k (rows.take z.toNat++new++rows.drop z.toNat)=some r:=by
 simp only [aa] at h;split at h
 ·split at h
  ·exact ⟨_,rfl,‹_›,h⟩
  ·cases h
 ·cases h
theorem s5 {ys:List Yr} {k:az} (h:(aa Fn FnD m).lits ys k=some r):ys.all oh=true∧k=some r:=by
 simp only [aa] at h;split at h
 ·exact ⟨‹_›,h⟩
 ·cases h
theorem AE {kd:Nat} {mm:Mr} {key:D} {k:Nat→az} {e:az} (h:(aa Fn FnD m).find kd mm key k e=some r):(∃ j,mg kd mm key=some (some j)∧k j=some r)∨(mg kd mm key=some none∧e=some r):=by
 simp only [aa] at h;split at h
 ·exact .inl ⟨_,‹_›,h⟩
 ·exact .inr ⟨‹_›,h⟩
 ·cases h
theorem AG {kd:Nat} {mm:Mr} {key:D} {j:Nat} {k:Mr→az} (h:(aa Fn FnD m).addK kd mm key j k=some r):∃ m',wa kd mm key j=some m'∧k m'=some r:=by
 simp only [aa] at h;split at h
 ·exact ⟨_,‹_›,h⟩
 ·cases h
theorem gg:∀ {xs:List gx} {ds:List D},gh (aa Fn FnD m) xs=some ds→bV xs=ds.map .d
 | [],ds,h=>by simp [gh] at h;subst h;rfl
 | x::xs,ds,h=>by
  simp only [gh] at h
  split at h
  ·rename_i y ys hy hys
   cases h
   simp [bV,cM hy,gg hys]
  ·cases h
theorem Do (ds:List D) (o:Ob):(e9 (ds.map .d)).run o=some (ds,[])∧(e9 (ds.map .d)).reads o=[]:=by
 induction ds with
 | nil=>exact ⟨rfl,rfl⟩
 | cons d ds ih=>exact ⟨by simp [e9,ke,Q.bind,Q.run_bind,ih.1,Q.run],by simp [e9,ke,Q.bind,Q.reads_bind,ih.1,ih.2,Q.reads]⟩
theorem kN {g:Bool} {s off:Nat} {cells:List L} {v:V} (hl:off+s≤cells.length) (h:AV g ((cells.drop off).take s)=some v):bA g s off cells=some v:=by
 cases g with
 | true=>simp only [AV] at h;simp [bA,hl,← h]
 | false =>
  simp only [bA,Jq,Jx]
  unfold AV at h
  split at h
  ·contradiction
  ·rename_i x hx
   cases h
   have h0:=congrArg (·[0]?) hx
   simp only [M8,Mw,Ky,Kq] at h0
   split at h0
   ·rw [h0];rfl
   ·cases h0
  ·cases h
theorem uL (w:List D) (off s:Nat) (h:off+s≤w.length):(List.range s).map (fun i=>w.getD (off+i) default)=(w.drop off).take s:=by
 apply Mp
 intro i
 simp only [Kn,M8,Mw]
 by_cases hi:i < s
 ·rw [T0 hi,K9 hi,M3,Jz (by omega)]
  simp [Kd,Jz (show off+i < w.length by omega)]
 ·rw [Kx (by simpa using hi),Kg hi];rfl
theorem vJ {cells:List gx} {b n es i:Nat} (hi:i < n):∀ {s o:Nat} {xs:List gx},vK (aa Fn FnD m) cells b n es i o s=some xs→b+es*i+o+s≤cells.length→bV xs=((bV cells).drop (b+es*i+o)).take s
 | 0,o,xs,h,_=>by simp [vK] at h;subst h;simp [bV]
 | s+1,o,xs,h,hl=>by
  simp only [vK] at h
  split at h
  ·rename_i ds ys hds hys
   cases h
   have ih:=vJ hi hys (by omega)
   have h1:=gg hds
   have h2:=congrArg (·[i]?) h1
   have hlt:b+es*i+o < cells.length:=by omega
   have hd:(bV cells).drop (b+es*i+o)=eL cells[b+es*i+o]::(bV cells).drop (b+es*i+o+1):=by
    rw [bj,Ti (by simpa using hlt)];simp
   simp only [bj,Mn,Kn,T0 hi,M3,Function.comp] at h2
   rw [hd,Tx]
   simp only [bV]
   rw [show b+es*i+o+1=b+es*i+(o+1) by omega,← ih]
   congr 1
   rw [Kd,show b+i*es+o=b+es*i+o by rw [Nat.mul_comm],Jz hlt,M1] at h2
   simp only [aa,eL,Kd]
   cases hq:ds[i]? with
   | none=>rw [hq] at h2;simp at h2
   | some z=>rw [hq] at h2;simp at h2;rw [h2];rfl
  ·cases h
theorem F2 {i b n es off:Nat} {ds:List D} {cells:List gx} (hi:i < n) (hes:0 < es) (hb:b+n*es≤cells.length) (ho:off+ds.length≤es) (hd:(uR (aa Fn FnD m) i b n es off ds cells).all L3.isDef=true) :
  bV (uR (aa Fn FnD m) i b n es off ds cells)=(bV cells).take (b+es*i+off)++ds.map .d++(bV cells).drop (b+es*i+off+(ds.map L.d).length):=by
 have hin:es*i+es≤n*es:=by rw [Nat.mul_comm es i,← Nat.succ_mul];exact M9 _ hi
 have hlen:b+es*i+off+(ds.map L.d).length≤(bV cells).length:=by rw [co,K5];omega
 apply Mp
 intro p
 rw [i9 _ _ _ hlen,K5]
 by_cases hp:p < cells.length
 ·have hx:(uR (aa Fn FnD m) i b n es off ds cells)[p]?=some (if b≤p∧p < b+n*es∧off≤(p - b) % es∧(p - b) % es < off+ds.length then HI (aa Fn FnD m) i ((p - b) / es) cells[p] ds[(p - b) % es - off]? else cells[p]):=by
   simp only [uR,Kn,List.getElem?_zipIdx,Jz hp,M3,K4]
  have hdef:=Kt.1 hd _ (Ka hx)
  rw [bj,Kn,hx,M3]
  have hcp:(bV cells)[p]?=some (eL cells[p]):=by rw [bj,Kn,Jz hp];rfl
  have hmod:=Nat.div_add_mod (p - b) es
  by_cases hc:b≤p∧p < b+n*es∧off≤(p - b) % es∧(p - b) % es < off+ds.length
  ·rw [K9 hc] at hdef ⊢
   obtain ⟨c1,c2,c3,c4⟩:=hc
   unfold HI at hdef ⊢
   split at hdef
   ·rename_i old new h1 h2
    simp only [aa,eL]
    by_cases hq:i=(p - b) / es
    ·rw [K9 hq,Kg (by rw [←hq] at hmod;omega),K9 (by rw [←hq] at hmod;omega)]
     rw [Kn,show p - (b+es*i+off)=(p - b) % es - off by rw [←hq] at hmod;omega,h2];rfl
    ·rw [Kg hq]
     have hnot:¬ (b+es*i+off≤p∧p < b+es*i+off+ds.length):=by
      rintro ⟨h3,h4⟩
      refine hq ?_
      have:p - b=es*i+(p - b - es*i):=by omega
      rw [this,Nat.mul_add_div hes,Nat.div_eq_of_lt (by omega)];rfl
     have:some (L.d old)=(bV cells)[p]?:=by rw [hcp,cM h1]
     split
     ·exact this
     ·rw [Kg (by omega)];exact this
   ·simp [L3.isDef] at hdef
  ·rw [Kg hc]
   have hnot:¬ (b+es*i+off≤p∧p < b+es*i+off+ds.length):=by
    rintro ⟨h3,h4⟩
    refine hc ?_
    have e1:(p - b) % es=p - b - es*i:=by
     have:p - b=es*i+(p - b - es*i):=by omega
     rw [this,Nat.mul_add_mod,Nat.mod_eq_of_lt (by omega)];omega
    rw [e1]
    omega
   split
   ·exact hcp.symm
   ·rw [Kg (by omega)];exact hcp.symm
 ·have h1:(bV (uR (aa Fn FnD m) i b n es off ds cells))[p]?=none:=Kx (by rw [co];simp [uR];omega)
  rw [h1]
  rw [co,K5] at hlen
  rw [Kg (by omega),Kg (by omega),Kx (by rw [co];omega)]
theorem ve {g:Bool} {s:Nat} {x:cv} {k:K3 D Nat Rr Mr az} (h:zo (aa Fn FnD m) g s ob x k=some r):OKQ ob (fy g s (eV x)) k r:=by
 unfold zo at h
 split at h
 ·rename_i key off
  split at h
  ·rename_i cells elem hk
   obtain ⟨v,h1,h2⟩:=ee (o':=bA g s off (bV cells)) h fun v hv=>by rw [f0,hv];rfl
   refine OKQ.mk (v:=v) (us:=[]) (rd:=[key]) ?_ ?_ h2
   ·simp [fy,eV,eL,Q.run,aq,hk,eO,aW,h1,Q.opt,Q.bind,aE]
   ·simp [fy,eV,eL,Q.reads,aq,hk,eO,aW,h1,Q.opt,Q.bind]
  ·cases h
 ·rename_i key i off c
  split at h
  ·rename_i rows size elem own hk
   obtain ⟨hc,h⟩:=b6 h
   obtain ⟨w,h1,h2,h⟩:=di h
   rw [cX h2] at h
   obtain ⟨v,h3,h4⟩:=ee (o':=bA g s off (w.map .d)) h fun v hv=>by rw [←zX,f0,hv];rfl
   have hc':c=rows.length:=hc
   refine OKQ.mk (v:=v) (us:=[]) (rd:=[key]) ?_ ?_ h4
   ·simp [fy,eV,eL,Q.run,aq,hk,eO,aW,h1,h3,Q.opt,Q.bind,aE,Q.guard,hc']
   ·simp [fy,eV,eL,Q.reads,aq,hk,eO,aW,h1,h3,Q.opt,Q.bind,Q.guard,hc']
  ·rename_i rows size elem own hk
   obtain ⟨hc,h⟩:=b6 h
   obtain ⟨w,h1,h2,h⟩:=di h
   rw [cX h2] at h
   obtain ⟨v,h3,h4⟩:=ee (o':=bA g s off (w.map .d)) h fun v hv=>by rw [←zX,f0,hv];rfl
   have hc':c=rows.length:=hc
   have hg:=db hk (by rintro rfl;simp at h1)
   refine OKQ.mk (v:=v) (us:=[]) (rd:=[key]) ?_ ?_ h4
   ·simp [fy,eV,eL,Q.run,hg,aW,h1,h3,Q.opt,Q.bind,aE,Q.guard,hc']
   ·simp [fy,eV,eL,Q.reads,hg,aW,h1,h3,Q.opt,Q.bind,Q.guard,hc']
  ·cases h
 ·rename_i row off
  obtain ⟨v,h1,h2⟩:=ee (o':=bA g s off (row.map .d)) h fun v hv=>by rw [←zX,f0,hv];rfl
  refine OKQ.mk (v:=v) (us:=[]) (rd:=[]) ?_ ?_ h2
  ·simp [fy,eV,eL,Q.run,aW,h1,Q.opt,Q.bind,aE]
  ·simp [fy,eV,eL,Q.reads,aW,h1,Q.opt,Q.bind]
 ·rename_i key j off
  split at h
  ·rename_i mm size elem hk
   obtain ⟨w,h1,h2,h⟩:=di h
   obtain ⟨h3,h⟩:=je h
   have h3':off+s≤w.length:=by rw [h2];exact h3
   have h1':mm.2[j]?=some w:=h1
   obtain ⟨v,h4,h5⟩:=ee (o':=bA g s off (w.map .d)) h fun v hv=>by
    refine kN (by simpa using h3') ?_
    have e:bV ((List.range s).map fun i=>.d ((aa Fn FnD m).cellN w off i))=((w.map L.d).drop off).take s:=by
     rw [←List.map_drop,← Vf,← uL w off s h3',bj,Mn,Mn]
     rfl
    rw [←e,zi,hv];rfl
   refine OKQ.mk (v:=v) (us:=[]) (rd:=[key]) ?_ ?_ h5
   ·simp [fy,eV,eL,Q.run,aq,hk,eO,aW,h1',h4,Q.opt,Q.bind,aE]
   ·simp [fy,eV,eL,Q.reads,aq,hk,eO,aW,h1',h4,Q.opt,Q.bind]
  ·cases h
 ·rename_i key b n es i off
  split at h
  ·rename_i cells elem hk
   split at h
   ·rename_i hle
    split at h
    ·rename_i xs hxs
     obtain ⟨h3,h⟩:=je h
     have h3':i+1≤n:=h3
     have hin:es*i+es≤n*es:=by rw [Nat.mul_comm es i,← Nat.succ_mul];exact M9 _ h3'
     obtain ⟨v,h4,h5⟩:=ee (o':=bA g s (b+es*i+off) (bV cells)) h fun v hv=>by
      refine kN (by rw [co];omega) ?_
      rw [←vJ h3' hxs (by omega),zi,hv];rfl
     refine OKQ.mk (v:=v) (us:=[]) (rd:=[key]) ?_ ?_ h5
     ·simp [fy,eV,eL,Q.run,aq,hk,eO,aW,h4,Q.opt,Q.bind,aE]
     ·simp [fy,eV,eL,Q.reads,aq,hk,eO,aW,h4,Q.opt,Q.bind]
    ·cases h
   ·cases h
  ·cases h
 ·cases h
theorem tR {x:gx} {k:D→Ur→List Nat→az} (h:tS (aa Fn FnD m) ob x k=some r):∃ d us rd,(ke (eL x)).run (ai (aD ob))=some (d,aD us)∧(∀ q∈(ke (eL x)).reads (ai (aD ob)),q∈rd)∧k d us rd=some r:=by
 unfold tS at h
 split at h
 ·rename_i key off n c
  split at h
  ·rename_i rows size elem own hk
   obtain ⟨hc,h⟩:=b6 h
   have hc':c=rows.length:=hc
   refine ⟨_,_,_,?_,?_,h⟩
   ·simp [ke,eL,Q.run,aq,hk,eO,Q.guard,hc',aa,aE,aV]
   ·simp [ke,eL,Q.reads,aq,hk,eO,Q.guard,hc']
  ·cases h
 ·rename_i key
  split at h
  ·rename_i agg mm own hk
   refine ⟨_,_,_,?_,?_,h⟩
   ·simp [ke,eL,Q.run,aq,hk,eO,aa,aE,aV]
   ·simp [ke,eL,Q.reads,aq,hk,eO]
  ·cases h
 ·rename_i key n
  split at h
  ·rename_i rows size elem own hk
   obtain ⟨hc,h⟩:=b6 h
   have hc':n=rows.length:=hc
   refine ⟨_,_,_,?_,?_,h⟩
   ·cases rows with
    | nil=>simp [ke,eL,Q.run,jm hk,eO,Q.guard,hc',aa,aE,aV]
    | cons a t=>simp [ke,eL,Q.run,db hk,eO,Q.guard,hc',aa,aE,aV]
   ·cases rows with
    | nil=>simp [ke,eL,Q.reads,jm hk,Q.guard,hc']
    | cons a t=>simp [ke,eL,Q.reads,db hk,Q.guard,hc']
  ·cases h
 ·split at h
  ·rename_i y hy
   refine ⟨_,_,_,?_,?_,h⟩
   ·rw [cM hy];simp [ke,Q.run,aE]
   ·rw [cM hy];simp [ke,Q.reads]
  ·cases h
theorem jo:∀ {xs:List gx} {k:List D→Ur→List Nat→az},oH (aa Fn FnD m) ob xs k=some r→∃ ds us rd,(e9 (bV xs)).run (ai (aD ob))=some (ds,aD us)∧(∀ q∈(e9 (bV xs)).reads (ai (aD ob)),q∈rd)∧k ds us rd=some r
 | [],k,h=>⟨[],[],[],by simp [bV,e9,Q.run,aE],by simp [bV,e9,Q.reads],h⟩
 | x::xs,k,h=>by
  simp only [oH] at h
  obtain ⟨d,us,rd,h1,h2,h⟩:=tR h
  obtain ⟨ds,us',rd',h3,h4,h⟩:=jo h
  refine ⟨_,_,_,?_,?_,h⟩
  ·simp [bV,e9,Q.run_bind,h1,h3,Q.run,ir]
  ·intro q hq
   simp only [bV,e9,Q.reads_bind,h1,h3,Kp,Q.reads,Me,Tn] at hq
   rcases hq with hq | hq
   ·exact Mc _ (h2 q hq)
   ·exact Ma _ (h4 q hq)
theorem fj {dst:Option Nat} {o:BM} {v:Nat→cv} {v':Nat→V} {k:K3 D Nat Rr Mr az} (h:ep (aa Fn FnD m) ob dst o v k=some r) (hv:∀ q,eV (v q)=v' q):OKQ ob (fresh dst (eO o) v') k r:=by
 unfold ep at h
 split at h
 ·rename_i key
  split at h
  ·rename_i hk
   refine OKQ.mk ?_ ?_ h
   ·simp [fresh,Q.run,aq,hk,hv,aE,aV]
   ·simp [fresh,Q.reads,aq,hk]
  ·cases h
 ·cases h
theorem Av {x:cv} {cs:List gx} {k:K3 D Nat Rr Mr az} (h:xk (aa Fn FnD m) ob x cs k=some r):OKQ ob (gA (eV x) (bV cs)) k r:=by
 unfold xk at h
 split at h
 ·rename_i key off
  split at h
  ·rename_i cells elem hk
   split at h
   ·rename_i hle
    refine OKQ.mk ?_ ?_ h
    ·simp [gA,eV,eL,Q.run,aq,hk,eO,Q.guard,hle,aE,aV,bj,Vf,List.map_drop]
    ·simp [gA,eV,eL,Q.reads,aq,hk,eO,Q.guard,co,hle]
   ·cases h
  ·cases h
 ·rename_i key i off c
  split at h
  ·rename_i rows size elem own hk
   split at h
   ·obtain ⟨hc,h⟩:=b6 h
    have hc':c=rows.length:=hc
    obtain ⟨w,h1,h2,h⟩:=di h
    obtain ⟨ds,us,rd,h3,h4,h⟩:=jo h
    rw [cX h2] at h
    split at h
    ·split at h
     ·rename_i hle
      refine OKQ.mk ?_ ?_ h
      ·simp only [gA,eV,eL,Q.run,aq,hk,Ke,eO,fq,Q.guard,hc',Jt,Tw,h1,Q.opt,Q.bind,Q.run_bind,h3,Ke,h2,hle,aE,aV,Tc]
       simp [aa]
      ·intro q hq
       simp only [gA,eV,eL,Q.reads,aq,hk,Ke,eO,fq,Q.guard,hc',Jt,Tw,h1,Q.opt,Q.bind,Q.reads_bind,h3,h2,hle,aE,Tc,Ki,Kp,Me,Tn] at hq
       rcases hq with rfl | hq
       ·simp
       ·exact Kz _ (h4 q hq)
     ·cases h
    ·cases h
   ·cases h
  ·cases h
 ·rename_i key j off
  split at h
  ·rename_i mm size elem hk
   split at h
   ·rename_i ds hds
    obtain ⟨w,h1,h2,h⟩:=di h
    obtain ⟨h3,h⟩:=je h
    have h3':off+ds.length≤w.length:=by rw [h2];exact h3
    have h1':mm.2[j]?=some w:=h1
    have hf:=Do ds (ai (aD ob))
    have hgd:mm.2.getD j []=w:=by rw [Kd,h1'];rfl
    refine OKQ.mk ?_ ?_ h
    ·simp only [gA,eV,eL,gg hds,Q.run,aq,hk,Ke,eO,Hf,h1',Q.opt,Q.bind,Q.run_bind,hf.1,Ke,Q.guard,h3',Jt,Tc,Tw,aE,aV]
     simp only [aa,iT,hgd]
    ·intro q hq
     simpa [gA,eV,eL,gg hds,Q.reads,aq,hk,eO,h1',Q.opt,Q.bind,Q.reads_bind,hf.1,hf.2,Q.guard,h3'] using hq
   ·cases h
  ·cases h
 ·rename_i key b n es i off
  split at h
  ·rename_i cells elem hk
   split at h
   ·rename_i ds hds
    split at h
    ·rename_i hle
     obtain ⟨g1,g2,g3,g4⟩:=hle
     obtain ⟨h3,h⟩:=je h
     have h3':i+1≤n:=h3
     have hin:es*i+es≤n*es:=by rw [Nat.mul_comm es i,← Nat.succ_mul];exact M9 _ h3'
     have hp:=F2 h3' g4 g1 g2 g3
     have hle':b+es*i+off+(ds.map L.d).length≤(bV cells).length:=by rw [co,K5];omega
     have hle2:b+es*i+off+ds.length≤(bV cells).length:=by simpa using hle'
     refine OKQ.mk ?_ ?_ h
     ·simp only [gA,eV,eL,gg hds,Q.run,aq,hk,Ke,eO,p6,Q.guard,hle',Jt,aE,aV,hp]
     ·simp [hle2,gA,eV,eL,gg hds,Q.reads,aq,hk,eO,Q.guard]
    ·cases h
   ·cases h
  ·cases h
 ·cases h
end
section
variable {P:Program} {Fn:Nat→List D→az} {FnD:D→List Sh→List D→az} {m:Nat} {r:Nat×List Yr} {ob:Ur}
theorem j8 {rec:gx→(D→List Nat→az)→az} {f:L→Q D} (hrec:∀ x k,rec x k=some r→∃ d rd,(f (eL x)).run (ai (aD ob))=some d∧(∀ q∈(f (eL x)).reads (ai (aD ob)),q∈rd)∧k d rd=some r) :
  ∀ {xs:List gx} {k:List D→List Nat→az},ol rec xs k=some r→∃ ds rd,(Q.mapM f (bV xs)).run (ai (aD ob))=some ds∧(∀ q∈(Q.mapM f (bV xs)).reads (ai (aD ob)),q∈rd)∧ds.length=xs.length∧k ds rd=some r
 | [],k,h=>⟨[],[],by simp [bV,Q.mapM,Q.run],by simp [bV,Q.mapM,Q.reads],rfl,h⟩
 | x::xs,k,h=>by
  simp only [ol] at h
  obtain ⟨d,rd,h1,h2,h⟩:=hrec _ _ h
  obtain ⟨ds,rd',h3,h4,h5,h⟩:=j8 hrec h
  refine ⟨_,_,?_,?_,?_,h⟩
  ·simp [bV,Q.mapM,Q.run_bind,h1,h3,Q.run]
  ·intro q hq
   simp only [bV,Q.mapM,Q.reads_bind,h1,h3,Kp,Q.reads,Me,Tn] at hq
   rcases hq with hq | hq
   ·exact Mc _ (h2 q hq)
   ·exact Ma _ (h4 q hq)
  ·simp [h5]
theorem mv:∀ (n:Nat) (x:gx) (k:D→List Nat→az),dD (aa Fn FnD m) ob n x k=some r→∃ d rd,(ci n (eL x)).run (ai (aD ob))=some d∧(∀ q∈(ci n (eL x)).reads (ai (aD ob)),q∈rd)∧k d rd=some r:=by
 intro n
 induction n with
 | zero =>
  intro x k h
  cases x with
  | slk key off n' c =>
   simp only [dD] at h
   split at h
   ·rename_i rows size elem own hk
    obtain ⟨hc,h⟩:=b6 h
    have hc':c=rows.length:=hc
    refine ⟨_,_,?_,?_,h⟩
    ·simp [ci,eL,Q.run,aq,hk,eO,Q.guard,hc',aa]
    ·simp [ci,eL,Q.reads,aq,hk,eO,Q.guard,hc']
   ·cases h
  | pa key i off c =>
   simp only [dD] at h
   split at h
   ·rename_i rows size elem own hk
    obtain ⟨hc,h⟩:=b6 h
    have hc':c=rows.length:=hc
    obtain ⟨w,h1,h2,h⟩:=di h
    rw [cX h2] at h
    refine ⟨_,_,?_,?_,h⟩
    ·simp [ci,eL,Q.run,aq,hk,eO,Q.guard,hc',h1,Q.opt,Q.bind,aa]
    ·simp [ci,eL,Q.reads,aq,hk,eO,Q.guard,hc',h1,Q.opt,Q.bind]
   ·rename_i rows size elem own hk
    obtain ⟨hc,h⟩:=b6 h
    have hc':c=rows.length:=hc
    obtain ⟨w,h1,h2,h⟩:=di h
    rw [cX h2] at h
    have hg:=db hk (by rintro rfl;simp at h1)
    refine ⟨_,_,?_,?_,h⟩
    ·simp [ci,eL,Q.run,hg,Q.guard,hc',h1,Q.opt,Q.bind,aa]
    ·simp [ci,eL,Q.reads,hg,Q.guard,hc',h1,Q.opt,Q.bind]
   ·cases h
  | sln key n' =>
   simp only [dD] at h
   split at h
   ·rename_i rows size elem own hk
    obtain ⟨hc,h⟩:=b6 h
    have hc':n'=rows.length:=hc
    refine ⟨_,_,?_,?_,h⟩
    ·cases rows with
     | nil=>simp [ci,eL,Q.run,hc',aa]
     | cons a t=>simp [ci,eL,Q.run,db hk,Q.guard,hc',aa]
    ·cases rows with
     | nil=>simp [ci,eL,Q.reads,hc']
     | cons a t=>simp [ci,eL,Q.reads,db hk,Q.guard,hc']
   ·cases h
  | mk key =>
   simp only [dD] at h
   split at h
   ·rename_i agg mm own hk
    refine ⟨_,_,?_,?_,h⟩
    ·simp [ci,eL,Q.run,aq,hk,eO,aa]
    ·simp [ci,eL,Q.reads,aq,hk,eO]
   ·cases h
  | ptr _ _=>simp [dD,dE,aa] at h
  | fn _ _=>simp [dD,dE,aa] at h
  | undef=>simp [dD,dE,aa] at h
  | mq k0=>simp [dD,dE,aa] at h
  | pb k0 j0 o0=>simp [dD,dE,aa] at h
  | px k0 b0 n0 e0 i0 o0=>simp [dD,dE,aa] at h
  | np=>simp only [dD,dE] at h;exact ⟨_,_,by simp [eL,ci,Q.run,aa],by simp [eL,ci,Q.reads],h⟩
  | d x=>simp only [dD,dE] at h;exact ⟨_,_,by simp [eL,ci,Q.run],by simp [eL,ci,Q.reads],h⟩
  | b x=>simp only [dD,dE] at h;exact ⟨_,_,by simp [eL,ci,Q.run,aa],by simp [eL,ci,Q.reads],h⟩
  | i x y=>simp only [dD,dE] at h;exact ⟨_,_,by simp [eL,ci,Q.run,aa],by simp [eL,ci,Q.reads],h⟩
  | nil=>simp only [dD,dE] at h;exact ⟨_,_,by simp [eL,ci,Q.run,aa],by simp [eL,ci,Q.reads],h⟩
  | dp x y=>simp only [dD,dE] at h;exact ⟨_,_,by simp [eL,ci,Q.run,aa],by simp [eL,ci,Q.reads],h⟩
 | succ n ih =>
  intro x k h
  cases x with
  | slk key off n' c =>
   simp only [dD] at h
   split at h
   ·rename_i rows size elem own hk
    obtain ⟨hc,h⟩:=b6 h
    have hc':c=rows.length:=hc
    refine ⟨_,_,?_,?_,h⟩
    ·simp [ci,eL,Q.run,aq,hk,eO,Q.guard,hc',aa]
    ·simp [ci,eL,Q.reads,aq,hk,eO,Q.guard,hc']
   ·cases h
  | pa key i off c =>
   simp only [dD] at h
   split at h
   ·rename_i rows size elem own hk
    obtain ⟨hc,h⟩:=b6 h
    have hc':c=rows.length:=hc
    obtain ⟨w,h1,h2,h⟩:=di h
    rw [cX h2] at h
    refine ⟨_,_,?_,?_,h⟩
    ·simp [ci,eL,Q.run,aq,hk,eO,Q.guard,hc',h1,Q.opt,Q.bind,aa]
    ·simp [ci,eL,Q.reads,aq,hk,eO,Q.guard,hc',h1,Q.opt,Q.bind]
   ·rename_i rows size elem own hk
    obtain ⟨hc,h⟩:=b6 h
    have hc':c=rows.length:=hc
    obtain ⟨w,h1,h2,h⟩:=di h
    rw [cX h2] at h
    have hg:=db hk (by rintro rfl;simp at h1)
    refine ⟨_,_,?_,?_,h⟩
    ·simp [ci,eL,Q.run,hg,Q.guard,hc',h1,Q.opt,Q.bind,aa]
    ·simp [ci,eL,Q.reads,hg,Q.guard,hc',h1,Q.opt,Q.bind]
   ·cases h
  | sln key n' =>
   simp only [dD] at h
   split at h
   ·rename_i rows size elem own hk
    obtain ⟨hc,h⟩:=b6 h
    have hc':n'=rows.length:=hc
    refine ⟨_,_,?_,?_,h⟩
    ·cases rows with
     | nil=>simp [ci,eL,Q.run,hc',aa]
     | cons a t=>simp [ci,eL,Q.run,db hk,Q.guard,hc',aa]
    ·cases rows with
     | nil=>simp [ci,eL,Q.reads,hc']
     | cons a t=>simp [ci,eL,Q.reads,db hk,Q.guard,hc']
   ·cases h
  | mk key =>
   simp only [dD] at h
   split at h
   ·rename_i agg mm own hk
    refine ⟨_,_,?_,?_,h⟩
    ·simp [ci,eL,Q.run,aq,hk,eO,aa]
    ·simp [ci,eL,Q.reads,aq,hk,eO]
   ·cases h
  | ptr key off =>
   simp only [dD] at h
   split at h
   ·rename_i cells elem hk
    obtain ⟨ds,rd,h1,h2,_,h⟩:=j8 (f:=ci n) ih h
    refine ⟨_,_,?_,?_,h⟩
    ·simp [ci,eL,Q.run,aq,hk,eO,Q.run_bind,h1,aa]
    ·intro q hq
     simp only [ci,eL,Q.reads,aq,hk,Ke,eO,p6,Q.reads_bind,h1,Ki,Kp,Me,Tn] at hq
     rcases hq with rfl | hq
     ·simp
     ·exact Kz _ (h2 q hq)
   ·cases h
  | fn f cs =>
   simp only [dD] at h
   obtain ⟨ds,rd,h1,h2,_,h⟩:=j8 (f:=ci n) ih h
   refine ⟨_,_,?_,?_,h⟩
   ·simp [ci,eL,Q.run_bind,h1,Q.run,aa]
   ·intro q hq
    simp only [ci,eL,Q.reads_bind,h1,Q.reads,Kp,Me,Tn] at hq
    exact h2 q hq
  | undef=>simp [dD,dE,aa] at h
  | mq k0=>simp [dD,dE,aa] at h
  | pb k0 j0 o0=>simp [dD,dE,aa] at h
  | px k0 b0 n0 e0 i0 o0=>simp [dD,dE,aa] at h
  | np=>simp only [dD,dE] at h;exact ⟨_,_,by simp [eL,ci,Q.run,aa],by simp [eL,ci,Q.reads],h⟩
  | d x=>simp only [dD,dE] at h;exact ⟨_,_,by simp [eL,ci,Q.run],by simp [eL,ci,Q.reads],h⟩
  | b x=>simp only [dD,dE] at h;exact ⟨_,_,by simp [eL,ci,Q.run,aa],by simp [eL,ci,Q.reads],h⟩
  | i x y=>simp only [dD,dE] at h;exact ⟨_,_,by simp [eL,ci,Q.run,aa],by simp [eL,ci,Q.reads],h⟩
  | nil=>simp only [dD,dE] at h;exact ⟨_,_,by simp [eL,ci,Q.run,aa],by simp [eL,ci,Q.reads],h⟩
  | dp x y=>simp only [dD,dE] at h;exact ⟨_,_,by simp [eL,ci,Q.run,aa],by simp [eL,ci,Q.reads],h⟩
theorem pO {x:gx} {k:IntKind} {z:Int} (h:dE (aa Fn FnD m) x=some (.lit (.int k z))):vInt? (.one (eL x))=some (k,z):=by rw [cM h];rfl
theorem zD {es:Nat} {x:cv} {k:K3 D Nat Rr Mr az} {j:Nat} (h:B6 (aa Fn FnD m) es x k j=some r):∃ v,dQ (j*es) (eV x)=some (eV v)∧k v [] []=some r:=by
 unfold B6 at h
 exact ee (o':=dQ (j*es) (eV x)) h fun v hv=>od hv
theorem sr {arr:Option Nat} {e:Nat} {es:Nat} {x:cv} {i:gx} {k:K3 D Nat Rr Mr az} (h:tJ (aa Fn FnD m) arr es ob x i k=some r):∃ kk z,vInt? (.one (eL i))=some (kk,z)∧OKQ ob (cO (arr.map fun n=>(n,e)) es (eV x) z) k r:=by
 unfold tJ at h
 cases arr with
 | some n =>
  simp only at h
  split at h
  ·rename_i kk z
   split at h
   ·rename_i hz
    obtain ⟨v,h1,h2⟩:=zD h
    refine ⟨kk,z,rfl,OKQ.mk (v:=v) (us:=[]) (rd:=[]) ?_ ?_ h2⟩
    ·simp [cO,aW,hz,h1,Q.opt,Q.bind,Q.run,aE]
    ·simp [cO,aW,hz,h1,Q.opt,Q.bind,Q.reads]
   ·cases h
  ·rename_i y
   have sel:(aa Fn FnD m).selI n y ((List.range n).map (B6 (aa Fn FnD m) es x k))=some r→∃ kk z,vInt? (.one (eL (.d y)))=some (kk,z)∧OKQ ob (cO ((some n).map fun n=>(n,e)) es (eV x) z) k r:=by
    intro h
    obtain ⟨kk,z,rfl,hz,h⟩:=rZ h
    simp only [lL,Kn] at h
    rw [T0 (by omega)] at h
    obtain ⟨v,h1,h2⟩:=zD (Fn:=Fn) (FnD:=FnD) (m:=m) h
    refine ⟨kk,z,rfl,OKQ.mk (v:=v) (us:=[]) (rd:=[]) ?_ ?_ h2⟩
    ·simp [cO,aW,hz,h1,Q.opt,Q.bind,Q.run,aE]
    ·simp [cO,aW,hz,h1,Q.opt,Q.bind,Q.reads]
   split at h
   ·rename_i key j off
    obtain ⟨kk,z,rfl,hz,h⟩:=kB h
    have hz':0≤z∧z < (n:Int):=hz
    refine ⟨kk,z,rfl,OKQ.mk (us:=[]) (rd:=[]) ?_ ?_ h⟩
    ·simp [cO,aW,hz',dQ,eV,eL,Q.opt,Q.bind,Q.run,aE,aa,Nat.mul_comm]
    ·simp [cO,aW,hz',dQ,eV,eL,Q.opt,Q.bind,Q.reads]
   ·rename_i key off
    split at h
    ·split at h
     ·obtain ⟨kk,z,rfl,hz,h⟩:=kB h
      have hz':0≤z∧z < (n:Int):=hz
      refine ⟨kk,z,rfl,OKQ.mk (us:=[]) (rd:=[]) ?_ ?_ h⟩
      ·simp [cO,aW,hz',dQ,eV,eL,Q.opt,Q.bind,Q.run,aE,Nat.mul_comm]
      ·simp [cO,aW,hz',dQ,eV,eL,Q.opt,Q.bind,Q.reads]
     ·exact sel h
    ·cases h
   ·exact sel h
  ·cases h
 | none =>
  simp only at h
  split at h
  ·cases h
  ·rename_i y hy
   split at h
   ·rename_i key off n c
    split at h
    ·rename_i rows size elem own hk
     split at h
     ·rename_i hs
      subst hs
      obtain ⟨hc,h⟩:=b6 h
      have hc':c=rows.length:=hc
      obtain ⟨kk,z,rfl,hz,h⟩:=kB h
      refine ⟨kk,z,pO hy,OKQ.mk ?_ ?_ h⟩
      ·simp only [cO,eV,eL,Q.run,aq,hk,Ke,Tt,eO,fq,Q.guard,hc',Kk,Jt,aW,Q.opt,aE]
       rw [K9 hz]
       cases off<;>simp [Q.run,Q.bind,aa]
      ·simp only [cO,eV,eL,Q.reads,aq,hk,Ke,Tt,eO,fq,Q.guard,hc',Kk,Jt,aW,Q.opt]
       rw [K9 hz]
       simp [Q.reads,Q.bind]
     ·cases h
    ·cases h
   ·rename_i key n
    split at h
    ·rename_i rows size elem own hk
     split at h
     ·rename_i hs
      subst hs
      obtain ⟨hc,h⟩:=b6 h
      have hc':n=rows.length:=hc
      obtain ⟨kk,z,rfl,hz,h⟩:=kB h
      have hg:=db hk (by rintro rfl;simp at hc';omega)
      refine ⟨kk,z,pO hy,OKQ.mk ?_ ?_ h⟩
      ·simp only [cO,eV,eL,Q.run,hg,Tt,Q.guard,hc',Kk,Jt,aW,Q.opt,aE]
       rw [K9 (by rw [←hc'];exact hz)]
       simp [Q.run,Q.bind]
      ·simp only [cO,eV,eL,Q.reads,hg,Tt,Q.guard,hc',Kk,Jt,aW,Q.opt]
       rw [K9 (by rw [←hc'];exact hz)]
       simp [Q.reads,Q.bind]
     ·cases h
    ·cases h
   ·rename_i z0
    obtain ⟨rows,kk,z,w,rfl,rfl,hz,hw,hl,h⟩:=AA h
    rw [cX hl] at h
    refine ⟨kk,z,pO hy,OKQ.mk ?_ ?_ h⟩
    ·simp [cO,eV,eL,Q.guard,hz,hw,aW,Q.opt,Q.bind,Q.run,aE]
    ·simp [cO,eV,eL,Q.guard,hz,hw,aW,Q.opt,Q.bind,Q.reads]
   ·cases h
theorem eN {ρ:Operand→cv} {o:Option Operand} {d:Option D} {z:Option Int} (h:rK (aa Fn FnD m) ρ o=some d) (hz:fK d=some z):oV (fun x=>eV (ρ x)) o=some z:=by
 unfold rK at h
 split at h
 ·cases h;simp only [fK] at hz;cases hz;rfl
 ·split at h
  ·rename_i y hy
   cases h
   simp only [fK,K6] at hz
   obtain ⟨n,hn,rfl⟩:=hz
   unfold intD at hn
   split at hn
   ·cases hn;simp [oV,eT hy,vInt?]
   ·cases hn
  ·cases h
theorem FK {es:Nat} {x:cv} {ρ:Operand→cv} {lo hi:Option Operand} {l h':Option D} {k:K3 D Nat Rr Mr az} (hl:rK (aa Fn FnD m) ρ lo=some l) (hh:rK (aa Fn FnD m) ρ hi=some h') (h:Ij (aa Fn FnD m) es ob x l h' k=some r) :
  ∃ zl zh,oV (fun x=>eV (ρ x)) lo=some zl∧oV (fun x=>eV (ρ x)) hi=some zh∧OKQ ob (kR es (eV x) zl zh) k r:=by
 unfold Ij at h
 split at h
 ·rename_i key off n c
  split at h
  ·rename_i rows size elem own hk
   split at h
   case isFalse=>cases h
   rename_i hs
   subst hs
   obtain ⟨hc,h⟩:=b6 h
   have hc':c=rows.length:=hc
   cases l with
   | none =>
    obtain ⟨zl,zh,hzl,hzh,hb,h | ⟨_,h⟩⟩:=uG h
    ·obtain ⟨hb2,h⟩:=h
     simp only [fK,Jr] at hzl
     subst hzl
     refine ⟨none,zh,eN hl rfl,eN hh hzh,OKQ.mk ?_ ?_ h⟩
     ·simp only [kR,eV,eL,Q.run,aq,hk,Ke,eO,fq,Q.guard,hc',Kk,Jt,aW,Q.opt,aE]
      rw [K9 hb,K9 hb2]
      simp [Q.run,Q.bind]
     ·simp only [kR,eV,eL,Q.reads,aq,hk,Ke,eO,fq,Q.guard,hc',Kk,Jt,aW,Q.opt]
      rw [K9 hb,K9 hb2]
      simp [Q.reads,Q.bind]
    ·cases h
   | some y =>
    obtain ⟨zl,zh,hzl,hzh,hb,⟨hb2,h⟩ | ⟨hb2,h⟩⟩:=uG h
    ·refine ⟨zl,zh,eN hl hzl,eN hh hzh,OKQ.mk ?_ ?_ h⟩
     ·simp only [kR,eV,eL,Q.run,aq,hk,Ke,eO,fq,Q.guard,hc',Kk,Jt,aW,Q.opt,aE]
      rw [K9 hb,K9 hb2]
      cases off<;>simp [Q.run,Q.bind,aa]
     ·simp only [kR,eV,eL,Q.reads,aq,hk,Ke,eO,fq,Q.guard,hc',Kk,Jt,aW,Q.opt]
      rw [K9 hb,K9 hb2]
      simp [Q.reads,Q.bind]
    ·refine ⟨zl,zh,eN hl hzl,eN hh hzh,OKQ.mk ?_ ?_ h⟩
     ·simp only [kR,eV,eL,Q.run,aq,hk,Ke,eO,fq,Q.guard,hc',Kk,Jt,aW,Q.opt,aE]
      rw [K9 hb,Kg hb2]
      simp [Q.run,Q.bind,aa]
     ·simp only [kR,eV,eL,Q.reads,aq,hk,Ke,eO,fq,Q.guard,hc',Kk,Jt,aW,Q.opt]
      rw [K9 hb,Kg hb2]
      simp [Q.reads,Q.bind]
  ·cases h
 ·rename_i y
  obtain ⟨zl,zh,z,hzl,hzh,hz,h⟩:=AF h
  refine ⟨zl,zh,eN hl hzl,eN hh hzh,?_⟩
  unfold A6 at hz
  split at hz
  ·rename_i size rows
   split at hz
   case isFalse=>cases hz
   rename_i hs
   subst hs
   split at hz
   ·rename_i hb
    cases hz
    refine OKQ.mk ?_ ?_ h
    ·simp only [kR,eV,eL,Q.guard,Jt,aW,aE]
     rw [K9 hb]
     simp [Q.opt,Q.bind,Q.run]
    ·simp only [kR,eV,eL,Q.guard,Jt,aW]
     rw [K9 hb]
     simp [Q.opt,Q.bind,Q.reads]
   ·cases hz
  ·split at hz
   ·rename_i hb
    cases hz
    refine OKQ.mk ?_ ?_ h
    ·simp [kR,eV,eL,aW,hb,Q.opt,Q.bind,Q.run,aE]
    ·simp [kR,eV,eL,aW,hb,Q.opt,Q.bind,Q.reads]
   ·cases hz
  ·cases hz
 ·obtain ⟨zl,zh,hzl,hzh,hb,h⟩:=uF h
  refine ⟨zl,zh,eN hl hzl,eN hh hzh,OKQ.mk ?_ ?_ h⟩
  ·simp [kR,eV,eL,aW,hb,Q.opt,Q.bind,Q.run,aE]
  ·simp [kR,eV,eL,aW,hb,Q.opt,Q.bind,Q.reads]
 ·cases h
end
section
variable {P:Program} {Fn:Nat→List D→az} {FnD:D→List Sh→List D→az} {m:Nat} {r:Nat×List Yr} {ob:Ur}
theorem uw {ρ:Operand→cv} {size n:Nat}:∀ {parts:List (Nat×Operand)} {rows:Rr} {k:List (List D)→Ur→List Nat→az},rows.length=n→yL (aa Fn FnD m) ob size n rows (parts.map fun p=>(p.1,ρ p.2)) k=some r →
  ∃ rows' us rd,(dH (fun x=>eV (ρ x)) size rows parts).run (ai (aD ob))=some (rows',aD us)∧(∀ q∈(dH (fun x=>eV (ρ x)) size rows parts).reads (ai (aD ob)),q∈rd)∧k rows' us rd=some r
 | [],rows,k,hn,h=>⟨rows,[],[],by simp [dH,Q.run,aE],by simp [dH,Q.reads],h⟩
 | (i,x)::rest,rows,k,hn,h=>by
  simp only [K0,yL] at h
  split at h
  ·cases h
  ·rename_i cs hcs
   split at h
   ·rename_i hc
    obtain ⟨ds,us,rd,h1,h2,h⟩:=jo h
    obtain ⟨rows',us',rd',h3,h4,h⟩:=uw (rows:=rows.set i ds) (by simp [hn]) h
    have hce:(eV (ρ x)).cells=some (bV cs):=by rw [na,hcs];rfl
    have hgd:(decide ((bV cs).length=size∧i < rows.length))=true:=by simp [co,hc,hn]
    refine ⟨_,_,_,?_,?_,h⟩
    ·simp only [dH,hce,Q.opt,Q.bind,hgd,Q.guard,Q.run_bind,h1,h3,Ke,Q.run,ir]
    ·intro q hq
     simp only [dH,hce,Q.opt,Q.bind,hgd,Q.guard,Q.reads_bind,h1,h3,Q.reads,Kj,Kp] at hq
     rcases hq with hq | hq
     ·exact Mc _ (h2 q hq)
     ·exact Ma _ (h4 q hq)
   ·cases h
theorem yI {es:Nat} {x:cv} {k:Rr→List Nat→az} (h:EH (aa Fn FnD m) es ob x k=some r):∃ rows rd,(ct es (eV x)).run (ai (aD ob))=some rows∧(∀ q∈(ct es (eV x)).reads (ai (aD ob)),q∈rd)∧k rows rd=some r:=by
 unfold EH at h
 split at h
 ·exact ⟨[],[],by simp [ct,cY,eV,eL,Q.run],by simp [ct,cY,eV,eL,Q.reads],h⟩
 ·obtain ⟨rows,hr,h⟩:=pU h
  refine ⟨rows,[],?_,?_,h⟩
  ·unfold jL at hr
   split at hr
   ·cases hr;simp [ct,cY,eV,eL,Q.run]
   ·split at hr
    ·rename_i hs;cases hr;simp [ct,cY,eV,eL,Q.run,Q.guard,hs]
    ·cases hr
   ·cases hr
  ·unfold jL at hr
   split at hr
   ·simp [ct,cY,eV,eL,Q.reads]
   ·split at hr
    ·rename_i hs;simp [ct,cY,eV,eL,Q.reads,Q.guard,hs]
    ·cases hr
   ·cases hr
 ·rename_i key off n c
  split at h
  ·rename_i rows size elem own hk
   split at h
   ·rename_i hs
    subst hs
    obtain ⟨hc,h⟩:=b6 h
    have hc':c=rows.length:=hc
    refine ⟨_,_,?_,?_,h⟩
    ·simp [ct,cY,eV,eL,Q.run,aq,hk,eO,Q.guard,hc',aa]
    ·simp [ct,cY,eV,eL,Q.reads,aq,hk,eO,Q.guard,hc']
   ·cases h
  ·cases h
 ·rename_i key n
  split at h
  ·rename_i rows size elem own hk
   split at h
   ·rename_i hs
    subst hs
    obtain ⟨hc,h⟩:=b6 h
    have hc':n=rows.length:=hc
    refine ⟨_,_,?_,?_,h⟩
    ·cases rows with
     | nil=>simp [ct,eV,eL,Q.run,hc']
     | cons a t=>simp [ct,cY,eV,eL,Q.run,db hk,Q.guard,hc']
    ·cases rows with
     | nil=>simp [ct,eV,eL,Q.reads,hc']
     | cons a t=>simp [ct,cY,eV,eL,Q.reads,db hk,Q.guard,hc']
   ·cases h
  ·cases h
 ·cases h
theorem yq {dst:Option Nat} {elem size bytes:Nat} {s:cv} {new:Rr} {rd:List Nat} {k:K3 D Nat Rr Mr az} (h:ub (aa Fn FnD m) ob dst elem size bytes s new rd k=some r) :
  ∃ v us rd',(cS dst elem size bytes (eV s) new).run (ai (aD ob))=some (eV v,aD us)∧(∀ q∈(cS dst elem size bytes (eV s) new).reads (ai (aD ob)),q∈rd')∧k v us (rd++rd')=some r:=by
 unfold ub at h
 have nilc:pv (aa Fn FnD m) ob dst elem size bytes (.one .nil) new rd k=some r→∃ v us rd',(cS dst elem size bytes (.one (.d (.lit (.slice none 0 0)))) new).run (ai (aD ob))=some (eV v,aD us)∧(∀ q∈(cS dst elem size bytes (.one (.d (.lit (.slice none 0 0)))) new).reads (ai (aD ob)),q∈rd')∧k v us (rd++rd')=some r:=by
  intro h
  unfold pv at h
  rcases pV h with ⟨hn0,h9⟩ | ⟨hne,h⟩
  ·subst hn0
   refine ⟨.one .nil,[],[],?_,?_,by simpa using h9⟩
   ·simp [cS,ez,eV,eL,Q.run,aE]
   ·simp [cS,ez,Q.reads]
  ·obtain ⟨h1,h2,h⟩:=jf h
   have h1':new.length*bytes≤140737488355328:=h1
   have h2':new.length≤maxLen:=h2
   obtain ⟨v,us,rd',h3,h4,h⟩:=fj (v':=fun key=>.one (.slk key 0 new.length new.length)) h (fun q=>by simp [eV,eL,aa])
   refine ⟨v,us,rd',?_,?_,h⟩
   ·simp only [cS,ez]
    rw [Kg hne,show decide (new.length*bytes≤140737488355328∧new.length≤maxLen)=true from by simp [h1',h2']]
    exact h3
   ·intro q hq
    simp only [cS,ez] at hq
    rw [Kg hne,show decide (new.length*bytes≤140737488355328∧new.length≤maxLen)=true from by simp [h1',h2']] at hq
    exact h4 q hq
 split at h
 ·exact nilc h
 ·obtain ⟨rfl,h⟩:=jd h
  exact nilc h
 ·rename_i key n c
  split at h
  ·rename_i rows size' elem' own hk
   split at h
   ·split at h
    ·rename_i hse
     obtain ⟨rfl,rfl⟩:=hse
     obtain ⟨hc,h⟩:=b6 h
     have hc':c=rows.length:=hc
     obtain ⟨hn,h⟩:=b6 h
     have hn':n=rows.length:=hn
     obtain ⟨h1,h2,h9⟩:=jf h
     have h1':(n+new.length)*bytes≤140737488355328:=h1
     have h2':n+new.length≤maxLen:=h2
     subst hn' hc'
     refine ⟨_,_,[key],?_,?_,h9⟩
     ·simp [cS,ez,eV,eL,Q.run,aq,hk,eO,Q.guard,h1',h2',aa,aE,aV]
     ·simp [cS,ez,eV,eL,Q.reads,aq,hk,eO,Q.guard,h1',h2']
    ·cases h
   ·cases h
  ·cases h
 ·rename_i key n
  split at h
  ·rename_i rows size' elem' own hk
   split at h
   ·split at h
    ·rename_i hse
     obtain ⟨rfl,rfl⟩:=hse
     obtain ⟨hc,h⟩:=b6 h
     have hc':n=rows.length:=hc
     obtain ⟨h1,h2,h9⟩:=jf h
     have h1':(n+new.length)*bytes≤140737488355328:=h1
     have h2':n+new.length≤maxLen:=h2
     subst hc'
     refine ⟨_,_,[key],?_,?_,h9⟩
     ·cases rows with
      | nil =>
       have h1'':new.length*bytes≤140737488355328:=by simpa using h1'
       have h2'':new.length≤maxLen:=by simpa using h2'
       cases new with
       | nil=>simp [cS,eV,eL,Q.run,jm hk,eO,Q.guard,aa,aE,aV]
       | cons x y =>
        simp only [Jy] at h1'' h2''
        simp [cS,eV,eL,Q.run,jm hk,eO,Q.guard,h1'',h2'',aa,aE,aV]
      | cons a t =>
       simp only [Jy] at h1' h2'
       simp [cS,eV,eL,Q.run,db hk,eO,Q.guard,h1',h2',aa,aE,aV]
     ·cases rows with
      | nil =>
       have h1'':new.length*bytes≤140737488355328:=by simpa using h1'
       have h2'':new.length≤maxLen:=by simpa using h2'
       simp [cS,eV,eL,Q.reads,jm hk,Q.guard,h1'',h2'']
      | cons a t =>
       simp only [Jy] at h1' h2'
       simp [cS,eV,eL,Q.reads,db hk,Q.guard,h1',h2']
    ·cases h
   ·cases h
  ·cases h
 ·cases h
theorem mO {x:D} {v:Value} (h:tB x=some v):x=.lit v:=by
 unfold tB at h;split at h<;>cases h;rfl
theorem CX {kd:Nat} {agg:Bool} {zs:List Value} {mm:Mr} {key:D} {p:List D×D} (h:va kd zs mm key=some p):∃ v b,key=.lit v∧fC kd v=true∧p.2=.lit (.bool b)∧p.1.length=zs.length∧(d4 kd v mm.1 0).bind (nM agg zs mm.2)=(AV agg (p.1.map .d)).map fun u=>(u,b):=by
 unfold va at h
 split at h
 ·rename_i v hv
  have:=mO hv
  subst this
  split at h
  ·rename_i hk
   split at h
   ·rename_i j hf
    split at h
    ·rename_i w hw
     split at h
     ·rename_i hl
      cases h
      exact ⟨v,true,rfl,hk,rfl,hl,by simp [hf,nM,hw]⟩
     ·cases h
    ·cases h
   ·rename_i hf
    cases h
    refine ⟨v,false,rfl,hk,rfl,by simp,?_⟩
    simp [hf,nM,gM,T3]
   ·cases h
  ·cases h
 ·cases h
theorem CV {kd:Nat} {agg ok:Bool} {zs:List Value} {x:cv} {key:D} {k:K3 D Nat Rr Mr az} (h:CW (aa Fn FnD m) kd agg ok zs ob x key k=some r):∃ v,key=.lit v∧fC kd v=true∧OKQ ob (ka kd agg ok zs (eV x) v) k r:=by
 have lG:∀ (mm:Mr) (rd:List Nat) (F:List D→D→az),(aa Fn FnD m).look kd zs mm key F=some r→(∀ w f,F w f=some r→∃ v,v6 agg ((cellsOf (aa Fn FnD m) zs.length w).map .d)=some v∧k (if ok then .tup [v,.one (.d f)] else v) [] rd=some r)→∃ v u b,key=.lit v∧fC kd v=true∧(d4 kd v mm.1 0).bind (nM agg zs mm.2)=some (eV u,b)∧k (if ok then .tup [u,.one (.d (.lit (.bool b)))] else u) [] rd=some r:=by
  intro mm rd F h hF
  obtain ⟨p,hp,h⟩:=AB h
  obtain ⟨v,b,h1,h2,h3,h4,h5⟩:=CX (agg:=agg) hp
  obtain ⟨u,hu,h⟩:=hF _ _ h
  rw [cX h4] at hu
  refine ⟨v,u,b,h1,h2,?_,by rw [←h3];exact h⟩
  rw [h5,← zX,zi,hu];rfl
 have tupe:∀ (u:cv) (b:Bool),eV (if ok then .tup [u,.one (.d (.lit (.bool b)))] else u)=if ok then .tup [eV u,bZ (.bool b)] else eV u:=by
  intro u b;cases ok<;>simp [eV,cI,eL,bZ]
 unfold CW at h
 simp only at h
 split at h
 ·rename_i y
  obtain ⟨mm,hm,h⟩:=pW h
  obtain ⟨v,u,b,h1,h2,h3,h4⟩:=lG mm [] _ h (fun w f hw=>by split at hw;exact ⟨_,‹_›,hw⟩;cases hw)
  refine ⟨v,h1,h2,OKQ.mk ?_ ?_ h4⟩
  ·rw [tupe,aE]
   unfold rC at hm
   split at hm
   ·split at hm
    ·rename_i hg
     cases hm
     subst hg
     simp only at h3
     simp [ka,eV,eL,Q.guard,h3,Q.opt,Q.bind,Q.run]
    ·cases hm
   ·cases hm
    have h3':nM agg zs [] none=some (eV u,b):=by simpa [d4] using h3
    simp [ka,eV,eL,h3',Q.opt,Q.bind,Q.run]
   ·cases hm
  ·unfold rC at hm
   split at hm
   ·split at hm
    ·rename_i hg
     cases hm
     subst hg
     simp only at h3
     simp [ka,eV,eL,Q.guard,h3,Q.opt,Q.bind,Q.reads]
    ·cases hm
   ·cases hm
    have h3':nM agg zs [] none=some (eV u,b):=by simpa [d4] using h3
    simp [ka,eV,eL,h3',Q.opt,Q.bind,Q.reads]
   ·cases hm
 ·rename_i q
  split at h
  ·rename_i agg' mm own hk
   split at h
   ·rename_i hg
    have hg':agg=agg':=by simpa using hg
    subst hg'
    obtain ⟨v,u,b,h1,h2,h3,h4⟩:=lG mm [q] _ h (fun w f hw=>by split at hw;exact ⟨_,‹_›,hw⟩;cases hw)
    refine ⟨v,h1,h2,OKQ.mk ?_ ?_ h4⟩
    ·rw [tupe,aE]
     simp [ka,eV,eL,Q.run,Q.bind,aq,hk,eO,Q.guard,h3,Q.opt]
    ·simp [ka,eV,eL,Q.reads,Q.bind,aq,hk,eO,Q.guard,h3,Q.opt]
   ·cases h
  ·cases h
 ·cases h
theorem yE {kd:Nat} {agg:Bool} {x v:cv} {key:D} {k:K3 D Nat Rr Mr az} (h:EE (aa Fn FnD m) kd agg ob x key v k=some r):∃ kv,key=.lit kv∧OKQ ob (lu kd agg (eV x) kv (eV v)) k r:=by
 unfold EE at h
 split at h
 ·rename_i q
  split at h
  ·rename_i agg' mm own hk
   split at h
   ·rename_i hc
    simp only [Js,Tg] at hc
    obtain ⟨⟨rfl,rfl⟩,ha⟩:=hc
    split at h
    ·cases h
    ·rename_i cs hcs
     obtain ⟨ds,us,rd,h1,h2,h⟩:=jo h
     split at h
     ·obtain ⟨m',hm,h⟩:=Co h
      unfold Hg at hm
      split at hm
      ·rename_i kv hkv
       have:=mO hkv
       subst this
       split at hm
       ·rename_i hkey
        have hce:(eV v).cells=some (bV cs):=by rw [na,hcs];rfl
        have hag:(eY (eV v)==agg)=true:=by rw [Fj];simpa using ha
        refine ⟨kv,rfl,?_⟩
        split at hm
        ·rename_i j hf
         cases hm
         refine OKQ.mk ?_ ?_ h
         ·simp only [lu,eV,eL,Q.run,aq,hk,Ke,eO,sS,hag,hkey,Vb,V2,Q.guard,hce,Q.opt,Q.bind,Q.run_bind,h1,Ke,aE,Tc,hf,aV]
         ·intro y hy
          simp only [lu,eV,eL,Q.reads,aq,hk,Ke,eO,sS,hag,hkey,Vb,V2,Q.guard,hce,Q.opt,Q.bind,Q.reads_bind,h1,aE,Tc,hf,Kj,Ki] at hy
          rcases hy with rfl | hy
          ·simp
          ·exact Kz _ (h2 y hy)
        ·rename_i hf
         cases hm
         refine OKQ.mk ?_ ?_ h
         ·simp only [lu,eV,eL,Q.run,aq,hk,Ke,eO,sS,hag,hkey,Vb,V2,Q.guard,hce,Q.opt,Q.bind,Q.run_bind,h1,Ke,aE,Tc,hf,aV]
         ·intro y hy
          simp only [lu,eV,eL,Q.reads,aq,hk,Ke,eO,sS,hag,hkey,Vb,V2,Q.guard,hce,Q.opt,Q.bind,Q.reads_bind,h1,aE,Tc,hf,Kj,Ki] at hy
          rcases hy with rfl | hy
          ·simp
          ·exact Kz _ (h2 y hy)
        ·cases hm
       ·cases hm
      ·cases hm
     ·cases h
   ·cases h
  ·cases h
 ·cases h
theorem AY {kd:Nat} {zs:List Value} {q:Nat} {key:D} {k:K3 D Nat Rr Mr az} (h:xH (aa Fn FnD m) kd zs ob q key k=some r):∃ kv,key=.lit kv∧fC kd kv=true∧OKQ ob (kJ kd q kv zs) k r:=by
 unfold xH at h
 split at h
 ·rename_i keys vals hk
  have h':Cb kd keys key (vals.map fun x=>k (.one x) [] [q])=some r:=h
  unfold Cb at h'
  split at h'
  ·rename_i kv hkv
   have:=mO hkv
   subst this
   split at h'
   ·rename_i hkey
    split at h'
    ·rename_i j hf
     simp only [lL,Kn] at h'
     cases hx:vals[j]? with
     | none=>rw [hx] at h';cases h'
     | some x =>
      rw [hx] at h'
      simp only [M3] at h'
      refine ⟨kv,rfl,hkey,OKQ.mk ?_ ?_ h'⟩
      ·simp [kJ,Q.run,aq,hk,eO,hf,bj,hx,Q.opt,Q.bind,eV,aE]
      ·simp [kJ,Q.reads,aq,hk,eO,hf,bj,hx,Q.opt,Q.bind]
    ·cases h'
   ·cases h'
  ·cases h'
 ·rename_i mm size elem hk
  have lG:∀ {o:Option Nat},mg kd mm key=some o→∃ kv,key=.lit kv∧fC kd kv=true∧d4 kd kv mm.1 0=some o:=by
   intro o ho
   unfold mg at ho
   split at ho
   ·rename_i kv hkv
    split at ho
    ·exact ⟨kv,mO hkv,‹_›,ho⟩
    ·cases ho
   ·cases ho
  rcases AE h with ⟨j,hj,h9⟩ | ⟨hj,h9⟩
  ·obtain ⟨kv,rfl,hkey,hf⟩:=lG hj
   refine ⟨kv,rfl,hkey,OKQ.mk ?_ ?_ h9⟩
   ·simp [kJ,Q.run,aq,hk,eO,hf,Q.opt,Q.bind,eV,eL,aE,aa]
   ·simp [kJ,Q.reads,aq,hk,eO,hf,Q.opt,Q.bind]
  ·obtain ⟨kv,rfl,hkey,hf⟩:=lG hj
   clear h
   split at h9
   ·refine ⟨kv,rfl,hkey,OKQ.mk ?_ ?_ h9⟩
    ·simp [kJ,Q.run,aq,hk,eO,hf,Q.opt,Q.bind,eV,xJ,aE,bZ]
    ·simp [kJ,Q.reads,aq,hk,eO,hf,Q.opt,Q.bind]
   ·cases h9
 ·cases h
theorem Ff {x:gx} {v:Value} (h:HW x=some v):eL x=.d (.lit v):=by
 unfold HW at h;split at h<;>cases h<;>rfl
theorem uk {kd:Nat} {g:Bool} {q:Nat} {key:gx} {v:cv} {k:K3 D Nat Rr Mr az} (h:yD (aa Fn FnD m) kd ob q key v k=some r):∃ kv,eL key=.d (.lit kv)∧OKQ ob (lu kd g (.one (.mq q)) kv (eV v)) k r:=by
 unfold yD at h
 split at h
 ·rename_i keys vals hk
  split at h
  ·rename_i kv x hkv
   split at h
   ·rename_i hc
    simp only [Js] at hc
    split at h
    ·rename_i hf
     refine ⟨kv,Ff hkv,OKQ.mk ?_ ?_ h⟩
     ·simp [lu,Q.run,aq,hk,eO,Q.guard,hc.1,eV,mU,hc.2,hf,Q.opt,Q.bind,aE,aV,bj,eL]
     ·simp [lu,Q.reads,aq,hk,eO,Q.guard,hc.1,eV,mU,hc.2,hf,Q.opt,Q.bind]
    ·cases h
   ·cases h
  ·cases h
 ·rename_i mm size elem hk
  split at h
  ·rename_i y q' j off hy
   split at h
   ·rename_i hq
    subst hq
    obtain ⟨ho,h8⟩:=b6 h
    have ho':off=0:=ho
    clear h
    obtain ⟨m',hm,h9⟩:=AG h8
    clear h8
    clear ho
    subst ho'
    unfold wa at hm
    split at hm
    ·rename_i kv hkv
     have:=mO hkv
     subst this
     split at hm
     ·rename_i hc
      obtain ⟨c1,c2,c3⟩:=hc
      split at hm
      ·rename_i hf
       cases hm
       refine ⟨kv,cM hy,OKQ.mk ?_ ?_ h9⟩
       ·simp [lu,Q.run,aq,hk,eO,Q.guard,c1,eV,eL,c2,hf,Q.opt,Q.bind,aE,aV,show mm.1.length < mm.2.length by omega]
       ·simp [lu,Q.reads,aq,hk,eO,Q.guard,c1,eV,eL,c2,hf,Q.opt,Q.bind,show mm.1.length < mm.2.length by omega]
      ·cases hm
     ·cases hm
    ·cases hm
   ·cases h
  ·cases h
 ·cases h
theorem F7 {mx:Bool} {a b z:D} (h:mmD mx a b=some z):mm2 mx (.one (.d a)) (.one (.d b))=some (.one (.d z)):=by
 unfold mmD at h
 split at h
 ·split at h
  ·rename_i hk;cases h;simp [mm2,vInt?,hk,bZ]
  ·cases h
 ·cases h
theorem xD {mx:Bool}:∀ {l:List D} {a:D} {k:D→az},mmK (aa Fn FnD m) mx a l k=some r→∃ z,HR mx (.one (.d a)) (l.map fun x=>.one (.d x))=some (.one (.d z))∧k z=some r
 | [],a,k,h=>⟨a,rfl,h⟩
 | y::l,a,k,h=>by
  simp only [mmK] at h
  obtain ⟨z,hz,h⟩:=ES h
  obtain ⟨z',h1,h2⟩:=xD h
  exact ⟨z',by simp only [K0,HR,F7 hz,Ke];exact h1,h2⟩
theorem pQ {ρ:Operand→cv}:∀ {xs:List Operand} {ys:List D},rL (aa Fn FnD m) ρ xs=some ys→xs.map (fun x=>eV (ρ x))=ys.map fun y=>.one (.d y)
 | [],ys,h=>by simp only [rL,Jr] at h;subst h;rfl
 | x::xs,ys,h=>by
  simp only [rL] at h
  split at h
  ·rename_i y ys' h1 h2
   cases h
   simp only [K0,eT h1,pQ h2]
  ·cases h
theorem ek:∀ {xs:List gx} {ys:List D},gh (aa Fn FnD m) xs=some ys→bV xs=ys.map .d
 | [],ys,h=>by simp only [gh,Jr] at h;subst h;rfl
 | x::xs,ys,h=>by
  simp only [gh] at h
  split at h
  ·rename_i y ys' h1 h2
   cases h
   simp only [bV,cM h1,ek h2,K0]
  ·cases h
theorem Ae {op:BinOp} {t:Nat} {a b z:D} (h:iz op (Ac P t) a b=some z):j3 P op t (.one (.d a)) (.one (.d b))=some (.one (.d z)):=by
 unfold iz at h
 split at h
 ·simp only [K6] at h
  obtain ⟨v,hv,rfl⟩:=h
  simp [j3,hv,bZ]
 ·split at h
  ·rename_i hb
   split at h
   ·cases h;simp [j3,hb,bZ]
   ·cases h;simp [j3,hb,bZ]
   ·cases h
  ·cases h
 ·simp only [K6] at h
  obtain ⟨v,hv,rfl⟩:=h
  simp [j3,hv,bZ]
 ·cases h
theorem FP {op:BinOp} {t:Nat} {x y:cv} {k:K3 D Nat Rr Mr az} (h:Iq (aa Fn FnD m) P op t x y k=some r):OKQ ob (aW (j3 P op t (eV x) (eV y))) k r:=by
 unfold Iq at h
 split at h
 ·split at h
  ·rename_i hel
   split at h
   ·rename_i a ha
    rcases s4 h with ⟨rfl,h⟩ | ⟨s,rows,rfl,h⟩
    ·refine OKQ.mk ?_ ?_ h<;>simp [eV,cM ha,j3,AT,hel,aW,Q.opt,Q.bind,Q.run,Q.reads,eL,aE,bZ]
    ·refine OKQ.mk ?_ ?_ h<;>simp [eV,cM ha,j3,AT,hel,aW,Q.opt,Q.bind,Q.run,Q.reads,eL,aE,bZ]
   ·rename_i a ha
    rcases s4 h with ⟨rfl,h⟩ | ⟨s,rows,rfl,h⟩
    ·refine OKQ.mk ?_ ?_ h<;>simp [eV,cM ha,j3,AT,hel,aW,Q.opt,Q.bind,Q.run,Q.reads,eL,aE,bZ]
    ·refine OKQ.mk ?_ ?_ h<;>simp [eV,cM ha,j3,AT,hel,aW,Q.opt,Q.bind,Q.run,Q.reads,eL,aE,bZ]
   ·cases h
  rename_i hel
  split at h
  ·rename_i hp
   split at h
   ·refine OKQ.mk ?_ ?_ h<;>simp [eV,j3,AU,hel,hp,aW,Q.opt,Q.bind,Q.run,Q.reads,eL,aE,bZ]
   ·refine OKQ.mk ?_ ?_ h<;>simp [eV,j3,AU,hel,hp,aW,Q.opt,Q.bind,Q.run,Q.reads,eL,aE,bZ]
   ·refine OKQ.mk ?_ ?_ h<;>simp [eV,j3,AU,hel,hp,aW,Q.opt,Q.bind,Q.run,Q.reads,eL,aE,bZ]
   ·refine OKQ.mk ?_ ?_ h<;>simp [eV,j3,AU,hel,hp,aW,Q.opt,Q.bind,Q.run,Q.reads,eL,aE,bZ]
   ·cases h
  split at h
  ·rename_i a b ha hb
   obtain ⟨z,hz,h⟩:=Ct h
   refine OKQ.mk ?_ ?_ h
   ·simp [eV,cM ha,cM hb,Ae hz,aW,Q.opt,Q.bind,Q.run,eL,aE]
   ·simp [eV,cM ha,cM hb,Ae hz,aW,Q.opt,Q.bind,Q.reads]
  ·cases h
 ·rename_i xs ys
  split at h
  ·rename_i ks xs' ys' hks hxs hys
   split at h
   ·rename_i hag
    split at h
    ·obtain ⟨b,hb,h⟩:=uE h
     refine OKQ.mk ?_ ?_ h
     ·simp [eV,ek hxs,ek hys,j3,hks,hag,hb,aW,Q.opt,Q.bind,Q.run,eL,aE,bZ]
     ·simp [eV,ek hxs,ek hys,j3,hks,hag,hb,aW,Q.opt,Q.bind,Q.reads]
    ·obtain ⟨b,hb,h⟩:=uE h
     refine OKQ.mk ?_ ?_ h
     ·simp [eV,ek hxs,ek hys,j3,hks,hag,hb,aW,Q.opt,Q.bind,Q.run,eL,aE,bZ]
     ·simp [eV,ek hxs,ek hys,j3,hks,hag,hb,aW,Q.opt,Q.bind,Q.reads]
    ·cases h
   ·cases h
  ·cases h
 ·cases h
theorem CY {x:D} {n:Nat} (h:zq x=some n):xK (.one (.d x))=some n:=by
 unfold zq at h;split at h<;>cases h<;>rfl
end
section
variable {P:Program} {Fn:Nat→List D→az} {FnD:D→List Sh→List D→az} {m:Nat} {r:Nat×List Yr} {ob:Ur}
theorem OKQ.pure {o:Option V} {v:cv} {k:K3 D Nat Rr Mr az} (ho:o=some (eV v)) (h:k v [] []=some r):OKQ ob (aW o) k r:=by
 subst ho;exact OKQ.mk (us:=[]) (by simp [aW,Q.opt,Q.bind,Q.run,aE]) (by simp [aW,Q.opt,Q.bind,Q.reads]) h
theorem OKQ.cond {q:Q cw} {k:K3 D Nat Rr Mr az} (b:Bool) (hb:b=true) (h:OKQ ob q k r):OKQ ob (Q.guard b q) k r:=by subst hb;exact h
theorem OKQ.some {α:Type} {o:Option α} {a:α} {f:α→Q cw} {k:K3 D Nat Rr Mr az} (ho:o=.some a) (h:OKQ ob (f a) k r):OKQ ob ((Q.opt o).bind f) k r:=by subst ho;exact h
theorem OKQ.bind {α:Type} {q:Q α} {a:α} {f:α→Q cw} {k:K3 D Nat Rr Mr az} {v:cv} {us:Ur} {rd rd':List Nat} (h1:q.run (ai (aD ob))=.some a) (h2:∀ x∈q.reads (ai (aD ob)),x∈rd) (h3:(f a).run (ai (aD ob))=.some (eV v,aD us)) (h4:∀ x∈(f a).reads (ai (aD ob)),x∈rd') (h:k v us (rd++rd')=.some r):OKQ ob (q.bind f) k r:=by
 refine ⟨v,us,rd++rd',by rw [Q.run_bind,h1];exact h3,fun x hx=>?_,h⟩
 rw [Q.reads_bind,h1] at hx
 rcases Kp.1 hx with hx | hx
 ·exact Mc _ (h2 x hx)
 ·exact Ma _ (h4 x hx)
theorem yl {dst:Option Nat} {ρ:Operand→cv} {c:Call} {k:K3 D Nat Rr Mr az} (h:u4 (aa Fn FnD m) P ob dst ρ c k=some r):OKQ ob (f8 P dst (fun x=>eV (ρ x)) (.call c)) k r:=by
 unfold u4 at h
 simp only [f8]
 split at h
 ·
  rename_i hc
  simp only [hc]
  split at h
  ·rename_i x hx
   simp only [hx]
   split at h
   ·rename_i t ht
    simp only [ht]
    split at h
    ·rename_i e he
     simp only [he]
     split at h
     ·rename_i q o n c' hρ
      refine OKQ.pure (v:=.one (.d (.lit (.int .i64 n)))) ?_ h
      simp [hρ,eV,eL,xK,bZ]
     ·rename_i q n hρ
      refine OKQ.pure (v:=.one (.d (.lit (.int .i64 n)))) ?_ h
      simp [hρ,eV,eL,xK,bZ]
     ·rename_i hρ
      refine OKQ.pure (v:=.one (.i .i64 0)) ?_ h
      simp [hρ,eV,eL,xK,bZ]
     ·rename_i y hρ
      obtain ⟨n,hn,h⟩:=AD h
      refine OKQ.pure (v:=.one (.d (.lit (.int .i64 n)))) ?_ h
      simp [hρ,eV,eL,CY hn,bZ]
     ·cases h
    ·rename_i he
     simp only [he]
     split at h
     ·rename_i hs
      simp only [hs,Q.guard]
      split at h
      ·rename_i y hy
       obtain ⟨s,rfl,h⟩:=AC h
       refine OKQ.pure (v:=.one (.d (.lit (.int .i64 s.size)))) ?_ h
       simp [eT hy,xh,eV,eL,bZ]
      ·cases h
     ·cases h
   ·cases h
  ·cases h
 ·
  rename_i hc
  simp only [hc]
  split at h
  ·rename_i x t hx ht
   simp only [hx,ht]
   split at h
   ·rename_i hρ
    split at h
    ·rename_i he
     have hρ':eV (ρ x)=.one (.d (.lit (.slice none 0 0))):=by rw [hρ];rfl
     simp only [hρ',he,Q.guard]
     exact OKQ.mk (v:=.one (.i .i64 0)) (us:=[]) (by simp [Q.run,eV,eL,bZ,aE]) (by simp [Q.reads]) h
    ·cases h
   ·rename_i y hρ
    split at h
    ·rename_i he
     obtain ⟨rfl,h⟩:=jd h
     have hρ':eV (ρ x)=.one (.d (.lit (.slice none 0 0))):=by rw [hρ];rfl
     simp only [hρ',he,Q.guard]
     exact OKQ.mk (v:=.one (.i .i64 0)) (us:=[]) (by simp [Q.run,eV,eL,bZ,aE]) (by simp [Q.reads]) h
    ·cases h
   ·cases h
  ·cases h
 ·
  rename_i hc
  simp only [hc]
  split at h
  ·rename_i x t hx ht
   simp only [hx,ht]
   split at h
   ·rename_i zs hz
    obtain ⟨e,he,hze⟩:=Kr.1 hz
    split at h
    ·rename_i hpos
     have body:OKQ ob (dM zs (eV (ρ x))) k r→OKQ ob ((Q.opt (cg P t)).bind fun e=>(Q.opt (cx P e)).bind fun zs=>Q.guard (decide (0 < zs.length)) (dM zs (eV (ρ x)))) k r:=fun hb=>by
      exact OKQ.some he (OKQ.some hze (OKQ.cond _ (by simp [hpos]) hb))
     refine body ?_
     split at h
     ·rename_i hρ
      rw [hρ]
      exact OKQ.mk (v:=.tup []) (us:=[]) (by simp [dM,Q.run,eV,eL,cI,aE]) (by simp [dM,eV,eL,Q.reads]) h
     ·rename_i y hρ
      obtain ⟨rfl,h⟩:=jd h
      rw [hρ]
      exact OKQ.mk (v:=.tup []) (us:=[]) (by simp [dM,Q.run,eV,eL,cI,aE]) (by simp [dM,eV,eL,Q.reads]) h
     ·rename_i key off n c hρ
      split at h
      ·rename_i rows size elem hk
       split at h
       ·rename_i hsz
        obtain ⟨hcc,h⟩:=b6 h
        obtain ⟨hoff,h⟩:=b6 h
        rw [hρ]
        have hl:(zs.map (aa Fn FnD m).lit)=zs.map D.lit:=rfl
        have hob:ai (aD ob) key=some (.arr rows size elem true):=by rw [aq,hk];rfl
        have hlen:c=rows.length:=hcc
        cases off with
        | none =>
         have hoff':n=rows.length:=hoff
         have h1:(dM zs (.one (.slk key 0 n c))).run (ai (aD ob))=some (.tup [],[(key,.arr (List.replicate n (zs.map D.lit)) size elem true)]):=by
          simp [dM,Q.run,hob,hlen,hsz,hoff',Q.guard]
         have h2:(dM zs (.one (.slk key 0 n c))).reads (ai (aD ob))=[key]:=by
          simp [dM,Q.reads,hob,hlen,hsz,hoff',Q.guard]
         exact OKQ.mk (v:=.tup []) (us:=[(key,.arr (List.replicate n (zs.map D.lit)) size elem true)]) (rd:=[key]) h1 (fun q hq=>by
          have hq':q∈(dM zs (.one (.slk key 0 n c))).reads (ai (aD ob)):=hq
          rw [h2] at hq';exact hq') h
        | some o =>
         have hoff':o+n=rows.length:=hoff
         have h1:(dM zs (.one (.slk key o n c))).run (ai (aD ob))=some (.tup [],[(key,.arr (rows.take o++List.replicate n (zs.map D.lit)) size elem true)]):=by
          simp [dM,Q.run,hob,hlen,hsz,hoff',Q.guard]
         have h2:(dM zs (.one (.slk key o n c))).reads (ai (aD ob))=[key]:=by
          simp [dM,Q.reads,hob,hlen,hsz,hoff',Q.guard]
         exact OKQ.mk (v:=.tup []) (us:=[(key,.arr (rows.take o++List.replicate n (zs.map D.lit)) size elem true)]) (rd:=[key]) h1 (fun q hq=>by
          have hq':q∈(dM zs (.one (.slk key o n c))).reads (ai (aD ob)):=hq
          rw [h2] at hq';exact hq') h
       ·cases h
      ·cases h
     ·cases h
    ·cases h
   ·cases h
  ·cases h
 ·
  rename_i hc
  simp only [hc]
  split at h
  ·rename_i x y t t' hx ht
   simp only [hx,ht]
   split at h
   ·rename_i e he
    split at h
    ·rename_i sz hs
     split at h
     ·rename_i htt
      refine OKQ.some he (OKQ.some hs (OKQ.cond _ (by simpa using htt) ?_))
      obtain ⟨new,rd,h1,h2,h⟩:=yI h
      split at h
      ·rename_i key n c hρ
       split at h
       ·rename_i rows size elem hk
        split at h
        ·rename_i hsz
         obtain ⟨hcc,h⟩:=b6 h
         obtain ⟨hn,h⟩:=b6 h
         have hcc':c=rows.length:=hcc
         have hn':n=rows.length:=hn
         have hob:ai (aD ob) key=some (.arr rows size elem true):=by rw [aq,hk];rfl
         have hx':eV (ρ x)=.one (.slk key 0 n c):=by rw [hρ];rfl
         have htk:(rows.drop new.length).take n=rows.drop new.length:=Kl (by simp;omega)
         refine OKQ.mk ?_ ?_ h
         ·rw [Q.run_bind,h1,hx']
          simp only [Ke,vI,Q.run,hob,Q.guard,hcc',hn',hsz,Kf,Kk,Jt]
          simp only [aa,T5,M1,Tz,eV,eL,bZ,aV,aE,eO]
          rw [←hn',htk]
         ·intro q hq
          rw [Q.reads_bind,h1,hx'] at hq
          simp only [vI,Q.reads,hob,Q.guard,hcc',hn',hsz,Kf,Kk,Jt,Kp,Ki,Me,Tn] at hq
          rcases hq with hq | rfl
          ·exact Mc _ (h2 q hq)
          ·simp
        ·cases h
       ·cases h
      ·cases h
     ·cases h
    ·cases h
   ·cases h
  ·cases h
 ·
  rename_i hc
  simp only [hc]
  split at h
  ·rename_i a l hl
   obtain ⟨z,h1,h2⟩:=xD h
   refine OKQ.pure (v:=.one (.d z)) ?_ h2
   rw [pQ hl,K0]
   simp only [lU,h1,eV,eL]
  ·cases h
 ·
  rename_i hc
  simp only [hc]
  split at h
  ·rename_i a l hl
   obtain ⟨z,h1,h2⟩:=xD h
   refine OKQ.pure (v:=.one (.d z)) ?_ h2
   rw [pQ hl,K0]
   simp only [lU,h1,eV,eL]
  ·cases h
 ·
  rename_i hc
  simp only [hc]
  split at h
  ·rename_i s x t t' hs ht
   simp only [hs,ht]
   split at h
   ·cases h
   ·rename_i e he
    split at h
    ·rename_i sz bs zs h1 h2 h3
     split at h
     ·rename_i ik hik
      simp only [hik]
      have gapc:∀ y,iL (aa Fn FnD m) (ρ x)=some y→0 < sz∧zs.length=sz→eV (ρ s)=.one (.d (.lit (.slice none 0 0)))→((aa Fn FnD m).gap bs y fun n=>ep (aa Fn FnD m) ob dst (.arr ((aa Fn FnD m).repl n (zs.map (aa Fn FnD m).lit)) sz e true) (fun key=>.one (.slk key none n n)) k)=some r→OKQ ob (match eV (ρ s) with
        | .one (.d (.lit (.slice none 0 0)))=>(Q.opt (cg P t)).bind fun e=>(Q.opt (bq P e)).bind fun sz=>(Q.opt (gI P e)).bind fun bs=>(Q.opt (cx P e)).bind fun zs=>(Q.opt (vInt? (eV (ρ x)))).bind fun n =>
         Q.guard (decide (0 < sz∧zs.length=sz∧0 < n.2∧bs*n.2≤140737488355328∧n.2≤9223372036854775807)) (fresh dst (.arr (List.replicate n.2.toNat (zs.map .lit)) sz e true) fun k=>.one (.slk k 0 n.2.toNat n.2.toNat))
        | _=>.fail) k r:=by
       intro y hy hcond hρ' h
       obtain ⟨a,n,rfl,hn,h⟩:=Cq h
       simp only [hρ',he,h1,h2,h3,Q.opt,Q.bind,eT hy,vInt?]
       have hn1:0 < n:=hn.1
       have hn2:(bs:Int)*n≤140737488355328:=hn.2.1
       have hn3:n≤9223372036854775807:=hn.2.2
       refine OKQ.cond _ (by simp [hcond,hn1,hn2,hn3]) ?_
       have:=fj (v':=fun key=>.one (.slk key 0 n.toNat n.toNat)) h (fun q=>by simp [eV,eL])
       simpa [eO,aa] using this
      split at h
      ·rename_i y hρ hy
       split at h
       ·rename_i hcond
        exact gapc y hy hcond (by rw [hρ];rfl) h
       ·cases h
      ·rename_i x0 y hρ hy
       split at h
       ·rename_i hcond
        obtain ⟨rfl,h⟩:=jd h
        exact gapc y hy hcond (by rw [hρ];rfl) h
       ·cases h
      ·cases h
     ·rename_i hik
      simp only [hik]
      split at h
      ·rename_i hcond
       simp only [he,h1,h2,h3,Q.opt,Q.bind]
       refine OKQ.cond _ (by simp [hcond]) ?_
       obtain ⟨rows,rd,g1,g2,h⟩:=yI h
       obtain ⟨v,us,rd',g3,g4,h⟩:=yq h
       exact OKQ.bind g1 g2 g3 g4 h
      ·cases h
    ·cases h
  ·cases h
 ·cases h
theorem eV_mq {v:cv} {k:Nat} (h:eV v=.one (.mq k)):v=.one (.mq k):=by
 cases v with
 | one x=>cases x<;>simp_all [eV,eL]
 | agg xs=>simp [eV] at h
 | tup xs=>simp [eV] at h
theorem HO {dst:Option Nat} {ρ:Operand→cv} {op:Op} {k:K3 D Nat Rr Mr az} (h:nI (aa Fn FnD m) P ob dst ρ op k=some r):OKQ ob (f8 P dst (fun x=>eV (ρ x)) op) k r:=by
 cases op with
 | move x=>exact OKQ.ret0 h
 | assign x=>exact OKQ.ret0 h
 | pick c a b =>
  simp only [nI] at h
  simp only [f8]
  split at h
  ·rename_i hc
   exact OKQ.pure (v:=ρ a) (by simp [hc,eV,eL,vBool?]) h
  ·rename_i hc
   exact OKQ.pure (v:=ρ b) (by simp [hc,eV,eL,vBool?]) h
  ·rename_i y hc
   rcases i3 h with ⟨rfl,h⟩ | ⟨rfl,h⟩
   ·exact OKQ.pure (v:=ρ a) (by simp [hc,eV,eL,vBool?]) h
   ·exact OKQ.pure (v:=ρ b) (by simp [hc,eV,eL,vBool?]) h
  ·cases h
 | box elem x =>
  simp only [nI] at h
  simp only [f8]
  split at h
  ·rename_i cs hcs
   refine OKQ.some (a:=bV cs) (by rw [na,hcs];rfl) ?_
   cases dst with
   | some q =>
    simp only at h
    split at h
    ·rename_i mm size elem' hk
     split at h
     ·rename_i ds hds
      split at h
      ·rename_i hc
       obtain ⟨rfl,hl⟩:=hc
       have hf:=Do ds (ai (aD ob))
       have hce:=gg hds
       have hln:ds.length=size:=by rw [←hl,← co cs,hce,K5]
       refine OKQ.mk ?_ ?_ h
       ·simp [yn,hce,hln,Q.run,aq,hk,eO,Q.guard,Q.run_bind,hf.1,eV,eL,aE,aV,aa]
       ·intro q' hq
        simpa [yn,hce,hln,Q.reads,aq,hk,eO,Q.guard,Q.reads_bind,hf.1,hf.2] using hq
      ·cases h
     ·cases h
    ·unfold ep at h
     simp only at h
     split at h
     ·rename_i hk
      refine OKQ.mk ?_ ?_ h
      ·simp [yn,Q.run,aq,hk,eV,eL,eO,aE,aV]
      ·simp [yn,Q.reads,aq,hk]
     ·cases h
   | none =>
    obtain ⟨ds,us,rd,h1,h2,h⟩:=jo h
    refine OKQ.mk (v:=.one (.dp ds 0)) (us:=us) (rd:=rd) ?_ ?_ h
    ·rw [Q.run_bind,h1];rfl
    ·intro q hq
     rw [Q.reads_bind,h1] at hq
     simp only [Q.reads,Kj] at hq
     exact h2 q hq
  ·cases h
 | alloc elem =>
  simp only [nI] at h
  simp only [f8]
  split at h
  ·rename_i zs hz
   refine OKQ.some hz ?_
   have:=fj (v':=fun key=>.one (.ptr key 0)) h (fun q=>by simp [eV,eL])
   rwa [eO,tA] at this
  ·cases h
 | build t parts =>
  simp only [nI] at h
  simp only [f8]
  split at h
  ·rename_i zs hz
   split at h
   ·rename_i hc
    refine OKQ.some hz (OKQ.cond _ hc ?_)
    split at h
    ·rename_i cs hcs
     refine OKQ.pure (v:=.agg cs) ?_ h
     have:=Du (kE P t) (parts.toList.map fun p=>(p.1,ρ p.2)) (zs.map (tC (aa Fn FnD m)))
     rw [tA,hcs,Mn] at this
     rw [show (parts.toList.map fun p=>(p.1,eV (ρ p.2)))=(parts.toList.map ((fun p=>(p.1,eV p.2)) ∘ fun p=>(p.1,ρ p.2))) from rfl,this]
     simp [eV]
    ·cases h
   ·cases h
  ·cases h
 | buildSlice t len parts =>
  simp only [nI] at h
  simp only [f8]
  split at h
  ·cases h
  ·rename_i e he
   split at h
   ·rename_i s zs hs hz
    split at h
    ·rename_i hc
     obtain ⟨rows,us,rd,h1,h2,h⟩:=uw (n:=len) (ρ:=ρ) (by simp) h
     cases dst with
     | none =>
      refine OKQ.some he (OKQ.some hs (OKQ.some hz (OKQ.cond _ (by simp [hc]) ?_)))
      have hl:(List.replicate len (zs.map (aa Fn FnD m).lit))=List.replicate len (zs.map .lit):=rfl
      rw [hl] at h1 h2
      refine OKQ.bind (v:=.one (.d (.sl s rows))) (us:=us) (rd':=[]) h1 h2 ?_ ?_ (by rw [Kj];exact h)
      ·simp [lY,Q.bind,Q.run,eV,eL]
      ·intro x hx;simp [lY,Q.bind,Q.reads] at hx
     | some q0 =>
     obtain ⟨v,u,rd',h3,h4,h⟩:=fj (v':=fun key=>.one (.slk key 0 len len)) h (fun q=>by simp [eV,eL,aa])
     refine OKQ.some he (OKQ.some hs (OKQ.some hz (OKQ.cond _ (by simp [hc]) ?_)))
     have hl:(List.replicate len (zs.map (aa Fn FnD m).lit))=List.replicate len (zs.map .lit):=rfl
     rw [hl] at h1 h2
     refine OKQ.bind (v:=v) (us:=us++u) (rd':=rd') h1 h2 ?_ ?_ h
     ·rw [Q.run_bind,show (lY (some q0) rows s e len).run (ai (aD ob))=some (eV v,aD u) from h3]
      simp [Q.run,ir]
     ·intro x hx
      rw [Q.reads_bind,show (lY (some q0) rows s e len).run (ai (aD ob))=some (eV v,aD u) from h3] at hx
      simp only [Q.reads,Kj] at hx
      exact h4 x hx
    ·cases h
   ·cases h
 | load t a =>
  simp only [nI] at h
  simp only [f8]
  split at h
  ·rename_i g s hg hs
   exact OKQ.some hg (OKQ.some hs (ve h))
  ·cases h
 | store t a x =>
  simp only [nI] at h
  simp only [f8]
  split at h
  ·rename_i cs hcs
   split at h
   ·rename_i hs
    exact OKQ.some (a:=bV cs) (by rw [na,hcs];rfl) (OKQ.cond _ (by rw [co];exact hs) (Av h))
   ·cases h
  ·cases h
 | nilCheck x =>
  simp only [nI] at h
  simp only [f8]
  split at h
  ·rename_i hρ;rw [hρ] at h ⊢;exact OKQ.ret0 (v:=.one (.ptr _ _)) h
  ·rename_i hρ;rw [hρ] at h ⊢;exact OKQ.ret0 (v:=.one (.pa _ _ _ _)) h
  ·rename_i hρ;rw [hρ] at h ⊢;exact OKQ.ret0 (v:=.one (.dp _ _)) h
  ·rename_i hρ;rw [hρ] at h ⊢;exact OKQ.ret0 (v:=.one (.pb _ _ _)) h
  ·rename_i hρ;rw [hρ] at h ⊢;exact OKQ.ret0 (v:=.one (.px _ _ _ _ _ _)) h
  ·rename_i y hρ
   obtain ⟨⟨row,o,rfl⟩,h⟩:=xu h
   rw [hρ] at h ⊢
   exact OKQ.ret0 (v:=.one (.d (.dp row o))) h
  ·cases h
 | binOp op t x y z=>exact FP h
 | unOp op t x =>
  simp only [nI] at h
  simp only [f8]
  split at h
  ·rename_i v hv
   exact OKQ.pure (v:=.one (.b !v)) (by simp [hv,eV,eL,V.lit?,bZ]) h
  ·rename_i y hv
   obtain ⟨z,hz,h⟩:=yP h
   unfold unD at hz
   split at hz
   ·cases hz
    exact OKQ.pure (by simp [hv,eV,eL,V.lit?,bZ]) h
   ·cases hz
   ·cases hz
  ·split at h
   ·rename_i y hy
    obtain ⟨z,hz,h⟩:=yP h
    unfold unD at hz
    split at hz
    ·cases hz
    ·cases hz
     refine OKQ.pure (v:=.one (.d _)) ?_ h
     simp [eT hy,V.lit?,bZ,eV,eL]
    ·cases hz
   ·cases h
  ·cases h
 | makeFunc fn first captured =>
  simp only [nI] at h
  simp only [f8]
  split at h
  ·rename_i f caps h2 h3
   have e1:d0 (first.toList.map fun x=>eV (ρ x))=some []:=by
    have:=ig (first.toList.map ρ)
    rw [h2,Mn] at this
    exact this
   have e2:d0 (captured.toList.map fun x=>eV (ρ x))=some (bV caps):=by
    have:=ig (captured.toList.map ρ)
    rw [h3,Mn] at this
    exact this
   split at h
   ·rename_i hlt
    simp only [e1,e2,K9 hlt]
    exact OKQ.ret0 (v:=.one (.fn f caps)) h
   ·cases h
  ·rename_i f c cs h2 h3
   have e1:d0 (first.toList.map fun x=>eV (ρ x))=some (eL c::bV cs):=by
    have:=ig (first.toList.map ρ)
    rw [h2,Mn] at this
    exact this
   have e2:d0 (captured.toList.map fun x=>eV (ρ x))=some []:=by
    have:=ig (captured.toList.map ρ)
    rw [h3,Mn] at this
    exact this
   simp only [e1,e2]
   exact OKQ.ret0 (v:=.one (.fn (f+2000000) (c::cs))) h
  ·cases h
 | index t x ix =>
  simp only [nI] at h
  simp only [f8]
  split at h
  ·rename_i p hp
   split at h
   ·rename_i s g cs hs hg hx
    split at h
    ·rename_i kk z hix
     split at h
     ·rename_i hz
      obtain ⟨v,hv,h⟩:=ee h (fun v hv=>by
       have:=f0 g s (z.toNat*s) cs
       rw [hv] at this
       exact this)
      refine OKQ.some (a:=(kk,z)) (by simp [hix,eV,eL,vInt?]) (OKQ.some hp (OKQ.some hs (OKQ.some hg ?_)))
      simp only [hx,eV]
      exact OKQ.cond _ (by simp [hz]) (OKQ.pure hv h)
     ·cases h
    ·rename_i y hix
     split at h
     ·rename_i ds hds
      split at h
      ·rename_i hln
       obtain ⟨kk,z,rfl,hz,h⟩:=kB h
       have hz':0≤z∧z < (p.1:Int):=hz
       have hzn:z.toNat < p.1:=by omega
       have hmul:z.toNat*s+s≤p.1*s:=by rw [←Nat.succ_mul];exact M9 _ hzn
       have hce:=gg hds
       obtain ⟨v,hv,h⟩:=ee (o':=bA g s (z.toNat*s) (bV cs)) h (fun v hv=>by
        refine kN (by rw [hce,K5];omega) ?_
        have e:bV ((List.range s).map fun q=>L3.d ((aa Fn FnD m).selN z.toNat ((List.range p.1).map fun j=>ds.getD (j*s+q) ((aa Fn FnD m).lit .nilFunc))))=((bV cs).drop (z.toNat*s)).take s:=by
         rw [hce,bj]
         apply Mp
         intro q
         simp only [Kn,M8,Mw]
         by_cases hq:q < s
         ·rw [T0 hq,K9 hq,Jz (show z.toNat*s+q < ds.length by omega)]
          simp [eL,aa,Kd,T0 hzn,Jz (show z.toNat*s+q < ds.length by omega)]
         ·rw [Kx (by simpa using hq),Kg hq];rfl
        rw [←e,zi,hv];rfl)
       refine OKQ.some (a:=(kk,z)) (by simp [hix,eV,eL,vInt?]) (OKQ.some hp (OKQ.some hs (OKQ.some hg ?_)))
       simp only [hx,eV]
       exact OKQ.cond _ (by simp [hz']) (OKQ.pure hv h)
      ·cases h
     obtain ⟨kk,z,rfl,hz,h⟩:=rZ h
     unfold lL at h
     split at h
     ·rename_i kont hk
      rw [Kn] at hk
      obtain ⟨j,hj,rfl⟩:=K6.1 hk
      have hjz:j=z.toNat:=by
       have:=(Kv.1 hj).2
       simpa using this.symm
      subst hjz
      obtain ⟨v,hv,h⟩:=ee h (fun v hv=>by
       have:=f0 g s (z.toNat*s) cs
       rw [hv] at this
       exact this)
      refine OKQ.some (a:=(kk,z)) (by simp [hix,eV,eL,vInt?]) (OKQ.some hp (OKQ.some hs (OKQ.some hg ?_)))
      simp only [hx,eV]
      exact OKQ.cond _ (by simp [hz]) (OKQ.pure hv h)
     ·cases h
    ·cases h
   ·cases h
  ·cases h
 | convert src dst x =>
  simp only [nI] at h
  simp only [f8]
  split at h
  ·rename_i k0 kd y h1 h2 h3
   obtain ⟨a,n,rfl,h⟩:=Cr h
   refine OKQ.some h1 (OKQ.some h2 (OKQ.some (a:=(a,n)) (by simp [eT h3,vInt?]) ?_))
   exact OKQ.ret0 (v:=.one (.d (.lit (.int kd (kd.wrap n))))) h
  ·cases h
 | makeInterface t x =>
  simp only [nI] at h
  simp only [f8]
  have fz:∀ zs:List D,(e9 (zs.map L.d)).run (ai (aD ob))=some (zs,[])∧(e9 (zs.map L.d)).reads (ai (aD ob))=[]:=by
   intro zs
   induction zs with
   | nil=>exact ⟨rfl,rfl⟩
   | cons c cs ih=>simp [e9,ke,Q.bind,Q.run_bind,Q.reads_bind,Q.run,Q.reads,ih.1,ih.2]
  split at h
  ·rename_i hc
   split at h
   ·rename_i y hg hy
    split at h
    ·rename_i z hz
     refine OKQ.cond _ (by simp [hc,hg,hy,eV,eY]) ?_
     have hz':=cM hz
     refine OKQ.some (a:=[z].map L.d) (by simp [hy,eV,hz',V.cells,L.isDef]) ?_
     refine OKQ.mk (v:=.one (.d (.ifc t false [z]))) (us:=[]) (rd:=[]) ?_ ?_ h
     ·rw [Q.run_bind,(fz [z]).1];simp [Q.run,hy,eV,eL,eY,aE]
     ·intro q hq;rw [Q.reads_bind,(fz [z]).1,(fz [z]).2] at hq;simp [Q.reads] at hq
    ·cases h
   ·rename_i ys hg hy
    split at h
    ·rename_i zs hz
     refine OKQ.cond _ (by simp [hc,hg,hy,eV,eY]) ?_
     have hz':=ek hz
     refine OKQ.some (a:=zs.map L.d) (by simp [hy,eV,hz',V.cells,L.isDef,T3]) ?_
     refine OKQ.mk (v:=.one (.d (.ifc t true zs))) (us:=[]) (rd:=[]) ?_ ?_ h
     ·rw [Q.run_bind,(fz zs).1];simp [Q.run,hy,eV,eL,eY,aE]
     ·intro q hq;rw [Q.reads_bind,(fz zs).1,(fz zs).2] at hq;simp [Q.reads] at hq
    ·cases h
   ·cases h
  ·cases h
 | makeSlice t l c =>
  simp only [nI] at h
  simp only [f8]
  split at h
  ·cases h
  ·rename_i e he
   split at h
   ·rename_i s zs bs hs hz hb
    split at h
    ·rename_i n n' hn hn'
     split at h
     ·rename_i hc
      obtain ⟨a,z,rfl,rfl,hz2,h⟩:=Cp h
      refine OKQ.some he (OKQ.some hs (OKQ.some hz (OKQ.some hb (OKQ.some (a:=(a,z)) (by simp [eT hn,vInt?]) (OKQ.some (a:=(a,z)) (by simp [eT hn',vInt?]) (OKQ.cond _ (by simp [hc,hz2]) ?_))))))
      have:=fj (v':=fun key=>.one (.slk key 0 z.toNat z.toNat)) h (fun q=>by simp [eV,eL])
      simpa [eO,aa] using this
     ·cases h
    ·cases h
   ·cases h
 | slice t x lo hi mx =>
  simp only [nI] at h
  simp only [f8]
  split at h
  ·rename_i e he
   split at h
   ·rename_i l h' s hl hh hs
    obtain ⟨zl,zh,h1,h2,h3⟩:=FK hl hh h
    exact OKQ.cond _ (by simp [he]) (OKQ.some h1 (OKQ.some h2 (OKQ.some he (OKQ.some hs h3))))
   ·cases h
  ·cases h
 | fieldAddr s x f =>
  simp only [nI] at h
  simp only [f8]
  split at h
  ·rename_i p hp
   split at h
   ·rename_i y hρ
    split at h
    ·rename_i n _
     obtain ⟨row,rfl,hl,h⟩:=s3 h
     rw [cX hl] at h
     obtain ⟨v,h1,h2⟩:=ee (o':=dQ p.1 (eV (.one (.dp row 0)))) h fun v hv=>od hv
     refine OKQ.some hp (OKQ.pure ?_ h2)
     rw [hρ];exact h1
    ·cases h
   ·obtain ⟨v,h1,h2⟩:=ee (o':=dQ p.1 (eV (ρ x))) h fun v hv=>od hv
    exact OKQ.some hp (OKQ.pure h1 h2)
  ·cases h
 | field s x f =>
  simp only [nI] at h
  simp only [f8]
  split at h
  ·rename_i p cs hp hx
   obtain ⟨v,h1,h2⟩:=ee (o':=bA p.2.2 p.2.1 p.1 (bV cs)) h fun v hv=>by rw [f0,hv];rfl
   refine OKQ.some hp ?_
   have:eV (ρ x)=.agg (bV cs):=by rw [hx];simp [eV]
   simp only [this]
   exact OKQ.pure h1 h2
  ·cases h
 | indexAddr t x ix =>
  simp only [nI] at h
  simp only [f8]
  split at h
  ·rename_i i hi
   have hi':eV (ρ ix)=.one (eL i):=by rw [hi];simp [eV]
   split at h
   ·rename_i p hp
    split at h
    ·rename_i s hs
     obtain ⟨kk,z,h1,h2⟩:=sr (e:=p.2) h
     refine OKQ.some (a:=(kk,z)) (by rw [hi'];exact h1) ?_
     simp only [hp]
     exact OKQ.some hs h2
    ·cases h
   ·rename_i hp
    split at h
    ·rename_i e he
     split at h
     ·rename_i s hs
      obtain ⟨kk,z,h1,h2⟩:=sr (e:=0) h
      refine OKQ.some (a:=(kk,z)) (by rw [hi'];exact h1) ?_
      simp only [hp,he]
      exact OKQ.some hs h2
     ·cases h
    ·cases h
  ·cases h
 | makeMap t rr =>
  cases rr with
  | some _=>simp [nI,aa] at h
  | none =>
   simp only [nI] at h
   simp only [f8]
   split at h
   ·rename_i kd g hk hg
    refine OKQ.cond _ (by simp [hk]) (OKQ.some hg ?_)
    split at h
    ·rename_i a b c d ho
     have ho2:(.mp a b c d:O)=.mp g [] [] true:=by
      obtain ⟨e,_,h3⟩:=Kr.1 ho
      unfold xG at h3
      split at h3
      ·obtain ⟨_,_,h4⟩:=K6.1 h3;cases h4
      ·cases h3
      ·exact (Option.some.inj h3).symm
     rw [ho2] at ho
     refine OKQ.some ho ?_
     have:=fj (v':=fun key=>.one (.mk key)) h (fun q=>by simp [eV,eL])
     simpa [eO,aa,show v8 (O.mp g [] [] true)=fun key=>V.one (L.mk key) from rfl] using this
    ·rename_i a b ho
     have ho2:(.ml a b:O)=.ml [] []:=by
      obtain ⟨e,_,h3⟩:=Kr.1 ho
      unfold xG at h3
      split at h3
      ·obtain ⟨_,_,h4⟩:=K6.1 h3;cases h4
      ·exact (Option.some.inj h3).symm
      ·cases h3
     rw [ho2] at ho
     refine OKQ.some ho ?_
     have:=fj (v':=fun key=>.one (.mq key)) h (fun q=>by simp [eV,eL])
     simpa [eO,bV,show v8 (O.ml [] [])=fun key=>V.one (L.mq key) from rfl] using this
    ·rename_i a b s t' ho
     have ho2:(.am a b s t':O)=.am [] [] s t':=by
      obtain ⟨e,_,h3⟩:=Kr.1 ho
      unfold xG at h3
      split at h3
      ·obtain ⟨_,_,h4⟩:=K6.1 h3;cases h4;rfl
      ·cases h3
      ·cases h3
     rw [ho2] at ho
     refine OKQ.some ho ?_
     have:=fj (v':=fun key=>.one (.mq key)) h (fun q=>by simp [eV,eL])
     simpa [eO,aa,show v8 (O.am [] [] s t')=fun key=>V.one (L.mq key) from rfl] using this
    ·cases h
   ·cases h
 | lookup t x ix ok =>
  simp only [nI] at h
  simp only [f8]
  split at h
  ·rename_i kd e hk he
   split at h
   ·rename_i g zs key hg hz hkey
    split at h
    ·rename_i hzs
     split at h
     ·rename_i q hq
      split at h
      ·rename_i hok
       obtain ⟨v,h1,h2,h3⟩:=AY h
       subst h1
       have hx':eV (ρ x)=.one (.mq q):=by rw [hq];rfl
       refine OKQ.some hk (OKQ.some he (OKQ.some hg (OKQ.some hz (OKQ.some (a:=v) (by simp [eT hkey,V.lit?]) ?_))))
       simp only [hx']
       exact OKQ.cond _ (by simp only [Js] at hok;simp [h2,hzs,hok.1,hok.2]) h3
      ·cases h
     ·rename_i hnq
      obtain ⟨v,h1,h2,h3⟩:=CV h
      subst h1
      refine OKQ.some hk (OKQ.some he (OKQ.some hg (OKQ.some hz (OKQ.some (a:=v) (by simp [eT hkey,V.lit?]) ?_))))
      split
      ·rename_i q hq;exact absurd (eV_mq hq) (hnq q)
      ·exact OKQ.cond _ (by simp [h2,hzs]) h3
    ·cases h
   ·cases h
  ·cases h
 | mapUpdate t q kk v =>
  simp only [nI] at h
  simp only [f8]
  split at h
  ·rename_i kd g hk hg
   rcases hme:eJ P t with _ | e
   ·rw [hme] at hg;cases hg
   rw [hme] at hg
   split at h
   ·rename_i r0 hq
    split at h
    ·rename_i x hx
     obtain ⟨kv,h1,h2⟩:=uk (g:=g) h
     have hq':eV (ρ q)=.one (.mq r0):=by rw [hq];rfl
     refine OKQ.some hk (OKQ.some rfl (OKQ.some hg (OKQ.some (a:=kv) (by rw [hx];simp [eV,h1,V.lit?]) ?_)))
     rw [hq'];exact h2
    ·cases h
   ·split at h
    ·rename_i key hkey
     obtain ⟨kv,h1,h2⟩:=yE h
     subst h1
     exact OKQ.some hk (OKQ.some rfl (OKQ.some hg (OKQ.some (a:=kv) (by simp [eT hkey,V.lit?]) h2)))
    ·cases h
  ·cases h
 | insert t q kk v =>
  simp only [nI] at h
  simp only [f8]
  split at h
  ·rename_i kd g hk hg
   rcases hme:eJ P t with _ | e
   ·rw [hme] at hg;cases hg
   rw [hme] at hg
   split at h
   ·rename_i r0 hq
    split at h
    ·rename_i x hx
     obtain ⟨kv,h1,h2⟩:=uk (g:=g) h
     have hq':eV (ρ q)=.one (.mq r0):=by rw [hq];rfl
     refine OKQ.some hk (OKQ.some rfl (OKQ.some hg (OKQ.some (a:=kv) (by rw [hx];simp [eV,h1,V.lit?]) ?_)))
     rw [hq'];exact h2
    ·cases h
   ·split at h
    ·rename_i key hkey
     obtain ⟨kv,h1,h2⟩:=yE h
     subst h1
     exact OKQ.some hk (OKQ.some rfl (OKQ.some hg (OKQ.some (a:=kv) (by simp [eT hkey,V.lit?]) h2)))
    ·cases h
  ·cases h
 | extract t i =>
  simp only [nI] at h
  simp only [f8]
  split at h
  ·rename_i vs hρ
   obtain ⟨v,h1,h2⟩:=ee (o':=(cI vs)[i]?) h fun v hv=>by rw [dw,Kn,hv];rfl
   have:eV (ρ t)=.tup (cI vs):=by rw [hρ];simp [eV]
   simp only [this]
   exact OKQ.pure h1 h2
  ·cases h
 | call c=>exact yl h
 | _=>simp [nI,aa] at h
end
end Go.VE
