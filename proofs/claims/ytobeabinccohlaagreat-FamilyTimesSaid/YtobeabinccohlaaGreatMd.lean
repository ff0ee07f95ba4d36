/- An evaluator whose data are abstract: what is known before the data is worked out, the rest is handed to a record of operations. -/
import Derived.Test.YtobeabinccohlaaGreatMc
namespace Go.VE
open Go.RowKit
section
inductive L3 (Δ N:Type) where
 | d (x:Δ)
 | b (v:Bool)
 | i (k:IntKind) (n:Int)
 | nil
 | dp (row:List Δ) (off:Nat)
 | fn (f:Nat) (caps:List (L3 Δ N))
 | slk (k:Nat) (off:Option N) (n c:N)
 | pa (k:Nat) (i:N) (off:Nat) (c:N)
 | ptr (k off:Nat)
 | mk (k:Nat)
 | undef
inductive V3 (Δ N:Type) where
 | one (x:L3 Δ N)
 | agg (xs:List (L3 Δ N))
 | tup (xs:List (V3 Δ N))
inductive O3 (Δ N R M:Type) where
 | box (cells:List (L3 Δ N)) (elem:Nat)
 | arr (rows:R) (size elem:Nat) (own:Bool)
 | mp (agg:Bool) (m:M) (own:Bool)
structure S3 (Δ N R M:Type) where
 env:List (Nat×V3 Δ N)
 ob:List (Nat×O3 Δ N R M)
 ys:List Nat
 pend:Option Ex
instance {Δ N:Type}:Inhabited (L3 Δ N):=⟨.undef⟩
instance {Δ N:Type}:Inhabited (V3 Δ N):=⟨.one .undef⟩
inductive Y (Δ N R M:Type) where
 | d (x:Δ)
 | n (x:N)
 | r (x:R)
 | m (x:M)
abbrev Sk:=S3 Unit Unit Unit Unit
inductive Sh where
 | one
 | agg (n:Nat)
 | ptr (n:Nat)
 | met (name:String) (n:Nat)
inductive RK where
 | d
 | own (size elem:Nat)
 | om (agg:Bool)
abbrev RS:=List (Bool×List RK)
structure Pr (Δ N R W M E Ω:Type) where
 fail:Ω
 out:Nat→List (Y Δ N R M)→Ω
 bnd:Ω→List (E→Ω)→Ω
 loop:List ((Nat→List (Y Δ N R M)→Ω)→E→Ω)→Nat→List (Y Δ N R M)→Ω
 call:Nat→List Δ→Ω
 callD:Δ→List Sh→List Δ→Ω
 miss:Nat→Nat→Nat→Nat→List Nat→Ex→S3 Δ N R M→RS→Ω
 cond:Δ→Ω→Ω→Ω
 ld:E→Nat→Δ
 ln:E→Nat→N
 lr:E→Nat→R
 lm:E→Nat→M
 lit:Value→Δ
 natD:N→Δ
 natN:Nat→N
 addN:N→N→N
 slD:Nat→R→Δ
 dpD:List Δ→Nat→Δ
 fnD:Nat→List Δ→Δ
 mpD:Bool→M→Δ
 ifD:Nat→Bool→List Δ→Δ
 len:R→N
 rows:List (List Δ)→R
 repl:N→List Δ→R
 app:R→R→R
 seg:R→Option N→N→R
 setR:R→N→List Δ→R
 emp:M
 cell:W→Nat→Δ
 eqN:N→N→Ω→Ω
 leN:N→N→Ω→Ω
 nilD:Δ→Ω→Ω
 ptrW:Nat→Δ→(W→Ω)→Ω
 isPtr:Δ→Ω→Ω
 rowAt:Nat→R→N→(W→Ω)→Ω
 bin:BinOp→Bool→Δ→Δ→(Δ→Ω)→Ω
 un:UnOp→Δ→(Δ→Ω)→Ω
 eqs:List Bool→Bool→List Δ→List Δ→(Δ→Ω)→Ω
 mm:Bool→Δ→Δ→(Δ→Ω)→Ω
 mkN:Nat→Δ→Δ→(N→Ω)→Ω
 gap:Nat→Δ→(N→Ω)→Ω
 cut:Option Δ→Option Δ→N→(N→N→Ω)→Ω→Ω
 cutD:Nat→Δ→Option Δ→Option Δ→(Δ→Ω)→Ω
 cutNil:Option Δ→Option Δ→Ω→Ω
 selI:Nat→Δ→List Ω→Ω
 inx:Δ→N→(N→Ω)→Ω
 rowD:Nat→Δ→Δ→(W→Ω)→Ω
 lenD:Δ→(Δ→Ω)→Ω
 lenS:Δ→(Δ→Ω)→Ω
 rowsD:Nat→Δ→(R→Ω)→Ω
 isNil:R→Ω→Ω→Ω
 fits:Nat→N→Ω→Ω
 asM:Bool→Δ→(M→Ω)→Ω
 look:Nat→List Value→M→Δ→(W→Δ→Ω)→Ω
 upd:Nat→M→Δ→List Δ→(M→Ω)→Ω
 lits:List (Y Δ N R M)→Ω→Ω
 cvI:IntKind→Δ→(Δ→Ω)→Ω
 nilE:Δ→Ω→Ω→Ω
 ins:Δ→R→R→(R→Ω)→Ω
section
variable {Δ N R W M E Ω:Type} (pr:Pr Δ N R W M E Ω)
def dk:List (Nat×V3 Δ N)→Nat→V3 Δ N
 | [],_=>.one .undef
 | (k,v)::r,t=>if t=k then v else dk r t
def bv:List (Nat×O3 Δ N R M)→Nat→Option (O3 Δ N R M)
 | [],_=>none
 | (k,o)::r,j=>if j=k then some o else bv r j
def cR:List (Nat×O3 Δ N R M)→List (Nat×O3 Δ N R M)→List (Nat×O3 Δ N R M)
 | [],ob=>ob
 | (k,o)::r,ob=>cR r ((k,o)::ob)
mutual
def L3.keysOf:L3 Δ N→List Nat
 | .slk k _ _ _=>[k]
 | .pa k _ _ _=>[k]
 | .ptr k _=>[k]
 | .mk k=>[k]
 | .fn _ caps=>L3.keysF caps
 | _=>[]
def L3.keysF:List (L3 Δ N)→List Nat
 | []=>[]
 | x::xs=>x.keysOf++L3.keysF xs
end
mutual
def V3.keysOf:V3 Δ N→List Nat
 | .one x=>x.keysOf
 | .agg xs=>L3.keysF xs
 | .tup xs=>V3.keysF xs
def V3.keysF:List (V3 Δ N)→List Nat
 | []=>[]
 | x::xs=>x.keysOf++V3.keysF xs
end
def O3.keysOf:O3 Δ N R M→List Nat
 | .box cells _=>L3.keysF cells
 | _=>[]
def qr (ob:List (Nat×O3 Δ N R M)):List Nat→List (Nat×O3 Δ N R M)
 | []=>[]
 | k::ks=>match bv ob k with
  | some o=>(k,o)::qr ob ks
  | none=>qr ob ks
def km (ob:List (Nat×O3 Δ N R M)):List Nat→List Nat
 | []=>[]
 | k::ks=>match bv ob k with
  | some o=>o.keysOf++km ob ks
  | none=>km ob ks
def tE (ob:List (Nat×O3 Δ N R M)):Nat→List Nat→List Nat
 | 0,ks=>ks
 | n+1,ks=>tE ob n (fX (km ob ks) ks)
def ub (pk:List Nat) (vs:List (V3 Δ N)) (ob:List (Nat×O3 Δ N R M)):Option (List (Nat×O3 Δ N R M)) :=
 let ks:=tE ob 6 (fX (V3.keysF vs) pk)
 let ob':=qr ob ks
 if (vs.all fun v=>v.keysOf.all fun k=>ks.contains k)&&(ob'.all fun p=>p.2.keysOf.all fun k=>ks.contains k) then some ob' else none
def wa:Value→L3 Δ N
 | .bool v=>.b v
 | .int k n=>.i k n
 | .slice none 0 0=>.nil
 | v=>.d (pr.lit v)
def uh:Value→V3 Δ N
 | .agg cs=>if cs.toList.all plain then .agg (cs.toList.map (wa pr)) else .one .undef
 | v=>if plain v then .one (wa pr v) else .one .undef
def wD (env:List (Nat×V3 Δ N)):Operand→V3 Δ N
 | .tmp t=>dk env t
 | .const v=>uh pr v
 | .global _=>.one .undef
 | .func f=>if f < 2000000 then .one (.fn f []) else .one .undef
def eQ:L3 Δ N→Option Δ
 | .d x=>some x
 | .b v=>some (pr.lit (.bool v))
 | .i k n=>some (pr.lit (.int k n))
 | .nil=>some (pr.lit (.slice none 0 0))
 | .dp row off=>some (pr.dpD row off)
 | _=>none
def iO:V3 Δ N→Option Δ
 | .one x=>eQ pr x
 | _=>none
def oI:List (L3 Δ N)→Option (List Δ)
 | []=>some []
 | x::xs=>match eQ pr x,oI xs with
  | some y,some ys=>some (y::ys)
  | _,_=>none
def s4 (ρ:Operand→V3 Δ N):Option Operand→Option (Option Δ)
 | none=>some none
 | some x=>match iO pr (ρ x) with
  | some y=>some (some y)
  | none=>none
def s5 (ρ:Operand→V3 Δ N):List Operand→Option (List Δ)
 | []=>some []
 | x::xs=>match iO pr (ρ x),s5 ρ xs with
  | some y,some ys=>some (y::ys)
  | _,_=>none
def L3.isDef:L3 Δ N→Bool | .undef=>false | _=>true
def V3.cells:V3 Δ N→Option (List (L3 Δ N))
 | .one x=>if x.isDef then some [x] else none
 | .agg xs=>if xs.all L3.isDef then some xs else none
 | .tup _=>none
def DV (agg:Bool) (xs:List (L3 Δ N)):Option (V3 Δ N):=match agg,xs with
 | true,xs=>some (.agg xs)
 | false,[x]=>some (.one x)
 | false,_=>none
def eM (agg:Bool) (s off:Nat) (cells:List (L3 Δ N)):Option (V3 Δ N) :=
 if agg then (if off+s≤cells.length then some (.agg ((cells.drop off).take s)) else none)
 else match cells[off]? with
  | some x=>some (.one x)
  | none=>none
def AT (place:Nat→Option (Nat×Nat)) (cells:List (L3 Δ N)):List (Nat×V3 Δ N)→Option (List (L3 Δ N))
 | []=>some cells
 | (i,v)::rest=>match place i,v.cells with
  | some (off,size),some cs=>if cs.length=size∧off+size≤cells.length then AT place (cells.take off++cs++cells.drop (off+size)) rest else none
  | _,_=>none
def kR (n:Nat):V3 Δ N→Option (V3 Δ N)
 | .one (.ptr k off)=>some (.one (.ptr k (off+n)))
 | .one (.pa k i off c)=>some (.one (.pa k i (off+n) c))
 | .one (.dp r off)=>some (.one (.dp r (off+n)))
 | _=>none
def gI:List (V3 Δ N)→Option (List (L3 Δ N))
 | []=>some []
 | .one x::r=>if x.isDef then (match gI r with
  | some xs=>some (x::xs)
  | none=>none) else none
 | _::_=>none
def cellsOf (size:Nat) (r:W):List Δ:=(List.range size).map (pr.cell r)
abbrev dv (Δ N R M:Type):=List (Nat×O3 Δ N R M)
abbrev K3 (Δ N R M Ω:Type):=V3 Δ N→dv Δ N R M→List Nat→Ω
def pc (o:Option (V3 Δ N)) (rd:List Nat) (k:K3 Δ N R M Ω):Ω:=match o with
 | some v=>k v [] rd
 | none=>pr.fail
def fb (ob:dv Δ N R M) (dst:Option Nat) (o:O3 Δ N R M) (v:Nat→V3 Δ N) (k:K3 Δ N R M Ω):Ω:=match dst with
 | some key=>match bv ob key with
  | none=>k (v key) [(key,o)] [key]
  | some _=>pr.fail
 | none=>pr.fail
def wp (ob:dv Δ N R M) (x:L3 Δ N) (k:Δ→dv Δ N R M→List Nat→Ω):Ω:=match x with
 | .slk key off n c=>match bv ob key with
  | some (.arr rows size elem _)=>pr.eqN c (pr.len rows) (k (pr.slD size (pr.seg rows off n)) [(key,.arr rows size elem false)] [key])
  | _=>pr.fail
 | .mk key=>match bv ob key with
  | some (.mp agg m _)=>k (pr.mpD agg m) [(key,.mp agg m false)] [key]
  | _=>pr.fail
 | x=>match eQ pr x with
  | some y=>k y [] []
  | none=>pr.fail
def oU (ob:dv Δ N R M):List (L3 Δ N)→(List Δ→dv Δ N R M→List Nat→Ω)→Ω
 | [],k=>k [] [] []
 | x::xs,k=>wp pr ob x fun d u rd=>oU ob xs fun ds us rd'=>k (d::ds) (u++us) (rd++rd')
def oG (rec:L3 Δ N→(Δ→List Nat→Ω)→Ω):List (L3 Δ N)→(List Δ→List Nat→Ω)→Ω
 | [],k=>k [] []
 | x::xs,k=>rec x fun d rd=>oG rec xs fun ds rd'=>k (d::ds) (rd++rd')
def eP (ob:dv Δ N R M):Nat→L3 Δ N→(Δ→List Nat→Ω)→Ω
 | _,.slk key off n' c,k=>match bv ob key with
  | some (.arr rows size _ _)=>pr.eqN c (pr.len rows) (k (pr.slD size (pr.seg rows off n')) [key])
  | _=>pr.fail
 | _,.pa key i off c,k=>match bv ob key with
  | some (.arr rows size _ _)=>pr.eqN c (pr.len rows) (pr.rowAt size rows i fun r=>k (pr.dpD (cellsOf pr size r) off) [key])
  | _=>pr.fail
 | _,.mk key,k=>match bv ob key with
  | some (.mp agg m _)=>k (pr.mpD agg m) [key]
  | _=>pr.fail
 | n+1,.ptr key off,k=>match bv ob key with
  | some (.box cells _)=>oG (eP ob n) cells fun ds rd=>k (pr.dpD ds off) (key::rd)
  | _=>pr.fail
 | n+1,.fn f caps,k=>oG (eP ob n) caps fun ds rd=>k (pr.fnD f ds) rd
 | _,x,k=>match eQ pr x with
  | some y=>k y []
  | none=>pr.fail
def Aq (agg:Bool) (s:Nat) (ob:dv Δ N R M) (x:V3 Δ N) (k:K3 Δ N R M Ω):Ω:=match x with
 | .one (.ptr key off)=>match bv ob key with
  | some (.box cells _)=>pc pr (eM agg s off cells) [key] k
  | _=>pr.fail
 | .one (.pa key i off c)=>match bv ob key with
  | some (.arr rows size _ _)=>pr.eqN c (pr.len rows) (pr.rowAt size rows i fun r=>pc pr (eM agg s off ((cellsOf pr size r).map .d)) [key] k)
  | _=>pr.fail
 | .one (.dp row off)=>pc pr (eM agg s off (row.map .d)) [] k
 | _=>pr.fail
def yg (ob:dv Δ N R M) (x:V3 Δ N) (cs:List (L3 Δ N)) (k:K3 Δ N R M Ω):Ω:=match x with
 | .one (.ptr key off)=>match bv ob key with
  | some (.box cells elem)=>if off+cs.length≤cells.length then k (.one .undef) [(key,.box (cells.take off++cs++cells.drop (off+cs.length)) elem)] [key] else pr.fail
  | _=>pr.fail
 | .one (.pa key i off c)=>match bv ob key with
  | some (.arr rows size elem own)=>match own with
   | true=>pr.eqN c (pr.len rows) (pr.rowAt size rows i fun r=>oU pr ob cs fun ds us rd=>match us with
    | []=>if off+ds.length≤size then k (.one .undef) [(key,.arr (pr.setR rows i ((cellsOf pr size r).take off++ds++(cellsOf pr size r).drop (off+ds.length))) size elem own)] (key::rd) else pr.fail
    | _=>pr.fail)
   | false=>pr.fail
  | _=>pr.fail
 | _=>pr.fail
def GO (es:Nat) (x:V3 Δ N) (k:K3 Δ N R M Ω) (j:Nat):Ω:=pc pr (kR (j*es) x) [] k
def u5 (arr:Option Nat) (es:Nat) (ob:dv Δ N R M) (x:V3 Δ N) (i:L3 Δ N) (k:K3 Δ N R M Ω):Ω:=match arr with
 | some n=>match i with
  | .i _ z=>if 0≤z∧z < n then GO pr es x k z.toNat else pr.fail
  | .d y=>pr.selI n y ((List.range n).map (GO pr es x k))
  | _=>pr.fail
 | none=>match eQ pr i with
  | none=>pr.fail
  | some y=>match x with
   | .one (.slk key off n c)=>match bv ob key with
    | some (.arr rows size _ _)=>if size=es then pr.eqN c (pr.len rows) (pr.inx y n fun j=>k (.one (.pa key (match off with | none=>j | some o=>pr.addN o j) 0 c)) [] [key]) else pr.fail
    | _=>pr.fail
   | .one (.d z)=>pr.rowD es z y fun r=>k (.one (.dp (cellsOf pr es r) 0)) [] []
   | _=>pr.fail
def MV (es:Nat) (ob:dv Δ N R M) (x:V3 Δ N) (l h:Option Δ) (k:K3 Δ N R M Ω):Ω:=match x with
 | .one (.slk key off n c)=>match bv ob key with
  | some (.arr rows size _ _)=>if size=es then pr.eqN c (pr.len rows) (match l with
    | none=>pr.cut l h n (fun _ m=>k (.one (.slk key off m c)) [] [key]) pr.fail
    | some _=>pr.cut l h n (fun o m=>k (.one (.slk key (some (match off with | none=>o | some o'=>pr.addN o' o)) m c)) [] [key]) (k (.one (.d (pr.slD es (pr.rows [])))) [] [key])) else pr.fail
  | _=>pr.fail
 | .one (.d y)=>pr.cutD es y l h fun z=>k (.one (.d z)) [] []
 | .one .nil=>pr.cutNil l h (k (.one .nil) [] [])
 | _=>pr.fail
def A3 (ob:dv Δ N R M) (size n:Nat) (rows:List (List Δ)):List (Nat×V3 Δ N)→(List (List Δ)→dv Δ N R M→List Nat→Ω)→Ω
 | [],k=>k rows [] []
 | (i,v)::rest,k=>match v.cells with
  | none=>pr.fail
  | some cs=>if cs.length=size∧i < n then oU pr ob cs fun ds us rd=>A3 ob size n (rows.set i ds) rest fun rows' us' rd'=>k rows' (us++us') (rd++rd') else pr.fail
def Lf (es:Nat) (ob:dv Δ N R M) (x:V3 Δ N) (k:R→List Nat→Ω):Ω:=match x with
 | .one .nil=>k (pr.rows []) []
 | .one (.d y)=>pr.rowsD es y fun r=>k r []
 | .one (.slk key off n c)=>match bv ob key with
  | some (.arr rows size _ _)=>if size=es then pr.eqN c (pr.len rows) (k (pr.seg rows off n) [key]) else pr.fail
  | _=>pr.fail
 | _=>pr.fail
def pF (ob:dv Δ N R M) (dst:Option Nat) (elem size bytes:Nat) (s:V3 Δ N) (new:R) (rd:List Nat) (k:K3 Δ N R M Ω):Ω :=
 pr.isNil new (k s [] rd) (pr.fits bytes (pr.len new) (fb pr ob dst (.arr new size elem true) (fun key=>.one (.slk key none (pr.len new) (pr.len new))) fun v u rd'=>k v u (rd++rd')))
def uo (ob:dv Δ N R M) (dst:Option Nat) (elem size bytes:Nat) (s:V3 Δ N) (new:R) (rd:List Nat) (k:K3 Δ N R M Ω):Ω:=match s with
 | .one .nil=>pF pr ob dst elem size bytes (.one .nil) new rd k
 | .one (.d y)=>pr.nilD y (pF pr ob dst elem size bytes (.one .nil) new rd k)
 | .one (.slk key none n c)=>match bv ob key with
  | some (.arr rows size' elem' own)=>match own with
   | true=>if size'=size∧elem'=elem then pr.eqN c (pr.len rows) (pr.eqN n (pr.len rows) (pr.fits bytes (pr.addN n (pr.len new)) (k (.one (.slk key none (pr.addN n (pr.len new)) (pr.addN n (pr.len new)))) [(key,.arr (pr.app rows new) size elem true)] (rd++[key])))) else pr.fail
   | false=>pr.fail
  | _=>pr.fail
 | _=>pr.fail
def E0 (kd:Nat) (agg ok:Bool) (zs:List Value) (ob:dv Δ N R M) (x:V3 Δ N) (key:Δ) (k:K3 Δ N R M Ω):Ω :=
 let ni:=fun (m:M) (rd:List Nat)=>pr.look kd zs m key fun r f=>match DV agg ((cellsOf pr zs.length r).map .d) with
  | some v=>k (if ok then .tup [v,.one (.d f)] else v) [] rd
  | none=>pr.fail
 match x with
  | .one (.d y)=>pr.asM agg y fun m=>ni m []
  | .one (.mk q)=>match bv ob q with
   | some (.mp agg' m _)=>if agg==agg' then ni m [q] else pr.fail
   | _=>pr.fail
  | _=>pr.fail
def Ep:V3 Δ N→Bool | .agg _=>true | _=>false
def La (kd:Nat) (agg:Bool) (ob:dv Δ N R M) (x:V3 Δ N) (key:Δ) (v:V3 Δ N) (k:K3 Δ N R M Ω):Ω:=match x with
 | .one (.mk q)=>match bv ob q with
  | some (.mp agg' m own)=>if (own&&agg==agg'&&Ep v==agg)=true then (match v.cells with
   | none=>pr.fail
   | some cs=>oU pr ob cs fun ds us rd=>match us with
    | []=>pr.upd kd m key ds fun m'=>k (.one .undef) [(q,.mp agg m' true)] (q::rd)
    | _=>pr.fail) else pr.fail
  | _=>pr.fail
 | _=>pr.fail
def mmK (mx:Bool):Δ→List Δ→(Δ→Ω)→Ω
 | a,[],k=>k a
 | a,y::r,k=>pr.mm mx a y fun z=>mmK mx z r k
def N0 (P:Program) (op:BinOp) (t:Nat) (x y:V3 Δ N) (k:K3 Δ N R M Ω):Ω:=match x,y with
 | .one x,.one y=>if (cp P t).isSome=true then (match op,y,eQ pr x with
  | .eql,.nil,some a=>pr.nilE a (k (.one (.b true)) [] []) (k (.one (.b false)) [] [])
  | .neq,.nil,some a=>pr.nilE a (k (.one (.b false)) [] []) (k (.one (.b true)) [] [])
  | _,_,_=>pr.fail) else match eQ pr x,eQ pr y with
  | some a,some b=>pr.bin op (B8 P t) a b fun z=>k (.one (.d z)) [] []
  | _,_=>pr.fail
 | .agg xs,.agg ys=>match kG P 8 t,oI pr xs,oI pr ys with
  | some ks,some xs,some ys=>if dg P t=some true then (match op with
   | .eql=>pr.eqs ks false xs ys fun z=>k (.one (.d z)) [] []
   | .neq=>pr.eqs ks true xs ys fun z=>k (.one (.d z)) [] []
   | _=>pr.fail) else pr.fail
  | _,_,_=>pr.fail
 | _,_=>pr.fail
def ui (P:Program) (ob:dv Δ N R M) (dst:Option Nat) (ρ:Operand→V3 Δ N) (c:Call) (k:K3 Δ N R M Ω):Ω:=match c.callee with
 | .builtin .len=>match c.args.toList with
  | [x]=>match c.argTypes.toList with
   | [t]=>match cp P t with
    | some _=>match ρ x with
     | .one (.slk _ _ n _)=>k (.one (.d (pr.natD n))) [] []
     | .one .nil=>k (.one (.i .i64 0)) [] []
     | .one (.d y)=>pr.lenD y fun z=>k (.one (.d z)) [] []
     | _=>pr.fail
    | none=>if Ld P t=true then (match iO pr (ρ x) with
     | some y=>pr.lenS y fun z=>k (.one (.d z)) [] []
     | none=>pr.fail) else pr.fail
   | _=>pr.fail
  | _=>pr.fail
 | .builtin .cap=>match c.args.toList,c.argTypes.toList with
  | [x],[t]=>match ρ x with
   | .one .nil=>if (cp P t).isSome=true then k (.one (.i .i64 0)) [] [] else pr.fail
   | .one (.d y)=>if (cp P t).isSome=true then pr.nilD y (k (.one (.i .i64 0)) [] []) else pr.fail
   | _=>pr.fail
  | _,_=>pr.fail
 | .builtin .clear=>match c.args.toList,c.argTypes.toList with
  | [x],[t]=>match (cp P t).bind (cE P) with
   | some zs=>if 0 < zs.length then (match ρ x with
    | .one .nil=>k (.tup []) [] []
    | .one (.d y)=>pr.nilD y (k (.tup []) [] [])
    | .one (.slk key off n c)=>match bv ob key with
     | some (.arr rows size elem true)=>if size=zs.length then pr.eqN c (pr.len rows) (pr.eqN (match off with | none=>n | some o=>pr.addN o n) (pr.len rows) (k (.tup []) [(key,.arr (match off with | none=>pr.repl n (zs.map pr.lit) | some o=>pr.app (pr.seg rows none o) (pr.repl n (zs.map pr.lit))) size elem true)] [key])) else pr.fail
     | _=>pr.fail
    | _=>pr.fail) else pr.fail
   | none=>pr.fail
  | _,_=>pr.fail
 | .builtin .min=>match s5 pr ρ c.args.toList with
  | some (a::r)=>mmK pr false a r fun z=>k (.one (.d z)) [] []
  | _=>pr.fail
 | .builtin .max=>match s5 pr ρ c.args.toList with
  | some (a::r)=>mmK pr true a r fun z=>k (.one (.d z)) [] []
  | _=>pr.fail
 | .builtin .append=>match c.args.toList,c.argTypes.toList with
  | [s,x],[t,t']=>match cp P t with
   | none=>pr.fail
   | some e=>match bE P e,ia P e,cE P e with
    | some sz,some bs,some zs=>match rW P t' with
     | some _=>match ρ s,iO pr (ρ x) with
      | .one .nil,some y=>if 0 < sz∧zs.length=sz then pr.gap bs y fun n=>fb pr ob dst (.arr (pr.repl n (zs.map pr.lit)) sz e true) (fun key=>.one (.slk key none n n)) k else pr.fail
      | .one (.d x),some y=>if 0 < sz∧zs.length=sz then pr.nilD x (pr.gap bs y fun n=>fb pr ob dst (.arr (pr.repl n (zs.map pr.lit)) sz e true) (fun key=>.one (.slk key none n n)) k) else pr.fail
      | _,_=>pr.fail
     | none=>if t=t'∧0 < sz∧0 < bs∧zs.length=sz then Lf pr sz ob (ρ x) fun new rd=>uo pr ob dst e sz bs (ρ s) new rd k else pr.fail
    | _,_,_=>pr.fail
  | _,_=>pr.fail
 | _=>pr.fail
def oM (P:Program) (ob:dv Δ N R M) (dst:Option Nat) (ρ:Operand→V3 Δ N) (op:Op) (k:K3 Δ N R M Ω):Ω:=match op with
 | .move x=>k (ρ x) [] []
 | .assign x=>k (ρ x) [] []
 | .pick c a b=>match ρ c with
  | .one (.b true)=>k (ρ a) [] []
  | .one (.b false)=>k (ρ b) [] []
  | .one (.d y)=>pr.cond y (k (ρ a) [] []) (k (ρ b) [] [])
  | _=>pr.fail
 | .box elem x=>match (ρ x).cells with
  | some cs=>match dst with
   | none=>oU pr ob cs fun ds us rd=>k (.one (.dp ds 0)) us rd
   | some _=>fb pr ob dst (.box cs elem) (fun key=>.one (.ptr key 0)) k
  | none=>pr.fail
 | .alloc elem=>match cE P elem with
  | some zs=>fb pr ob dst (.box (zs.map (wa pr)) elem) (fun key=>.one (.ptr key 0)) k
  | none=>pr.fail
 | .build t parts=>match cE P t with
  | some zs=>if (dg P t==some true&&Ef P t)=true then (match AT (kf P t) (zs.map (wa pr)) (parts.toList.map fun p=>(p.1,ρ p.2)) with
   | some cs=>k (.agg cs) [] []
   | none=>pr.fail) else pr.fail
  | none=>pr.fail
 | .buildSlice t len parts=>match cp P t with
  | none=>pr.fail
  | some e=>match bE P e,cE P e with
   | some s,some zs=>if 0 < s∧zs.length=s∧len*s≤16777216 then A3 pr ob s len (List.replicate len (zs.map pr.lit)) (parts.toList.map fun p=>(p.1,ρ p.2)) fun rows us rd =>
     match dst with
     | some _=>fb pr ob dst (.arr (pr.rows rows) s e true) (fun key=>.one (.slk key none (pr.natN len) (pr.natN len))) fun v u rd'=>k v (us++u) (rd++rd')
     | none=>k (.one (.d (pr.slD s (pr.rows rows)))) us rd else pr.fail
   | _,_=>pr.fail
 | .load t a=>match dg P t,bE P t with
  | some g,some s=>Aq pr g s ob (ρ a) k
  | _,_=>pr.fail
 | .store t a x=>match (ρ x).cells with
  | some cs=>if (bE P t==some cs.length)=true then yg pr ob (ρ a) cs k else pr.fail
  | none=>pr.fail
 | .nilCheck x=>match ρ x with
  | .one (.ptr ..)=>k (ρ x) [] []
  | .one (.pa ..)=>k (ρ x) [] []
  | .one (.dp ..)=>k (ρ x) [] []
  | .one (.d y)=>pr.isPtr y (k (ρ x) [] [])
  | _=>pr.fail
 | .binOp op t x y _=>N0 pr P op t (ρ x) (ρ y) k
 | .unOp op _ x=>match op,ρ x with
  | .not,.one (.b v)=>k (.one (.b !v)) [] []
  | .not,.one (.d y)=>pr.un .not y fun z=>k (.one (.d z)) [] []
  | .neg,v=>match iO pr v with
   | some y=>pr.un .neg y fun z=>k (.one (.d z)) [] []
   | none=>pr.fail
  | _,_=>pr.fail
 | .makeFunc fn first captured=>match fn,gI (first.toList.map ρ),gI (captured.toList.map ρ) with
  | .func f,some [],some caps=>if f < 2000000 then k (.one (.fn f caps)) [] [] else pr.fail
  | .func f,some (c::cs),some []=>k (.one (.fn (f+2000000) (c::cs))) [] []
  | _,_,_=>pr.fail
 | .makeInterface t x=>if Hc P t=true then (match dg P t,ρ x with
  | some false,.one y=>match eQ pr y with
   | some z=>k (.one (.d (pr.ifD t false [z]))) [] []
   | none=>pr.fail
  | some true,.agg ys=>match oI pr ys with
   | some zs=>k (.one (.d (pr.ifD t true zs))) [] []
   | none=>pr.fail
  | _,_=>pr.fail) else pr.fail
 | .makeSlice t l c=>match cp P t with
  | none=>pr.fail
  | some e=>match bE P e,cE P e,ia P e with
   | some s,some zs,some bs=>match iO pr (ρ l),iO pr (ρ c) with
    | some n,some m=>if 0 < s∧zs.length=s then pr.mkN bs n m fun n=>fb pr ob dst (.arr (pr.repl n (zs.map pr.lit)) s e true) (fun key=>.one (.slk key none n n)) k else pr.fail
    | _,_=>pr.fail
   | _,_,_=>pr.fail
 | .slice t x lo hi mx=>match cp P t,mx with
  | some e,none=>match s4 pr ρ lo,s4 pr ρ hi,bE P e with
   | some l,some h,some s=>MV pr s ob (ρ x) l h k
   | _,_,_=>pr.fail
  | _,_=>pr.fail
 | .fieldAddr s x f=>match jD P s f with
  | some p=>match ρ x with
   | .one (.d y)=>match bE P s with
    | some n=>pr.ptrW n y fun w=>pc pr (kR p.1 (.one (.dp (cellsOf pr n w) 0))) [] k
    | none=>pr.fail
   | v=>pc pr (kR p.1 v) [] k
  | none=>pr.fail
 | .field s x f=>match jD P s f,ρ x with
  | some p,.agg cs=>pc pr (eM p.2.2 p.2.1 p.1 cs) [] k
  | _,_=>pr.fail
 | .indexAddr t x ix=>match ρ ix with
  | .one i=>match ul P t with
   | some p=>match bE P p.2 with
    | some s=>u5 pr (some p.1) s ob (ρ x) i k
    | none=>pr.fail
   | none=>match cp P t with
    | some e=>match bE P e with
     | some s=>u5 pr none s ob (ρ x) i k
     | none=>pr.fail
    | none=>pr.fail
  | _=>pr.fail
 | .index t x ix=>match ul P t with
  | some p=>match bE P p.2,dg P p.2,ρ x with
   | some s,some g,.agg cs=>match ρ ix with
    | .one (.i _ z)=>if 0≤z∧z < p.1 then pc pr (eM g s (z.toNat*s) cs) [] k else pr.fail
    | .one (.d y)=>pr.selI p.1 y ((List.range p.1).map fun j=>pc pr (eM g s (j*s) cs) [] k)
    | _=>pr.fail
   | _,_,_=>pr.fail
  | none=>pr.fail
 | .convert src dst x=>match rW P src,rW P dst,iO pr (ρ x) with
  | some _,some kd,some y=>pr.cvI kd y fun z=>k (.one (.d z)) [] []
  | _,_,_=>pr.fail
 | .makeMap t none=>match rV P t,(jv P t).bind (dg P) with
  | some _,some g=>fb pr ob dst (.mp g pr.emp true) (fun key=>.one (.mk key)) k
  | _,_=>pr.fail
 | .lookup t x ix ok=>match rV P t,jv P t with
  | some kd,some e=>match dg P e,cE P e,iO pr (ρ ix) with
   | some g,some zs,some key=>if te P e g=true then E0 pr kd g ok zs ob (ρ x) key k else pr.fail
   | _,_,_=>pr.fail
  | _,_=>pr.fail
 | .mapUpdate t m q v=>match rV P t,(jv P t).bind (dg P) with
  | some kd,some g=>match iO pr (ρ q) with
   | some key=>La pr kd g ob (ρ m) key (ρ v) k
   | none=>pr.fail
  | _,_=>pr.fail
 | .extract t i=>match ρ t with
  | .tup vs=>pc pr vs[i]? [] k
  | _=>pr.fail
 | .call c=>ui pr P ob dst ρ c k
 | _=>pr.fail
end
end
section
section
variable {Δ N R W M E Ω:Type} (pr:Pr Δ N R W M E Ω)
mutual
def jB:L3 Unit Unit→L3 Δ N→Option (List (Y Δ N R M))
 | .d _,x=>match eQ pr x with
  | some y=>some [.d y]
  | none=>none
 | .b v,.b v'=>if v=v' then some [] else none
 | .i k n,.i k' n'=>if k=k'∧n=n' then some [] else none
 | .nil,.nil=>some []
 | .dp r o,.dp r' o'=>if r.length=r'.length∧o=o' then some (r'.map .d) else none
 | .fn f cs,.fn f' cs'=>if f=f' then oW cs cs' else none
 | .slk k none _ _,.slk k' none n c=>if k=k' then some [.n n,.n c] else none
 | .slk k (some _) _ _,.slk k' (some o) n c=>if k=k' then some [.n o,.n n,.n c] else none
 | .slk k (some _) _ _,.slk k' none n c=>if k=k' then some [.n (pr.natN 0),.n n,.n c] else none
 | .pa k _ o _,.pa k' i o' c=>if k=k'∧o=o' then some [.n i,.n c] else none
 | .ptr k o,.ptr k' o'=>if k=k'∧o=o' then some [] else none
 | .mk k,.mk k'=>if k=k' then some [] else none
 | .undef,.undef=>some []
 | _,_=>none
def oW:List (L3 Unit Unit)→List (L3 Δ N)→Option (List (Y Δ N R M))
 | [],[]=>some []
 | x::xs,y::ys=>match jB x y,oW xs ys with
  | some a,some b=>some (a++b)
  | _,_=>none
 | _,_=>none
end
mutual
def pi:V3 Unit Unit→V3 Δ N→Option (List (Y Δ N R M))
 | .one x,.one y=>jB pr x y
 | .agg xs,.agg ys=>oW pr xs ys
 | .tup xs,.tup ys=>sN xs ys
 | _,_=>none
def sN:List (V3 Unit Unit)→List (V3 Δ N)→Option (List (Y Δ N R M))
 | [],[]=>some []
 | x::xs,y::ys=>match pi x y,sN xs ys with
  | some a,some b=>some (a++b)
  | _,_=>none
 | _,_=>none
end
def MN:O3 Unit Unit Unit Unit→O3 Δ N R M→Option (List (Y Δ N R M))
 | .box cs e,.box cs' e'=>if e=e' then oW pr cs cs' else none
 | .arr _ s e o,.arr rows s' e' o'=>if s=s'∧e=e'∧o=o' then some [.r rows] else none
 | .mp g _ o,.mp g' m o'=>if g=g'∧o=o' then some [.m m] else none
 | _,_=>none
def MM (s:V3 Unit Unit) (x:V3 Δ N):Option (List (Y Δ N R M)):=match s with
 | .one .undef=>some []
 | s=>pi pr s x
def qC (env:List (Nat×V3 Δ N)):List (Nat×V3 Unit Unit)→Option (List (Y Δ N R M))
 | []=>some []
 | (t,v)::r=>match MM pr v (dk env t),qC env r with
  | some a,some b=>some (a++b)
  | _,_=>none
def AQ (ob:dv Δ N R M):dv Unit Unit Unit Unit→Option (List (Y Δ N R M))
 | []=>some []
 | (k,o)::r=>match bv ob k with
  | some o'=>match MN pr o o',AQ ob r with
   | some a,some b=>some (a++b)
   | _,_=>none
  | none=>none
def Do (sk:Sk):Bool:=(sk.env.all fun p=>p.2.keysOf.all fun k=>(sk.ob.map (·.1)).contains k)&&(sk.ob.all fun p=>p.2.keysOf.all fun k=>(sk.ob.map (·.1)).contains k)
def H7:Ex→Ex→Bool
 | .normal,.normal=>true
 | .ret,.ret=>true
 | .exit i,.exit j=>i==j
 | _,_=>false
def yp:Option Ex→Option Ex→Bool
 | none,none=>true
 | some a,some b=>H7 a b
 | _,_=>false
def ud (pk:List Nat) (sk:Sk) (st:S3 Δ N R M):Option (List (Y Δ N R M)) :=
 if (Do sk&&pk.all (sk.ob.map (·.1)).contains&&yp sk.pend st.pend&&sk.ys.all st.ys.contains)=true then
  match qC pr st.env sk.env,AQ pr st.ob sk.ob with
  | some a,some b=>some (a++b)
  | _,_=>none
 else none
def mg (pk:List Nat) (st:S3 Δ N R M):List Sk→Nat→Option (Nat×List (Y Δ N R M))
 | [],_=>none
 | sk::r,j=>match ud pr pk sk st with
  | some ys=>some (j,ys)
  | none=>mg pk st r (j+1)
def sO (pk:List Nat) (e:Ex) (st:S3 Δ N R M):List (Ex×Sk)→Nat→Option (Nat×List (Y Δ N R M))
 | [],_=>none
 | (x,sk)::r,j=>if H7 x e=true then (match ud pr pk sk st with
  | some ys=>some (j,ys)
  | none=>sO pk e st r (j+1)) else sO pk e st r (j+1)
mutual
def bS (e:E):L3 Unit Unit→Nat→L3 Δ N×Nat
 | .d _,j=>(.d (pr.ld e j),j+1)
 | .b v,j=>(.b v,j)
 | .i k n,j=>(.i k n,j)
 | .nil,j=>(.nil,j)
 | .dp r o,j=>(.dp ((List.range r.length).map fun i=>pr.ld e (j+i)) o,j+r.length)
 | .fn f cs,j=>(.fn f (dO e cs j).1,(dO e cs j).2)
 | .slk k none _ _,j=>(.slk k none (pr.ln e j) (pr.ln e (j+1)),j+2)
 | .slk k (some _) _ _,j=>(.slk k (some (pr.ln e j)) (pr.ln e (j+1)) (pr.ln e (j+2)),j+3)
 | .pa k _ o _,j=>(.pa k (pr.ln e j) o (pr.ln e (j+1)),j+2)
 | .ptr k o,j=>(.ptr k o,j)
 | .mk k,j=>(.mk k,j)
 | .undef,j=>(.undef,j)
def dO (e:E):List (L3 Unit Unit)→Nat→List (L3 Δ N)×Nat
 | [],j=>([],j)
 | x::xs,j=>((bS e x j).1::(dO e xs (bS e x j).2).1,(dO e xs (bS e x j).2).2)
end
mutual
def d6 (e:E):V3 Unit Unit→Nat→V3 Δ N×Nat
 | .one x,j=>(.one (bS pr e x j).1,(bS pr e x j).2)
 | .agg xs,j=>(.agg (dO pr e xs j).1,(dO pr e xs j).2)
 | .tup xs,j=>(.tup (fL e xs j).1,(fL e xs j).2)
def fL (e:E):List (V3 Unit Unit)→Nat→List (V3 Δ N)×Nat
 | [],j=>([],j)
 | x::xs,j=>((d6 e x j).1::(fL e xs (d6 e x j).2).1,(fL e xs (d6 e x j).2).2)
end
def i6 (e:E):O3 Unit Unit Unit Unit→Nat→O3 Δ N R M×Nat
 | .box cs el,j=>(.box (dO pr e cs j).1 el,(dO pr e cs j).2)
 | .arr _ s el o,j=>(.arr (pr.lr e j) s el o,j+1)
 | .mp g _ o,j=>(.mp g (pr.lm e j) o,j+1)
def dP (e:E):List (Nat×V3 Unit Unit)→Nat→List (Nat×V3 Δ N)×Nat
 | [],j=>([],j)
 | (t,v)::r,j=>((t,(d6 pr e v j).1)::(dP e r (d6 pr e v j).2).1,(dP e r (d6 pr e v j).2).2)
def i5 (e:E):dv Unit Unit Unit Unit→Nat→dv Δ N R M×Nat
 | [],j=>([],j)
 | (k,o)::r,j=>((k,(i6 pr e o j).1)::(i5 e r (i6 pr e o j).2).1,(i5 e r (i6 pr e o j).2).2)
def ej (e:E) (sk:Sk):S3 Δ N R M :=
 ⟨(dP pr e sk.env 0).1,(i5 pr e sk.ob (dP pr e sk.env 0).2).1,sk.ys,sk.pend⟩
def oK (P:Program) (ob:dv Δ N R M) (env:List (Nat×V3 Δ N)):List ResultVar→(List (V3 Δ N)→Ω)→Ω
 | [],k=>k []
 | .tmp t::r,k=>oK P ob env r fun vs=>k (dk env t::vs)
 | .cell a T::r,k=>match dg P T,bE P T with
  | some g,some s=>Aq pr g s ob (dk env a) fun v _ _=>oK P ob env r fun vs=>k (v::vs)
  | _,_=>pr.fail
def rcK (ob:dv Δ N R M):RK→L3 Δ N→(Y Δ N R M→List Nat→Ω)→Ω
 | .d,.slk key none n c,k=>match bv ob key with
  | some (.arr rows size _ _)=>pr.eqN c (pr.len rows) (pr.leN n (pr.len rows) (k (.d (pr.slD size (pr.seg rows none n))) [key]))
  | _=>pr.fail
 | .own s e,.slk key none n c,k=>match bv ob key with
  | some (.arr rows size elem true)=>if s=size∧e=elem then pr.eqN c (pr.len rows) (pr.leN n (pr.len rows) (k (.r (pr.seg rows none n)) [key])) else pr.fail
  | _=>pr.fail
 | .d,.mk key,k=>match bv ob key with
  | some (.mp agg m _)=>k (.d (pr.mpD agg m)) [key]
  | _=>pr.fail
 | .om g,.mk key,k=>match bv ob key with
  | some (.mp agg m true)=>if g=agg then k (.m m) [key] else pr.fail
  | _=>pr.fail
 | .d,x,k=>match eQ pr x with
  | some y=>k (.d y) []
  | none=>pr.fail
 | _,_,_=>pr.fail
def DF (ob:dv Δ N R M):List RK→List (L3 Δ N)→(List (Y Δ N R M)→List Nat→Ω)→Ω
 | [],[],k=>k [] []
 | r::rs,x::xs,k=>rcK pr ob r x fun y u=>DF ob rs xs fun ys us=>k (y::ys) (u++us)
 | _,_,_=>pr.fail
def ir (ob:dv Δ N R M):RS→List (V3 Δ N)→(List (Y Δ N R M)→List Nat→Ω)→Ω
 | [],[],k=>k [] []
 | (false,[r])::rs,.one x::vs,k=>rcK pr ob r x fun y u=>ir ob rs vs fun ys us=>k (y::ys) (u++us)
 | (true,r)::rs,.agg xs::vs,k=>DF pr ob r xs fun y u=>ir ob rs vs fun ys us=>k (y++ys) (u++us)
 | _,_,_=>pr.fail
def JX (ob:dv Δ N R M):RK→L3 Δ N→Bool
 | .d,.undef=>false
 | .d,_=>true
 | .own s e,.slk key none _ _=>match bv ob key with
  | some (.arr _ size elem own)=>own&&s==size&&e==elem
  | _=>false
 | .om g,.mk key=>match bv ob key with
  | some (.mp agg _ own)=>own&&g==agg
  | _=>false
 | _,_=>false
def tG (ob:dv Δ N R M):List RK→List (L3 Δ N)→Bool
 | [],[]=>true
 | r::rs,x::xs=>JX ob r x&&tG ob rs xs
 | _,_=>false
def lQ (ob:dv Δ N R M):RS→List (V3 Δ N)→Bool
 | [],[]=>true
 | (false,[r])::rs,.one x::vs=>JX ob r x&&lQ ob rs vs
 | (true,r)::rs,.agg xs::vs=>tG ob r xs&&lQ ob rs vs
 | _,_=>false
def RK.isD:RK→Bool | .d=>true | _=>false
def Hm (rs:RS):Bool:=rs.all fun p=>p.2.all RK.isD
def pS (ob:dv Δ N R M) (vs:List (V3 Δ N)):List RS→Nat→Option (Nat×RS)
 | [],_=>none
 | x::r,j=>if lQ ob x vs=true then some (j,x) else pS ob vs r (j+1)
def K9 (ob:dv Δ N R M):L3 Δ N→RK
 | .slk key none _ _=>match bv ob key with
  | some (.arr _ size elem true)=>.own size elem
  | _=>.d
 | .mk key=>match bv ob key with
  | some (.mp agg _ true)=>.om agg
  | _=>.d
 | _=>.d
def K8 (ob:dv Δ N R M):V3 Δ N→Bool×List RK
 | .one x=>(false,[K9 ob x])
 | .agg xs=>(true,xs.map (K9 ob))
 | .tup _=>(false,[])
def vG (ob:dv Δ N R M):List (V3 Δ N)→(List (Y Δ N R M)→Ω)→Ω
 | [],k=>k []
 | .one x::vs,k=>eP pr ob 4 x fun y _=>vG ob vs fun ys=>k (.d y::ys)
 | .agg xs::vs,k=>oG (eP pr ob 4) xs fun y _=>vG ob vs fun ys=>k (y.map .d++ys)
 | .tup _::_,_=>pr.fail
def gS:List Nat→Bool
 | []=>true
 | x::xs=>!xs.contains x&&gS xs
def mZ (e:E) (base:Nat):RK→Nat→Nat→L3 Δ N×dv Δ N R M×Nat
 | .d,j,n=>(.d (pr.ld e j),[],n)
 | .own size elem,j,n=>(.slk (base+n) none (pr.len (pr.lr e j)) (pr.len (pr.lr e j)),[(base+n,.arr (pr.lr e j) size elem true)],n+1)
 | .om agg,j,n=>(.mk (base+n),[(base+n,.mp agg (pr.lm e j) true)],n+1)
def dm (e:E) (base:Nat):List RK→Nat→Nat→List (L3 Δ N)×dv Δ N R M×Nat
 | [],_,n=>([],[],n)
 | x::xs,j,n=>((mZ pr e base x j n).1::(dm e base xs (j+1) (mZ pr e base x j n).2.2).1,(mZ pr e base x j n).2.1++(dm e base xs (j+1) (mZ pr e base x j n).2.2).2.1,(dm e base xs (j+1) (mZ pr e base x j n).2.2).2.2)
def Ch (g:Bool) (xs:List (L3 Δ N)):V3 Δ N:=match g,xs with
 | false,[x]=>.one x
 | _,xs=>.agg xs
def c8 (e:E) (base:Nat):RS→Nat→Nat→List (V3 Δ N)×dv Δ N R M×Nat
 | [],_,n=>([],[],n)
 | (g,cs)::r,j,n=>(Ch g (dm pr e base cs j n).1::(c8 e base r (j+cs.length) (dm pr e base cs j n).2.2).1,(dm pr e base cs j n).2.1++(c8 e base r (j+cs.length) (dm pr e base cs j n).2.2).2.1,(c8 e base r (j+cs.length) (dm pr e base cs j n).2.2).2.2)
def em:List (V3 Δ N)→V3 Δ N
 | [x]=>x
 | xs=>.tup xs
def nB (ob:dv Δ N R M):dv Δ N R M→Bool
 | []=>true
 | (k,_)::r=>(match bv ob k with | none=>true | some _=>false)&&nB ob r
def nw:List Sh→List Δ→Option (List (V3 Δ N))
 | [],[]=>some []
 | .one::r,x::xs=>match nw r xs with
  | some vs=>some (.one (.d x)::vs)
  | none=>none
 | .agg n::r,xs=>if (xs.take n).length=n then (match nw r (xs.drop n) with
  | some vs=>some (.agg ((xs.take n).map .d)::vs)
  | none=>none) else none
 | .ptr n::r,xs=>if (xs.take n).length=n then (match nw r (xs.drop n) with
  | some vs=>some (.one (.dp (xs.take n) 0)::vs)
  | none=>none) else none
 | _,_=>none
def ic (ob:dv Δ N R M):List Sh→List (V3 Δ N)→(List Δ→List Nat→Ω)→Ω
 | [],[],k=>k [] []
 | .one::r,.one x::vs,k=>eP pr ob 4 x fun d rd=>ic ob r vs fun ds rd'=>k (d::ds) (rd++rd')
 | .agg n::r,.agg xs::vs,k=>if xs.length=n then oG (eP pr ob 4) xs fun d rd=>ic ob r vs fun ds rd'=>k (d++ds) (rd++rd') else pr.fail
 | .ptr n::r,.one (.dp row o)::vs,k=>if row.length=n∧o=0 then ic ob r vs fun ds rd'=>k (row++ds) rd' else pr.fail
 | .ptr n::r,.one (.d x)::vs,k=>pr.ptrW n x fun w=>ic ob r vs fun ds rd'=>k (cellsOf pr n w++ds) rd'
 | .ptr n::r,.one (.ptr key o)::vs,k=>match bv ob key with
  | some (.box cells _)=>if cells.length=n∧o=0 then oG (eP pr ob 3) cells fun d rd=>ic ob r vs fun ds rd'=>k (d++ds) (key::rd++rd') else pr.fail
  | _=>pr.fail
 | .ptr n::r,.one (.pa key i o c)::vs,k=>match bv ob key with
  | some (.arr rows size _ _)=>if size=n∧o=0 then pr.eqN c (pr.len rows) (pr.rowAt size rows i fun w=>ic ob r vs fun ds rd'=>k (cellsOf pr size w++ds) (key::rd')) else pr.fail
  | _=>pr.fail
 | _,_,_=>pr.fail
def L3.isD:L3 Δ N→Bool
 | .d _ | .b _ | .i _ _ | .nil | .dp _ _=>true
 | _=>false
def L3.isF:L3 Δ N→Bool
 | .fn _ caps=>caps.all L3.isD
 | x=>x.isD
def V3.isD:V3 Δ N→Bool
 | .one l=>l.isF
 | .agg ls=>ls.all L3.isD
 | .tup _=>false
structure Ms where
 args:List (V3 Unit Unit)
 obs:List (Nat×O3 Unit Unit Unit Unit)
 res:Option (Bool×Nat)
 ref:Option Nat
structure Cf3 where
 inl:Nat→Option Bd
 draw:Nat→Nat→Array Oper→List (Nat×Nat)
 lp:Nat→Nat→Nat→List (Sk×List Sk×List (Ex×Sk))
 jn:Nat→Nat→Nat→Option (List (Sk×List (Ex×Sk)))
 gj:Nat→Nat→Nat→Option (Nat×List (Sk×List (Ex×Sk)))
 ash:Nat→Option (List Sh)
 rsk:Nat→List RS
 iv:String→Nat
 ms:Nat→Option Ms
 sp:Nat→Option (Nat×Nat×Nat)
 cb:Nat→Nat→Bool
 fz:Nat→Nat→Nat→List (Option Nat×Nat)
def fn3:V3 Δ N→Option (Nat×List (L3 Δ N))
 | .one (.fn f caps)=>if f < 2000000 then some (f,caps) else none
 | _=>none
def yE (e:E) (p:RK×Nat):Y Δ N R M:=match p.1 with
 | .d=>.d (pr.ld e p.2)
 | .own _ _=>.r (pr.lr e p.2)
 | .om _=>.m (pr.lm e p.2)
def B4 (cfg:Cf3) (ob:dv Δ N R M) (dst:Option Nat) (f:Nat) (args:List (V3 Δ N)) (caps:List (L3 Δ N)) (k:K3 Δ N R M Ω):Ω:=match cfg.ash f with
 | none=>pr.fail
 | some sh=>ic pr ob sh (args++caps.map .one) fun ds rd=>pr.bnd (pr.call f ds) ((cfg.rsk f).map fun rs=>fun e =>
   let vs:=(c8 pr e (dt dst) rs 0 0).1
   let us:=(c8 pr e (dt dst) rs 0 0).2.1
   if gS (us.map (·.1))=true∧nB ob us=true then
    (if (args.all V3.isD&&caps.all L3.isD)=true then k (em vs) us (rd++us.map (·.1)) else pr.lits ((rs.flatMap (·.2)).zipIdx.map (yE pr e)) (k (em vs) us (rd++us.map (·.1))))
   else pr.fail)
def Ll:List (V3 Δ N)→Option (List Sh)
 | []=>some []
 | .one (.dp _ _)::_=>none
 | .one (.ptr _ _)::_=>none
 | .one (.pa _ _ _ _)::_=>none
 | .one _::r=>match Ll r with
  | some s=>some (.one::s)
  | none=>none
 | .agg xs::r=>match Ll r with
  | some s=>some (.agg xs.length::s)
  | none=>none
 | .tup _::_=>none
def Gn (cfg:Cf3) (P:Program) (ob:dv Δ N R M) (dst:Option Nat) (ρ:Operand→V3 Δ N) (op:Op) (k:K3 Δ N R M Ω):Ω:=match fZ op with
 | some (fo,args)=>match ρ fo with
  | .one (.fn f caps)=>if f < 2000000 then B4 pr cfg ob dst f (args.map ρ) caps k else B4 pr cfg ob dst (f - 2000000) (caps.map .one++args.map ρ) [] k
  | .one (.d x)=>match Ll (args.map ρ) with
   | some sh=>ic pr ob sh (args.map ρ) fun ds rd=>pr.bnd (pr.callD x sh ds) [fun e=>if (args.map ρ).all V3.isD=true then k (.one (.d (pr.ld e 0))) [] rd else pr.lits [.d (pr.ld e 0)] (k (.one (.d (pr.ld e 0))) [] rd)]
   | none=>pr.fail
  | _=>pr.fail
 | none=>match qt op with
  | some (recv,name)=>match ρ recv with
   | .one (.d x)=>pr.bnd (pr.callD x [.met name (cfg.iv name)] []) [fun e =>
    let vs:=(c8 pr e (dt dst) (List.replicate (cfg.iv name) (false,[.d])) 0 0).1
    let us:=(c8 pr e (dt dst) (List.replicate (cfg.iv name) (false,[.d])) 0 0).2.1
    if gS (us.map (·.1))=true∧nB ob us=true then k (em vs) us (us.map (·.1)) else pr.fail]
   | _=>pr.fail
  | none=>oM pr P ob dst ρ op k
mutual
def cZ (ρ:Nat→Nat):L3 Unit Unit→L3 Δ N→Option (List Δ)
 | .d _,x=>match eQ pr x with
  | some y=>some [y]
  | none=>none
 | .fn f cs,.fn f' cs'=>if f=f' then f5 ρ cs cs' else none
 | .mk c,.mk k=>if ρ c=k then some [] else none
 | .ptr c o,.ptr k o'=>if ρ c=k∧o=o' then some [] else none
 | .dp r o,.dp row o'=>if r.length=row.length∧o=o' then some row else none
 | _,_=>none
def f5 (ρ:Nat→Nat):List (L3 Unit Unit)→List (L3 Δ N)→Option (List Δ)
 | [],[]=>some []
 | s::ss,x::xs=>match cZ ρ s x,f5 ρ ss xs with
  | some a,some b=>some (a++b)
  | _,_=>none
 | _,_=>none
end
def jJ (ρ:Nat→Nat):V3 Unit Unit→V3 Δ N→Option (List Δ)
 | .one (.slk c none _ _),.one (.slk k none _ _)=>if ρ c=k then some [] else none
 | .one s,.one x=>cZ pr ρ s x
 | .agg ss,.agg xs=>f5 pr ρ ss xs
 | _,_=>none
def iF (ρ:Nat→Nat):List (V3 Unit Unit)→List (V3 Δ N)→Option (List Δ)
 | [],[]=>some []
 | s::ss,x::xs=>match jJ pr ρ s x,iF ρ ss xs with
  | some a,some b=>some (a++b)
  | _,_=>none
 | _,_=>none
def e6 (ρ:Nat→Nat) (ob:dv Δ N R M) (wn:Bool):List (Nat×O3 Unit Unit Unit Unit)→Option (List Δ)
 | []=>some []
 | (c,.box cells e)::r=>match bv ob (ρ c) with
  | some (.box cells' e')=>if e=e' then (match f5 pr ρ cells cells',e6 ρ ob wn r with
   | some a,some b=>some (a++b)
   | _,_=>none) else none
  | _=>none
 | (c,.mp g _ true)::r=>match bv ob (ρ c) with
  | some (.mp g' m true)=>if g=g' then (match e6 ρ ob wn r with
   | some b=>some (pr.mpD g m::b)
   | none=>none) else none
  | _=>none
 | (c,.arr _ size elem _)::r=>match bv ob (ρ c) with
  | some (.arr rows size' elem' own)=>if size=size'∧elem=elem'∧own=wn then (match e6 ρ ob wn r with
   | some b=>some (pr.slD size rows::b)
   | none=>none) else none
  | _=>none
 | _=>none
mutual
def gu (ρ:Nat→Nat):L3 Unit Unit→List Δ→Option (L3 Δ N×List Δ)
 | .d _,x::xs=>some (.d x,xs)
 | .fn f cs,xs=>match gh ρ cs xs with
  | some (ys,r)=>some (.fn f ys,r)
  | none=>none
 | .mk c,xs=>some (.mk (ρ c),xs)
 | .ptr c o,xs=>some (.ptr (ρ c) o,xs)
 | .dp r o,xs=>if (xs.take r.length).length=r.length then some (.dp (xs.take r.length) o,xs.drop r.length) else none
 | _,_=>none
def gh (ρ:Nat→Nat):List (L3 Unit Unit)→List Δ→Option (List (L3 Δ N)×List Δ)
 | [],xs=>some ([],xs)
 | s::ss,xs=>match gu ρ s xs with
  | some (y,r)=>match gh ρ ss r with
   | some (ys,r')=>some (y::ys,r')
   | none=>none
  | none=>none
end
def iI (ρ:Nat→Nat) (us:dv Δ N R M):V3 Unit Unit→List Δ→Option (V3 Δ N×List Δ)
 | .one (.slk c none _ _),xs=>match bv us (ρ c) with
  | some (.arr rows _ _ _)=>some (.one (.slk (ρ c) none (pr.len rows) (pr.len rows)),xs)
  | _=>none
 | .one s,xs=>match gu ρ s xs with
  | some (y,r)=>some (.one y,r)
  | none=>none
 | .agg ss,xs=>match gh ρ ss xs with
  | some (ys,r)=>some (.agg ys,r)
  | none=>none
 | _,_=>none
def iC (ρ:Nat→Nat) (us:dv Δ N R M):List (V3 Unit Unit)→List Δ→Option (List (V3 Δ N)×List Δ)
 | [],xs=>some ([],xs)
 | s::ss,xs=>match iI pr ρ us s xs with
  | some (y,r)=>match iC ρ us ss r with
   | some (ys,r')=>some (y::ys,r')
   | none=>none
  | none=>none
def jC (ρ:Nat→Nat) (wn:Bool):List (Nat×O3 Unit Unit Unit Unit)→List Δ→(dv Δ N R M→List Δ→Ω)→Ω
 | [],xs,k=>k [] xs
 | (c,.box cells e)::r,xs,k=>match gh ρ cells xs with
  | some (ys,xs')=>jC ρ wn r xs' fun us zs=>k ((ρ c,.box ys e)::us) zs
  | none=>pr.fail
 | (c,.mp g _ true)::r,x::xs,k=>pr.asM g x fun m=>jC ρ wn r xs fun us zs=>k ((ρ c,.mp g m true)::us) zs
 | (c,.arr _ size elem _)::r,x::xs,k=>pr.rowsD size x fun rows=>jC ρ wn r xs fun us zs=>k ((ρ c,.arr rows size elem wn)::us) zs
 | _,_,_=>pr.fail
def kK:List (V3 Unit Unit)→List (V3 Δ N)→List (Nat×N×N)
 | .one (.slk _ none _ _)::ss,.one (.slk k none n c)::xs=>(k,n,c)::kK ss xs
 | _::ss,_::xs=>kK ss xs
 | _,_=>[]
def Hf (ob:dv Δ N R M):List (Nat×N×N)→Ω→Ω
 | [],k=>k
 | (key,n,c)::r,k=>match bv ob key with
  | some (.arr rows _ _ _)=>pr.eqN n (pr.len rows) (pr.eqN c (pr.len rows) (Hf ob r k))
  | _=>pr.fail
mutual
def Ez:L3 Unit Unit→L3 Δ N→List (Nat×Nat)
 | .mk c,.mk k=>[(c,k)]
 | .ptr c _,.ptr k _=>[(c,k)]
 | .slk c _ _ _,.slk k _ _ _=>[(c,k)]
 | .fn _ cs,.fn _ cs'=>pz cs cs'
 | _,_=>[]
def pz:List (L3 Unit Unit)→List (L3 Δ N)→List (Nat×Nat)
 | s::ss,x::xs=>Ez s x++pz ss xs
 | _,_=>[]
end
def ll:List (V3 Unit Unit)→List (V3 Δ N)→List (Nat×Nat)
 | .one s::ss,.one x::xs=>Ez s x++ll ss xs
 | .agg s::ss,.agg x::xs=>pz s x++ll ss xs
 | _::ss,_::xs=>ll ss xs
 | _,_=>[]
def u7 (ob:dv Δ N R M) (al:List (Nat×Nat)):List (Nat×O3 Unit Unit Unit Unit)→List (Nat×Nat)
 | []=>[]
 | (c,.box cells _)::r=>(match al.find? (fun p=>p.1==c) with
  | some (_,k)=>match bv ob k with
   | some (.box cells' _)=>pz cells cells'
   | _=>[]
  | none=>[])++u7 ob al r
 | _::r=>u7 ob al r
def tC (al:List (Nat×Nat)) (c:Nat):Nat:=match al.find? (fun p=>p.1==c) with
 | some (_,k)=>k
 | none=>c
mutual
def MX:L3 Unit Unit→Nat
 | .d _=>1
 | .fn _ cs=>wN cs
 | .dp r _=>r.length
 | _=>0
def wN:List (L3 Unit Unit)→Nat
 | []=>0
 | x::xs=>MX x+wN xs
end
def ow:List (Nat×O3 Unit Unit Unit Unit)→Nat
 | []=>0
 | (_,.box cells _)::r=>wN cells+ow r
 | (_,_)::r=>1+ow r
def Ci (ms:Ms):Bool :=
 let C:=ms.obs.map (·.1)
 gS C&&(V3.keysF ms.args).all C.contains&&(ms.obs.all fun p=>p.2.keysOf.all C.contains)&&(match ms.ref with | none=>true | some c=>C.contains c)
def yl:Option (Bool×Nat)→Nat
 | none=>0
 | some (_,n)=>n
def jY (e:Nat→Δ):Option (Bool×Nat)→V3 Δ N
 | none=>.tup []
 | some (false,_)=>.one (.d (e 0))
 | some (true,n)=>.agg ((List.range n).map fun i=>.d (e i))
def tM:List (V3 Unit Unit)→List (V3 Δ N)→List (V3 Δ N)
 | .one (.d _)::ss,.one (.fn f cs)::xs=>(match oI pr cs with
  | some ds=>.one (.d (pr.fnD f ds))
  | none=>.one (.fn f cs))::tM ss xs
 | _::ss,x::xs=>x::tM ss xs
 | _,xs=>xs
def uj (cfg:Cf3) (f:Nat) (args:List (V3 Δ N)) (ob:dv Δ N R M) (kk:V3 Δ N→dv Δ N R M→List Nat→Ω):Ω:=match cfg.ms f with
 | none=>pr.fail
 | some ms =>
  let args0:=args
  let args:=tM pr ms.args args
  let al:=ll ms.args args
  let al:=al++u7 ob al ms.obs
  if (Ci ms&&gS ((ms.obs.map (·.1)).map (tC al)))=true then
   match iF pr (tC al) ms.args args,e6 pr (tC al) ob true ms.obs with
   | some xs,some ys=>Hf pr ob (kK ms.args args) (pr.bnd (pr.call (f+1000000) (ys++xs)) [fun e=>jC pr (tC al) ms.res.isNone ms.obs ((List.range (ow ms.obs)).map fun i=>pr.ld e (yl ms.res+i)) fun us _=>match ms.ref with
     | none=>kk (jY (pr.ld e) ms.res) us (al.map (·.2)++ms.obs.map fun p=>tC al p.1)
     | some c=>match bv us (tC al c) with
      | some (.arr rows _ _ _)=>kk (.one (.slk (tC al c) none (pr.len rows) (pr.len rows))) us (al.map (·.2)++ms.obs.map fun p=>tC al p.1)
      | _=>pr.fail])
   | _,_=>pr.miss 8 f 0 0 [] .normal ⟨args0.zipIdx.map fun p=>(p.2,p.1),ob,[],none⟩ []
  else pr.miss 8 f 0 0 [] .normal ⟨args0.zipIdx.map fun p=>(p.2,p.1),ob,[],none⟩ []
def F2 (cfg:Cf3) (f:Nat) (args:List (V3 Δ N)) (ob:dv Δ N R M) (kk:V3 Δ N→dv Δ N R M→Ω):Ω:=uj pr cfg f args ob fun v us _=>kk v (cR us ob)
def Dx:Option (Bool×Nat)→V3 Δ N→Option (List (L3 Δ N))
 | none,.tup []=>some []
 | some (false,1),.one x=>some [x]
 | some (true,n),.agg xs=>if xs.length=n then some xs else none
 | _,_=>none
def F1 (ms:Ms) (v:V3 Δ N) (ob:dv Δ N R M) (k:List (L3 Δ N)→Ω):Ω:=match ms.ref with
 | none=>match Dx ms.res v with
  | none=>pr.fail
  | some cs=>k cs
 | some c=>match v with
  | .one (.slk key none n m)=>if key=c∧ms.res=none∧(ms.obs.map (·.1)).contains c=true then (match bv ob c with
   | some (.arr rows _ _ _)=>pr.eqN n (pr.len rows) (pr.eqN m (pr.len rows) (k []))
   | _=>pr.fail) else pr.fail
  | _=>pr.fail
def MO (ms:Ms) (ob:dv Δ N R M) (cs:List (L3 Δ N)):Ω:=oU pr ob cs fun ds us _=>match e6 pr id (cR us ob) ms.res.isNone ms.obs with
  | some ys=>pr.out 0 ((ds++ys).map .d)
  | none=>pr.fail
def H1 (ms:Ms) (v:V3 Δ N) (ob:dv Δ N R M):Ω:=F1 pr ms v ob (MO pr ms ob)
def oe (ob:dv Δ N R M):Nat→Nat→Nat
 | 0,k=>k
 | n+1,k=>if ob.all fun p=>p.1 != k&&(Nat.blt p.1 (1000*(k+1))||Nat.ble (1000*(k+2)) p.1) then k else oe ob n (k+1000000000)
def zf (cfg:Cf3) (f:Nat) (args:List (V3 Δ N)) (b:Nat) (ob:dv Δ N R M) (kk:V3 Δ N→dv Δ N R M→Ω):Ω:=match cfg.sp f with
 | none=>pr.fail
 | some (size,elem,bs)=>match args with
  | [s,.one i,.one (.slk key2 none n2 c2)]=>match eQ pr i,bv ob key2 with
   | some y,some (.arr rows2 size2 _ true)=>if size2=size then pr.eqN c2 (pr.len rows2) (pr.isNil (pr.seg rows2 none n2) pr.fail (
     let nilc:=pr.fits bs (pr.len (pr.seg rows2 none n2)) (pr.ins y (pr.rows []) (pr.seg rows2 none n2) fun r =>
      fb pr ob (some (oe ob 8 b)) (.arr r size elem true) (fun key=>.one (.slk key none (pr.len (pr.seg rows2 none n2)) (pr.len (pr.seg rows2 none n2)))) fun v us _=>kk v (cR us ob))
     match s with
     | .one .nil=>nilc
     | .one (.d x)=>pr.nilD x nilc
     | .one (.slk key none n c)=>if key=key2 then pr.fail else match bv ob key with
      | some (.arr rows size' elem' true)=>if size'=size∧elem'=elem then pr.eqN c (pr.len rows) (pr.eqN n (pr.len rows) (pr.fits bs (pr.addN n (pr.len (pr.seg rows2 none n2))) (pr.ins y rows (pr.seg rows2 none n2) fun r =>
        kk (.one (.slk key none (pr.addN n (pr.len (pr.seg rows2 none n2))) (pr.addN n (pr.len (pr.seg rows2 none n2))))) (cR [(key,.arr r size elem true)] ob)))) else pr.fail
      | _=>pr.fail
     | _=>pr.fail)) else pr.fail
   | _,_=>pr.fail
  | _=>pr.fail
abbrev Hd3 (Δ N R M Ω:Type):=List (V3 Δ N)→dv Δ N R M→(Option Ex→dv Δ N R M→Ω)→Ω
abbrev Kh (Δ N R M Ω:Type):=Nat→List (V3 Δ N)→Nat→dv Δ N R M→(V3 Δ N→dv Δ N R M→Ω)→Ω
def kd3 (ob:dv Δ N R M) (b:Nat) (dst:Option Nat):Option Nat:=match dst with
 | some d=>some (oe ob 8 (b*1000+d))
 | none=>none
def gd (dst:Option Nat) (v:V3 Δ N) (ob:dv Δ N R M) (st:S3 Δ N R M):S3 Δ N R M:=⟨match dst with | some d=>(d,v)::st.env | none=>st.env,ob,lD st.ys dst,st.pend⟩
def jL:List (V3 Δ N)→Nat→List (Nat×V3 Δ N)
 | [],_=>[]
 | x::xs,i=>(i,x)::jL xs (i+1)
inductive Kind3 (Δ N:Type) where
 | copy (d:Nat)
 | yld (args:List Operand)
 | inl (f:Nat) (args:List (V3 Δ N))
 | op
def gB (cfg:Cf3) (ys:List Nat) (ρ:Operand→V3 Δ N) (o:Oper):Kind3 Δ N:=match o.op with
 | .move x=>match yOf ys x,o.dst with
  | true,some d=>.copy d
  | _,_=>.op
 | .assign x=>match yOf ys x,o.dst with
  | true,some d=>.copy d
  | _,_=>.op
 | op=>match fZ op with
  | none=>.op
  | some (fo,args)=>if yOf ys fo=true then .yld args else match fn3 (ρ fo) with
   | some (f,caps)=>match cfg.inl f with
    | some _=>.inl f (args.map ρ++caps.map .one)
    | none=>match (match ((args.map ρ).all V3.isD&&caps.all L3.isD) with | true=>none | false=>cfg.ms f) with
     | some _=>.inl f (args.map ρ++caps.map .one)
     | none=>match cfg.sp f with
      | some _=>.inl f (args.map ρ++caps.map .one)
      | none=>.op
   | none=>.op
def MA (cfg:Cf3) (f:Nat) (ob:dv Δ N R M) (b:Nat) (dst:Option Nat):Option Nat:=match dst with
 | some d=>match cfg.cb f d with
  | true=>none
  | false=>kd3 ob b (some d)
 | none=>none
def yk (cfg:Cf3) (P:Program) (fr:Fr) (hd:Option (Hd3 Δ N R M Ω)) (rn:Kh Δ N R M Ω) (o:Oper) (st:S3 Δ N R M) (k:S3 Δ N R M→Ω):Ω :=
 if i8 fr.nt o.dst=true then
  match gB cfg st.ys (wD pr st.env) o with
  | .copy d=>k ⟨(d,.one .undef)::st.env,st.ob,d::st.ys,st.pend⟩
  | .yld args=>match hd,st.pend with
   | some h,none=>h (args.map (wD pr st.env)) st.ob fun p ob=>k { gd o.dst (.one (.b p.isNone)) ob st with pend:=p }
   | _,_=>pr.fail
  | .inl f args=>rn f args (fr.b*1000+o.dst.getD 998+1) st.ob fun v ob=>k (gd o.dst v ob st)
  | .op=>Gn pr cfg P st.ob (MA cfg fr.f st.ob fr.b o.dst) (wD pr st.env) o.op fun v us _=>k (gd o.dst v (cR us st.ob) st)
 else pr.fail
def oT (v:V3 Δ N):Option (Option Bool)×Option Δ:=match v with
 | .one (.b b)=>(some (some b),none)
 | .one (.d x)=>(none,some x)
 | .tup []=>(some none,none)
 | _=>(none,none)
def rQ (kind f b p:Nat) (pk:List Nat) (js:List (Ex×Sk)) (e:Ex) (st:S3 Δ N R M):Ω:=match sO pr pk e st js 0 with
 | some (j,ys)=>pr.out j ys
 | none=>pr.miss kind f b p pk e st []
def ctx {α:Type} (pk:List Nat) (st:S3 Δ N R M):List (Sk×α)→Nat→Option (Nat×α)
 | [],_=>none
 | (sk,x)::r,j=>match ud pr pk sk st with
  | some _=>some (j,x)
  | none=>ctx pk st r (j+1)
def LY (pk:List Nat) (sk:Sk):Bool:=pk.all (sk.ob.map (·.1)).contains
def lR (pk:List Nat) (js:List (Ex×Sk)) (k:Ex→S3 Δ N R M→Ω):List (E→Ω):=js.map fun x=>match LY pk x.2 with
 | true=>fun e=>k x.1 (ej pr e x.2)
 | false=>fun _=>pr.fail
def A2 (cfg:Cf3) (P:Program) (fr:Fr) (hd:Option (Hd3 Δ N R M Ω)) (rn:Kh Δ N R M Ω) (ops:Array Oper) (o:Oper) (st:S3 Δ N R M) (k:S3 Δ N R M→Ω):Ω :=
 match o.guard with
  | none=>yk pr cfg P fr hd rn o st k
  | some (j,want)=>match fK ops j with
   | none=>pr.fail
   | some gt =>
    let skip:=fun (st:S3 Δ N R M)=>if i8 fr.nt o.dst=true then k (gd o.dst (.tup []) st.ob st) else pr.fail
    let st1:=fun (b:Bool)=>({ st with env:=(gt,.one (.b b))::st.env }:S3 Δ N R M)
    match oT (dk st.env gt),want with
    | (some none,_),_=>skip st
    | (some (some true),_),true=>yk pr cfg P fr hd rn o st k
    | (some (some false),_),false=>yk pr cfg P fr hd rn o st k
    | (some (some _),_),_=>skip st
    | (none,some x),true=>pr.cond x (yk pr cfg P fr hd rn o (st1 true) k) (skip (st1 false))
    | (none,some x),false=>pr.cond x (skip (st1 true)) (yk pr cfg P fr hd rn o (st1 false) k)
    | (none,none),_=>pr.fail
def H8 (ops:Array Oper) (env:List (Nat×V3 Δ N)) (o:Oper):Bool:=match o.guard with
 | none=>false
 | some (j,_)=>match fK ops j with
  | none=>false
  | some gt=>match dk env gt with
   | .one (.d _)=>true
   | _=>false
def tO (cfg:Cf3) (P:Program) (fr:Fr) (hd:Option (Hd3 Δ N R M Ω)) (rn:Kh Δ N R M Ω) (ops:Array Oper) (id:Nat):Nat→Nat→List Oper→S3 Δ N R M→(S3 Δ N R M→Ω)→Ω
 | _,_,[],st,k=>k st
 | 0,_,_::_,_,_=>pr.fail
 | n+1,i,o::rest,st,k=>match (match H8 ops st.env o with | true=>cfg.gj fr.f fr.b (id*1000+i) | false=>none) with
  | none=>A2 pr cfg P fr hd rn ops o st fun st'=>tO cfg P fr hd rn ops id n (i+1) rest st' k
  | some (len,cs)=>match ctx pr fr.pr st cs 0 with
   | none=>pr.miss 6 fr.f fr.b (id*1000+i) fr.pr .normal st []
   | some (c,js)=>pr.bnd (A2 pr cfg P fr hd rn ops o st fun st'=>tO cfg P fr hd rn ops id n (i+1) (rest.take len) st' (rQ pr (4+10*c) fr.f fr.b (id*1000+i) fr.pr js .normal))
    (lR pr fr.pr js fun _ st'=>tO cfg P fr hd rn ops id n (i+1+len) (rest.drop len) st' k)
abbrev N9:=List (List Nat×List Nat)
def oX (pairs:List (Nat×Nat)) (i:Nat) (log:N9) (rd wr:List Nat):Bool :=
 pairs.all fun p=>if p.2=i then (match log[p.1]? with
  | some (rj,wj)=>(wj.all fun x=>!(rd.contains x)&&!(wr.contains x))&&(rj.all fun x=>!(wr.contains x))
  | none=>false) else true
def qq (cfg:Cf3) (f:Nat) (o:Oper):Option Nat:=match o.dst with
 | some d=>match cfg.cb f d with
  | true=>none
  | false=>some d
 | none=>none
def yy (cfg:Cf3) (ρ:Operand→V3 Δ N) (o:Oper):Option (Nat×List (V3 Δ N)):=match gB cfg [] ρ o with
 | .inl f args=>match cfg.inl f,cfg.ms f with
  | none,some _=>some (f,args)
  | _,_=>none
 | _=>none
def K1:O3 Δ N R M→Bool
 | .box ..=>true
 | .arr _ _ _ own=>own
 | .mp _ _ own=>own
def Ev (cfg:Cf3) (fr:Fr) (rn:Kh Δ N R M Ω) (q:Nat) (o:Oper) (f:Nat) (args:List (V3 Δ N)) (ob:dv Δ N R M) (k:V3 Δ N→dv Δ N R M→List Nat→Ω):Ω:=match ub [] args ob with
 | none=>pr.fail
 | some kept =>
  let ks:=kept.map (·.1)
  if (gS ks&&(kept.all fun p=>K1 p.2&&p.2.keysOf.all ks.contains)&&args.all fun v=>v.keysOf.all ks.contains)=true then
   match cfg.gj fr.f fr.b q with
   | none=>pr.fail
   | some (_,cs)=>match ctx pr ks ⟨[],kept,[],none⟩ cs 0 with
    | none=>pr.miss 6 fr.f fr.b q ks .normal ⟨[],kept,[],none⟩ []
    | some (c,js)=>pr.bnd (rn f args (fr.b*1000+o.dst.getD 998+1) kept fun v ob'=>rQ pr (4+10*c) fr.f fr.b q ks js .normal ⟨[(0,v)],ob',[],none⟩)
     (lR pr ks js fun _ st' =>
      let us:=st'.ob.map (·.1)
      if (gS us&&((us.filter fun q=>!ks.contains q).all fun q=>(bv ob q).isNone)&&ks.all us.contains&&(st'.ob.all fun p=>p.2.keysOf.all us.contains)&&(dk st'.env 0).keysOf.all us.contains)=true then k (dk st'.env 0) st'.ob (ks++us.filter fun q=>!ks.contains q) else pr.fail)
  else pr.fail
def u4 (cfg:Cf3) (ρ:Operand→V3 Δ N) (o:Oper):Option (Nat×List (V3 Δ N)):=match gB cfg [] ρ o with
 | .inl f args=>match cfg.inl f with
  | some _=>some (f,args)
  | none=>none
 | _=>none
def MI (cfg:Cf3) (P:Program) (fr:Fr) (rn:Kh Δ N R M Ω) (q:Nat) (o:Oper) (st:S3 Δ N R M) (k:V3 Δ N→dv Δ N R M→List Nat→Ω):Ω:=match yy cfg (wD pr st.env) o with
 | some p=>uj pr cfg p.1 p.2 st.ob k
 | none=>match u4 cfg (wD pr st.env) o with
  | some p=>Ev pr cfg fr rn q o p.1 p.2 st.ob k
  | none=>Gn pr cfg P st.ob (qq cfg fr.f o) (wD pr st.env) o.op k
def Fw (cfg:Cf3) (P:Program) (fr:Fr) (rn:Kh Δ N R M Ω) (id:Nat) (ops:Array Oper) (pairs:List (Nat×Nat)):List Oper→Nat→N9→S3 Δ N R M→(S3 Δ N R M→Ω)→Ω
 | [],_,_,st,k=>k st
 | o::rest,i,log,st,k =>
  let next:=fun (st:S3 Δ N R M) (v:V3 Δ N) (us:dv Δ N R M) (rd:List Nat) =>
   if (i8 fr.nt o.dst&&oX pairs i log rd (us.map (·.1)))=true then Fw cfg P fr rn id ops pairs rest (i+1) (log++[(rd,us.map (·.1))]) (gd o.dst v (cR us st.ob) st) k else pr.fail
  let go:=fun (st:S3 Δ N R M)=>MI pr cfg P fr rn (id*1000+i) o st (next st)
  let skip:=fun (st:S3 Δ N R M)=>Fw cfg P fr rn id ops pairs rest (i+1) (log++[([],[])]) (gd o.dst (.tup []) st.ob st) k
  match o.guard with
  | none=>go st
  | some (j,want)=>match fK ops j with
   | none=>pr.fail
   | some gt =>
    let st1:=fun (b:Bool)=>({ st with env:=(gt,.one (.b b))::st.env }:S3 Δ N R M)
    match oT (dk st.env gt),want with
    | (some none,_),_=>skip st
    | (some (some true),_),true=>go st
    | (some (some false),_),false=>go st
    | (some (some _),_),_=>skip st
    | (none,some x),true=>pr.cond x (go (st1 true)) (skip (st1 false))
    | (none,some x),false=>pr.cond x (skip (st1 true)) (go (st1 false))
    | (none,none),_=>pr.fail
abbrev Ev3 (Δ N R M Ω:Type):=Fr→Option (Hd3 Δ N R M Ω)→Nat→Nat→Code→S3 Δ N R M→(Ex→S3 Δ N R M→Ω)→Ω
def dH (ob:dv Δ N R M):List Nat:=fX (ob.map (·.1)) []
def iy (P:Program) (bd:Bd) (ob:dv Δ N R M) (kk:V3 Δ N→dv Δ N R M→Ω) (st':S3 Δ N R M):Ω :=
 oK pr P st'.ob st'.env bd.res fun vs=>match ub (dH ob) vs st'.ob with
  | some ob'=>kk (em vs) ob'
  | none=>pr.fail
def yK:V3 Δ N→Bool
 | .one (.slk ..)=>true
 | _=>false
def ML (ms:Ms) (args:List (V3 Δ N)):Bool:=if ms.args.isEmpty then args.any yK else (ms.args.map yK==args.map yK)
def MY (cfg:Cf3) (f:Nat) (args:List (V3 Δ N)):Bool:=match cfg.ms f with
 | some ms=>ML ms args
 | none=>false
def A4 (cfg:Cf3) (P:Program) (ex:Ev3 Δ N R M Ω):Kh Δ N R M Ω:=fun f args b ob kk=>if MY cfg f args=true then F2 pr cfg f args ob kk else match cfg.inl f with
 | none=>match cfg.ms f with
  | some _=>F2 pr cfg f args ob kk
  | none=>zf pr cfg f args b ob kk
 | some bd=>if args.length≤bd.nt then ex ⟨f,b,bd.nt,true,dH ob,false⟩ none 0 1 bd.code ⟨jL args 0,ob,[],none⟩ (fun e st=>match e with
   | .exit _=>pr.fail
   | .normal=>iy pr P bd ob kk st
   | .ret=>iy pr P bd ob kk st) else pr.fail
def bdy3 (ob:dv Δ N R M) (kk:Option Ex→dv Δ N R M→Ω) (e2:Ex) (st2:S3 Δ N R M):Ω:=match ub (dH ob) [] st2.ob with
 | some ob'=>kk (match e2 with | .normal=>none | .exit i=>some (.exit i) | .ret=>some .ret) ob'
 | none=>pr.fail
def JW (ex:Ev3 Δ N R M Ω) (fr:Fr) (cur p:Nat) (ps:Array Tmp) (assign body:Code) (env:List (Nat×V3 Δ N)):Hd3 Δ N R M Ω:=fun vals ob kk=>if vals.length=ps.size then
  ex ⟨fr.f,fr.b,fr.nt,false,dH ob,false⟩ none cur (2*p) assign ⟨((ps.toList.zip vals).reverse++env),ob,[],none⟩ (fun e st1=>match e with
   | .normal=>ex ⟨fr.f,fr.b,fr.nt,false,dH st1.ob,false⟩ none cur (2*p+1) body st1 (bdy3 pr ob kk)
   | .exit _=>pr.fail
   | .ret=>pr.fail)
 else pr.fail
def tY (st:S3 Δ N R M) (k:Ex→S3 Δ N R M→Ω) (st':S3 Δ N R M):Ω:=match ub (dH st.ob) [] st'.ob with
 | some ob'=>k (match st'.pend with | none=>.normal | some e=>e) ⟨st.env,ob',[],st.pend⟩
 | none=>pr.fail
def H6 (id:Nat):Ex→Ex
 | .exit i=>if i=id then .normal else .exit i
 | .normal=>.normal
 | .ret=>.ret
def jK:List (Option Nat×Nat)→S3 Δ N R M→(S3 Δ N R M→Ω)→Ω
 | [],st,kk=>kk st
 | (none,t)::r,st,kk=>match dk st.env t with
  | .one (.slk key off n c)=>wp pr st.ob (.slk key off n c) fun d us _=>jK r { st with env:=(t,.one (.d d))::st.env,ob:=cR us st.ob } kk
  | .one .nil=>jK r { st with env:=(t,.one (.d (pr.lit (.slice none 0 0))))::st.env } kk
  | _=>jK r st kk
 | (some b,i)::r,st,kk=>match bv st.ob b with
  | some (.box cells e)=>match cells[i]? with
   | some (.slk key off n c)=>wp pr st.ob (.slk key off n c) fun d us _=>jK r { st with ob:=(b,.box (cells.set i (.d d)) e)::cR us st.ob } kk
   | some .nil=>jK r { st with ob:=(b,.box (cells.set i (.d (pr.lit (.slice none 0 0)))) e)::st.ob } kk
   | some (.mk key)=>wp pr st.ob (.mk key) fun d us _=>jK r { st with ob:=(b,.box (cells.set i (.d d)) e)::cR us st.ob } kk
   | _=>jK r st kk
  | _=>jK r st kk
def MK (l:List (Option Nat×Nat)) (k:Ex→S3 Δ N R M→Ω) (e:Ex) (st:S3 Δ N R M):Ω:=match e with
 | .normal=>jK pr l st (k .normal)
 | .exit i=>k (.exit i) st
 | .ret=>k .ret st
def ce (cfg:Cf3) (P:Program):Nat→Ev3 Δ N R M Ω
 | 0,_,_,_,_,_,_,_=>pr.fail
 | n+1,fr,hd,cur,p,c,st,k=>match c with
  | .skip=>k .normal st
  | .label _=>k .normal st
  | .ret=>k .ret st
  | .exit id=>k (.exit id) st
  | .region id ops draw=>match draw with
   | false=>tO pr cfg P fr hd (A4 pr cfg P (ce cfg P n)) ops id ops.size 0 ops.toList st (k .normal)
   | true=>match st.ys with
    | []=>Fw pr cfg P fr (A4 pr cfg P (ce cfg P n)) id ops (cfg.draw fr.f id ops) ops.toList 0 [] st (k .normal)
    | _=>pr.fail
  | .seq a b =>
   let kk:=fun (e:Ex) (st':S3 Δ N R M)=>match e with
    | .normal=>ce cfg P n fr hd cur (2*p+1) b st' k
    | .exit i=>k (.exit i) st'
    | .ret=>k .ret st'
   match cfg.jn fr.f fr.b p with
    | none=>ce cfg P n fr hd cur (2*p) a st (MK pr (cfg.fz fr.f fr.b p) kk)
    | some cs=>match ctx pr fr.pr st cs 0 with
     | none=>pr.miss 5 fr.f fr.b p fr.pr .normal st []
     | some (c,js)=>pr.bnd (ce cfg P n fr hd cur (2*p) a st (MK pr (cfg.fz fr.f fr.b p) (rQ pr (10*c) fr.f fr.b p fr.pr js))) (lR pr fr.pr js kk)
  | .cond c a b=>match c with
   | .tmp t=>match dk st.env t with
    | .one (.b true)=>ce cfg P n fr hd cur (2*p) a st k
    | .one (.b false)=>ce cfg P n fr hd cur (2*p+1) b st k
    | .one (.d x)=>pr.cond x (ce cfg P n fr hd cur (2*p) a { st with env:=(t,.one (.b true))::st.env } k) (ce cfg P n fr hd cur (2*p+1) b { st with env:=(t,.one (.b false))::st.env } k)
    | _=>pr.fail
   | .const (.bool true)=>ce cfg P n fr hd cur (2*p) a st k
   | .const (.bool false)=>ce cfg P n fr hd cur (2*p+1) b st k
   | _=>pr.fail
  | .block id c=>match c with
   | .loop body=>match ctx pr fr.pr st (cfg.lp fr.f fr.b id) 0 with
    | none=>pr.miss 7 fr.f fr.b id fr.pr .normal st []
    | some (c,sks,outs)=>match mg pr fr.pr st sks 0 with
     | none=>pr.miss (1+10*c) fr.f fr.b id fr.pr .normal st []
     | some (i0,ys0)=>pr.bnd (pr.loop (sks.map fun sk=>fun J e=>if LY fr.pr sk=false then pr.fail else ce cfg P n fr hd id (2*p) body (ej pr e sk) fun e' st'=>match e' with
       | .normal=>(match mg pr fr.pr st' sks 0 with
        | some (j,ys)=>J j ys
        | none=>pr.miss (1+10*c) fr.f fr.b id fr.pr .normal st' [])
       | .exit i=>rQ pr (2+10*c) fr.f fr.b id fr.pr outs (H6 id (.exit i)) st'
       | .ret=>rQ pr (2+10*c) fr.f fr.b id fr.pr outs .ret st') i0 ys0) (lR pr fr.pr outs k)
   | c=>ce cfg P n fr hd id (2*p) c st fun e st'=>match e with
    | .normal=>k .normal st'
    | .ret=>k .ret st'
    | .exit i=>if i=id then k .normal st' else k (.exit i) st'
  | .rangeFunc g ps assign body=>if fr.rng=true then
    match st.ys with
    | []=>match fn3 (wD pr st.env g) with
     | none=>pr.fail
     | some (f,caps)=>match cfg.inl f with
      | none=>pr.fail
      | some bd=>if caps.length+1≤bd.nt∧bd.res=[]∧ps.toList.all (fun p=>decide (p < fr.nt))=true then
        ce cfg P n ⟨f,(fr.b+1)*1000,bd.nt,false,dH st.ob,false⟩ (some (JW pr (ce cfg P n) fr cur p ps assign body st.env)) 0 1 bd.code ⟨jL (.one .undef::caps.map .one) 0,st.ob,[0],none⟩ (fun e st'=>match e with
         | .exit _=>pr.fail
         | .normal=>tY pr st k st'
         | .ret=>tY pr st k st')
       else pr.fail
    | _=>pr.fail
   else pr.fail
  | _=>pr.fail
def fin3 (cfg:Cf3) (P:Program) (f:Nat) (res:List ResultVar) (e:Ex) (st:S3 Δ N R M):Ω :=
 let go:=oK pr P st.ob st.env res fun vs=>match pS st.ob vs (cfg.rsk f) 0 with
  | none=>pr.miss 3 f 0 0 [] e st (vs.map (K8 st.ob))
  | some (j,rs)=>match Hm rs with
   | true=>vG pr st.ob vs fun ys=>pr.out j ys
   | false=>ir pr st.ob rs vs fun ys ks=>if gS ks=true then pr.out j ys else pr.fail
 match e with
 | .exit _=>pr.fail
 | .normal=>go
 | .ret=>go
end
end
section
abbrev Rr:=List (List D)
abbrev Mr:=List Value×List (List D)
abbrev Yr:=Y D Nat Rr Mr
abbrev aq:=Option (Nat×List Yr)
abbrev iD:=L3 D Nat
abbrev cw:=V3 D Nat
abbrev Ki:=O3 D Nat Rr Mr
abbrev iM:=S3 D Nat Rr Mr
abbrev Ur:=dv D Nat Rr Mr
def ax (bs:List ((Nat→List Yr→aq)→List Yr→aq)):Nat→Nat→List Yr→aq
 | 0,_,_=>none
 | m+1,j,ys=>match bs[j]? with
  | some b=>b (ax bs m) ys
  | none=>none
def wR (op:BinOp) (bl:Bool):D→D→Option D
 | .lit (.int k a),.lit (.int k' b)=>(Fc op k a k' b).map .lit
 | .lit (.bool a),.lit (.bool b)=>if bl=true then (match op with
   | .eql=>some (.lit (.bool (a==b)))
   | .neq=>some (.lit (.bool (a != b)))
   | _=>none) else none
 | .lit (.string a),.lit (.string b)=>(N4 op a b).map .lit
 | _,_=>none
def unD (op:UnOp):D→Option D
 | .lit (.bool b)=>match op with | .not=>some (.lit (.bool !b)) | _=>none
 | .lit (.int k n)=>match op with | .neg=>some (.lit (.int k (k.wrap (0 - n)))) | _=>none
 | _=>none
def mmD (mx:Bool):D→D→Option D
 | .lit (.int k a),.lit (.int k' b)=>if k=k' then some (.lit (.int k (if mx then max a b else min a b))) else none
 | _,_=>none
def intD:D→Option Int
 | .lit (.int _ n)=>some n
 | _=>none
def gq:Option D→Option (Option Int)
 | none=>some none
 | some x=>(intD x).map some
def Ax:D→Option Nat
 | .sl _ rows=>some rows.length
 | .lit (.slice none 0 0)=>some 0
 | _=>none
def jj (es:Nat):D→Option Rr
 | .lit (.slice none 0 0)=>some []
 | .sl size rows=>if size=es then some rows else none
 | _=>none
def EV (es:Nat) (l h:Option Int):D→Option D
 | .sl size rows=>if size=es then (if 0≤l.getD 0∧l.getD 0≤h.getD rows.length∧h.getD rows.length≤rows.length then some (.sl size ((rows.drop (l.getD 0).toNat).take (h.getD rows.length - l.getD 0).toNat)) else none) else none
 | .lit (.slice none 0 0)=>if l.getD 0=0∧h.getD 0=0 then some (.lit (.slice none 0 0)) else none
 | _=>none
def rU:D→Option Value
 | .lit v=>some v
 | _=>none
def zp (agg:Bool):D→Option Mr
 | .mp agg' keys vals=>if agg=agg' then some (keys,vals) else none
 | .lit (.map none)=>some ([],[])
 | _=>none
def jI (kd:Nat) (zs:List Value) (m:Mr) (key:D):Option (List D×D):=match rU key with
 | some v=>if j0 kd v=true then (match dY kd v m.1 0 with
  | some (some j)=>match m.2[j]? with
   | some r=>if r.length=zs.length then some (r,.lit (.bool true)) else none
   | none=>none
  | some none=>some (zs.map .lit,.lit (.bool false))
  | none=>none) else none
 | none=>none
def rO (kd:Nat) (m:Mr) (key:D) (ds:List D):Option Mr:=match rU key with
 | some v=>if j0 kd v=true then (match dY kd v m.1 0 with
  | some (some j)=>some (m.1,m.2.set j ds)
  | some none=>some (m.1++[v],m.2++[ds])
  | none=>none) else none
 | none=>none
def tN {α:Type} (o:Option α) (k:α→aq):aq:=match o with
 | some a=>k a
 | none=>none
def oF:Yr→Bool
 | .d x=>x.isLit
 | .r rows=>rows.all fun r=>r.all D.isLit
 | .m m=>m.2.all fun r=>r.all D.isLit
 | .n _=>true
def Dp (ks:List aq) (j:Nat):aq:=match ks[j]? with
 | some k=>k
 | none=>none
def af (Fn:Nat→List D→aq) (FnD:D→List Sh→List D→aq) (m:Nat):Pr D Nat Rr (List D) Mr (List Yr) aq where
 fail:=none
 out j ys:=some (j,ys)
 bnd o ks:=match o with
  | some (j,ys)=>(match ks[j]? with | some k=>k ys | none=>none)
  | none=>none
 loop bs j ys:=ax bs m j ys
 call:=Fn
 callD:=FnD
 miss _ _ _ _ _ _ _ _:=none
 cond x a b:=match x with | .lit (.bool true)=>a | .lit (.bool false)=>b | _=>none
 ld e j:=match e[j]? with | some (.d x)=>x | _=>default
 ln e j:=match e[j]? with | some (.n x)=>x | _=>0
 lr e j:=match e[j]? with | some (.r x)=>x | _=>[]
 lm e j:=match e[j]? with | some (.m x)=>x | _=>([],[])
 lit v:=.lit v
 natD n:=.lit (.int .i64 n)
 natN n:=n
 addN a b:=a+b
 slD s r:=.sl s r
 dpD r o:=.dp r o
 fnD f l:=.fn f l
 mpD g m:=.mp g m.1 m.2
 ifD t g l:=.ifc t g l
 len r:=r.length
 rows l:=l
 repl n z:=List.replicate n z
 app a b:=a++b
 seg r o n:=(r.drop (o.getD 0)).take n
 setR r i l:=r.set i l
 emp:=([],[])
 cell w j:=w.getD j default
 eqN a b k:=if a=b then k else none
 leN a b k:=if a≤b then k else none
 ptrW n x k:=match x with | .dp row 0=>if row.length=n then k row else none | _=>none
 isPtr x k:=match x with | .dp _ _=>k | _=>none
 nilD x k:=match x with | .lit (.slice none 0 0)=>k | _=>none
 rowAt s r i k:=match r[i]? with
  | some w=>if w.length=s then k w else none
  | none=>none
 bin op b x y k:=tN (wR op b x y) k
 un op x k:=tN (unD op x) k
 eqs ks ng x y k:=match cr ks (x.map .d) (y.map .d) with
  | some b=>k (.lit (.bool (if ng then !b else b)))
  | none=>none
 mm mx x y k:=tN (mmD mx x y) k
 mkN bs x y k:=match x,y with
  | .lit (.int a n),.lit (.int b n')=>if a=b∧n=n'∧0≤n∧bs*n≤140737488355328∧n≤9223372036854775807 then k n.toNat else none
  | _,_=>none
 gap bs x k:=match x with
  | .lit (.int _ n)=>if 0 < n∧bs*n≤140737488355328∧n≤9223372036854775807 then k n.toNat else none
  | _=>none
 cut l h n k e:=match gq l,gq h with
  | some l,some h=>if 0≤l.getD 0∧l.getD 0≤h.getD n∧h.getD n≤n then (if l.getD 0=0∨l.getD 0 < h.getD n then k (l.getD 0).toNat (h.getD n - l.getD 0).toNat else e) else none
  | _,_=>none
 cutD es x l h k:=match gq l,gq h with
  | some l,some h=>tN (EV es l h x) k
  | _,_=>none
 cutNil l h k:=match gq l,gq h with
  | some l,some h=>if l.getD 0=0∧h.getD 0=0 then k else none
  | _,_=>none
 selI n x ks:=match x with
  | .lit (.int _ z)=>if 0≤z∧z < n then Dp ks z.toNat else none
  | _=>none
 inx x n k:=match x with
  | .lit (.int _ z)=>if 0≤z∧z < n then k z.toNat else none
  | _=>none
 rowD es x i k:=match x,i with
  | .sl size rows,.lit (.int _ z)=>if size=es∧0≤z then (match rows[z.toNat]? with
   | some r=>if r.length=es then k r else none
   | none=>none) else none
  | _,_=>none
 lenD x k:=match Ax x with
  | some n=>k (.lit (.int .i64 n))
  | none=>none
 lenS x k:=match x with
  | .lit (.string s)=>k (.lit (.int .i64 s.size))
  | _=>none
 rowsD es x k:=match jj es x with
  | some r=>k r
  | none=>none
 isNil r a b:=match r with | []=>a | _::_=>b
 fits bs n k:=if n*bs≤140737488355328∧n≤maxLen then k else none
 asM agg x k:=match zp agg x with
  | some m=>k m
  | none=>none
 look kd zs m key k:=match jI kd zs m key with
  | some p=>k p.1 p.2
  | none=>none
 upd kd m key ds k:=match rO kd m key ds with
  | some m'=>k m'
  | none=>none
 lits ys k:=if ys.all oF=true then k else none
 nilE x a b:=match x with
  | .lit (.slice none 0 0)=>a
  | .sl _ _=>b
  | _=>none
 cvI kd y k:=match y with | .lit (.int _ n)=>k (.lit (.int kd (kd.wrap n))) | _=>none
 ins y rows new k:=match y with | .lit (.int .i64 z)=>if 0≤z∧z.toNat≤rows.length then k (rows.take z.toNat++new++rows.drop z.toNat) else none | _=>none
mutual
def eL:iD→L
 | .d x=>.d x
 | .b v=>.d (.lit (.bool v))
 | .i k n=>.d (.lit (.int k n))
 | .nil=>.d (.lit (.slice none 0 0))
 | .dp r o=>.d (.dp r o)
 | .fn f cs=>.fn f (cn cs)
 | .slk k o n c=>.slk k (o.getD 0) n c
 | .pa k i o c=>.pa k i o c
 | .ptr k o=>.ptr k o
 | .mk k=>.mk k
 | .undef=>.undef
def cn:List iD→List L
 | []=>[]
 | x::xs=>eL x::cn xs
end
mutual
def eV:cw→V
 | .one x=>.one (eL x)
 | .agg xs=>.agg (cn xs)
 | .tup xs=>.tup (cL xs)
def cL:List cw→List V
 | []=>[]
 | x::xs=>eV x::cL xs
end
def eO:Ki→O
 | .box cs e=>.box (cn cs) e
 | .arr rows s e o=>.arr rows s e o
 | .mp g m o=>.mp g m.1 m.2 o
def bD (env:List (Nat×cw)):List (Nat×V):=env.map fun p=>(p.1,eV p.2)
def av (ob:Ur):List (Nat×O):=ob.map fun p=>(p.1,eO p.2)
def eS (st:iM):S2:=⟨bD st.env,av st.ob,st.ys,st.pend⟩
theorem bN:∀ xs:List iD,cn xs=xs.map eL
 | []=>rfl
 | x::xs=>by simp [cn,bN xs]
theorem db:∀ xs:List cw,cL xs=xs.map eV
 | []=>rfl
 | x::xs=>by simp [cL,db xs]
theorem f9 (t:Nat):∀ env:List (Nat×cw),bg (bD env) t=eV (dk env t)
 | []=>rfl
 | (k,v)::r=>by
  simp only [bD,Tl,bg,dk]
  split
  ·rfl
  ·exact f9 t r
theorem az (k:Nat):∀ ob:Ur,ai (av ob) k=(bv ob k).map eO
 | []=>rfl
 | (j,o)::r=>by
  simp only [av,Tl,ai,bv]
  split
  ·rfl
  ·exact az k r
theorem gi:∀ us ob:Ur,av (cR us ob)=Fb (av us) (av ob)
 | [],ob=>rfl
 | (k,o)::r,ob=>by
  show av (cR r ((k,o)::ob))=Fb (av r) ((k,eO o)::av ob)
  rw [gi r];rfl
variable {Fn:Nat→List D→aq} {FnD:D→List Sh→List D→aq} {m:Nat}
theorem E2 (v:Value):eL (wa (af Fn FnD m) v)=.d (.lit v):=by
 unfold wa;split<;>simp [eL,af]
theorem tU (vs:List Value):cn (vs.map (wa (af Fn FnD m)))=gr vs:=by
 rw [bN,Vv];unfold gr;congr 1;funext v;exact E2 v
theorem EW (v:Value):eV (uh (af Fn FnD m) v)=ot v:=by
 unfold uh ot
 split
 ·split<;>rename_i h<;>simp [eV,tU,eL,h]
 ·split<;>rename_i h<;>simp [eV,E2,eL,h]
theorem yY (env:List (Nat×cw)) (x:Operand):eV (wD (af Fn FnD m) env x)=ev (bg (bD env)) x:=by
 cases x with
 | tmp t=>exact (f9 t env).symm
 | const v=>exact EW v
 | global g=>rfl
 | func f=>simp only [wD,ev];split<;>simp [eV,eL,cn]
theorem EN (env:List (Nat×cw)):(fun x=>eV (wD (af Fn FnD m) env x))=ev (bg (bD env)):=funext (yY env)
theorem dc {x:iD} {y:D} (h:eQ (af Fn FnD m) x=some y):eL x=.d y:=by
 unfold eQ at h;split at h<;>first | (cases h;simp [eL,af]) | cases h
theorem fG {x:cw} {y:D} (h:iO (af Fn FnD m) x=some y):eV x=.one (.d y):=by
 unfold iO at h;split at h
 ·simp only [eV,dc h]
 ·cases h
theorem u0 (x:iD):(eL x).isDef=x.isDef:=by cases x<;>simp [eL,L.isDef,L3.isDef]
theorem nq (v:cw):(eV v).cells=v.cells.map cn:=by
 cases v with
 | one x=>simp only [eV,V.cells,V3.cells,u0];split<;>simp [cn]
 | agg xs =>
  simp only [eV,V.cells,V3.cells,bN,List.all_map]
  have:(L.isDef ∘ eL)=(L3.isDef:iD→Bool):=funext u0
  rw [this];split<;>simp [bN]
 | tup xs=>simp [eV,V.cells,V3.cells]
theorem fE (xs:List iD):(cn xs).length=xs.length:=by rw [bN,Tj]
theorem fA (g:Bool) (s off:Nat) (cs:List iD):cm g s off (cn cs)=(eM g s off cs).map eV:=by
 unfold cm eM
 cases g with
 | true=>simp only [fE,T6];split<;>simp [eV,bN,List.map_drop,Wi]
 | false =>
  simp only [T0,T9,bN,Tm]
  cases cs[off]?<;>simp [eV]
theorem mkV_e (g:Bool) (xs:List iD):Fu g (cn xs)=(DV g xs).map eV:=by
 cases g with
 | true=>simp [Fu,DV,eV]
 | false =>
  match xs with
  | []=>rfl
  | [x]=>simp [Fu,DV,eV,cn]
  | x::y::r=>rfl
theorem oy {n:Nat} {v u:cw} (h:kR n v=some u):fh n (eV v)=some (eV u):=by
 unfold kR at h
 split at h<;>first | (cases h;simp [fh,eV,eL]) | cases h
theorem EL (pl:Nat→Option (Nat×Nat)):∀ (ps:List (Nat×cw)) (cs:List iD),j4 pl (cn cs) (ps.map fun p=>(p.1,eV p.2))=(AT pl cs ps).map cn
 | [],cs=>rfl
 | (i,v)::r,cs=>by
  simp only [Tl,j4,AT,nq]
  cases pl i with
  | none=>rfl
  | some q =>
   obtain ⟨off,size⟩:=q
   cases hv:v.cells with
   | none=>rfl
   | some vs =>
    simp only [Th,fE]
    split
    ·rw [←EL pl r]
     congr 1
     simp only [bN,X0,Wi,List.map_drop]
    ·rfl
theorem gR:∀ vs:List cw,cY (vs.map eV)=(gI vs).map cn
 | []=>rfl
 | .one x::r=>by
  simp only [Tl,eV,cY,gI,u0,gR r]
  split
  ·cases gI r<;>simp [cn]
  ·rfl
 | .agg xs::r=>rfl
 | .tup xs::r=>rfl
theorem ed {w:List D} {s:Nat} (h:w.length=s):cellsOf (af Fn FnD m) s w=w:=by
 subst h
 unfold cellsOf
 apply Wz
 intro i
 simp only [Tm,af,Vz]
 by_cases hi:i < w.length
 ·rw [X3 hi];simp [hi]
 ·rw [Ve (by simpa using hi)];simp;omega
theorem ES (w:List D):cn (w.map .d)=w.map .d:=by rw [bN,Vv];rfl
theorem GM (v:cw):eE (eV v)=Ep v:=by cases v<;>rfl
theorem aT:av []=[]:=rfl
theorem bw (k:Nat) (o:Ki) (r:Ur):av ((k,o)::r)=(k,eO o)::av r:=rfl
theorem i7 (a b:Ur):av (a++b)=av a++av b:=by simp [av]
end
section
variable {P:Program} {Fn:Nat→List D→aq} {FnD:D→List Sh→List D→aq} {m:Nat} {r:Nat×List Yr} {ob:Ur}
theorem Q.reads_bind {α β:Type} (o:Ob) (q:Q α) (f:α→Q β):(q.bind f).reads o=q.reads o++(match q.run o with | some a=>(f a).reads o | none=>[]):=by
 induction q with
 | ret a=>rfl
 | get k g ih=>simp only [Q.bind,Q.reads,Q.run,ih,Tr]
 | fail=>rfl
def OKQ (ob:Ur) (q:Q cD) (k:K3 D Nat Rr Mr aq) (r:Nat×List Yr):Prop :=
 ∃ v us rd,q.run (ai (av ob))=some (eV v,av us)∧(∀ x∈q.reads (ai (av ob)),x∈rd)∧k v us rd=some r
theorem OKQ.ret {v:cw} {us:Ur} {rd:List Nat} {k:K3 D Nat Rr Mr aq} (h:k v us rd=some r):OKQ ob (.ret (eV v,av us)) k r:=⟨v,us,rd,rfl,by simp [Q.reads],h⟩
theorem OKQ.ret0 {v:cw} {rd:List Nat} {k:K3 D Nat Rr Mr aq} (h:k v [] rd=some r):OKQ ob (.ret (eV v,[])) k r:=OKQ.ret (us:=[]) h
theorem OKQ.get {key:Nat} {f:Option O→Q cD} {k:K3 D Nat Rr Mr aq} {rd0:List Nat} (h:OKQ ob (f (ai (av ob) key)) (fun v us rd=>k v us (rd0++rd)) r) (hk:key∈rd0):OKQ ob (.get key f) k r:=by
 obtain ⟨v,us,rd,h1,h2,h3⟩:=h
 refine ⟨v,us,rd0++rd,h1,?_,h3⟩
 intro x hx
 simp only [Q.reads,Ti] at hx
 rcases hx with rfl | hx
 ·exact Vm _ hk
 ·exact Vh _ (h2 x hx)
theorem fH {o:Option cw} {o':Option V} {rd:List Nat} {k:K3 D Nat Rr Mr aq} (h:pc (af Fn FnD m) o rd k=some r) (ho:∀ v,o=some v→o'=some (eV v)):∃ v,o'=some (eV v)∧k v [] rd=some r:=by
 unfold pc at h
 split at h
 ·rename_i v;exact ⟨v,ho v rfl,h⟩
 ·cases h
theorem OKQ.mk {q:Q cD} {k:K3 D Nat Rr Mr aq} {v:cw} {us:Ur} {rd:List Nat} (h1:q.run (ai (av ob))=some (eV v,av us)) (h2:∀ x∈q.reads (ai (av ob)),x∈rd) (h3:k v us rd=some r):OKQ ob q k r:=⟨v,us,rd,h1,h2,h3⟩
theorem bI {a b:Nat} {k:aq} (h:(af Fn FnD m).eqN a b k=some r):a=b∧k=some r:=by
 simp only [af] at h;split at h
 ·exact ⟨‹_›,h⟩
 ·cases h
theorem vA {a b:Nat} {k:aq} (h:(af Fn FnD m).leN a b k=some r):a≤b∧k=some r:=by
 simp only [af] at h;split at h
 ·exact ⟨‹_›,h⟩
 ·cases h
theorem iP {x:D} {k:aq} (h:(af Fn FnD m).nilD x k=some r):x=.lit (.slice none 0 0)∧k=some r:=by
 simp only [af] at h;split at h
 ·exact ⟨rfl,h⟩
 ·cases h
theorem sb {n:Nat} {x:D} {k:List D→aq} (h:(af Fn FnD m).ptrW n x k=some r):∃ row,x=.dp row 0∧row.length=n∧k row=some r:=by
 simp only [af] at h;split at h
 ·split at h
  ·exact ⟨_,rfl,‹_›,h⟩
  ·cases h
 ·cases h
theorem ym {x:D} {k:aq} (h:(af Fn FnD m).isPtr x k=some r):(∃ row o,x=.dp row o)∧k=some r:=by
 simp only [af] at h;split at h
 ·exact ⟨⟨_,_,rfl⟩,h⟩
 ·cases h
theorem gL {s i:Nat} {rows:Rr} {k:List D→aq} (h:(af Fn FnD m).rowAt s rows i k=some r):∃ w,rows[i]?=some w∧w.length=s∧k w=some r:=by
 simp only [af] at h;split at h
 ·split at h
  ·exact ⟨_,‹_›,‹_›,h⟩
  ·cases h
 ·cases h
theorem l9 {α:Type} {o:Option α} {k:α→aq} (h:tN o k=some r):∃ a,o=some a∧k a=some r:=by
 unfold tN at h;split at h
 ·exact ⟨_,rfl,h⟩
 ·cases h
theorem DA {x:D} {n:Nat} {k:Nat→aq} (h:(af Fn FnD m).inx x n k=some r):∃ kk z,x=.lit (.int kk z)∧(0≤z∧z < (n:Int))∧k z.toNat=some r:=by
 simp only [af] at h;split at h
 ·split at h
  ·exact ⟨_,_,rfl,‹_›,h⟩
  ·cases h
 ·cases h
theorem sa {x:D} {n:Nat} {ks:List aq} (h:(af Fn FnD m).selI n x ks=some r):∃ kk z,x=.lit (.int kk z)∧(0≤z∧z < (n:Int))∧Dp ks z.toNat=some r:=by
 simp only [af] at h;split at h
 ·split at h
  ·exact ⟨_,_,rfl,‹_›,h⟩
  ·cases h
 ·cases h
theorem C5 {es:Nat} {x i:D} {k:List D→aq} (h:(af Fn FnD m).rowD es x i k=some r):∃ rows kk z w,x=.sl es rows∧i=.lit (.int kk z)∧0≤z∧rows[z.toNat]?=some w∧w.length=es∧k w=some r:=by
 simp only [af] at h;split at h
 ·split at h
  ·rename_i hz
   obtain ⟨rfl,hz⟩:=hz
   split at h
   ·split at h
    ·exact ⟨_,_,_,_,rfl,rfl,hz,‹_›,‹_›,h⟩
    ·cases h
   ·cases h
  ·cases h
 ·cases h
theorem vE {l h':Option D} {n:Nat} {k:Nat→Nat→aq} {e:aq} (h:(af Fn FnD m).cut l h' n k e=some r):∃ zl zh,gq l=some zl∧gq h'=some zh∧(0≤zl.getD 0∧zl.getD 0≤zh.getD n∧zh.getD n≤n) ∧
  (((zl.getD 0=0∨zl.getD 0 < zh.getD n)∧k (zl.getD 0).toNat (zh.getD n - zl.getD 0).toNat=some r)∨(¬ (zl.getD 0=0∨zl.getD 0 < zh.getD n)∧e=some r)):=by
 simp only [af] at h;split at h
 ·rename_i zl zh h1 h2
  split at h
  ·split at h
   ·exact ⟨zl,zh,h1,h2,‹_›,.inl ⟨‹_›,h⟩⟩
   ·exact ⟨zl,zh,h1,h2,‹_›,.inr ⟨‹_›,h⟩⟩
  ·cases h
 ·cases h
theorem C9 {es:Nat} {x:D} {l h':Option D} {k:D→aq} (h:(af Fn FnD m).cutD es x l h' k=some r):∃ zl zh z,gq l=some zl∧gq h'=some zh∧EV es zl zh x=some z∧k z=some r:=by
 simp only [af] at h;split at h
 ·obtain ⟨z,h1,h2⟩:=l9 h;exact ⟨_,_,z,‹_›,‹_›,h1,h2⟩
 ·cases h
theorem vD {l h':Option D} {k:aq} (h:(af Fn FnD m).cutNil l h' k=some r):∃ zl zh,gq l=some zl∧gq h'=some zh∧(zl.getD 0=0∧zh.getD 0=0)∧k=some r:=by
 simp only [af] at h;split at h
 ·split at h
  ·exact ⟨_,_,‹_›,‹_›,‹_›,h⟩
  ·cases h
 ·cases h
theorem gF {x:D} {a b:aq} (h:(af Fn FnD m).cond x a b=some r):(x=.lit (.bool true)∧a=some r)∨(x=.lit (.bool false)∧b=some r):=by
 simp only [af] at h;split at h
 ·exact .inl ⟨rfl,h⟩
 ·exact .inr ⟨rfl,h⟩
 ·cases h
theorem fO {o:aq} {ks:List (List Yr→aq)} (h:(af Fn FnD m).bnd o ks=some r):∃ j ys k,o=some (j,ys)∧ks[j]?=some k∧k ys=some r:=by
 simp only [af] at h;split at h
 ·split at h
  ·exact ⟨_,_,_,rfl,‹_›,h⟩
  ·cases h
 ·cases h
theorem DD {op:BinOp} {bl:Bool} {x y:D} {k:D→aq} (h:(af Fn FnD m).bin op bl x y k=some r):∃ z,wR op bl x y=some z∧k z=some r:=l9 h
theorem A5 {op:UnOp} {x:D} {k:D→aq} (h:(af Fn FnD m).un op x k=some r):∃ z,unD op x=some z∧k z=some r:=l9 h
theorem Gg {mx:Bool} {x y:D} {k:D→aq} (h:(af Fn FnD m).mm mx x y k=some r):∃ z,mmD mx x y=some z∧k z=some r:=l9 h
theorem vC {ks:List Bool} {ng:Bool} {x y:List D} {k:D→aq} (h:(af Fn FnD m).eqs ks ng x y k=some r):∃ b,cr ks (x.map .d) (y.map .d)=some b∧k (.lit (.bool (if ng then !b else b)))=some r:=by
 simp only [af] at h;split at h
 ·exact ⟨_,‹_›,h⟩
 ·cases h
theorem Dz {bs:Nat} {x y:D} {k:Nat→aq} (h:(af Fn FnD m).mkN bs x y k=some r):∃ a n,x=.lit (.int a n)∧y=.lit (.int a n)∧(0≤n∧bs*n≤140737488355328∧n≤9223372036854775807)∧k n.toNat=some r:=by
 simp only [af] at h;split at h
 ·split at h
  ·rename_i hc;obtain ⟨rfl,rfl,hc⟩:=hc;exact ⟨_,_,rfl,rfl,hc,h⟩
  ·cases h
 ·cases h
theorem DB {bs:Nat} {x:D} {k:Nat→aq} (h:(af Fn FnD m).gap bs x k=some r):∃ a n,x=.lit (.int a n)∧(0 < n∧bs*n≤140737488355328∧n≤9223372036854775807)∧k n.toNat=some r:=by
 simp only [af] at h;split at h
 ·split at h
  ·exact ⟨_,_,rfl,‹_›,h⟩
  ·cases h
 ·cases h
theorem C8 {x:D} {k:D→aq} (h:(af Fn FnD m).lenD x k=some r):∃ n,Ax x=some n∧k (.lit (.int .i64 n))=some r:=by
 simp only [af] at h;split at h
 ·exact ⟨_,‹_›,h⟩
 ·cases h
theorem C7 {x:D} {k:D→aq} (h:(af Fn FnD m).lenS x k=some r):∃ s,x=.lit (.string s)∧k (.lit (.int .i64 s.size))=some r:=by
 simp only [af] at h;split at h
 ·exact ⟨_,rfl,h⟩
 ·cases h
theorem pT {es:Nat} {x:D} {k:Rr→aq} (h:(af Fn FnD m).rowsD es x k=some r):∃ rows,jj es x=some rows∧k rows=some r:=by
 simp only [af] at h;split at h
 ·exact ⟨_,‹_›,h⟩
 ·cases h
theorem pU {rows:Rr} {a b:aq} (h:(af Fn FnD m).isNil rows a b=some r):(rows=[]∧a=some r)∨(rows≠[]∧b=some r):=by
 cases rows with
 | nil=>exact .inl ⟨rfl,h⟩
 | cons x xs=>exact .inr ⟨by simp,h⟩
theorem kY {bs n:Nat} {k:aq} (h:(af Fn FnD m).fits bs n k=some r):n*bs≤140737488355328∧n≤maxLen∧k=some r:=by
 simp only [af] at h;split at h
 ·rename_i hc;exact ⟨hc.1,hc.2,h⟩
 ·cases h
theorem vF {agg:Bool} {x:D} {k:Mr→aq} (h:(af Fn FnD m).asM agg x k=some r):∃ mm,zp agg x=some mm∧k mm=some r:=by
 simp only [af] at h;split at h
 ·exact ⟨_,‹_›,h⟩
 ·cases h
theorem C6 {kd:Nat} {zs:List Value} {mm:Mr} {key:D} {k:List D→D→aq} (h:(af Fn FnD m).look kd zs mm key k=some r):∃ p,jI kd zs mm key=some p∧k p.1 p.2=some r:=by
 simp only [af] at h;split at h
 ·exact ⟨_,‹_›,h⟩
 ·cases h
theorem Dy {kd:Nat} {mm:Mr} {key:D} {ds:List D} {k:Mr→aq} (h:(af Fn FnD m).upd kd mm key ds k=some r):∃ m',rO kd mm key ds=some m'∧k m'=some r:=by
 simp only [af] at h;split at h
 ·exact ⟨_,‹_›,h⟩
 ·cases h
theorem sc {x:D} {a b:aq} (h:(af Fn FnD m).nilE x a b=some r):(x=.lit (.slice none 0 0)∧a=some r)∨∃ s rows,x=.sl s rows∧b=some r:=by
 simp only [af] at h
 split at h
 ·exact .inl ⟨rfl,h⟩
 ·exact .inr ⟨_,_,rfl,h⟩
 ·cases h
theorem DC {kd:IntKind} {y:D} {k:D→aq} (h:(af Fn FnD m).cvI kd y k=some r):∃ a n,y=.lit (.int a n)∧k (.lit (.int kd (kd.wrap n)))=some r:=by
 simp only [af] at h;split at h
 ·exact ⟨_,_,rfl,h⟩
 ·cases h
theorem vB {y:D} {rows new:Rr} {k:Rr→aq} (h:(af Fn FnD m).ins y rows new k=some r):∃ z,y=.lit (.int .i64 z)∧(0≤z∧z.toNat≤rows.length)∧k (rows.take z.toNat++new++rows.drop z.toNat)=some r:=by
 simp only [af] at h;split at h
 ·split at h
  ·exact ⟨_,rfl,‹_›,h⟩
  ·cases h
 ·cases h
theorem sd {ys:List Yr} {k:aq} (h:(af Fn FnD m).lits ys k=some r):ys.all oF=true∧k=some r:=by
 simp only [af] at h;split at h
 ·exact ⟨‹_›,h⟩
 ·cases h
theorem vZ {g:Bool} {s:Nat} {x:cw} {k:K3 D Nat Rr Mr aq} (h:Aq (af Fn FnD m) g s ob x k=some r):OKQ ob (iZ g s (eV x)) k r:=by
 unfold Aq at h
 split at h
 ·rename_i key off
  split at h
  ·rename_i cells elem hk
   obtain ⟨v,h1,h2⟩:=fH (o':=cm g s off (cn cells)) h fun v hv=>by rw [fA,hv];rfl
   refine OKQ.mk (v:=v) (us:=[]) (rd:=[key]) ?_ ?_ h2
   ·simp [iZ,eV,eL,Q.run,az,hk,eO,bf,h1,Q.opt,Q.bind,aT]
   ·simp [iZ,eV,eL,Q.reads,az,hk,eO,bf,h1,Q.opt,Q.bind]
  ·cases h
 ·rename_i key i off c
  split at h
  ·rename_i rows size elem own hk
   obtain ⟨hc,h⟩:=bI h
   obtain ⟨w,h1,h2,h⟩:=gL h
   rw [ed h2] at h
   obtain ⟨v,h3,h4⟩:=fH (o':=cm g s off (w.map .d)) h fun v hv=>by rw [←ES,fA,hv];rfl
   have hc':c=rows.length:=hc
   refine OKQ.mk (v:=v) (us:=[]) (rd:=[key]) ?_ ?_ h4
   ·simp [iZ,eV,eL,Q.run,az,hk,eO,bf,h1,h3,Q.opt,Q.bind,aT,Q.guard,hc']
   ·simp [iZ,eV,eL,Q.reads,az,hk,eO,bf,h1,h3,Q.opt,Q.bind,Q.guard,hc']
  ·cases h
 ·rename_i row off
  obtain ⟨v,h1,h2⟩:=fH (o':=cm g s off (row.map .d)) h fun v hv=>by rw [←ES,fA,hv];rfl
  refine OKQ.mk (v:=v) (us:=[]) (rd:=[]) ?_ ?_ h2
  ·simp [iZ,eV,eL,Q.run,bf,h1,Q.opt,Q.bind,aT]
  ·simp [iZ,eV,eL,Q.reads,bf,h1,Q.opt,Q.bind]
 ·cases h
theorem AM {x:iD} {k:D→Ur→List Nat→aq} (h:wp (af Fn FnD m) ob x k=some r):∃ d us rd,(lC (eL x)).run (ai (av ob))=some (d,av us)∧(∀ q∈(lC (eL x)).reads (ai (av ob)),q∈rd)∧k d us rd=some r:=by
 unfold wp at h
 split at h
 ·rename_i key off n c
  split at h
  ·rename_i rows size elem own hk
   obtain ⟨hc,h⟩:=bI h
   have hc':c=rows.length:=hc
   refine ⟨_,_,_,?_,?_,h⟩
   ·simp [lC,eL,Q.run,az,hk,eO,Q.guard,hc',af,aT,bw]
   ·simp [lC,eL,Q.reads,az,hk,eO,Q.guard,hc']
  ·cases h
 ·rename_i key
  split at h
  ·rename_i agg mm own hk
   refine ⟨_,_,_,?_,?_,h⟩
   ·simp [lC,eL,Q.run,az,hk,eO,af,aT,bw]
   ·simp [lC,eL,Q.reads,az,hk,eO]
  ·cases h
 ·split at h
  ·rename_i y hy
   refine ⟨_,_,_,?_,?_,h⟩
   ·rw [dc hy];simp [lC,Q.run,aT]
   ·rw [dc hy];simp [lC,Q.reads]
  ·cases h
theorem j3:∀ {xs:List iD} {k:List D→Ur→List Nat→aq},oU (af Fn FnD m) ob xs k=some r→∃ ds us rd,(ez (cn xs)).run (ai (av ob))=some (ds,av us)∧(∀ q∈(ez (cn xs)).reads (ai (av ob)),q∈rd)∧k ds us rd=some r
 | [],k,h=>⟨[],[],[],by simp [cn,ez,Q.run,aT],by simp [cn,ez,Q.reads],h⟩
 | x::xs,k,h=>by
  simp only [oU] at h
  obtain ⟨d,us,rd,h1,h2,h⟩:=AM h
  obtain ⟨ds,us',rd',h3,h4,h⟩:=j3 h
  refine ⟨_,_,_,?_,?_,h⟩
  ·simp [cn,ez,Q.run_bind,h1,h3,Q.run,i7]
  ·intro q hq
   simp only [cn,ez,Q.reads_bind,h1,h3,V6,Q.reads,W9,Y2] at hq
   rcases hq with hq | hq
   ·exact Vm _ (h2 q hq)
   ·exact Vh _ (h4 q hq)
theorem fC {dst:Option Nat} {o:Ki} {v:Nat→cw} {v':Nat→V} {k:K3 D Nat Rr Mr aq} (h:fb (af Fn FnD m) ob dst o v k=some r) (hv:∀ q,eV (v q)=v' q):OKQ ob (fresh dst (eO o) v') k r:=by
 unfold fb at h
 split at h
 ·rename_i key
  split at h
  ·rename_i hk
   refine OKQ.mk ?_ ?_ h
   ·simp [fresh,Q.run,az,hk,hv,aT,bw]
   ·simp [fresh,Q.reads,az,hk]
  ·cases h
 ·cases h
theorem BY {x:cw} {cs:List iD} {k:K3 D Nat Rr Mr aq} (h:yg (af Fn FnD m) ob x cs k=some r):OKQ ob (jV (eV x) (cn cs)) k r:=by
 unfold yg at h
 split at h
 ·rename_i key off
  split at h
  ·rename_i cells elem hk
   split at h
   ·rename_i hle
    refine OKQ.mk ?_ ?_ h
    ·simp [jV,eV,eL,Q.run,az,hk,eO,Q.guard,hle,aT,bw,bN,Wi,List.map_drop]
    ·simp [jV,eV,eL,Q.reads,az,hk,eO,Q.guard,fE,hle]
   ·cases h
  ·cases h
 ·rename_i key i off c
  split at h
  ·rename_i rows size elem own hk
   split at h
   ·obtain ⟨hc,h⟩:=bI h
    have hc':c=rows.length:=hc
    obtain ⟨w,h1,h2,h⟩:=gL h
    obtain ⟨ds,us,rd,h3,h4,h⟩:=j3 h
    rw [ed h2] at h
    split at h
    ·split at h
     ·rename_i hle
      refine OKQ.mk ?_ ?_ h
      ·simp only [jV,eV,eL,Q.run,az,hk,Th,eO,Q.guard,hc',T8,Vx,h1,Q.opt,Q.bind,Q.run_bind,h3,Va,h2,hle,aT,bw,Xi]
       simp [af]
      ·intro q hq
       simp only [jV,eV,eL,Q.reads,az,hk,Th,eO,Q.guard,hc',T8,Vx,h1,Q.opt,Q.bind,Q.reads_bind,h3,h2,hle,aT,Xi,Ti,V6,W9,Y2] at hq
       rcases hq with rfl | hq
       ·simp
       ·exact Ts _ (h4 q hq)
     ·cases h
    ·cases h
   ·cases h
  ·cases h
 ·cases h
end
section
variable {P:Program} {Fn:Nat→List D→aq} {FnD:D→List Sh→List D→aq} {m:Nat} {r:Nat×List Yr} {ob:Ur}
theorem iN {rec:iD→(D→List Nat→aq)→aq} {f:L→Q D} (hrec:∀ x k,rec x k=some r→∃ d rd,(f (eL x)).run (ai (av ob))=some d∧(∀ q∈(f (eL x)).reads (ai (av ob)),q∈rd)∧k d rd=some r) :
  ∀ {xs:List iD} {k:List D→List Nat→aq},oG rec xs k=some r→∃ ds rd,(Q.mapM f (cn xs)).run (ai (av ob))=some ds∧(∀ q∈(Q.mapM f (cn xs)).reads (ai (av ob)),q∈rd)∧ds.length=xs.length∧k ds rd=some r
 | [],k,h=>⟨[],[],by simp [cn,Q.mapM,Q.run],by simp [cn,Q.mapM,Q.reads],rfl,h⟩
 | x::xs,k,h=>by
  simp only [oG] at h
  obtain ⟨d,rd,h1,h2,h⟩:=hrec _ _ h
  obtain ⟨ds,rd',h3,h4,h5,h⟩:=iN hrec h
  refine ⟨_,_,?_,?_,?_,h⟩
  ·simp [cn,Q.mapM,Q.run_bind,h1,h3,Q.run]
  ·intro q hq
   simp only [cn,Q.mapM,Q.reads_bind,h1,h3,V6,Q.reads,W9,Y2] at hq
   rcases hq with hq | hq
   ·exact Vm _ (h2 q hq)
   ·exact Vh _ (h4 q hq)
  ·simp [h5]
theorem mH:∀ (n:Nat) (x:iD) (k:D→List Nat→aq),eP (af Fn FnD m) ob n x k=some r→∃ d rd,(cP n (eL x)).run (ai (av ob))=some d∧(∀ q∈(cP n (eL x)).reads (ai (av ob)),q∈rd)∧k d rd=some r:=by
 intro n
 induction n with
 | zero =>
  intro x k h
  cases x with
  | slk key off n' c =>
   simp only [eP] at h
   split at h
   ·rename_i rows size elem own hk
    obtain ⟨hc,h⟩:=bI h
    have hc':c=rows.length:=hc
    refine ⟨_,_,?_,?_,h⟩
    ·simp [cP,eL,Q.run,az,hk,eO,Q.guard,hc',af]
    ·simp [cP,eL,Q.reads,az,hk,eO,Q.guard,hc']
   ·cases h
  | pa key i off c =>
   simp only [eP] at h
   split at h
   ·rename_i rows size elem own hk
    obtain ⟨hc,h⟩:=bI h
    have hc':c=rows.length:=hc
    obtain ⟨w,h1,h2,h⟩:=gL h
    rw [ed h2] at h
    refine ⟨_,_,?_,?_,h⟩
    ·simp [cP,eL,Q.run,az,hk,eO,Q.guard,hc',h1,Q.opt,Q.bind,af]
    ·simp [cP,eL,Q.reads,az,hk,eO,Q.guard,hc',h1,Q.opt,Q.bind]
   ·cases h
  | mk key =>
   simp only [eP] at h
   split at h
   ·rename_i agg mm own hk
    refine ⟨_,_,?_,?_,h⟩
    ·simp [cP,eL,Q.run,az,hk,eO,af]
    ·simp [cP,eL,Q.reads,az,hk,eO]
   ·cases h
  | ptr _ _=>simp [eP,eQ,af] at h
  | fn _ _=>simp [eP,eQ,af] at h
  | undef=>simp [eP,eQ,af] at h
  | d x=>simp only [eP,eQ] at h;exact ⟨_,_,by simp [eL,cP,Q.run],by simp [eL,cP,Q.reads],h⟩
  | b x=>simp only [eP,eQ] at h;exact ⟨_,_,by simp [eL,cP,Q.run,af],by simp [eL,cP,Q.reads],h⟩
  | i x y=>simp only [eP,eQ] at h;exact ⟨_,_,by simp [eL,cP,Q.run,af],by simp [eL,cP,Q.reads],h⟩
  | nil=>simp only [eP,eQ] at h;exact ⟨_,_,by simp [eL,cP,Q.run,af],by simp [eL,cP,Q.reads],h⟩
  | dp x y=>simp only [eP,eQ] at h;exact ⟨_,_,by simp [eL,cP,Q.run,af],by simp [eL,cP,Q.reads],h⟩
 | succ n ih =>
  intro x k h
  cases x with
  | slk key off n' c =>
   simp only [eP] at h
   split at h
   ·rename_i rows size elem own hk
    obtain ⟨hc,h⟩:=bI h
    have hc':c=rows.length:=hc
    refine ⟨_,_,?_,?_,h⟩
    ·simp [cP,eL,Q.run,az,hk,eO,Q.guard,hc',af]
    ·simp [cP,eL,Q.reads,az,hk,eO,Q.guard,hc']
   ·cases h
  | pa key i off c =>
   simp only [eP] at h
   split at h
   ·rename_i rows size elem own hk
    obtain ⟨hc,h⟩:=bI h
    have hc':c=rows.length:=hc
    obtain ⟨w,h1,h2,h⟩:=gL h
    rw [ed h2] at h
    refine ⟨_,_,?_,?_,h⟩
    ·simp [cP,eL,Q.run,az,hk,eO,Q.guard,hc',h1,Q.opt,Q.bind,af]
    ·simp [cP,eL,Q.reads,az,hk,eO,Q.guard,hc',h1,Q.opt,Q.bind]
   ·cases h
  | mk key =>
   simp only [eP] at h
   split at h
   ·rename_i agg mm own hk
    refine ⟨_,_,?_,?_,h⟩
    ·simp [cP,eL,Q.run,az,hk,eO,af]
    ·simp [cP,eL,Q.reads,az,hk,eO]
   ·cases h
  | ptr key off =>
   simp only [eP] at h
   split at h
   ·rename_i cells elem hk
    obtain ⟨ds,rd,h1,h2,_,h⟩:=iN (f:=cP n) ih h
    refine ⟨_,_,?_,?_,h⟩
    ·simp [cP,eL,Q.run,az,hk,eO,Q.run_bind,h1,af]
    ·intro q hq
     simp only [cP,eL,Q.reads,az,hk,Th,eO,Q.reads_bind,h1,Ti,V6,W9,Y2] at hq
     rcases hq with rfl | hq
     ·simp
     ·exact Ts _ (h2 q hq)
   ·cases h
  | fn f cs =>
   simp only [eP] at h
   obtain ⟨ds,rd,h1,h2,_,h⟩:=iN (f:=cP n) ih h
   refine ⟨_,_,?_,?_,h⟩
   ·simp [cP,eL,Q.run_bind,h1,Q.run,af]
   ·intro q hq
    simp only [cP,eL,Q.reads_bind,h1,Q.reads,V6,W9,Y2] at hq
    exact h2 q hq
  | undef=>simp [eP,eQ,af] at h
  | d x=>simp only [eP,eQ] at h;exact ⟨_,_,by simp [eL,cP,Q.run],by simp [eL,cP,Q.reads],h⟩
  | b x=>simp only [eP,eQ] at h;exact ⟨_,_,by simp [eL,cP,Q.run,af],by simp [eL,cP,Q.reads],h⟩
  | i x y=>simp only [eP,eQ] at h;exact ⟨_,_,by simp [eL,cP,Q.run,af],by simp [eL,cP,Q.reads],h⟩
  | nil=>simp only [eP,eQ] at h;exact ⟨_,_,by simp [eL,cP,Q.run,af],by simp [eL,cP,Q.reads],h⟩
  | dp x y=>simp only [eP,eQ] at h;exact ⟨_,_,by simp [eL,cP,Q.run,af],by simp [eL,cP,Q.reads],h⟩
theorem vl {x:iD} {k:IntKind} {z:Int} (h:eQ (af Fn FnD m) x=some (.lit (.int k z))):vInt? (.one (eL x))=some (k,z):=by rw [dc h];rfl
theorem AI {es:Nat} {x:cw} {k:K3 D Nat Rr Mr aq} {j:Nat} (h:GO (af Fn FnD m) es x k j=some r):∃ v,fh (j*es) (eV x)=some (eV v)∧k v [] []=some r:=by
 unfold GO at h
 exact fH (o':=fh (j*es) (eV x)) h fun v hv=>oy hv
theorem sH {arr:Option Nat} {e:Nat} {es:Nat} {x:cw} {i:iD} {k:K3 D Nat Rr Mr aq} (h:u5 (af Fn FnD m) arr es ob x i k=some r):∃ kk z,vInt? (.one (eL i))=some (kk,z)∧OKQ ob (ep (arr.map fun n=>(n,e)) es (eV x) z) k r:=by
 unfold u5 at h
 cases arr with
 | some n =>
  simp only at h
  split at h
  ·rename_i kk z
   split at h
   ·rename_i hz
    obtain ⟨v,h1,h2⟩:=AI h
    refine ⟨kk,z,rfl,OKQ.mk (v:=v) (us:=[]) (rd:=[]) ?_ ?_ h2⟩
    ·simp [ep,bf,hz,h1,Q.opt,Q.bind,Q.run,aT]
    ·simp [ep,bf,hz,h1,Q.opt,Q.bind,Q.reads]
   ·cases h
  ·rename_i y
   obtain ⟨kk,z,rfl,hz,h⟩:=sa h
   simp only [Dp,Tm] at h
   rw [X3 (by omega)] at h
   obtain ⟨v,h1,h2⟩:=AI (Fn:=Fn) (FnD:=FnD) (m:=m) h
   refine ⟨kk,z,rfl,OKQ.mk (v:=v) (us:=[]) (rd:=[]) ?_ ?_ h2⟩
   ·simp [ep,bf,hz,h1,Q.opt,Q.bind,Q.run,aT]
   ·simp [ep,bf,hz,h1,Q.opt,Q.bind,Q.reads]
  ·cases h
 | none =>
  simp only at h
  split at h
  ·cases h
  ·rename_i y hy
   split at h
   ·rename_i key off n c
    split at h
    ·rename_i rows size elem own hk
     split at h
     ·rename_i hs
      subst hs
      obtain ⟨hc,h⟩:=bI h
      have hc':c=rows.length:=hc
      obtain ⟨kk,z,rfl,hz,h⟩:=DA h
      refine ⟨kk,z,vl hy,OKQ.mk ?_ ?_ h⟩
      ·simp only [ep,eV,eL,Q.run,az,hk,Th,Wr,eO,Q.guard,hc',Vr,T8,bf,Q.opt,aT]
       rw [T1 hz]
       cases off<;>simp [Q.run,Q.bind,af]
      ·simp only [ep,eV,eL,Q.reads,az,hk,Th,Wr,eO,Q.guard,hc',Vr,T8,bf,Q.opt]
       rw [T1 hz]
       simp [Q.reads,Q.bind]
     ·cases h
    ·cases h
   ·rename_i z0
    obtain ⟨rows,kk,z,w,rfl,rfl,hz,hw,hl,h⟩:=C5 h
    rw [ed hl] at h
    refine ⟨kk,z,vl hy,OKQ.mk ?_ ?_ h⟩
    ·simp [ep,eV,eL,Q.guard,hz,hw,bf,Q.opt,Q.bind,Q.run,aT]
    ·simp [ep,eV,eL,Q.guard,hz,hw,bf,Q.opt,Q.bind,Q.reads]
   ·cases h
theorem ew {ρ:Operand→cw} {o:Option Operand} {d:Option D} {z:Option Int} (h:s4 (af Fn FnD m) ρ o=some d) (hz:gq d=some z):pd (fun x=>eV (ρ x)) o=some z:=by
 unfold s4 at h
 split at h
 ·cases h;simp only [gq] at hz;cases hz;rfl
 ·split at h
  ·rename_i y hy
   cases h
   simp only [gq,Ta] at hz
   obtain ⟨n,hn,rfl⟩:=hz
   unfold intD at hn
   split at hn
   ·cases hn;simp [pd,fG hy,vInt?]
   ·cases hn
  ·cases h
theorem Hb {es:Nat} {x:cw} {ρ:Operand→cw} {lo hi:Option Operand} {l h':Option D} {k:K3 D Nat Rr Mr aq} (hl:s4 (af Fn FnD m) ρ lo=some l) (hh:s4 (af Fn FnD m) ρ hi=some h') (h:MV (af Fn FnD m) es ob x l h' k=some r) :
  ∃ zl zh,pd (fun x=>eV (ρ x)) lo=some zl∧pd (fun x=>eV (ρ x)) hi=some zh∧OKQ ob (kJ es (eV x) zl zh) k r:=by
 unfold MV at h
 split at h
 ·rename_i key off n c
  split at h
  ·rename_i rows size elem own hk
   split at h
   case isFalse=>cases h
   rename_i hs
   subst hs
   obtain ⟨hc,h⟩:=bI h
   have hc':c=rows.length:=hc
   cases l with
   | none =>
    obtain ⟨zl,zh,hzl,hzh,hb,h | ⟨_,h⟩⟩:=vE h
    ·obtain ⟨hb2,h⟩:=h
     simp only [gq,T3] at hzl
     subst hzl
     refine ⟨none,zh,ew hl rfl,ew hh hzh,OKQ.mk ?_ ?_ h⟩
     ·simp only [kJ,eV,eL,Q.run,az,hk,Th,eO,Q.guard,hc',Vr,T8,bf,Q.opt,aT]
      rw [T1 hb,T1 hb2]
      simp [Q.run,Q.bind]
     ·simp only [kJ,eV,eL,Q.reads,az,hk,Th,eO,Q.guard,hc',Vr,T8,bf,Q.opt]
      rw [T1 hb,T1 hb2]
      simp [Q.reads,Q.bind]
    ·cases h
   | some y =>
    obtain ⟨zl,zh,hzl,hzh,hb,⟨hb2,h⟩ | ⟨hb2,h⟩⟩:=vE h
    ·refine ⟨zl,zh,ew hl hzl,ew hh hzh,OKQ.mk ?_ ?_ h⟩
     ·simp only [kJ,eV,eL,Q.run,az,hk,Th,eO,Q.guard,hc',Vr,T8,bf,Q.opt,aT]
      rw [T1 hb,T1 hb2]
      cases off<;>simp [Q.run,Q.bind,af]
     ·simp only [kJ,eV,eL,Q.reads,az,hk,Th,eO,Q.guard,hc',Vr,T8,bf,Q.opt]
      rw [T1 hb,T1 hb2]
      simp [Q.reads,Q.bind]
    ·refine ⟨zl,zh,ew hl hzl,ew hh hzh,OKQ.mk ?_ ?_ h⟩
     ·simp only [kJ,eV,eL,Q.run,az,hk,Th,eO,Q.guard,hc',Vr,T8,bf,Q.opt,aT]
      rw [T1 hb,T5 hb2]
      simp [Q.run,Q.bind,af]
     ·simp only [kJ,eV,eL,Q.reads,az,hk,Th,eO,Q.guard,hc',Vr,T8,bf,Q.opt]
      rw [T1 hb,T5 hb2]
      simp [Q.reads,Q.bind]
  ·cases h
 ·rename_i y
  obtain ⟨zl,zh,z,hzl,hzh,hz,h⟩:=C9 h
  refine ⟨zl,zh,ew hl hzl,ew hh hzh,?_⟩
  unfold EV at hz
  split at hz
  ·rename_i size rows
   split at hz
   case isFalse=>cases hz
   rename_i hs
   subst hs
   split at hz
   ·rename_i hb
    cases hz
    refine OKQ.mk ?_ ?_ h
    ·simp only [kJ,eV,eL,Q.guard,T8,bf,aT]
     rw [T1 hb]
     simp [Q.opt,Q.bind,Q.run]
    ·simp only [kJ,eV,eL,Q.guard,T8,bf]
     rw [T1 hb]
     simp [Q.opt,Q.bind,Q.reads]
   ·cases hz
  ·split at hz
   ·rename_i hb
    cases hz
    refine OKQ.mk ?_ ?_ h
    ·simp [kJ,eV,eL,bf,hb,Q.opt,Q.bind,Q.run,aT]
    ·simp [kJ,eV,eL,bf,hb,Q.opt,Q.bind,Q.reads]
   ·cases hz
  ·cases hz
 ·obtain ⟨zl,zh,hzl,hzh,hb,h⟩:=vD h
  refine ⟨zl,zh,ew hl hzl,ew hh hzh,OKQ.mk ?_ ?_ h⟩
  ·simp [kJ,eV,eL,bf,hb,Q.opt,Q.bind,Q.run,aT]
  ·simp [kJ,eV,eL,bf,hb,Q.opt,Q.bind,Q.reads]
 ·cases h
end
section
variable {P:Program} {Fn:Nat→List D→aq} {FnD:D→List Sh→List D→aq} {m:Nat} {r:Nat×List Yr} {ob:Ur}
theorem vx {ρ:Operand→cw} {size n:Nat}:∀ {parts:List (Nat×Operand)} {rows:Rr} {k:List (List D)→Ur→List Nat→aq},rows.length=n→A3 (af Fn FnD m) ob size n rows (parts.map fun p=>(p.1,ρ p.2)) k=some r →
  ∃ rows' us rd,(dl (fun x=>eV (ρ x)) size rows parts).run (ai (av ob))=some (rows',av us)∧(∀ q∈(dl (fun x=>eV (ρ x)) size rows parts).reads (ai (av ob)),q∈rd)∧k rows' us rd=some r
 | [],rows,k,hn,h=>⟨rows,[],[],by simp [dl,Q.run,aT],by simp [dl,Q.reads],h⟩
 | (i,x)::rest,rows,k,hn,h=>by
  simp only [Tl,A3] at h
  split at h
  ·cases h
  ·rename_i cs hcs
   split at h
   ·rename_i hc
    obtain ⟨ds,us,rd,h1,h2,h⟩:=j3 h
    obtain ⟨rows',us',rd',h3,h4,h⟩:=vx (rows:=rows.set i ds) (by simp [hn]) h
    have hce:(eV (ρ x)).cells=some (cn cs):=by rw [nq,hcs];rfl
    have hgd:(decide ((cn cs).length=size∧i < rows.length))=true:=by simp [fE,hc,hn]
    refine ⟨_,_,_,?_,?_,h⟩
    ·simp only [dl,hce,Q.opt,Q.bind,hgd,Q.guard,Q.run_bind,h1,h3,Va,Q.run,i7]
    ·intro q hq
     simp only [dl,hce,Q.opt,Q.bind,hgd,Q.guard,Q.reads_bind,h1,h3,Q.reads,Tt,V6] at hq
     rcases hq with hq | hq
     ·exact Vm _ (h2 q hq)
     ·exact Vh _ (h4 q hq)
   ·cases h
theorem G1 {es:Nat} {x:cw} {k:Rr→List Nat→aq} (h:Lf (af Fn FnD m) es ob x k=some r):∃ rows rd,(dL es (eV x)).run (ai (av ob))=some rows∧(∀ q∈(dL es (eV x)).reads (ai (av ob)),q∈rd)∧k rows rd=some r:=by
 unfold Lf at h
 split at h
 ·exact ⟨[],[],by simp [dL,eV,eL,Q.run],by simp [dL,eV,eL,Q.reads],h⟩
 ·obtain ⟨rows,hr,h⟩:=pT h
  refine ⟨rows,[],?_,?_,h⟩
  ·unfold jj at hr
   split at hr
   ·cases hr;simp [dL,eV,eL,Q.run]
   ·split at hr
    ·rename_i hs;cases hr;simp [dL,eV,eL,Q.run,Q.guard,hs]
    ·cases hr
   ·cases hr
  ·unfold jj at hr
   split at hr
   ·simp [dL,eV,eL,Q.reads]
   ·split at hr
    ·rename_i hs;simp [dL,eV,eL,Q.reads,Q.guard,hs]
    ·cases hr
   ·cases hr
 ·rename_i key off n c
  split at h
  ·rename_i rows size elem own hk
   split at h
   ·rename_i hs
    subst hs
    obtain ⟨hc,h⟩:=bI h
    have hc':c=rows.length:=hc
    refine ⟨_,_,?_,?_,h⟩
    ·simp [dL,eV,eL,Q.run,az,hk,eO,Q.guard,hc',af]
    ·simp [dL,eV,eL,Q.reads,az,hk,eO,Q.guard,hc']
   ·cases h
  ·cases h
 ·cases h
theorem zr {dst:Option Nat} {elem size bytes:Nat} {s:cw} {new:Rr} {rd:List Nat} {k:K3 D Nat Rr Mr aq} (h:uo (af Fn FnD m) ob dst elem size bytes s new rd k=some r) :
  ∃ v us rd',(ee dst elem size bytes (eV s) new).run (ai (av ob))=some (eV v,av us)∧(∀ q∈(ee dst elem size bytes (eV s) new).reads (ai (av ob)),q∈rd')∧k v us (rd++rd')=some r:=by
 unfold uo at h
 have nilc:pF (af Fn FnD m) ob dst elem size bytes (.one .nil) new rd k=some r→∃ v us rd',(ee dst elem size bytes (.one (.d (.lit (.slice none 0 0)))) new).run (ai (av ob))=some (eV v,av us)∧(∀ q∈(ee dst elem size bytes (.one (.d (.lit (.slice none 0 0)))) new).reads (ai (av ob)),q∈rd')∧k v us (rd++rd')=some r:=by
  intro h
  unfold pF at h
  rcases pU h with ⟨hn0,h9⟩ | ⟨hne,h⟩
  ·subst hn0
   refine ⟨.one .nil,[],[],?_,?_,by simpa using h9⟩
   ·simp [ee,eV,eL,Q.run,aT]
   ·simp [ee,Q.reads]
  ·obtain ⟨h1,h2,h⟩:=kY h
   have h1':new.length*bytes≤140737488355328:=h1
   have h2':new.length≤maxLen:=h2
   obtain ⟨v,us,rd',h3,h4,h⟩:=fC (v':=fun key=>.one (.slk key 0 new.length new.length)) h (fun q=>by simp [eV,eL,af])
   refine ⟨v,us,rd',?_,?_,h⟩
   ·simp only [ee]
    rw [T5 hne,show decide (new.length*bytes≤140737488355328∧new.length≤maxLen)=true from by simp [h1',h2']]
    exact h3
   ·intro q hq
    simp only [ee] at hq
    rw [T5 hne,show decide (new.length*bytes≤140737488355328∧new.length≤maxLen)=true from by simp [h1',h2']] at hq
    exact h4 q hq
 split at h
 ·exact nilc h
 ·obtain ⟨rfl,h⟩:=iP h
  exact nilc h
 ·rename_i key n c
  split at h
  ·rename_i rows size' elem' own hk
   split at h
   ·split at h
    ·rename_i hse
     obtain ⟨rfl,rfl⟩:=hse
     obtain ⟨hc,h⟩:=bI h
     have hc':c=rows.length:=hc
     obtain ⟨hn,h⟩:=bI h
     have hn':n=rows.length:=hn
     obtain ⟨h1,h2,h9⟩:=kY h
     have h1':(n+new.length)*bytes≤140737488355328:=h1
     have h2':n+new.length≤maxLen:=h2
     subst hn' hc'
     refine ⟨_,_,[key],?_,?_,h9⟩
     ·simp [ee,eV,eL,Q.run,az,hk,eO,Q.guard,h1',h2',af,aT,bw]
     ·simp [ee,eV,eL,Q.reads,az,hk,eO,Q.guard,h1',h2']
    ·cases h
   ·cases h
  ·cases h
 ·cases h
theorem As {x:D} {v:Value} (h:rU x=some v):x=.lit v:=by
 unfold rU at h;split at h<;>cases h;rfl
theorem E1 {kd:Nat} {agg:Bool} {zs:List Value} {mm:Mr} {key:D} {p:List D×D} (h:jI kd zs mm key=some p):∃ v b,key=.lit v∧j0 kd v=true∧p.2=.lit (.bool b)∧p.1.length=zs.length∧(dY kd v mm.1 0).bind (o5 agg zs mm.2)=(Fu agg (p.1.map .d)).map fun u=>(u,b):=by
 unfold jI at h
 split at h
 ·rename_i v hv
  have:=As hv
  subst this
  split at h
  ·rename_i hk
   split at h
   ·rename_i j hf
    split at h
    ·rename_i w hw
     split at h
     ·rename_i hl
      cases h
      exact ⟨v,true,rfl,hk,rfl,hl,by simp [hf,o5,hw]⟩
     ·cases h
    ·cases h
   ·rename_i hf
    cases h
    refine ⟨v,false,rfl,hk,rfl,by simp,?_⟩
    simp [hf,o5,gr,W0]
   ·cases h
  ·cases h
 ·cases h
theorem DZ {kd:Nat} {agg ok:Bool} {zs:List Value} {x:cw} {key:D} {k:K3 D Nat Rr Mr aq} (h:E0 (af Fn FnD m) kd agg ok zs ob x key k=some r):∃ v,key=.lit v∧j0 kd v=true∧OKQ ob (kw kd agg ok zs (eV x) v) k r:=by
 have ni:∀ (mm:Mr) (rd:List Nat) (F:List D→D→aq),(af Fn FnD m).look kd zs mm key F=some r→(∀ w f,F w f=some r→∃ v,DV agg ((cellsOf (af Fn FnD m) zs.length w).map .d)=some v∧k (if ok then .tup [v,.one (.d f)] else v) [] rd=some r)→∃ v u b,key=.lit v∧j0 kd v=true∧(dY kd v mm.1 0).bind (o5 agg zs mm.2)=some (eV u,b)∧k (if ok then .tup [u,.one (.d (.lit (.bool b)))] else u) [] rd=some r:=by
  intro mm rd F h hF
  obtain ⟨p,hp,h⟩:=C6 h
  obtain ⟨v,b,h1,h2,h3,h4,h5⟩:=E1 (agg:=agg) hp
  obtain ⟨u,hu,h⟩:=hF _ _ h
  rw [ed h4] at hu
  refine ⟨v,u,b,h1,h2,?_,by rw [←h3];exact h⟩
  rw [h5,← ES,mkV_e,hu];rfl
 have tupe:∀ (u:cw) (b:Bool),eV (if ok then .tup [u,.one (.d (.lit (.bool b)))] else u)=if ok then .tup [eV u,cO (.bool b)] else eV u:=by
  intro u b;cases ok<;>simp [eV,cL,eL,cO]
 unfold E0 at h
 simp only at h
 split at h
 ·rename_i y
  obtain ⟨mm,hm,h⟩:=vF h
  obtain ⟨v,u,b,h1,h2,h3,h4⟩:=ni mm [] _ h (fun w f hw=>by split at hw;exact ⟨_,‹_›,hw⟩;cases hw)
  refine ⟨v,h1,h2,OKQ.mk ?_ ?_ h4⟩
  ·rw [tupe,aT]
   unfold zp at hm
   split at hm
   ·split at hm
    ·rename_i hg
     cases hm
     subst hg
     simp only at h3
     simp [kw,eV,eL,Q.guard,h3,Q.opt,Q.bind,Q.run]
    ·cases hm
   ·cases hm
    have h3':o5 agg zs [] none=some (eV u,b):=by simpa [dY] using h3
    simp [kw,eV,eL,h3',Q.opt,Q.bind,Q.run]
   ·cases hm
  ·unfold zp at hm
   split at hm
   ·split at hm
    ·rename_i hg
     cases hm
     subst hg
     simp only at h3
     simp [kw,eV,eL,Q.guard,h3,Q.opt,Q.bind,Q.reads]
    ·cases hm
   ·cases hm
    have h3':o5 agg zs [] none=some (eV u,b):=by simpa [dY] using h3
    simp [kw,eV,eL,h3',Q.opt,Q.bind,Q.reads]
   ·cases hm
 ·rename_i q
  split at h
  ·rename_i agg' mm own hk
   split at h
   ·rename_i hg
    have hg':agg=agg':=by simpa using hg
    subst hg'
    obtain ⟨v,u,b,h1,h2,h3,h4⟩:=ni mm [q] _ h (fun w f hw=>by split at hw;exact ⟨_,‹_›,hw⟩;cases hw)
    refine ⟨v,h1,h2,OKQ.mk ?_ ?_ h4⟩
    ·rw [tupe,aT]
     simp [kw,eV,eL,Q.run,Q.bind,az,hk,eO,Q.guard,h3,Q.opt]
    ·simp [kw,eV,eL,Q.reads,Q.bind,az,hk,eO,Q.guard,h3,Q.opt]
   ·cases h
  ·cases h
 ·cases h
theorem FU {kd:Nat} {agg:Bool} {x v:cw} {key:D} {k:K3 D Nat Rr Mr aq} (h:La (af Fn FnD m) kd agg ob x key v k=some r):∃ kv,key=.lit kv∧OKQ ob (va kd agg (eV x) kv (eV v)) k r:=by
 unfold La at h
 split at h
 ·rename_i q
  split at h
  ·rename_i agg' mm own hk
   split at h
   ·rename_i hc
    simp only [Te,X9] at hc
    obtain ⟨⟨rfl,rfl⟩,ha⟩:=hc
    split at h
    ·cases h
    ·rename_i cs hcs
     obtain ⟨ds,us,rd,h1,h2,h⟩:=j3 h
     split at h
     ·obtain ⟨m',hm,h⟩:=Dy h
      unfold rO at hm
      split at hm
      ·rename_i kv hkv
       have:=As hkv
       subst this
       split at hm
       ·rename_i hkey
        have hce:(eV v).cells=some (cn cs):=by rw [nq,hcs];rfl
        have hag:(eE (eV v)==agg)=true:=by rw [GM];simpa using ha
        refine ⟨kv,rfl,?_⟩
        split at hm
        ·rename_i j hf
         cases hm
         refine OKQ.mk ?_ ?_ h
         ·simp only [va,eV,eL,Q.run,az,hk,Th,eO,hag,hkey,Xu,Wj,Q.guard,hce,Q.opt,Q.bind,Q.run_bind,h1,Va,aT,Xi,hf,bw]
         ·intro y hy
          simp only [va,eV,eL,Q.reads,az,hk,Th,eO,hag,hkey,Xu,Wj,Q.guard,hce,Q.opt,Q.bind,Q.reads_bind,h1,aT,Xi,hf,Tt,Ti] at hy
          rcases hy with rfl | hy
          ·simp
          ·exact Ts _ (h2 y hy)
        ·rename_i hf
         cases hm
         refine OKQ.mk ?_ ?_ h
         ·simp only [va,eV,eL,Q.run,az,hk,Th,eO,hag,hkey,Xu,Wj,Q.guard,hce,Q.opt,Q.bind,Q.run_bind,h1,Va,aT,Xi,hf,bw]
         ·intro y hy
          simp only [va,eV,eL,Q.reads,az,hk,Th,eO,hag,hkey,Xu,Wj,Q.guard,hce,Q.opt,Q.bind,Q.reads_bind,h1,aT,Xi,hf,Tt,Ti] at hy
          rcases hy with rfl | hy
          ·simp
          ·exact Ts _ (h2 y hy)
        ·cases hm
       ·cases hm
      ·cases hm
     ·cases h
   ·cases h
  ·cases h
 ·cases h
theorem Gt {mx:Bool} {a b z:D} (h:mmD mx a b=some z):mm2 mx (.one (.d a)) (.one (.d b))=some (.one (.d z)):=by
 unfold mmD at h
 split at h
 ·split at h
  ·rename_i hk;cases h;simp [mm2,vInt?,hk,cO]
  ·cases h
 ·cases h
theorem yz {mx:Bool}:∀ {l:List D} {a:D} {k:D→aq},mmK (af Fn FnD m) mx a l k=some r→∃ z,LZ mx (.one (.d a)) (l.map fun x=>.one (.d x))=some (.one (.d z))∧k z=some r
 | [],a,k,h=>⟨a,rfl,h⟩
 | y::l,a,k,h=>by
  simp only [mmK] at h
  obtain ⟨z,hz,h⟩:=Gg h
  obtain ⟨z',h1,h2⟩:=yz h
  exact ⟨z',by simp only [Tl,LZ,Gt hz,Va];exact h1,h2⟩
theorem pR {ρ:Operand→cw}:∀ {xs:List Operand} {ys:List D},s5 (af Fn FnD m) ρ xs=some ys→xs.map (fun x=>eV (ρ x))=ys.map fun y=>.one (.d y)
 | [],ys,h=>by simp only [s5,T3] at h;subst h;rfl
 | x::xs,ys,h=>by
  simp only [s5] at h
  split at h
  ·rename_i y ys' h1 h2
   cases h
   simp only [Tl,fG h1,pR h2]
  ·cases h
theorem dU:∀ {xs:List iD} {ys:List D},oI (af Fn FnD m) xs=some ys→cn xs=ys.map .d
 | [],ys,h=>by simp only [oI,T3] at h;subst h;rfl
 | x::xs,ys,h=>by
  simp only [oI] at h
  split at h
  ·rename_i y ys' h1 h2
   cases h
   simp only [cn,dc h1,dU h2,Tl]
  ·cases h
theorem B9 {op:BinOp} {t:Nat} {a b z:D} (h:wR op (B8 P t) a b=some z):kN P op t (.one (.d a)) (.one (.d b))=some (.one (.d z)):=by
 unfold wR at h
 split at h
 ·simp only [Ta] at h
  obtain ⟨v,hv,rfl⟩:=h
  simp [kN,hv,cO]
 ·split at h
  ·rename_i hb
   split at h
   ·cases h;simp [kN,hb,cO]
   ·cases h;simp [kN,hb,cO]
   ·cases h
  ·cases h
 ·simp only [Ta] at h
  obtain ⟨v,hv,rfl⟩:=h
  simp [kN,hv,cO]
 ·cases h
theorem Hh {op:BinOp} {t:Nat} {x y:cw} {k:K3 D Nat Rr Mr aq} (h:N0 (af Fn FnD m) P op t x y k=some r):OKQ ob (bf (kN P op t (eV x) (eV y))) k r:=by
 unfold N0 at h
 split at h
 ·split at h
  ·rename_i hel
   split at h
   ·rename_i a ha
    rcases sc h with ⟨rfl,h⟩ | ⟨s,rows,rfl,h⟩
    ·refine OKQ.mk ?_ ?_ h<;>simp [eV,dc ha,kN,Cj,hel,bf,Q.opt,Q.bind,Q.run,Q.reads,eL,aT,cO]
    ·refine OKQ.mk ?_ ?_ h<;>simp [eV,dc ha,kN,Cj,hel,bf,Q.opt,Q.bind,Q.run,Q.reads,eL,aT,cO]
   ·rename_i a ha
    rcases sc h with ⟨rfl,h⟩ | ⟨s,rows,rfl,h⟩
    ·refine OKQ.mk ?_ ?_ h<;>simp [eV,dc ha,kN,Cj,hel,bf,Q.opt,Q.bind,Q.run,Q.reads,eL,aT,cO]
    ·refine OKQ.mk ?_ ?_ h<;>simp [eV,dc ha,kN,Cj,hel,bf,Q.opt,Q.bind,Q.run,Q.reads,eL,aT,cO]
   ·cases h
  split at h
  ·rename_i a b ha hb
   obtain ⟨z,hz,h⟩:=DD h
   refine OKQ.mk ?_ ?_ h
   ·simp [eV,dc ha,dc hb,B9 hz,bf,Q.opt,Q.bind,Q.run,eL,aT]
   ·simp [eV,dc ha,dc hb,B9 hz,bf,Q.opt,Q.bind,Q.reads]
  ·cases h
 ·rename_i xs ys
  split at h
  ·rename_i ks xs' ys' hks hxs hys
   split at h
   ·rename_i hag
    split at h
    ·obtain ⟨b,hb,h⟩:=vC h
     refine OKQ.mk ?_ ?_ h
     ·simp [eV,dU hxs,dU hys,kN,hks,hag,hb,bf,Q.opt,Q.bind,Q.run,eL,aT,cO]
     ·simp [eV,dU hxs,dU hys,kN,hks,hag,hb,bf,Q.opt,Q.bind,Q.reads]
    ·obtain ⟨b,hb,h⟩:=vC h
     refine OKQ.mk ?_ ?_ h
     ·simp [eV,dU hxs,dU hys,kN,hks,hag,hb,bf,Q.opt,Q.bind,Q.run,eL,aT,cO]
     ·simp [eV,dU hxs,dU hys,kN,hks,hag,hb,bf,Q.opt,Q.bind,Q.reads]
    ·cases h
   ·cases h
  ·cases h
 ·cases h
theorem Ea {x:D} {n:Nat} (h:Ax x=some n):Cn (.one (.d x))=some n:=by
 unfold Ax at h;split at h<;>cases h<;>rfl
end
section
variable {P:Program} {Fn:Nat→List D→aq} {FnD:D→List Sh→List D→aq} {m:Nat} {r:Nat×List Yr} {ob:Ur}
theorem OKQ.pure {o:Option V} {v:cw} {k:K3 D Nat Rr Mr aq} (ho:o=some (eV v)) (h:k v [] []=some r):OKQ ob (bf o) k r:=by
 subst ho;exact OKQ.mk (us:=[]) (by simp [bf,Q.opt,Q.bind,Q.run,aT]) (by simp [bf,Q.opt,Q.bind,Q.reads]) h
theorem OKQ.cond {q:Q cD} {k:K3 D Nat Rr Mr aq} (b:Bool) (hb:b=true) (h:OKQ ob q k r):OKQ ob (Q.guard b q) k r:=by subst hb;exact h
theorem OKQ.some {α:Type} {o:Option α} {a:α} {f:α→Q cD} {k:K3 D Nat Rr Mr aq} (ho:o=.some a) (h:OKQ ob (f a) k r):OKQ ob ((Q.opt o).bind f) k r:=by subst ho;exact h
theorem OKQ.bind {α:Type} {q:Q α} {a:α} {f:α→Q cD} {k:K3 D Nat Rr Mr aq} {v:cw} {us:Ur} {rd rd':List Nat} (h1:q.run (ai (av ob))=.some a) (h2:∀ x∈q.reads (ai (av ob)),x∈rd) (h3:(f a).run (ai (av ob))=.some (eV v,av us)) (h4:∀ x∈(f a).reads (ai (av ob)),x∈rd') (h:k v us (rd++rd')=.some r):OKQ ob (q.bind f) k r:=by
 refine ⟨v,us,rd++rd',by rw [Q.run_bind,h1];exact h3,fun x hx=>?_,h⟩
 rw [Q.reads_bind,h1] at hx
 rcases V6.1 hx with hx | hx
 ·exact Vm _ (h2 x hx)
 ·exact Vh _ (h4 x hx)
theorem zg {dst:Option Nat} {ρ:Operand→cw} {c:Call} {k:K3 D Nat Rr Mr aq} (h:ui (af Fn FnD m) P ob dst ρ c k=some r):OKQ ob (eR P dst (fun x=>eV (ρ x)) (.call c)) k r:=by
 unfold ui at h
 simp only [eR]
 split at h
 ·
  rename_i hc
  simp only [hc]
  split at h
  ·rename_i x hx
   simp only [hx]
   split at h
   ·rename_i t ht
    simp only [ht]
    split at h
    ·rename_i e he
     simp only [he]
     split at h
     ·rename_i q o n c' hρ
      refine OKQ.pure (v:=.one (.d (.lit (.int .i64 n)))) ?_ h
      simp [hρ,eV,eL,Cn,cO]
     ·rename_i hρ
      refine OKQ.pure (v:=.one (.i .i64 0)) ?_ h
      simp [hρ,eV,eL,Cn,cO]
     ·rename_i y hρ
      obtain ⟨n,hn,h⟩:=C8 h
      refine OKQ.pure (v:=.one (.d (.lit (.int .i64 n)))) ?_ h
      simp [hρ,eV,eL,Ea hn,cO]
     ·cases h
    ·rename_i he
     simp only [he]
     split at h
     ·rename_i hs
      simp only [hs,Q.guard]
      split at h
      ·rename_i y hy
       obtain ⟨s,rfl,h⟩:=C7 h
       refine OKQ.pure (v:=.one (.d (.lit (.int .i64 s.size)))) ?_ h
       simp [fG hy,yf,eV,eL,cO]
      ·cases h
     ·cases h
   ·cases h
  ·cases h
 ·
  rename_i hc
  simp only [hc]
  split at h
  ·rename_i x t hx ht
   simp only [hx,ht]
   split at h
   ·rename_i hρ
    split at h
    ·rename_i he
     have hρ':eV (ρ x)=.one (.d (.lit (.slice none 0 0))):=by rw [hρ];rfl
     simp only [hρ',he,Q.guard]
     exact OKQ.mk (v:=.one (.i .i64 0)) (us:=[]) (by simp [Q.run,eV,eL,cO,aT]) (by simp [Q.reads]) h
    ·cases h
   ·rename_i y hρ
    split at h
    ·rename_i he
     obtain ⟨rfl,h⟩:=iP h
     have hρ':eV (ρ x)=.one (.d (.lit (.slice none 0 0))):=by rw [hρ];rfl
     simp only [hρ',he,Q.guard]
     exact OKQ.mk (v:=.one (.i .i64 0)) (us:=[]) (by simp [Q.run,eV,eL,cO,aT]) (by simp [Q.reads]) h
    ·cases h
   ·cases h
  ·cases h
 ·
  rename_i hc
  simp only [hc]
  split at h
  ·rename_i x t hx ht
   simp only [hx,ht]
   split at h
   ·rename_i zs hz
    obtain ⟨e,he,hze⟩:=Vg.1 hz
    split at h
    ·rename_i hpos
     have body:OKQ ob (dq zs (eV (ρ x))) k r→OKQ ob ((Q.opt (cp P t)).bind fun e=>(Q.opt (cE P e)).bind fun zs=>Q.guard (decide (0 < zs.length)) (dq zs (eV (ρ x)))) k r:=fun hb=>by
      exact OKQ.some he (OKQ.some hze (OKQ.cond _ (by simp [hpos]) hb))
     refine body ?_
     split at h
     ·rename_i hρ
      rw [hρ]
      exact OKQ.mk (v:=.tup []) (us:=[]) (by simp [dq,Q.run,eV,eL,cL,aT]) (by simp [dq,eV,eL,Q.reads]) h
     ·rename_i y hρ
      obtain ⟨rfl,h⟩:=iP h
      rw [hρ]
      exact OKQ.mk (v:=.tup []) (us:=[]) (by simp [dq,Q.run,eV,eL,cL,aT]) (by simp [dq,eV,eL,Q.reads]) h
     ·rename_i key off n c hρ
      split at h
      ·rename_i rows size elem hk
       split at h
       ·rename_i hsz
        obtain ⟨hcc,h⟩:=bI h
        obtain ⟨hoff,h⟩:=bI h
        rw [hρ]
        have hl:(zs.map (af Fn FnD m).lit)=zs.map D.lit:=rfl
        have hob:ai (av ob) key=some (.arr rows size elem true):=by rw [az,hk];rfl
        have hlen:c=rows.length:=hcc
        cases off with
        | none =>
         have hoff':n=rows.length:=hoff
         have h1:(dq zs (.one (.slk key 0 n c))).run (ai (av ob))=some (.tup [],[(key,.arr (List.replicate n (zs.map D.lit)) size elem true)]):=by
          simp [dq,Q.run,hob,hlen,hsz,hoff',Q.guard]
         have h2:(dq zs (.one (.slk key 0 n c))).reads (ai (av ob))=[key]:=by
          simp [dq,Q.reads,hob,hlen,hsz,hoff',Q.guard]
         exact OKQ.mk (v:=.tup []) (us:=[(key,.arr (List.replicate n (zs.map D.lit)) size elem true)]) (rd:=[key]) h1 (fun q hq=>by
          have hq':q∈(dq zs (.one (.slk key 0 n c))).reads (ai (av ob)):=hq
          rw [h2] at hq';exact hq') h
        | some o =>
         have hoff':o+n=rows.length:=hoff
         have h1:(dq zs (.one (.slk key o n c))).run (ai (av ob))=some (.tup [],[(key,.arr (rows.take o++List.replicate n (zs.map D.lit)) size elem true)]):=by
          simp [dq,Q.run,hob,hlen,hsz,hoff',Q.guard]
         have h2:(dq zs (.one (.slk key o n c))).reads (ai (av ob))=[key]:=by
          simp [dq,Q.reads,hob,hlen,hsz,hoff',Q.guard]
         exact OKQ.mk (v:=.tup []) (us:=[(key,.arr (rows.take o++List.replicate n (zs.map D.lit)) size elem true)]) (rd:=[key]) h1 (fun q hq=>by
          have hq':q∈(dq zs (.one (.slk key o n c))).reads (ai (av ob)):=hq
          rw [h2] at hq';exact hq') h
       ·cases h
      ·cases h
     ·cases h
    ·cases h
   ·cases h
  ·cases h
 ·
  rename_i hc
  simp only [hc]
  split at h
  ·rename_i a l hl
   obtain ⟨z,h1,h2⟩:=yz h
   refine OKQ.pure (v:=.one (.d z)) ?_ h2
   rw [pR hl,Tl]
   simp only [lV,h1,eV,eL]
  ·cases h
 ·
  rename_i hc
  simp only [hc]
  split at h
  ·rename_i a l hl
   obtain ⟨z,h1,h2⟩:=yz h
   refine OKQ.pure (v:=.one (.d z)) ?_ h2
   rw [pR hl,Tl]
   simp only [lV,h1,eV,eL]
  ·cases h
 ·
  rename_i hc
  simp only [hc]
  split at h
  ·rename_i s x t t' hs ht
   simp only [hs,ht]
   split at h
   ·cases h
   ·rename_i e he
    split at h
    ·rename_i sz bs zs h1 h2 h3
     split at h
     ·rename_i ik hik
      simp only [hik]
      have gapc:∀ y,iO (af Fn FnD m) (ρ x)=some y→0 < sz∧zs.length=sz→eV (ρ s)=.one (.d (.lit (.slice none 0 0)))→((af Fn FnD m).gap bs y fun n=>fb (af Fn FnD m) ob dst (.arr ((af Fn FnD m).repl n (zs.map (af Fn FnD m).lit)) sz e true) (fun key=>.one (.slk key none n n)) k)=some r→OKQ ob (match eV (ρ s) with
        | .one (.d (.lit (.slice none 0 0)))=>(Q.opt (cp P t)).bind fun e=>(Q.opt (bE P e)).bind fun sz=>(Q.opt (ia P e)).bind fun bs=>(Q.opt (cE P e)).bind fun zs=>(Q.opt (vInt? (eV (ρ x)))).bind fun n =>
         Q.guard (decide (0 < sz∧zs.length=sz∧0 < n.2∧bs*n.2≤140737488355328∧n.2≤9223372036854775807)) (fresh dst (.arr (List.replicate n.2.toNat (zs.map .lit)) sz e true) fun k=>.one (.slk k 0 n.2.toNat n.2.toNat))
        | _=>.fail) k r:=by
       intro y hy hcond hρ' h
       obtain ⟨a,n,rfl,hn,h⟩:=DB h
       simp only [hρ',he,h1,h2,h3,Q.opt,Q.bind,fG hy,vInt?]
       have hn1:0 < n:=hn.1
       have hn2:(bs:Int)*n≤140737488355328:=hn.2.1
       have hn3:n≤9223372036854775807:=hn.2.2
       refine OKQ.cond _ (by simp [hcond,hn1,hn2,hn3]) ?_
       have:=fC (v':=fun key=>.one (.slk key 0 n.toNat n.toNat)) h (fun q=>by simp [eV,eL])
       simpa [eO,af] using this
      split at h
      ·rename_i y hρ hy
       split at h
       ·rename_i hcond
        exact gapc y hy hcond (by rw [hρ];rfl) h
       ·cases h
      ·rename_i x0 y hρ hy
       split at h
       ·rename_i hcond
        obtain ⟨rfl,h⟩:=iP h
        exact gapc y hy hcond (by rw [hρ];rfl) h
       ·cases h
      ·cases h
     ·rename_i hik
      simp only [hik]
      split at h
      ·rename_i hcond
       simp only [he,h1,h2,h3,Q.opt,Q.bind]
       refine OKQ.cond _ (by simp [hcond]) ?_
       obtain ⟨rows,rd,g1,g2,h⟩:=G1 h
       obtain ⟨v,us,rd',g3,g4,h⟩:=zr h
       exact OKQ.bind g1 g2 g3 g4 h
      ·cases h
    ·cases h
  ·cases h
 ·cases h
theorem LX {dst:Option Nat} {ρ:Operand→cw} {op:Op} {k:K3 D Nat Rr Mr aq} (h:oM (af Fn FnD m) P ob dst ρ op k=some r):OKQ ob (eR P dst (fun x=>eV (ρ x)) op) k r:=by
 cases op with
 | move x=>exact OKQ.ret0 h
 | assign x=>exact OKQ.ret0 h
 | pick c a b =>
  simp only [oM] at h
  simp only [eR]
  split at h
  ·rename_i hc
   exact OKQ.pure (v:=ρ a) (by simp [hc,eV,eL,vBool?]) h
  ·rename_i hc
   exact OKQ.pure (v:=ρ b) (by simp [hc,eV,eL,vBool?]) h
  ·rename_i y hc
   rcases gF h with ⟨rfl,h⟩ | ⟨rfl,h⟩
   ·exact OKQ.pure (v:=ρ a) (by simp [hc,eV,eL,vBool?]) h
   ·exact OKQ.pure (v:=ρ b) (by simp [hc,eV,eL,vBool?]) h
  ·cases h
 | box elem x =>
  simp only [oM] at h
  simp only [eR]
  split at h
  ·rename_i cs hcs
   refine OKQ.some (a:=cn cs) (by rw [nq,hcs];rfl) ?_
   cases dst with
   | some q=>exact fC (o:=.box cs elem) h (fun q=>by simp [eV,eL])
   | none =>
    obtain ⟨ds,us,rd,h1,h2,h⟩:=j3 h
    refine OKQ.mk (v:=.one (.dp ds 0)) (us:=us) (rd:=rd) ?_ ?_ h
    ·rw [Q.run_bind,h1];rfl
    ·intro q hq
     rw [Q.reads_bind,h1] at hq
     simp only [Q.reads,Tt] at hq
     exact h2 q hq
  ·cases h
 | alloc elem =>
  simp only [oM] at h
  simp only [eR]
  split at h
  ·rename_i zs hz
   refine OKQ.some hz ?_
   have:=fC (v':=fun key=>.one (.ptr key 0)) h (fun q=>by simp [eV,eL])
   rwa [eO,tU] at this
  ·cases h
 | build t parts =>
  simp only [oM] at h
  simp only [eR]
  split at h
  ·rename_i zs hz
   split at h
   ·rename_i hc
    refine OKQ.some hz (OKQ.cond _ hc ?_)
    split at h
    ·rename_i cs hcs
     refine OKQ.pure (v:=.agg cs) ?_ h
     have:=EL (kf P t) (parts.toList.map fun p=>(p.1,ρ p.2)) (zs.map (wa (af Fn FnD m)))
     rw [tU,hcs,Vv] at this
     rw [show (parts.toList.map fun p=>(p.1,eV (ρ p.2)))=(parts.toList.map ((fun p=>(p.1,eV p.2)) ∘ fun p=>(p.1,ρ p.2))) from rfl,this]
     simp [eV]
    ·cases h
   ·cases h
  ·cases h
 | buildSlice t len parts =>
  simp only [oM] at h
  simp only [eR]
  split at h
  ·cases h
  ·rename_i e he
   split at h
   ·rename_i s zs hs hz
    split at h
    ·rename_i hc
     obtain ⟨rows,us,rd,h1,h2,h⟩:=vx (n:=len) (ρ:=ρ) (by simp) h
     cases dst with
     | none =>
      refine OKQ.some he (OKQ.some hs (OKQ.some hz (OKQ.cond _ (by simp [hc]) ?_)))
      have hl:(List.replicate len (zs.map (af Fn FnD m).lit))=List.replicate len (zs.map .lit):=rfl
      rw [hl] at h1 h2
      refine OKQ.bind (v:=.one (.d (.sl s rows))) (us:=us) (rd':=[]) h1 h2 ?_ ?_ (by rw [Tt];exact h)
      ·simp [ma,Q.bind,Q.run,eV,eL]
      ·intro x hx;simp [ma,Q.bind,Q.reads] at hx
     | some q0 =>
     obtain ⟨v,u,rd',h3,h4,h⟩:=fC (v':=fun key=>.one (.slk key 0 len len)) h (fun q=>by simp [eV,eL,af])
     refine OKQ.some he (OKQ.some hs (OKQ.some hz (OKQ.cond _ (by simp [hc]) ?_)))
     have hl:(List.replicate len (zs.map (af Fn FnD m).lit))=List.replicate len (zs.map .lit):=rfl
     rw [hl] at h1 h2
     refine OKQ.bind (v:=v) (us:=us++u) (rd':=rd') h1 h2 ?_ ?_ h
     ·rw [Q.run_bind,show (ma (some q0) rows s e len).run (ai (av ob))=some (eV v,av u) from h3]
      simp [Q.run,i7]
     ·intro x hx
      rw [Q.reads_bind,show (ma (some q0) rows s e len).run (ai (av ob))=some (eV v,av u) from h3] at hx
      simp only [Q.reads,Tt] at hx
      exact h4 x hx
    ·cases h
   ·cases h
 | load t a =>
  simp only [oM] at h
  simp only [eR]
  split at h
  ·rename_i g s hg hs
   exact OKQ.some hg (OKQ.some hs (vZ h))
  ·cases h
 | store t a x =>
  simp only [oM] at h
  simp only [eR]
  split at h
  ·rename_i cs hcs
   split at h
   ·rename_i hs
    exact OKQ.some (a:=cn cs) (by rw [nq,hcs];rfl) (OKQ.cond _ (by rw [fE];exact hs) (BY h))
   ·cases h
  ·cases h
 | nilCheck x =>
  simp only [oM] at h
  simp only [eR]
  split at h
  ·rename_i hρ;rw [hρ] at h ⊢;exact OKQ.ret0 (v:=.one (.ptr _ _)) h
  ·rename_i hρ;rw [hρ] at h ⊢;exact OKQ.ret0 (v:=.one (.pa _ _ _ _)) h
  ·rename_i hρ;rw [hρ] at h ⊢;exact OKQ.ret0 (v:=.one (.dp _ _)) h
  ·rename_i y hρ
   obtain ⟨⟨row,o,rfl⟩,h⟩:=ym h
   rw [hρ] at h ⊢
   exact OKQ.ret0 (v:=.one (.d (.dp row o))) h
  ·cases h
 | binOp op t x y z=>exact Hh h
 | unOp op t x =>
  simp only [oM] at h
  simp only [eR]
  split at h
  ·rename_i v hv
   exact OKQ.pure (v:=.one (.b !v)) (by simp [hv,eV,eL,V.lit?,cO]) h
  ·rename_i y hv
   obtain ⟨z,hz,h⟩:=A5 h
   unfold unD at hz
   split at hz
   ·cases hz
    exact OKQ.pure (by simp [hv,eV,eL,V.lit?,cO]) h
   ·cases hz
   ·cases hz
  ·split at h
   ·rename_i y hy
    obtain ⟨z,hz,h⟩:=A5 h
    unfold unD at hz
    split at hz
    ·cases hz
    ·cases hz
     refine OKQ.pure (v:=.one (.d _)) ?_ h
     simp [fG hy,V.lit?,cO,eV,eL]
    ·cases hz
   ·cases h
  ·cases h
 | makeFunc fn first captured =>
  simp only [oM] at h
  simp only [eR]
  split at h
  ·rename_i f caps h2 h3
   have e1:cY (first.toList.map fun x=>eV (ρ x))=some []:=by
    have:=gR (first.toList.map ρ)
    rw [h2,Vv] at this
    exact this
   have e2:cY (captured.toList.map fun x=>eV (ρ x))=some (cn caps):=by
    have:=gR (captured.toList.map ρ)
    rw [h3,Vv] at this
    exact this
   split at h
   ·rename_i hlt
    simp only [e1,e2,T1 hlt]
    exact OKQ.ret0 (v:=.one (.fn f caps)) h
   ·cases h
  ·rename_i f c cs h2 h3
   have e1:cY (first.toList.map fun x=>eV (ρ x))=some (eL c::cn cs):=by
    have:=gR (first.toList.map ρ)
    rw [h2,Vv] at this
    exact this
   have e2:cY (captured.toList.map fun x=>eV (ρ x))=some []:=by
    have:=gR (captured.toList.map ρ)
    rw [h3,Vv] at this
    exact this
   simp only [e1,e2]
   exact OKQ.ret0 (v:=.one (.fn (f+2000000) (c::cs))) h
  ·cases h
 | index t x ix =>
  simp only [oM] at h
  simp only [eR]
  split at h
  ·rename_i p hp
   split at h
   ·rename_i s g cs hs hg hx
    split at h
    ·rename_i kk z hix
     split at h
     ·rename_i hz
      obtain ⟨v,hv,h⟩:=fH h (fun v hv=>by
       have:=fA g s (z.toNat*s) cs
       rw [hv] at this
       exact this)
      refine OKQ.some (a:=(kk,z)) (by simp [hix,eV,eL,vInt?]) (OKQ.some hp (OKQ.some hs (OKQ.some hg ?_)))
      simp only [hx,eV]
      exact OKQ.cond _ (by simp [hz]) (OKQ.pure hv h)
     ·cases h
    ·rename_i y hix
     obtain ⟨kk,z,rfl,hz,h⟩:=sa h
     unfold Dp at h
     split at h
     ·rename_i kont hk
      rw [Tm] at hk
      obtain ⟨j,hj,rfl⟩:=Ta.1 hk
      have hjz:j=z.toNat:=by
       have:=(Tn.1 hj).2
       simpa using this.symm
      subst hjz
      obtain ⟨v,hv,h⟩:=fH h (fun v hv=>by
       have:=fA g s (z.toNat*s) cs
       rw [hv] at this
       exact this)
      refine OKQ.some (a:=(kk,z)) (by simp [hix,eV,eL,vInt?]) (OKQ.some hp (OKQ.some hs (OKQ.some hg ?_)))
      simp only [hx,eV]
      exact OKQ.cond _ (by simp [hz]) (OKQ.pure hv h)
     ·cases h
    ·cases h
   ·cases h
  ·cases h
 | convert src dst x =>
  simp only [oM] at h
  simp only [eR]
  split at h
  ·rename_i k0 kd y h1 h2 h3
   obtain ⟨a,n,rfl,h⟩:=DC h
   refine OKQ.some h1 (OKQ.some h2 (OKQ.some (a:=(a,n)) (by simp [fG h3,vInt?]) ?_))
   exact OKQ.ret0 (v:=.one (.d (.lit (.int kd (kd.wrap n))))) h
  ·cases h
 | makeInterface t x =>
  simp only [oM] at h
  simp only [eR]
  have fz:∀ zs:List D,(ez (zs.map L.d)).run (ai (av ob))=some (zs,[])∧(ez (zs.map L.d)).reads (ai (av ob))=[]:=by
   intro zs
   induction zs with
   | nil=>exact ⟨rfl,rfl⟩
   | cons c cs ih=>simp [ez,lC,Q.bind,Q.run_bind,Q.reads_bind,Q.run,Q.reads,ih.1,ih.2]
  split at h
  ·rename_i hc
   split at h
   ·rename_i y hg hy
    split at h
    ·rename_i z hz
     refine OKQ.cond _ (by simp [hc,hg,hy,eV,eE]) ?_
     have hz':=dc hz
     refine OKQ.some (a:=[z].map L.d) (by simp [hy,eV,hz',V.cells,L.isDef]) ?_
     refine OKQ.mk (v:=.one (.d (.ifc t false [z]))) (us:=[]) (rd:=[]) ?_ ?_ h
     ·rw [Q.run_bind,(fz [z]).1];simp [Q.run,hy,eV,eL,eE,aT]
     ·intro q hq;rw [Q.reads_bind,(fz [z]).1,(fz [z]).2] at hq;simp [Q.reads] at hq
    ·cases h
   ·rename_i ys hg hy
    split at h
    ·rename_i zs hz
     refine OKQ.cond _ (by simp [hc,hg,hy,eV,eE]) ?_
     have hz':=dU hz
     refine OKQ.some (a:=zs.map L.d) (by simp [hy,eV,hz',V.cells,L.isDef,W0]) ?_
     refine OKQ.mk (v:=.one (.d (.ifc t true zs))) (us:=[]) (rd:=[]) ?_ ?_ h
     ·rw [Q.run_bind,(fz zs).1];simp [Q.run,hy,eV,eL,eE,aT]
     ·intro q hq;rw [Q.reads_bind,(fz zs).1,(fz zs).2] at hq;simp [Q.reads] at hq
    ·cases h
   ·cases h
  ·cases h
 | makeSlice t l c =>
  simp only [oM] at h
  simp only [eR]
  split at h
  ·cases h
  ·rename_i e he
   split at h
   ·rename_i s zs bs hs hz hb
    split at h
    ·rename_i n n' hn hn'
     split at h
     ·rename_i hc
      obtain ⟨a,z,rfl,rfl,hz2,h⟩:=Dz h
      refine OKQ.some he (OKQ.some hs (OKQ.some hz (OKQ.some hb (OKQ.some (a:=(a,z)) (by simp [fG hn,vInt?]) (OKQ.some (a:=(a,z)) (by simp [fG hn',vInt?]) (OKQ.cond _ (by simp [hc,hz2]) ?_))))))
      have:=fC (v':=fun key=>.one (.slk key 0 z.toNat z.toNat)) h (fun q=>by simp [eV,eL])
      simpa [eO,af] using this
     ·cases h
    ·cases h
   ·cases h
 | slice t x lo hi mx =>
  simp only [oM] at h
  simp only [eR]
  split at h
  ·rename_i e he
   split at h
   ·rename_i l h' s hl hh hs
    obtain ⟨zl,zh,h1,h2,h3⟩:=Hb hl hh h
    exact OKQ.cond _ (by simp [he]) (OKQ.some h1 (OKQ.some h2 (OKQ.some he (OKQ.some hs h3))))
   ·cases h
  ·cases h
 | fieldAddr s x f =>
  simp only [oM] at h
  simp only [eR]
  split at h
  ·rename_i p hp
   split at h
   ·rename_i y hρ
    split at h
    ·rename_i n _
     obtain ⟨row,rfl,hl,h⟩:=sb h
     rw [ed hl] at h
     obtain ⟨v,h1,h2⟩:=fH (o':=fh p.1 (eV (.one (.dp row 0)))) h fun v hv=>oy hv
     refine OKQ.some hp (OKQ.pure ?_ h2)
     rw [hρ];exact h1
    ·cases h
   ·obtain ⟨v,h1,h2⟩:=fH (o':=fh p.1 (eV (ρ x))) h fun v hv=>oy hv
    exact OKQ.some hp (OKQ.pure h1 h2)
  ·cases h
 | field s x f =>
  simp only [oM] at h
  simp only [eR]
  split at h
  ·rename_i p cs hp hx
   obtain ⟨v,h1,h2⟩:=fH (o':=cm p.2.2 p.2.1 p.1 (cn cs)) h fun v hv=>by rw [fA,hv];rfl
   refine OKQ.some hp ?_
   have:eV (ρ x)=.agg (cn cs):=by rw [hx];simp [eV]
   simp only [this]
   exact OKQ.pure h1 h2
  ·cases h
 | indexAddr t x ix =>
  simp only [oM] at h
  simp only [eR]
  split at h
  ·rename_i i hi
   have hi':eV (ρ ix)=.one (eL i):=by rw [hi];simp [eV]
   split at h
   ·rename_i p hp
    split at h
    ·rename_i s hs
     obtain ⟨kk,z,h1,h2⟩:=sH (e:=p.2) h
     refine OKQ.some (a:=(kk,z)) (by rw [hi'];exact h1) ?_
     simp only [hp]
     exact OKQ.some hs h2
    ·cases h
   ·rename_i hp
    split at h
    ·rename_i e he
     split at h
     ·rename_i s hs
      obtain ⟨kk,z,h1,h2⟩:=sH (e:=0) h
      refine OKQ.some (a:=(kk,z)) (by rw [hi'];exact h1) ?_
      simp only [hp,he]
      exact OKQ.some hs h2
     ·cases h
    ·cases h
  ·cases h
 | makeMap t rr =>
  cases rr with
  | some _=>simp [oM,af] at h
  | none =>
   simp only [oM] at h
   simp only [eR]
   split at h
   ·rename_i kd g hk hg
    refine OKQ.cond _ (by simp [hk]) (OKQ.some hg ?_)
    have:=fC (v':=fun key=>.one (.mk key)) h (fun q=>by simp [eV,eL])
    simpa [eO,af] using this
   ·cases h
 | lookup t x ix ok =>
  simp only [oM] at h
  simp only [eR]
  split at h
  ·rename_i kd e hk he
   split at h
   ·rename_i g zs key hg hz hkey
    split at h
    ·rename_i hzs
     obtain ⟨v,h1,h2,h3⟩:=DZ h
     subst h1
     exact OKQ.some hk (OKQ.some he (OKQ.some hg (OKQ.some hz (OKQ.some (a:=v) (by simp [fG hkey,V.lit?]) (OKQ.cond _ (by simp [h2,hzs]) h3)))))
    ·cases h
   ·cases h
  ·cases h
 | mapUpdate t q kk v =>
  simp only [oM] at h
  simp only [eR]
  split at h
  ·rename_i kd g hk hg
   split at h
   ·rename_i key hkey
    obtain ⟨kv,h1,h2⟩:=FU h
    subst h1
    rcases hme:jv P t with _ | e
    ·rw [hme] at hg;cases hg
    ·rw [hme] at hg
     exact OKQ.some hk (OKQ.some rfl (OKQ.some hg (OKQ.some (a:=kv) (by simp [fG hkey,V.lit?]) h2)))
   ·cases h
  ·cases h
 | extract t i =>
  simp only [oM] at h
  simp only [eR]
  split at h
  ·rename_i vs hρ
   obtain ⟨v,h1,h2⟩:=fH (o':=(cL vs)[i]?) h fun v hv=>by rw [db,Tm,hv];rfl
   have:eV (ρ t)=.tup (cL vs):=by rw [hρ];simp [eV]
   simp only [this]
   exact OKQ.pure h1 h2
  ·cases h
 | call c=>exact zg h
 | _=>simp [oM,af] at h
end
end Go.VE
