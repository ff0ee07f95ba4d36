/- An evaluator whose data are abstract: what is known before the data is worked out, the rest is handed to a record of operations. -/
import Derived.Test.YtobeabinccohlaaGreatMc
namespace Go.VE
open Go.RowKit
section
inductive L3 (Δ N:Type) where
 | d (x:Δ)
 | b (v:Bool)
 | i (k:IntKind) (n:Int)
 | nil
 | dp (row:List Δ) (off:Nat)
 | fn (f:Nat) (caps:List (L3 Δ N))
 | slk (k:Nat) (off:Option N) (n c:N)
 | pa (k:Nat) (i:N) (off:Nat) (c:N)
 | ptr (k off:Nat)
 | mk (k:Nat)
 | undef
inductive V3 (Δ N:Type) where
 | one (x:L3 Δ N)
 | agg (xs:List (L3 Δ N))
 | tup (xs:List (V3 Δ N))
inductive O3 (Δ N R M:Type) where
 | box (cells:List (L3 Δ N)) (elem:Nat)
 | arr (rows:R) (size elem:Nat) (own:Bool)
 | mp (agg:Bool) (m:M) (own:Bool)
structure S3 (Δ N R M:Type) where
 env:List (Nat×V3 Δ N)
 ob:List (Nat×O3 Δ N R M)
 ys:List Nat
 pend:Option Ex
instance {Δ N:Type}:Inhabited (L3 Δ N):=⟨.undef⟩
instance {Δ N:Type}:Inhabited (V3 Δ N):=⟨.one .undef⟩
inductive Y (Δ N R M:Type) where
 | d (x:Δ)
 | n (x:N)
 | r (x:R)
 | m (x:M)
abbrev Sk:=S3 Unit Unit Unit Unit
inductive Sh where
 | one
 | agg (n:Nat)
 | ptr (n:Nat)
 | met (name:String) (n:Nat)
inductive RK where
 | d
 | own (size elem:Nat)
 | om (agg:Bool)
abbrev RS:=List (Bool×List RK)
structure Pr (Δ N R W M E Ω:Type) where
 fail:Ω
 out:Nat→List (Y Δ N R M)→Ω
 bnd:Ω→List (E→Ω)→Ω
 loop:List ((Nat→List (Y Δ N R M)→Ω)→E→Ω)→Nat→List (Y Δ N R M)→Ω
 call:Nat→List Δ→Ω
 callD:Δ→List Sh→List Δ→Ω
 miss:Nat→Nat→Nat→Nat→List Nat→Ex→S3 Δ N R M→RS→Ω
 cond:Δ→Ω→Ω→Ω
 ld:E→Nat→Δ
 ln:E→Nat→N
 lr:E→Nat→R
 lm:E→Nat→M
 lit:Value→Δ
 natD:N→Δ
 natN:Nat→N
 addN:N→N→N
 slD:Nat→R→Δ
 dpD:List Δ→Nat→Δ
 fnD:Nat→List Δ→Δ
 mpD:Bool→M→Δ
 ifD:Nat→Bool→List Δ→Δ
 len:R→N
 rows:List (List Δ)→R
 repl:N→List Δ→R
 app:R→R→R
 seg:R→Option N→N→R
 setR:R→N→List Δ→R
 emp:M
 cell:W→Nat→Δ
 eqN:N→N→Ω→Ω
 leN:N→N→Ω→Ω
 nilD:Δ→Ω→Ω
 ptrW:Nat→Δ→(W→Ω)→Ω
 isPtr:Δ→Ω→Ω
 rowAt:Nat→R→N→(W→Ω)→Ω
 bin:BinOp→Bool→Δ→Δ→(Δ→Ω)→Ω
 un:UnOp→Δ→(Δ→Ω)→Ω
 eqs:List Bool→Bool→List Δ→List Δ→(Δ→Ω)→Ω
 mm:Bool→Δ→Δ→(Δ→Ω)→Ω
 mkN:Nat→Δ→Δ→(N→Ω)→Ω
 gap:Nat→Δ→(N→Ω)→Ω
 cut:Option Δ→Option Δ→N→(N→N→Ω)→Ω→Ω
 cutD:Nat→Δ→Option Δ→Option Δ→(Δ→Ω)→Ω
 cutNil:Option Δ→Option Δ→Ω→Ω
 selI:Nat→Δ→List Ω→Ω
 inx:Δ→N→(N→Ω)→Ω
 rowD:Nat→Δ→Δ→(W→Ω)→Ω
 lenD:Δ→(Δ→Ω)→Ω
 lenS:Δ→(Δ→Ω)→Ω
 rowsD:Nat→Δ→(R→Ω)→Ω
 isNil:R→Ω→Ω→Ω
 fits:Nat→N→Ω→Ω
 asM:Bool→Δ→(M→Ω)→Ω
 look:Nat→List Value→M→Δ→(W→Δ→Ω)→Ω
 upd:Nat→M→Δ→List Δ→(M→Ω)→Ω
 lits:List (Y Δ N R M)→Ω→Ω
 cvI:IntKind→Δ→(Δ→Ω)→Ω
 nilE:Δ→Ω→Ω→Ω
 ins:Δ→R→R→(R→Ω)→Ω
section
variable {Δ N R W M E Ω:Type} (pr:Pr Δ N R W M E Ω)
def q2P:List (Nat×V3 Δ N)→Nat→V3 Δ N
 | [],_=>.one .undef
 | (k,v)::r,t=>if t=k then v else q2P r t
def q0V:List (Nat×O3 Δ N R M)→Nat→Option (O3 Δ N R M)
 | [],_=>none
 | (k,o)::r,j=>if j=k then some o else q0V r j
def q2d:List (Nat×O3 Δ N R M)→List (Nat×O3 Δ N R M)→List (Nat×O3 Δ N R M)
 | [],ob=>ob
 | (k,o)::r,ob=>q2d r ((k,o)::ob)
mutual
def L3.keysOf:L3 Δ N→List Nat
 | .slk k _ _ _=>[k]
 | .pa k _ _ _=>[k]
 | .ptr k _=>[k]
 | .mk k=>[k]
 | .fn _ caps=>L3.keysF caps
 | _=>[]
def L3.keysF:List (L3 Δ N)→List Nat
 | []=>[]
 | x::xs=>x.keysOf++L3.keysF xs
end
mutual
def V3.keysOf:V3 Δ N→List Nat
 | .one x=>x.keysOf
 | .agg xs=>L3.keysF xs
 | .tup xs=>V3.keysF xs
def V3.keysF:List (V3 Δ N)→List Nat
 | []=>[]
 | x::xs=>x.keysOf++V3.keysF xs
end
def O3.keysOf:O3 Δ N R M→List Nat
 | .box cells _=>L3.keysF cells
 | _=>[]
def qaz (ob:List (Nat×O3 Δ N R M)):List Nat→List (Nat×O3 Δ N R M)
 | []=>[]
 | k::ks=>match q0V ob k with
  | some o=>(k,o)::qaz ob ks
  | none=>qaz ob ks
def q63 (ob:List (Nat×O3 Δ N R M)):List Nat→List Nat
 | []=>[]
 | k::ks=>match q0V ob k with
  | some o=>o.keysOf++q63 ob ks
  | none=>q63 ob ks
def qcR (ob:List (Nat×O3 Δ N R M)):Nat→List Nat→List Nat
 | 0,ks=>ks
 | n+1,ks=>qcR ob n (q4T (q63 ob ks) ks)
def qjb (pk:List Nat) (vs:List (V3 Δ N)) (ob:List (Nat×O3 Δ N R M)):Option (List (Nat×O3 Δ N R M)) :=
 let ks:=qcR ob 6 (q4T (V3.keysF vs) pk)
 let ob':=qaz ob ks
 if (vs.all fun v=>v.keysOf.all fun k=>ks.contains k)&&(ob'.all fun p=>p.2.keysOf.all fun k=>ks.contains k) then some ob' else none
def qk2:Value→L3 Δ N
 | .bool v=>.b v
 | .int k n=>.i k n
 | .slice none 0 0=>.nil
 | v=>.d (pr.lit v)
def qbT:Value→V3 Δ N
 | .agg cs=>if cs.toList.all plain then .agg (cs.toList.map (qk2 pr)) else .one .undef
 | v=>if plain v then .one (qk2 pr v) else .one .undef
def ev3 (env:List (Nat×V3 Δ N)):Operand→V3 Δ N
 | .tmp t=>q2P env t
 | .const v=>qbT pr v
 | .global _=>.one .undef
 | .func f=>if f < 2000000 then .one (.fn f []) else .one .undef
def q5M:L3 Δ N→Option Δ
 | .d x=>some x
 | .b v=>some (pr.lit (.bool v))
 | .i k n=>some (pr.lit (.int k n))
 | .nil=>some (pr.lit (.slice none 0 0))
 | .dp row off=>some (pr.dpD row off)
 | _=>none
def q6q:V3 Δ N→Option Δ
 | .one x=>q5M pr x
 | _=>none
def qa4:List (L3 Δ N)→Option (List Δ)
 | []=>some []
 | x::xs=>match q5M pr x,qa4 xs with
  | some y,some ys=>some (y::ys)
  | _,_=>none
def qee (ρ:Operand→V3 Δ N):Option Operand→Option (Option Δ)
 | none=>some none
 | some x=>match q6q pr (ρ x) with
  | some y=>some (some y)
  | none=>none
def qef (ρ:Operand→V3 Δ N):List Operand→Option (List Δ)
 | []=>some []
 | x::xs=>match q6q pr (ρ x),qef ρ xs with
  | some y,some ys=>some (y::ys)
  | _,_=>none
def L3.isDef:L3 Δ N→Bool | .undef=>false | _=>true
def V3.cells:V3 Δ N→Option (List (L3 Δ N))
 | .one x=>if x.isDef then some [x] else none
 | .agg xs=>if xs.all L3.isDef then some xs else none
 | .tup _=>none
def mkV3 (agg:Bool) (xs:List (L3 Δ N)):Option (V3 Δ N):=match agg,xs with
 | true,xs=>some (.agg xs)
 | false,[x]=>some (.one x)
 | false,_=>none
def q2Q (agg:Bool) (s off:Nat) (cells:List (L3 Δ N)):Option (V3 Δ N) :=
 if agg then (if off+s≤cells.length then some (.agg ((cells.drop off).take s)) else none)
 else match cells[off]? with
  | some x=>some (.one x)
  | none=>none
def qjj (place:Nat→Option (Nat×Nat)) (cells:List (L3 Δ N)):List (Nat×V3 Δ N)→Option (List (L3 Δ N))
 | []=>some cells
 | (i,v)::rest=>match place i,v.cells with
  | some (off,size),some cs=>if cs.length=size∧off+size≤cells.length then qjj place (cells.take off++cs++cells.drop (off+size)) rest else none
  | _,_=>none
def q6l (n:Nat):V3 Δ N→Option (V3 Δ N)
 | .one (.ptr k off)=>some (.one (.ptr k (off+n)))
 | .one (.pa k i off c)=>some (.one (.pa k i (off+n) c))
 | .one (.dp r off)=>some (.one (.dp r (off+n)))
 | _=>none
def q3W:List (V3 Δ N)→Option (List (L3 Δ N))
 | []=>some []
 | .one x::r=>if x.isDef then (match q3W r with
  | some xs=>some (x::xs)
  | none=>none) else none
 | _::_=>none
def cellsOf (size:Nat) (r:W):List Δ:=(List.range size).map (pr.cell r)
abbrev Ups (Δ N R M:Type):=List (Nat×O3 Δ N R M)
abbrev K3 (Δ N R M Ω:Type):=V3 Δ N→Ups Δ N R M→List Nat→Ω
def qf1 (o:Option (V3 Δ N)) (rd:List Nat) (k:K3 Δ N R M Ω):Ω:=match o with
 | some v=>k v [] rd
 | none=>pr.fail
def q3E (ob:Ups Δ N R M) (dst:Option Nat) (o:O3 Δ N R M) (v:Nat→V3 Δ N) (k:K3 Δ N R M Ω):Ω:=match dst with
 | some key=>match q0V ob key with
  | none=>k (v key) [(key,o)] [key]
  | some _=>pr.fail
 | none=>pr.fail
def qkf (ob:Ups Δ N R M) (x:L3 Δ N) (k:Δ→Ups Δ N R M→List Nat→Ω):Ω:=match x with
 | .slk key off n c=>match q0V ob key with
  | some (.arr rows size elem _)=>pr.eqN c (pr.len rows) (k (pr.slD size (pr.seg rows off n)) [(key,.arr rows size elem false)] [key])
  | _=>pr.fail
 | .mk key=>match q0V ob key with
  | some (.mp agg m _)=>k (pr.mpD agg m) [(key,.mp agg m false)] [key]
  | _=>pr.fail
 | x=>match q5M pr x with
  | some y=>k y [] []
  | none=>pr.fail
def qaG (ob:Ups Δ N R M):List (L3 Δ N)→(List Δ→Ups Δ N R M→List Nat→Ω)→Ω
 | [],k=>k [] [] []
 | x::xs,k=>qkf pr ob x fun d u rd=>qaG ob xs fun ds us rd'=>k (d::ds) (u++us) (rd++rd')
def qa2 (rec:L3 Δ N→(Δ→List Nat→Ω)→Ω):List (L3 Δ N)→(List Δ→List Nat→Ω)→Ω
 | [],k=>k [] []
 | x::xs,k=>rec x fun d rd=>qa2 rec xs fun ds rd'=>k (d::ds) (rd++rd')
def q5L (ob:Ups Δ N R M):Nat→L3 Δ N→(Δ→List Nat→Ω)→Ω
 | _,.slk key off n' c,k=>match q0V ob key with
  | some (.arr rows size _ _)=>pr.eqN c (pr.len rows) (k (pr.slD size (pr.seg rows off n')) [key])
  | _=>pr.fail
 | _,.pa key i off c,k=>match q0V ob key with
  | some (.arr rows size _ _)=>pr.eqN c (pr.len rows) (pr.rowAt size rows i fun r=>k (pr.dpD (cellsOf pr size r) off) [key])
  | _=>pr.fail
 | _,.mk key,k=>match q0V ob key with
  | some (.mp agg m _)=>k (pr.mpD agg m) [key]
  | _=>pr.fail
 | n+1,.ptr key off,k=>match q0V ob key with
  | some (.box cells _)=>qa2 (q5L ob n) cells fun ds rd=>k (pr.dpD ds off) (key::rd)
  | _=>pr.fail
 | n+1,.fn f caps,k=>qa2 (q5L ob n) caps fun ds rd=>k (pr.fnD f ds) rd
 | _,x,k=>match q5M pr x with
  | some y=>k y []
  | none=>pr.fail
def qiM (agg:Bool) (s:Nat) (ob:Ups Δ N R M) (x:V3 Δ N) (k:K3 Δ N R M Ω):Ω:=match x with
 | .one (.ptr key off)=>match q0V ob key with
  | some (.box cells _)=>qf1 pr (q2Q agg s off cells) [key] k
  | _=>pr.fail
 | .one (.pa key i off c)=>match q0V ob key with
  | some (.arr rows size _ _)=>pr.eqN c (pr.len rows) (pr.rowAt size rows i fun r=>qf1 pr (q2Q agg s off ((cellsOf pr size r).map .d)) [key] k)
  | _=>pr.fail
 | .one (.dp row off)=>qf1 pr (q2Q agg s off (row.map .d)) [] k
 | _=>pr.fail
def qfp (ob:Ups Δ N R M) (x:V3 Δ N) (cs:List (L3 Δ N)) (k:K3 Δ N R M Ω):Ω:=match x with
 | .one (.ptr key off)=>match q0V ob key with
  | some (.box cells elem)=>if off+cs.length≤cells.length then k (.one .undef) [(key,.box (cells.take off++cs++cells.drop (off+cs.length)) elem)] [key] else pr.fail
  | _=>pr.fail
 | .one (.pa key i off c)=>match q0V ob key with
  | some (.arr rows size elem own)=>match own with
   | true=>pr.eqN c (pr.len rows) (pr.rowAt size rows i fun r=>qaG pr ob cs fun ds us rd=>match us with
    | []=>if off+ds.length≤size then k (.one .undef) [(key,.arr (pr.setR rows i ((cellsOf pr size r).take off++ds++(cellsOf pr size r).drop (off+ds.length))) size elem own)] (key::rd) else pr.fail
    | _=>pr.fail)
   | false=>pr.fail
  | _=>pr.fail
 | _=>pr.fail
def idxC (es:Nat) (x:V3 Δ N) (k:K3 Δ N R M Ω) (j:Nat):Ω:=qf1 pr (q6l (j*es) x) [] k
def qde (arr:Option Nat) (es:Nat) (ob:Ups Δ N R M) (x:V3 Δ N) (i:L3 Δ N) (k:K3 Δ N R M Ω):Ω:=match arr with
 | some n=>match i with
  | .i _ z=>if 0≤z∧z < n then idxC pr es x k z.toNat else pr.fail
  | .d y=>pr.selI n y ((List.range n).map (idxC pr es x k))
  | _=>pr.fail
 | none=>match q5M pr i with
  | none=>pr.fail
  | some y=>match x with
   | .one (.slk key off n c)=>match q0V ob key with
    | some (.arr rows size _ _)=>if size=es then pr.eqN c (pr.len rows) (pr.inx y n fun j=>k (.one (.pa key (match off with | none=>j | some o=>pr.addN o j) 0 c)) [] [key]) else pr.fail
    | _=>pr.fail
   | .one (.d z)=>pr.rowD es z y fun r=>k (.one (.dp (cellsOf pr es r) 0)) [] []
   | _=>pr.fail
def cutK (es:Nat) (ob:Ups Δ N R M) (x:V3 Δ N) (l h:Option Δ) (k:K3 Δ N R M Ω):Ω:=match x with
 | .one (.slk key off n c)=>match q0V ob key with
  | some (.arr rows size _ _)=>if size=es then pr.eqN c (pr.len rows) (match l with
    | none=>pr.cut l h n (fun _ m=>k (.one (.slk key off m c)) [] [key]) pr.fail
    | some _=>pr.cut l h n (fun o m=>k (.one (.slk key (some (match off with | none=>o | some o'=>pr.addN o' o)) m c)) [] [key]) (k (.one (.d (pr.slD es (pr.rows [])))) [] [key])) else pr.fail
  | _=>pr.fail
 | .one (.d y)=>pr.cutD es y l h fun z=>k (.one (.d z)) [] []
 | .one .nil=>pr.cutNil l h (k (.one .nil) [] [])
 | _=>pr.fail
def qin (ob:Ups Δ N R M) (size n:Nat) (rows:List (List Δ)):List (Nat×V3 Δ N)→(List (List Δ)→Ups Δ N R M→List Nat→Ω)→Ω
 | [],k=>k rows [] []
 | (i,v)::rest,k=>match v.cells with
  | none=>pr.fail
  | some cs=>if cs.length=size∧i < n then qaG pr ob cs fun ds us rd=>qin ob size n (rows.set i ds) rest fun rows' us' rd'=>k rows' (us++us') (rd++rd') else pr.fail
def srcK (es:Nat) (ob:Ups Δ N R M) (x:V3 Δ N) (k:R→List Nat→Ω):Ω:=match x with
 | .one .nil=>k (pr.rows []) []
 | .one (.d y)=>pr.rowsD es y fun r=>k r []
 | .one (.slk key off n c)=>match q0V ob key with
  | some (.arr rows size _ _)=>if size=es then pr.eqN c (pr.len rows) (k (pr.seg rows off n) [key]) else pr.fail
  | _=>pr.fail
 | _=>pr.fail
def q9R (ob:Ups Δ N R M) (dst:Option Nat) (elem size bytes:Nat) (s:V3 Δ N) (new:R) (rd:List Nat) (k:K3 Δ N R M Ω):Ω :=
 pr.isNil new (k s [] rd) (pr.fits bytes (pr.len new) (q3E pr ob dst (.arr new size elem true) (fun key=>.one (.slk key none (pr.len new) (pr.len new))) fun v u rd'=>k v u (rd++rd')))
def qbY (ob:Ups Δ N R M) (dst:Option Nat) (elem size bytes:Nat) (s:V3 Δ N) (new:R) (rd:List Nat) (k:K3 Δ N R M Ω):Ω:=match s with
 | .one .nil=>q9R pr ob dst elem size bytes (.one .nil) new rd k
 | .one (.d y)=>pr.nilD y (q9R pr ob dst elem size bytes (.one .nil) new rd k)
 | .one (.slk key none n c)=>match q0V ob key with
  | some (.arr rows size' elem' own)=>match own with
   | true=>if size'=size∧elem'=elem then pr.eqN c (pr.len rows) (pr.eqN n (pr.len rows) (pr.fits bytes (pr.addN n (pr.len new)) (k (.one (.slk key none (pr.addN n (pr.len new)) (pr.addN n (pr.len new)))) [(key,.arr (pr.app rows new) size elem true)] (rd++[key])))) else pr.fail
   | false=>pr.fail
  | _=>pr.fail
 | _=>pr.fail
def ql1 (kd:Nat) (agg ok:Bool) (zs:List Value) (ob:Ups Δ N R M) (x:V3 Δ N) (key:Δ) (k:K3 Δ N R M Ω):Ω :=
 let fin:=fun (m:M) (rd:List Nat)=>pr.look kd zs m key fun r f=>match mkV3 agg ((cellsOf pr zs.length r).map .d) with
  | some v=>k (if ok then .tup [v,.one (.d f)] else v) [] rd
  | none=>pr.fail
 match x with
  | .one (.d y)=>pr.asM agg y fun m=>fin m []
  | .one (.mk q)=>match q0V ob q with
   | some (.mp agg' m _)=>if agg==agg' then fin m [q] else pr.fail
   | _=>pr.fail
  | _=>pr.fail
def qk9:V3 Δ N→Bool | .agg _=>true | _=>false
def updK (kd:Nat) (agg:Bool) (ob:Ups Δ N R M) (x:V3 Δ N) (key:Δ) (v:V3 Δ N) (k:K3 Δ N R M Ω):Ω:=match x with
 | .one (.mk q)=>match q0V ob q with
  | some (.mp agg' m own)=>if (own&&agg==agg'&&qk9 v==agg)=true then (match v.cells with
   | none=>pr.fail
   | some cs=>qaG pr ob cs fun ds us rd=>match us with
    | []=>pr.upd kd m key ds fun m'=>k (.one .undef) [(q,.mp agg m' true)] (q::rd)
    | _=>pr.fail) else pr.fail
  | _=>pr.fail
 | _=>pr.fail
def mmK (mx:Bool):Δ→List Δ→(Δ→Ω)→Ω
 | a,[],k=>k a
 | a,y::r,k=>pr.mm mx a y fun z=>mmK mx z r k
def binK (P:Program) (op:BinOp) (t:Nat) (x y:V3 Δ N) (k:K3 Δ N R M Ω):Ω:=match x,y with
 | .one x,.one y=>if (q1Y P t).isSome=true then (match op,y,q5M pr x with
  | .eql,.nil,some a=>pr.nilE a (k (.one (.b true)) [] []) (k (.one (.b false)) [] [])
  | .neq,.nil,some a=>pr.nilE a (k (.one (.b false)) [] []) (k (.one (.b true)) [] [])
  | _,_,_=>pr.fail) else match q5M pr x,q5M pr y with
  | some a,some b=>pr.bin op (qjq P t) a b fun z=>k (.one (.d z)) [] []
  | _,_=>pr.fail
 | .agg xs,.agg ys=>match q84 P 8 t,qa4 pr xs,qa4 pr ys with
  | some ks,some xs,some ys=>if q45 P t=some true then (match op with
   | .eql=>pr.eqs ks false xs ys fun z=>k (.one (.d z)) [] []
   | .neq=>pr.eqs ks true xs ys fun z=>k (.one (.d z)) [] []
   | _=>pr.fail) else pr.fail
  | _,_,_=>pr.fail
 | _,_=>pr.fail
def qbU (P:Program) (ob:Ups Δ N R M) (dst:Option Nat) (ρ:Operand→V3 Δ N) (c:Call) (k:K3 Δ N R M Ω):Ω:=match c.callee with
 | .builtin .len=>match c.args.toList with
  | [x]=>match c.argTypes.toList with
   | [t]=>match q1Y P t with
    | some _=>match ρ x with
     | .one (.slk _ _ n _)=>k (.one (.d (pr.natD n))) [] []
     | .one .nil=>k (.one (.i .i64 0)) [] []
     | .one (.d y)=>pr.lenD y fun z=>k (.one (.d z)) [] []
     | _=>pr.fail
    | none=>if strC P t=true then (match q6q pr (ρ x) with
     | some y=>pr.lenS y fun z=>k (.one (.d z)) [] []
     | none=>pr.fail) else pr.fail
   | _=>pr.fail
  | _=>pr.fail
 | .builtin .cap=>match c.args.toList,c.argTypes.toList with
  | [x],[t]=>match ρ x with
   | .one .nil=>if (q1Y P t).isSome=true then k (.one (.i .i64 0)) [] [] else pr.fail
   | .one (.d y)=>if (q1Y P t).isSome=true then pr.nilD y (k (.one (.i .i64 0)) [] []) else pr.fail
   | _=>pr.fail
  | _,_=>pr.fail
 | .builtin .clear=>match c.args.toList,c.argTypes.toList with
  | [x],[t]=>match (q1Y P t).bind (q25 P) with
   | some zs=>if 0 < zs.length then (match ρ x with
    | .one .nil=>k (.tup []) [] []
    | .one (.d y)=>pr.nilD y (k (.tup []) [] [])
    | .one (.slk key off n c)=>match q0V ob key with
     | some (.arr rows size elem true)=>if size=zs.length then pr.eqN c (pr.len rows) (pr.eqN (match off with | none=>n | some o=>pr.addN o n) (pr.len rows) (k (.tup []) [(key,.arr (match off with | none=>pr.repl n (zs.map pr.lit) | some o=>pr.app (pr.seg rows none o) (pr.repl n (zs.map pr.lit))) size elem true)] [key])) else pr.fail
     | _=>pr.fail
    | _=>pr.fail) else pr.fail
   | none=>pr.fail
  | _,_=>pr.fail
 | .builtin .min=>match qef pr ρ c.args.toList with
  | some (a::r)=>mmK pr false a r fun z=>k (.one (.d z)) [] []
  | _=>pr.fail
 | .builtin .max=>match qef pr ρ c.args.toList with
  | some (a::r)=>mmK pr true a r fun z=>k (.one (.d z)) [] []
  | _=>pr.fail
 | .builtin .append=>match c.args.toList,c.argTypes.toList with
  | [s,x],[t,t']=>match q1Y P t with
   | none=>pr.fail
   | some e=>match q1b P e,q4U P e,q25 P e with
    | some sz,some bs,some zs=>match qhQ P t' with
     | some _=>match ρ s,q6q pr (ρ x) with
      | .one .nil,some y=>if 0 < sz∧zs.length=sz then pr.gap bs y fun n=>q3E pr ob dst (.arr (pr.repl n (zs.map pr.lit)) sz e true) (fun key=>.one (.slk key none n n)) k else pr.fail
      | .one (.d x),some y=>if 0 < sz∧zs.length=sz then pr.nilD x (pr.gap bs y fun n=>q3E pr ob dst (.arr (pr.repl n (zs.map pr.lit)) sz e true) (fun key=>.one (.slk key none n n)) k) else pr.fail
      | _,_=>pr.fail
     | none=>if t=t'∧0 < sz∧0 < bs∧zs.length=sz then srcK pr sz ob (ρ x) fun new rd=>qbY pr ob dst e sz bs (ρ s) new rd k else pr.fail
    | _,_,_=>pr.fail
  | _,_=>pr.fail
 | _=>pr.fail
def op3 (P:Program) (ob:Ups Δ N R M) (dst:Option Nat) (ρ:Operand→V3 Δ N) (op:Op) (k:K3 Δ N R M Ω):Ω:=match op with
 | .move x=>k (ρ x) [] []
 | .assign x=>k (ρ x) [] []
 | .pick c a b=>match ρ c with
  | .one (.b true)=>k (ρ a) [] []
  | .one (.b false)=>k (ρ b) [] []
  | .one (.d y)=>pr.cond y (k (ρ a) [] []) (k (ρ b) [] [])
  | _=>pr.fail
 | .box elem x=>match (ρ x).cells with
  | some cs=>match dst with
   | none=>qaG pr ob cs fun ds us rd=>k (.one (.dp ds 0)) us rd
   | some _=>q3E pr ob dst (.box cs elem) (fun key=>.one (.ptr key 0)) k
  | none=>pr.fail
 | .alloc elem=>match q25 P elem with
  | some zs=>q3E pr ob dst (.box (zs.map (qk2 pr)) elem) (fun key=>.one (.ptr key 0)) k
  | none=>pr.fail
 | .build t parts=>match q25 P t with
  | some zs=>if (q45 P t==some true&&layC P t)=true then (match qjj (q70 P t) (zs.map (qk2 pr)) (parts.toList.map fun p=>(p.1,ρ p.2)) with
   | some cs=>k (.agg cs) [] []
   | none=>pr.fail) else pr.fail
  | none=>pr.fail
 | .buildSlice t len parts=>match q1Y P t with
  | none=>pr.fail
  | some e=>match q1b P e,q25 P e with
   | some s,some zs=>if 0 < s∧zs.length=s∧len*s≤16777216 then qin pr ob s len (List.replicate len (zs.map pr.lit)) (parts.toList.map fun p=>(p.1,ρ p.2)) fun rows us rd =>
     match dst with
     | some _=>q3E pr ob dst (.arr (pr.rows rows) s e true) (fun key=>.one (.slk key none (pr.natN len) (pr.natN len))) fun v u rd'=>k v (us++u) (rd++rd')
     | none=>k (.one (.d (pr.slD s (pr.rows rows)))) us rd else pr.fail
   | _,_=>pr.fail
 | .load t a=>match q45 P t,q1b P t with
  | some g,some s=>qiM pr g s ob (ρ a) k
  | _,_=>pr.fail
 | .store t a x=>match (ρ x).cells with
  | some cs=>if (q1b P t==some cs.length)=true then qfp pr ob (ρ a) cs k else pr.fail
  | none=>pr.fail
 | .nilCheck x=>match ρ x with
  | .one (.ptr ..)=>k (ρ x) [] []
  | .one (.pa ..)=>k (ρ x) [] []
  | .one (.dp ..)=>k (ρ x) [] []
  | .one (.d y)=>pr.isPtr y (k (ρ x) [] [])
  | _=>pr.fail
 | .binOp op t x y _=>binK pr P op t (ρ x) (ρ y) k
 | .unOp op _ x=>match op,ρ x with
  | .not,.one (.b v)=>k (.one (.b !v)) [] []
  | .not,.one (.d y)=>pr.un .not y fun z=>k (.one (.d z)) [] []
  | .neg,v=>match q6q pr v with
   | some y=>pr.un .neg y fun z=>k (.one (.d z)) [] []
   | none=>pr.fail
  | _,_=>pr.fail
 | .makeFunc fn first captured=>match fn,q3W (first.toList.map ρ),q3W (captured.toList.map ρ) with
  | .func f,some [],some caps=>if f < 2000000 then k (.one (.fn f caps)) [] [] else pr.fail
  | .func f,some (c::cs),some []=>k (.one (.fn (f+2000000) (c::cs))) [] []
  | _,_,_=>pr.fail
 | .makeInterface t x=>if conC P t=true then (match q45 P t,ρ x with
  | some false,.one y=>match q5M pr y with
   | some z=>k (.one (.d (pr.ifD t false [z]))) [] []
   | none=>pr.fail
  | some true,.agg ys=>match qa4 pr ys with
   | some zs=>k (.one (.d (pr.ifD t true zs))) [] []
   | none=>pr.fail
  | _,_=>pr.fail) else pr.fail
 | .makeSlice t l c=>match q1Y P t with
  | none=>pr.fail
  | some e=>match q1b P e,q25 P e,q4U P e with
   | some s,some zs,some bs=>match q6q pr (ρ l),q6q pr (ρ c) with
    | some n,some m=>if 0 < s∧zs.length=s then pr.mkN bs n m fun n=>q3E pr ob dst (.arr (pr.repl n (zs.map pr.lit)) s e true) (fun key=>.one (.slk key none n n)) k else pr.fail
    | _,_=>pr.fail
   | _,_,_=>pr.fail
 | .slice t x lo hi mx=>match q1Y P t,mx with
  | some e,none=>match qee pr ρ lo,qee pr ρ hi,q1b P e with
   | some l,some h,some s=>cutK pr s ob (ρ x) l h k
   | _,_,_=>pr.fail
  | _,_=>pr.fail
 | .fieldAddr s x f=>match q6d P s f with
  | some p=>match ρ x with
   | .one (.d y)=>match q1b P s with
    | some n=>pr.ptrW n y fun w=>qf1 pr (q6l p.1 (.one (.dp (cellsOf pr n w) 0))) [] k
    | none=>pr.fail
   | v=>qf1 pr (q6l p.1 v) [] k
  | none=>pr.fail
 | .field s x f=>match q6d P s f,ρ x with
  | some p,.agg cs=>qf1 pr (q2Q p.2.2 p.2.1 p.1 cs) [] k
  | _,_=>pr.fail
 | .indexAddr t x ix=>match ρ ix with
  | .one i=>match qjr P t with
   | some p=>match q1b P p.2 with
    | some s=>qde pr (some p.1) s ob (ρ x) i k
    | none=>pr.fail
   | none=>match q1Y P t with
    | some e=>match q1b P e with
     | some s=>qde pr none s ob (ρ x) i k
     | none=>pr.fail
    | none=>pr.fail
  | _=>pr.fail
 | .index t x ix=>match qjr P t with
  | some p=>match q1b P p.2,q45 P p.2,ρ x with
   | some s,some g,.agg cs=>match ρ ix with
    | .one (.i _ z)=>if 0≤z∧z < p.1 then qf1 pr (q2Q g s (z.toNat*s) cs) [] k else pr.fail
    | .one (.d y)=>pr.selI p.1 y ((List.range p.1).map fun j=>qf1 pr (q2Q g s (j*s) cs) [] k)
    | _=>pr.fail
   | _,_,_=>pr.fail
  | none=>pr.fail
 | .convert src dst x=>match qhQ P src,qhQ P dst,q6q pr (ρ x) with
  | some _,some kd,some y=>pr.cvI kd y fun z=>k (.one (.d z)) [] []
  | _,_,_=>pr.fail
 | .makeMap t none=>match qhP P t,(q66 P t).bind (q45 P) with
  | some _,some g=>q3E pr ob dst (.mp g pr.emp true) (fun key=>.one (.mk key)) k
  | _,_=>pr.fail
 | .lookup t x ix ok=>match qhP P t,q66 P t with
  | some kd,some e=>match q45 P e,q25 P e,q6q pr (ρ ix) with
   | some g,some zs,some key=>if qcm P e g=true then ql1 pr kd g ok zs ob (ρ x) key k else pr.fail
   | _,_,_=>pr.fail
  | _,_=>pr.fail
 | .mapUpdate t m q v=>match qhP P t,(q66 P t).bind (q45 P) with
  | some kd,some g=>match q6q pr (ρ q) with
   | some key=>updK pr kd g ob (ρ m) key (ρ v) k
   | none=>pr.fail
  | _,_=>pr.fail
 | .extract t i=>match ρ t with
  | .tup vs=>qf1 pr vs[i]? [] k
  | _=>pr.fail
 | .call c=>qbU pr P ob dst ρ c k
 | _=>pr.fail
end
end
section
section
variable {Δ N R W M E Ω:Type} (pr:Pr Δ N R W M E Ω)
mutual
def q9K:L3 Unit Unit→L3 Δ N→Option (List (Y Δ N R M))
 | .d _,x=>match q5M pr x with
  | some y=>some [.d y]
  | none=>none
 | .b v,.b v'=>if v=v' then some [] else none
 | .i k n,.i k' n'=>if k=k'∧n=n' then some [] else none
 | .nil,.nil=>some []
 | .dp r o,.dp r' o'=>if r.length=r'.length∧o=o' then some (r'.map .d) else none
 | .fn f cs,.fn f' cs'=>if f=f' then qaI cs cs' else none
 | .slk k none _ _,.slk k' none n c=>if k=k' then some [.n n,.n c] else none
 | .slk k (some _) _ _,.slk k' (some o) n c=>if k=k' then some [.n o,.n n,.n c] else none
 | .slk k (some _) _ _,.slk k' none n c=>if k=k' then some [.n (pr.natN 0),.n n,.n c] else none
 | .pa k _ o _,.pa k' i o' c=>if k=k'∧o=o' then some [.n i,.n c] else none
 | .ptr k o,.ptr k' o'=>if k=k'∧o=o' then some [] else none
 | .mk k,.mk k'=>if k=k' then some [] else none
 | .undef,.undef=>some []
 | _,_=>none
def qaI:List (L3 Unit Unit)→List (L3 Δ N)→Option (List (Y Δ N R M))
 | [],[]=>some []
 | x::xs,y::ys=>match q9K x y,qaI xs ys with
  | some a,some b=>some (a++b)
  | _,_=>none
 | _,_=>none
end
mutual
def qf4:V3 Unit Unit→V3 Δ N→Option (List (Y Δ N R M))
 | .one x,.one y=>q9K pr x y
 | .agg xs,.agg ys=>qaI pr xs ys
 | .tup xs,.tup ys=>qeB xs ys
 | _,_=>none
def qeB:List (V3 Unit Unit)→List (V3 Δ N)→Option (List (Y Δ N R M))
 | [],[]=>some []
 | x::xs,y::ys=>match qf4 x y,qeB xs ys with
  | some a,some b=>some (a++b)
  | _,_=>none
 | _,_=>none
end
def fitO:O3 Unit Unit Unit Unit→O3 Δ N R M→Option (List (Y Δ N R M))
 | .box cs e,.box cs' e'=>if e=e' then qaI pr cs cs' else none
 | .arr _ s e o,.arr rows s' e' o'=>if s=s'∧e=e'∧o=o' then some [.r rows] else none
 | .mp g _ o,.mp g' m o'=>if g=g'∧o=o' then some [.m m] else none
 | _,_=>none
def fitT (s:V3 Unit Unit) (x:V3 Δ N):Option (List (Y Δ N R M)):=match s with
 | .one .undef=>some []
 | s=>qf4 pr s x
def qaK (env:List (Nat×V3 Δ N)):List (Nat×V3 Unit Unit)→Option (List (Y Δ N R M))
 | []=>some []
 | (t,v)::r=>match fitT pr v (q2P env t),qaK env r with
  | some a,some b=>some (a++b)
  | _,_=>none
def qjh (ob:Ups Δ N R M):Ups Unit Unit Unit Unit→Option (List (Y Δ N R M))
 | []=>some []
 | (k,o)::r=>match q0V ob k with
  | some o'=>match fitO pr o o',qjh ob r with
   | some a,some b=>some (a++b)
   | _,_=>none
  | none=>none
def qjN (sk:Sk):Bool:=(sk.env.all fun p=>p.2.keysOf.all fun k=>(sk.ob.map (·.1)).contains k)&&(sk.ob.all fun p=>p.2.keysOf.all fun k=>(sk.ob.map (·.1)).contains k)
def exEq:Ex→Ex→Bool
 | .normal,.normal=>true
 | .ret,.ret=>true
 | .exit i,.exit j=>i==j
 | _,_=>false
def qfL:Option Ex→Option Ex→Bool
 | none,none=>true
 | some a,some b=>exEq a b
 | _,_=>false
def qjg (pk:List Nat) (sk:Sk) (st:S3 Δ N R M):Option (List (Y Δ N R M)) :=
 if (qjN sk&&pk.all (sk.ob.map (·.1)).contains&&qfL sk.pend st.pend&&sk.ys.all st.ys.contains)=true then
  match qaK pr st.env sk.env,qjh pr st.ob sk.ob with
  | some a,some b=>some (a++b)
  | _,_=>none
 else none
def q86 (pk:List Nat) (st:S3 Δ N R M):List Sk→Nat→Option (Nat×List (Y Δ N R M))
 | [],_=>none
 | sk::r,j=>match qjg pr pk sk st with
  | some ys=>some (j,ys)
  | none=>q86 pk st r (j+1)
def qeC (pk:List Nat) (e:Ex) (st:S3 Δ N R M):List (Ex×Sk)→Nat→Option (Nat×List (Y Δ N R M))
 | [],_=>none
 | (x,sk)::r,j=>if exEq x e=true then (match qjg pr pk sk st with
  | some ys=>some (j,ys)
  | none=>qeC pk e st r (j+1)) else qeC pk e st r (j+1)
mutual
def q1l (e:E):L3 Unit Unit→Nat→L3 Δ N×Nat
 | .d _,j=>(.d (pr.ld e j),j+1)
 | .b v,j=>(.b v,j)
 | .i k n,j=>(.i k n,j)
 | .nil,j=>(.nil,j)
 | .dp r o,j=>(.dp ((List.range r.length).map fun i=>pr.ld e (j+i)) o,j+r.length)
 | .fn f cs,j=>(.fn f (q2l e cs j).1,(q2l e cs j).2)
 | .slk k none _ _,j=>(.slk k none (pr.ln e j) (pr.ln e (j+1)),j+2)
 | .slk k (some _) _ _,j=>(.slk k (some (pr.ln e j)) (pr.ln e (j+1)) (pr.ln e (j+2)),j+3)
 | .pa k _ o _,j=>(.pa k (pr.ln e j) o (pr.ln e (j+1)),j+2)
 | .ptr k o,j=>(.ptr k o,j)
 | .mk k,j=>(.mk k,j)
 | .undef,j=>(.undef,j)
def q2l (e:E):List (L3 Unit Unit)→Nat→List (L3 Δ N)×Nat
 | [],j=>([],j)
 | x::xs,j=>((q1l e x j).1::(q2l e xs (q1l e x j).2).1,(q2l e xs (q1l e x j).2).2)
end
mutual
def q26 (e:E):V3 Unit Unit→Nat→V3 Δ N×Nat
 | .one x,j=>(.one (q1l pr e x j).1,(q1l pr e x j).2)
 | .agg xs,j=>(.agg (q2l pr e xs j).1,(q2l pr e xs j).2)
 | .tup xs,j=>(.tup (q3M e xs j).1,(q3M e xs j).2)
def q3M (e:E):List (V3 Unit Unit)→Nat→List (V3 Δ N)×Nat
 | [],j=>([],j)
 | x::xs,j=>((q26 e x j).1::(q3M e xs (q26 e x j).2).1,(q3M e xs (q26 e x j).2).2)
end
def q4R (e:E):O3 Unit Unit Unit Unit→Nat→O3 Δ N R M×Nat
 | .box cs el,j=>(.box (q2l pr e cs j).1 el,(q2l pr e cs j).2)
 | .arr _ s el o,j=>(.arr (pr.lr e j) s el o,j+1)
 | .mp g _ o,j=>(.mp g (pr.lm e j) o,j+1)
def q2m (e:E):List (Nat×V3 Unit Unit)→Nat→List (Nat×V3 Δ N)×Nat
 | [],j=>([],j)
 | (t,v)::r,j=>((t,(q26 pr e v j).1)::(q2m e r (q26 pr e v j).2).1,(q2m e r (q26 pr e v j).2).2)
def q4Q (e:E):Ups Unit Unit Unit Unit→Nat→Ups Δ N R M×Nat
 | [],j=>([],j)
 | (k,o)::r,j=>((k,(q4R pr e o j).1)::(q4Q e r (q4R pr e o j).2).1,(q4Q e r (q4R pr e o j).2).2)
def q3t (e:E) (sk:Sk):S3 Δ N R M :=
 ⟨(q2m pr e sk.env 0).1,(q4Q pr e sk.ob (q2m pr e sk.env 0).2).1,sk.ys,sk.pend⟩
def qa9 (P:Program) (ob:Ups Δ N R M) (env:List (Nat×V3 Δ N)):List ResultVar→(List (V3 Δ N)→Ω)→Ω
 | [],k=>k []
 | .tmp t::r,k=>qa9 P ob env r fun vs=>k (q2P env t::vs)
 | .cell a T::r,k=>match q45 P T,q1b P T with
  | some g,some s=>qiM pr g s ob (q2P env a) fun v _ _=>qa9 P ob env r fun vs=>k (v::vs)
  | _,_=>pr.fail
def rcK (ob:Ups Δ N R M):RK→L3 Δ N→(Y Δ N R M→List Nat→Ω)→Ω
 | .d,.slk key none n c,k=>match q0V ob key with
  | some (.arr rows size _ _)=>pr.eqN c (pr.len rows) (pr.leN n (pr.len rows) (k (.d (pr.slD size (pr.seg rows none n))) [key]))
  | _=>pr.fail
 | .own s e,.slk key none n c,k=>match q0V ob key with
  | some (.arr rows size elem true)=>if s=size∧e=elem then pr.eqN c (pr.len rows) (pr.leN n (pr.len rows) (k (.r (pr.seg rows none n)) [key])) else pr.fail
  | _=>pr.fail
 | .d,.mk key,k=>match q0V ob key with
  | some (.mp agg m _)=>k (.d (pr.mpD agg m)) [key]
  | _=>pr.fail
 | .om g,.mk key,k=>match q0V ob key with
  | some (.mp agg m true)=>if g=agg then k (.m m) [key] else pr.fail
  | _=>pr.fail
 | .d,x,k=>match q5M pr x with
  | some y=>k (.d y) []
  | none=>pr.fail
 | _,_,_=>pr.fail
def rcsK (ob:Ups Δ N R M):List RK→List (L3 Δ N)→(List (Y Δ N R M)→List Nat→Ω)→Ω
 | [],[],k=>k [] []
 | r::rs,x::xs,k=>rcK pr ob r x fun y u=>rcsK ob rs xs fun ys us=>k (y::ys) (u++us)
 | _,_,_=>pr.fail
def q8x (ob:Ups Δ N R M):RS→List (V3 Δ N)→(List (Y Δ N R M)→List Nat→Ω)→Ω
 | [],[],k=>k [] []
 | (false,[r])::rs,.one x::vs,k=>rcK pr ob r x fun y u=>q8x ob rs vs fun ys us=>k (y::ys) (u++us)
 | (true,r)::rs,.agg xs::vs,k=>rcsK pr ob r xs fun y u=>q8x ob rs vs fun ys us=>k (y++ys) (u++us)
 | _,_,_=>pr.fail
def rcFit (ob:Ups Δ N R M):RK→L3 Δ N→Bool
 | .d,.undef=>false
 | .d,_=>true
 | .own s e,.slk key none _ _=>match q0V ob key with
  | some (.arr _ size elem own)=>own&&s==size&&e==elem
  | _=>false
 | .om g,.mk key=>match q0V ob key with
  | some (.mp agg _ own)=>own&&g==agg
  | _=>false
 | _,_=>false
def qcU (ob:Ups Δ N R M):List RK→List (L3 Δ N)→Bool
 | [],[]=>true
 | r::rs,x::xs=>rcFit ob r x&&qcU ob rs xs
 | _,_=>false
def q7y (ob:Ups Δ N R M):RS→List (V3 Δ N)→Bool
 | [],[]=>true
 | (false,[r])::rs,.one x::vs=>rcFit ob r x&&q7y ob rs vs
 | (true,r)::rs,.agg xs::vs=>qcU ob r xs&&q7y ob rs vs
 | _,_=>false
def RK.isD:RK→Bool | .d=>true | _=>false
def allD (rs:RS):Bool:=rs.all fun p=>p.2.all RK.isD
def qa6 (ob:Ups Δ N R M) (vs:List (V3 Δ N)):List RS→Nat→Option (Nat×RS)
 | [],_=>none
 | x::r,j=>if q7y ob x vs=true then some (j,x) else qa6 ob vs r (j+1)
def formC (ob:Ups Δ N R M):L3 Δ N→RK
 | .slk key none _ _=>match q0V ob key with
  | some (.arr _ size elem true)=>.own size elem
  | _=>.d
 | .mk key=>match q0V ob key with
  | some (.mp agg _ true)=>.om agg
  | _=>.d
 | _=>.d
def formV (ob:Ups Δ N R M):V3 Δ N→Bool×List RK
 | .one x=>(false,[formC ob x])
 | .agg xs=>(true,xs.map (formC ob))
 | .tup _=>(false,[])
def qjT (ob:Ups Δ N R M):List (V3 Δ N)→(List (Y Δ N R M)→Ω)→Ω
 | [],k=>k []
 | .one x::vs,k=>q5L pr ob 4 x fun y _=>qjT ob vs fun ys=>k (.d y::ys)
 | .agg xs::vs,k=>qa2 (q5L pr ob 4) xs fun y _=>qjT ob vs fun ys=>k (y.map .d++ys)
 | .tup _::_,_=>pr.fail
def q4J:List Nat→Bool
 | []=>true
 | x::xs=>!xs.contains x&&q4J xs
def q9B (e:E) (base:Nat):RK→Nat→Nat→L3 Δ N×Ups Δ N R M×Nat
 | .d,j,n=>(.d (pr.ld e j),[],n)
 | .own size elem,j,n=>(.slk (base+n) none (pr.len (pr.lr e j)) (pr.len (pr.lr e j)),[(base+n,.arr (pr.lr e j) size elem true)],n+1)
 | .om agg,j,n=>(.mk (base+n),[(base+n,.mp agg (pr.lm e j) true)],n+1)
def q2k (e:E) (base:Nat):List RK→Nat→Nat→List (L3 Δ N)×Ups Δ N R M×Nat
 | [],_,n=>([],[],n)
 | x::xs,j,n=>((q9B pr e base x j n).1::(q2k e base xs (j+1) (q9B pr e base x j n).2.2).1,(q9B pr e base x j n).2.1++(q2k e base xs (j+1) (q9B pr e base x j n).2.2).2.1,(q2k e base xs (j+1) (q9B pr e base x j n).2.2).2.2)
def one3 (g:Bool) (xs:List (L3 Δ N)):V3 Δ N:=match g,xs with
 | false,[x]=>.one x
 | _,xs=>.agg xs
def q1u (e:E) (base:Nat):RS→Nat→Nat→List (V3 Δ N)×Ups Δ N R M×Nat
 | [],_,n=>([],[],n)
 | (g,cs)::r,j,n=>(one3 g (q2k pr e base cs j n).1::(q1u e base r (j+cs.length) (q2k pr e base cs j n).2.2).1,(q2k pr e base cs j n).2.1++(q1u e base r (j+cs.length) (q2k pr e base cs j n).2.2).2.1,(q1u e base r (j+cs.length) (q2k pr e base cs j n).2.2).2.2)
def q2T:List (V3 Δ N)→V3 Δ N
 | [x]=>x
 | xs=>.tup xs
def q8l (ob:Ups Δ N R M):Ups Δ N R M→Bool
 | []=>true
 | (k,_)::r=>(match q0V ob k with | none=>true | some _=>false)&&q8l ob r
def q9P:List Sh→List Δ→Option (List (V3 Δ N))
 | [],[]=>some []
 | .one::r,x::xs=>match q9P r xs with
  | some vs=>some (.one (.d x)::vs)
  | none=>none
 | .agg n::r,xs=>if (xs.take n).length=n then (match q9P r (xs.drop n) with
  | some vs=>some (.agg ((xs.take n).map .d)::vs)
  | none=>none) else none
 | .ptr n::r,xs=>if (xs.take n).length=n then (match q9P r (xs.drop n) with
  | some vs=>some (.one (.dp (xs.take n) 0)::vs)
  | none=>none) else none
 | _,_=>none
def q5I (ob:Ups Δ N R M):List Sh→List (V3 Δ N)→(List Δ→List Nat→Ω)→Ω
 | [],[],k=>k [] []
 | .one::r,.one x::vs,k=>q5L pr ob 4 x fun d rd=>q5I ob r vs fun ds rd'=>k (d::ds) (rd++rd')
 | .agg n::r,.agg xs::vs,k=>if xs.length=n then qa2 (q5L pr ob 4) xs fun d rd=>q5I ob r vs fun ds rd'=>k (d++ds) (rd++rd') else pr.fail
 | .ptr n::r,.one (.dp row o)::vs,k=>if row.length=n∧o=0 then q5I ob r vs fun ds rd'=>k (row++ds) rd' else pr.fail
 | .ptr n::r,.one (.d x)::vs,k=>pr.ptrW n x fun w=>q5I ob r vs fun ds rd'=>k (cellsOf pr n w++ds) rd'
 | .ptr n::r,.one (.ptr key o)::vs,k=>match q0V ob key with
  | some (.box cells _)=>if cells.length=n∧o=0 then qa2 (q5L pr ob 3) cells fun d rd=>q5I ob r vs fun ds rd'=>k (d++ds) (key::rd++rd') else pr.fail
  | _=>pr.fail
 | .ptr n::r,.one (.pa key i o c)::vs,k=>match q0V ob key with
  | some (.arr rows size _ _)=>if size=n∧o=0 then pr.eqN c (pr.len rows) (pr.rowAt size rows i fun w=>q5I ob r vs fun ds rd'=>k (cellsOf pr size w++ds) (key::rd')) else pr.fail
  | _=>pr.fail
 | _,_,_=>pr.fail
def L3.isD:L3 Δ N→Bool
 | .d _ | .b _ | .i _ _ | .nil | .dp _ _=>true
 | _=>false
def L3.isF:L3 Δ N→Bool
 | .fn _ caps=>caps.all L3.isD
 | x=>x.isD
def V3.isD:V3 Δ N→Bool
 | .one l=>l.isF
 | .agg ls=>ls.all L3.isD
 | .tup _=>false
structure Ms where
 args:List (V3 Unit Unit)
 obs:List (Nat×O3 Unit Unit Unit Unit)
 res:Option (Bool×Nat)
 ref:Option Nat
structure Cf3 where
 inl:Nat→Option Bd
 draw:Nat→Nat→Array Oper→List (Nat×Nat)
 lp:Nat→Nat→Nat→List (Sk×List Sk×List (Ex×Sk))
 jn:Nat→Nat→Nat→Option (List (Sk×List (Ex×Sk)))
 gj:Nat→Nat→Nat→Option (Nat×List (Sk×List (Ex×Sk)))
 ash:Nat→Option (List Sh)
 rsk:Nat→List RS
 iv:String→Nat
 ms:Nat→Option Ms
 sp:Nat→Option (Nat×Nat×Nat)
 cb:Nat→Nat→Bool
 fz:Nat→Nat→Nat→List (Option Nat×Nat)
def fn3:V3 Δ N→Option (Nat×List (L3 Δ N))
 | .one (.fn f caps)=>if f < 2000000 then some (f,caps) else none
 | _=>none
def qga (e:E) (p:RK×Nat):Y Δ N R M:=match p.1 with
 | .d=>.d (pr.ld e p.2)
 | .own _ _=>.r (pr.lr e p.2)
 | .om _=>.m (pr.lm e p.2)
def qjp (cfg:Cf3) (ob:Ups Δ N R M) (dst:Option Nat) (f:Nat) (args:List (V3 Δ N)) (caps:List (L3 Δ N)) (k:K3 Δ N R M Ω):Ω:=match cfg.ash f with
 | none=>pr.fail
 | some sh=>q5I pr ob sh (args++caps.map .one) fun ds rd=>pr.bnd (pr.call f ds) ((cfg.rsk f).map fun rs=>fun e =>
   let vs:=(q1u pr e (q2q dst) rs 0 0).1
   let us:=(q1u pr e (q2q dst) rs 0 0).2.1
   if q4J (us.map (·.1))=true∧q8l ob us=true then
    (if (args.all V3.isD&&caps.all L3.isD)=true then k (q2T vs) us (rd++us.map (·.1)) else pr.lits ((rs.flatMap (·.2)).zipIdx.map (qga pr e)) (k (q2T vs) us (rd++us.map (·.1))))
   else pr.fail)
def shs3:List (V3 Δ N)→Option (List Sh)
 | []=>some []
 | .one (.dp _ _)::_=>none
 | .one (.ptr _ _)::_=>none
 | .one (.pa _ _ _ _)::_=>none
 | .one _::r=>match shs3 r with
  | some s=>some (.one::s)
  | none=>none
 | .agg xs::r=>match shs3 r with
  | some s=>some (.agg xs.length::s)
  | none=>none
 | .tup _::_=>none
def opC3 (cfg:Cf3) (P:Program) (ob:Ups Δ N R M) (dst:Option Nat) (ρ:Operand→V3 Δ N) (op:Op) (k:K3 Δ N R M Ω):Ω:=match q3H op with
 | some (fo,args)=>match ρ fo with
  | .one (.fn f caps)=>if f < 2000000 then qjp pr cfg ob dst f (args.map ρ) caps k else qjp pr cfg ob dst (f - 2000000) (caps.map .one++args.map ρ) [] k
  | .one (.d x)=>match shs3 (args.map ρ) with
   | some sh=>q5I pr ob sh (args.map ρ) fun ds rd=>pr.bnd (pr.callD x sh ds) [fun e=>if (args.map ρ).all V3.isD=true then k (.one (.d (pr.ld e 0))) [] rd else pr.lits [.d (pr.ld e 0)] (k (.one (.d (pr.ld e 0))) [] rd)]
   | none=>pr.fail
  | _=>pr.fail
 | none=>match qbA op with
  | some (recv,name)=>match ρ recv with
   | .one (.d x)=>pr.bnd (pr.callD x [.met name (cfg.iv name)] []) [fun e =>
    let vs:=(q1u pr e (q2q dst) (List.replicate (cfg.iv name) (false,[.d])) 0 0).1
    let us:=(q1u pr e (q2q dst) (List.replicate (cfg.iv name) (false,[.d])) 0 0).2.1
    if q4J (us.map (·.1))=true∧q8l ob us=true then k (q2T vs) us (us.map (·.1)) else pr.fail]
   | _=>pr.fail
  | none=>op3 pr P ob dst ρ op k
mutual
def q2j (ρ:Nat→Nat):L3 Unit Unit→L3 Δ N→Option (List Δ)
 | .d _,x=>match q5M pr x with
  | some y=>some [y]
  | none=>none
 | .fn f cs,.fn f' cs'=>if f=f' then q3A ρ cs cs' else none
 | .mk c,.mk k=>if ρ c=k then some [] else none
 | .ptr c o,.ptr k o'=>if ρ c=k∧o=o' then some [] else none
 | .dp r o,.dp row o'=>if r.length=row.length∧o=o' then some row else none
 | _,_=>none
def q3A (ρ:Nat→Nat):List (L3 Unit Unit)→List (L3 Δ N)→Option (List Δ)
 | [],[]=>some []
 | s::ss,x::xs=>match q2j ρ s x,q3A ρ ss xs with
  | some a,some b=>some (a++b)
  | _,_=>none
 | _,_=>none
end
def q7a (ρ:Nat→Nat):V3 Unit Unit→V3 Δ N→Option (List Δ)
 | .one (.slk c none _ _),.one (.slk k none _ _)=>if ρ c=k then some [] else none
 | .one s,.one x=>q2j pr ρ s x
 | .agg ss,.agg xs=>q3A pr ρ ss xs
 | _,_=>none
def q5i (ρ:Nat→Nat):List (V3 Unit Unit)→List (V3 Δ N)→Option (List Δ)
 | [],[]=>some []
 | s::ss,x::xs=>match q7a pr ρ s x,q5i ρ ss xs with
  | some a,some b=>some (a++b)
  | _,_=>none
 | _,_=>none
def q2O (ρ:Nat→Nat) (ob:Ups Δ N R M) (wn:Bool):List (Nat×O3 Unit Unit Unit Unit)→Option (List Δ)
 | []=>some []
 | (c,.box cells e)::r=>match q0V ob (ρ c) with
  | some (.box cells' e')=>if e=e' then (match q3A pr ρ cells cells',q2O ρ ob wn r with
   | some a,some b=>some (a++b)
   | _,_=>none) else none
  | _=>none
 | (c,.mp g _ true)::r=>match q0V ob (ρ c) with
  | some (.mp g' m true)=>if g=g' then (match q2O ρ ob wn r with
   | some b=>some (pr.mpD g m::b)
   | none=>none) else none
  | _=>none
 | (c,.arr _ size elem _)::r=>match q0V ob (ρ c) with
  | some (.arr rows size' elem' own)=>if size=size'∧elem=elem'∧own=wn then (match q2O ρ ob wn r with
   | some b=>some (pr.slD size rows::b)
   | none=>none) else none
  | _=>none
 | _=>none
mutual
def q5f (ρ:Nat→Nat):L3 Unit Unit→List Δ→Option (L3 Δ N×List Δ)
 | .d _,x::xs=>some (.d x,xs)
 | .fn f cs,xs=>match q4u ρ cs xs with
  | some (ys,r)=>some (.fn f ys,r)
  | none=>none
 | .mk c,xs=>some (.mk (ρ c),xs)
 | .ptr c o,xs=>some (.ptr (ρ c) o,xs)
 | .dp r o,xs=>if (xs.take r.length).length=r.length then some (.dp (xs.take r.length) o,xs.drop r.length) else none
 | _,_=>none
def q4u (ρ:Nat→Nat):List (L3 Unit Unit)→List Δ→Option (List (L3 Δ N)×List Δ)
 | [],xs=>some ([],xs)
 | s::ss,xs=>match q5f ρ s xs with
  | some (y,r)=>match q4u ρ ss r with
   | some (ys,r')=>some (y::ys,r')
   | none=>none
  | none=>none
end
def q5m (ρ:Nat→Nat) (us:Ups Δ N R M):V3 Unit Unit→List Δ→Option (V3 Δ N×List Δ)
 | .one (.slk c none _ _),xs=>match q0V us (ρ c) with
  | some (.arr rows _ _ _)=>some (.one (.slk (ρ c) none (pr.len rows) (pr.len rows)),xs)
  | _=>none
 | .one s,xs=>match q5f ρ s xs with
  | some (y,r)=>some (.one y,r)
  | none=>none
 | .agg ss,xs=>match q4u ρ ss xs with
  | some (ys,r)=>some (.agg ys,r)
  | none=>none
 | _,_=>none
def q4S (ρ:Nat→Nat) (us:Ups Δ N R M):List (V3 Unit Unit)→List Δ→Option (List (V3 Δ N)×List Δ)
 | [],xs=>some ([],xs)
 | s::ss,xs=>match q5m pr ρ us s xs with
  | some (y,r)=>match q4S ρ us ss r with
   | some (ys,r')=>some (y::ys,r')
   | none=>none
  | none=>none
def q6c (ρ:Nat→Nat) (wn:Bool):List (Nat×O3 Unit Unit Unit Unit)→List Δ→(Ups Δ N R M→List Δ→Ω)→Ω
 | [],xs,k=>k [] xs
 | (c,.box cells e)::r,xs,k=>match q4u ρ cells xs with
  | some (ys,xs')=>q6c ρ wn r xs' fun us zs=>k ((ρ c,.box ys e)::us) zs
  | none=>pr.fail
 | (c,.mp g _ true)::r,x::xs,k=>pr.asM g x fun m=>q6c ρ wn r xs fun us zs=>k ((ρ c,.mp g m true)::us) zs
 | (c,.arr _ size elem _)::r,x::xs,k=>pr.rowsD size x fun rows=>q6c ρ wn r xs fun us zs=>k ((ρ c,.arr rows size elem wn)::us) zs
 | _,_,_=>pr.fail
def q8e:List (V3 Unit Unit)→List (V3 Δ N)→List (Nat×N×N)
 | .one (.slk _ none _ _)::ss,.one (.slk k none n c)::xs=>(k,n,c)::q8e ss xs
 | _::ss,_::xs=>q8e ss xs
 | _,_=>[]
def chkK (ob:Ups Δ N R M):List (Nat×N×N)→Ω→Ω
 | [],k=>k
 | (key,n,c)::r,k=>match q0V ob key with
  | some (.arr rows _ _ _)=>pr.eqN n (pr.len rows) (pr.eqN c (pr.len rows) (chkK ob r k))
  | _=>pr.fail
mutual
def qkc:L3 Unit Unit→L3 Δ N→List (Nat×Nat)
 | .mk c,.mk k=>[(c,k)]
 | .ptr c _,.ptr k _=>[(c,k)]
 | .slk c _ _ _,.slk k _ _ _=>[(c,k)]
 | .fn _ cs,.fn _ cs'=>q9H cs cs'
 | _,_=>[]
def q9H:List (L3 Unit Unit)→List (L3 Δ N)→List (Nat×Nat)
 | s::ss,x::xs=>qkc s x++q9H ss xs
 | _,_=>[]
end
def q6G:List (V3 Unit Unit)→List (V3 Δ N)→List (Nat×Nat)
 | .one s::ss,.one x::xs=>qkc s x++q6G ss xs
 | .agg s::ss,.agg x::xs=>q9H s x++q6G ss xs
 | _::ss,_::xs=>q6G ss xs
 | _,_=>[]
def qdf (ob:Ups Δ N R M) (al:List (Nat×Nat)):List (Nat×O3 Unit Unit Unit Unit)→List (Nat×Nat)
 | []=>[]
 | (c,.box cells _)::r=>(match al.find? (fun p=>p.1==c) with
  | some (_,k)=>match q0V ob k with
   | some (.box cells' _)=>q9H cells cells'
   | _=>[]
  | none=>[])++qdf ob al r
 | _::r=>qdf ob al r
def qir (al:List (Nat×Nat)) (c:Nat):Nat:=match al.find? (fun p=>p.1==c) with
 | some (_,k)=>k
 | none=>c
mutual
def cntL:L3 Unit Unit→Nat
 | .d _=>1
 | .fn _ cs=>qgT cs
 | .dp r _=>r.length
 | _=>0
def qgT:List (L3 Unit Unit)→Nat
 | []=>0
 | x::xs=>cntL x+qgT xs
end
def qeJ:List (Nat×O3 Unit Unit Unit Unit)→Nat
 | []=>0
 | (_,.box cells _)::r=>qgT cells+qeJ r
 | (_,_)::r=>1+qeJ r
def okMs (ms:Ms):Bool :=
 let C:=ms.obs.map (·.1)
 q4J C&&(V3.keysF ms.args).all C.contains&&(ms.obs.all fun p=>p.2.keysOf.all C.contains)&&(match ms.ref with | none=>true | some c=>C.contains c)
def qkJ:Option (Bool×Nat)→Nat
 | none=>0
 | some (_,n)=>n
def q7A (e:Nat→Δ):Option (Bool×Nat)→V3 Δ N
 | none=>.tup []
 | some (false,_)=>.one (.d (e 0))
 | some (true,n)=>.agg ((List.range n).map fun i=>.d (e i))
def qiC:List (V3 Unit Unit)→List (V3 Δ N)→List (V3 Δ N)
 | .one (.d _)::ss,.one (.fn f cs)::xs=>(match qa4 pr cs with
  | some ds=>.one (.d (pr.fnD f ds))
  | none=>.one (.fn f cs))::qiC ss xs
 | _::ss,x::xs=>x::qiC ss xs
 | _,xs=>xs
def qdy (cfg:Cf3) (f:Nat) (args:List (V3 Δ N)) (ob:Ups Δ N R M) (kk:V3 Δ N→Ups Δ N R M→List Nat→Ω):Ω:=match cfg.ms f with
 | none=>pr.fail
 | some ms =>
  let args0:=args
  let args:=qiC pr ms.args args
  let al:=q6G ms.args args
  let al:=al++qdf ob al ms.obs
  if (okMs ms&&q4J ((ms.obs.map (·.1)).map (qir al)))=true then
   match q5i pr (qir al) ms.args args,q2O pr (qir al) ob true ms.obs with
   | some xs,some ys=>chkK pr ob (q8e ms.args args) (pr.bnd (pr.call (f+1000000) (ys++xs)) [fun e=>q6c pr (qir al) ms.res.isNone ms.obs ((List.range (qeJ ms.obs)).map fun i=>pr.ld e (qkJ ms.res+i)) fun us _=>match ms.ref with
     | none=>kk (q7A (pr.ld e) ms.res) us (al.map (·.2)++ms.obs.map fun p=>qir al p.1)
     | some c=>match q0V us (qir al c) with
      | some (.arr rows _ _ _)=>kk (.one (.slk (qir al c) none (pr.len rows) (pr.len rows))) us (al.map (·.2)++ms.obs.map fun p=>qir al p.1)
      | _=>pr.fail])
   | _,_=>pr.miss 8 f 0 0 [] .normal ⟨args0.zipIdx.map fun p=>(p.2,p.1),ob,[],none⟩ []
  else pr.miss 8 f 0 0 [] .normal ⟨args0.zipIdx.map fun p=>(p.2,p.1),ob,[],none⟩ []
def qlK (cfg:Cf3) (f:Nat) (args:List (V3 Δ N)) (ob:Ups Δ N R M) (kk:V3 Δ N→Ups Δ N R M→Ω):Ω:=qdy pr cfg f args ob fun v us _=>kk v (q2d us ob)
def qkK:Option (Bool×Nat)→V3 Δ N→Option (List (L3 Δ N))
 | none,.tup []=>some []
 | some (false,1),.one x=>some [x]
 | some (true,n),.agg xs=>if xs.length=n then some xs else none
 | _,_=>none
def qkk (ms:Ms) (v:V3 Δ N) (ob:Ups Δ N R M) (k:List (L3 Δ N)→Ω):Ω:=match ms.ref with
 | none=>match qkK ms.res v with
  | none=>pr.fail
  | some cs=>k cs
 | some c=>match v with
  | .one (.slk key none n m)=>if key=c∧ms.res=none∧(ms.obs.map (·.1)).contains c=true then (match q0V ob c with
   | some (.arr rows _ _ _)=>pr.eqN n (pr.len rows) (pr.eqN m (pr.len rows) (k []))
   | _=>pr.fail) else pr.fail
  | _=>pr.fail
def finK (ms:Ms) (ob:Ups Δ N R M) (cs:List (L3 Δ N)):Ω:=qaG pr ob cs fun ds us _=>match q2O pr id (q2d us ob) ms.res.isNone ms.obs with
  | some ys=>pr.out 0 ((ds++ys).map .d)
  | none=>pr.fail
def finM (ms:Ms) (v:V3 Δ N) (ob:Ups Δ N R M):Ω:=qkk pr ms v ob (finK pr ms ob)
def q8X (ob:Ups Δ N R M):Nat→Nat→Nat
 | 0,k=>k
 | n+1,k=>if ob.all fun p=>p.1 != k&&(Nat.blt p.1 (1000*(k+1))||Nat.ble (1000*(k+2)) p.1) then k else q8X ob n (k+1000000000)
def qh1 (cfg:Cf3) (f:Nat) (args:List (V3 Δ N)) (b:Nat) (ob:Ups Δ N R M) (kk:V3 Δ N→Ups Δ N R M→Ω):Ω:=match cfg.sp f with
 | none=>pr.fail
 | some (size,elem,bs)=>match args with
  | [s,.one i,.one (.slk key2 none n2 c2)]=>match q5M pr i,q0V ob key2 with
   | some y,some (.arr rows2 size2 _ true)=>if size2=size then pr.eqN c2 (pr.len rows2) (pr.isNil (pr.seg rows2 none n2) pr.fail (
     let nilc:=pr.fits bs (pr.len (pr.seg rows2 none n2)) (pr.ins y (pr.rows []) (pr.seg rows2 none n2) fun r =>
      q3E pr ob (some (q8X ob 8 b)) (.arr r size elem true) (fun key=>.one (.slk key none (pr.len (pr.seg rows2 none n2)) (pr.len (pr.seg rows2 none n2)))) fun v us _=>kk v (q2d us ob))
     match s with
     | .one .nil=>nilc
     | .one (.d x)=>pr.nilD x nilc
     | .one (.slk key none n c)=>if key=key2 then pr.fail else match q0V ob key with
      | some (.arr rows size' elem' true)=>if size'=size∧elem'=elem then pr.eqN c (pr.len rows) (pr.eqN n (pr.len rows) (pr.fits bs (pr.addN n (pr.len (pr.seg rows2 none n2))) (pr.ins y rows (pr.seg rows2 none n2) fun r =>
        kk (.one (.slk key none (pr.addN n (pr.len (pr.seg rows2 none n2))) (pr.addN n (pr.len (pr.seg rows2 none n2))))) (q2d [(key,.arr r size elem true)] ob)))) else pr.fail
      | _=>pr.fail
     | _=>pr.fail)) else pr.fail
   | _,_=>pr.fail
  | _=>pr.fail
abbrev Hd3 (Δ N R M Ω:Type):=List (V3 Δ N)→Ups Δ N R M→(Option Ex→Ups Δ N R M→Ω)→Ω
abbrev Rn3 (Δ N R M Ω:Type):=Nat→List (V3 Δ N)→Nat→Ups Δ N R M→(V3 Δ N→Ups Δ N R M→Ω)→Ω
def kd3 (ob:Ups Δ N R M) (b:Nat) (dst:Option Nat):Option Nat:=match dst with
 | some d=>some (q8X ob 8 (b*1000+d))
 | none=>none
def q78 (dst:Option Nat) (v:V3 Δ N) (ob:Ups Δ N R M) (st:S3 Δ N R M):S3 Δ N R M:=⟨match dst with | some d=>(d,v)::st.env | none=>st.env,ob,q8y st.ys dst,st.pend⟩
def q7d:List (V3 Δ N)→Nat→List (Nat×V3 Δ N)
 | [],_=>[]
 | x::xs,i=>(i,x)::q7d xs (i+1)
inductive Kind3 (Δ N:Type) where
 | copy (d:Nat)
 | yld (args:List Operand)
 | inl (f:Nat) (args:List (V3 Δ N))
 | op
def q4k (cfg:Cf3) (ys:List Nat) (ρ:Operand→V3 Δ N) (o:Oper):Kind3 Δ N:=match o.op with
 | .move x=>match yOf ys x,o.dst with
  | true,some d=>.copy d
  | _,_=>.op
 | .assign x=>match yOf ys x,o.dst with
  | true,some d=>.copy d
  | _,_=>.op
 | op=>match q3H op with
  | none=>.op
  | some (fo,args)=>if yOf ys fo=true then .yld args else match fn3 (ρ fo) with
   | some (f,caps)=>match cfg.inl f with
    | some _=>.inl f (args.map ρ++caps.map .one)
    | none=>match (match ((args.map ρ).all V3.isD&&caps.all L3.isD) with | true=>none | false=>cfg.ms f) with
     | some _=>.inl f (args.map ρ++caps.map .one)
     | none=>match cfg.sp f with
      | some _=>.inl f (args.map ρ++caps.map .one)
      | none=>.op
   | none=>.op
def keyOf3 (cfg:Cf3) (f:Nat) (ob:Ups Δ N R M) (b:Nat) (dst:Option Nat):Option Nat:=match dst with
 | some d=>match cfg.cb f d with
  | true=>none
  | false=>kd3 ob b (some d)
 | none=>none
def qkI (cfg:Cf3) (P:Program) (fr:Fr) (hd:Option (Hd3 Δ N R M Ω)) (rn:Rn3 Δ N R M Ω) (o:Oper) (st:S3 Δ N R M) (k:S3 Δ N R M→Ω):Ω :=
 if q5G fr.nt o.dst=true then
  match q4k cfg st.ys (ev3 pr st.env) o with
  | .copy d=>k ⟨(d,.one .undef)::st.env,st.ob,d::st.ys,st.pend⟩
  | .yld args=>match hd,st.pend with
   | some h,none=>h (args.map (ev3 pr st.env)) st.ob fun p ob=>k { q78 o.dst (.one (.b p.isNone)) ob st with pend:=p }
   | _,_=>pr.fail
  | .inl f args=>rn f args (fr.b*1000+o.dst.getD 998+1) st.ob fun v ob=>k (q78 o.dst v ob st)
  | .op=>opC3 pr cfg P st.ob (keyOf3 cfg fr.f st.ob fr.b o.dst) (ev3 pr st.env) o.op fun v us _=>k (q78 o.dst v (q2d us st.ob) st)
 else pr.fail
def qaF (v:V3 Δ N):Option (Option Bool)×Option Δ:=match v with
 | .one (.b b)=>(some (some b),none)
 | .one (.d x)=>(none,some x)
 | .tup []=>(some none,none)
 | _=>(none,none)
def qhN (kind f b p:Nat) (pk:List Nat) (js:List (Ex×Sk)) (e:Ex) (st:S3 Δ N R M):Ω:=match qeC pr pk e st js 0 with
 | some (j,ys)=>pr.out j ys
 | none=>pr.miss kind f b p pk e st []
def ctx {α:Type} (pk:List Nat) (st:S3 Δ N R M):List (Sk×α)→Nat→Option (Nat×α)
 | [],_=>none
 | (sk,x)::r,j=>match qjg pr pk sk st with
  | some _=>some (j,x)
  | none=>ctx pk st r (j+1)
def okPk (pk:List Nat) (sk:Sk):Bool:=pk.all (sk.ob.map (·.1)).contains
def q7z (pk:List Nat) (js:List (Ex×Sk)) (k:Ex→S3 Δ N R M→Ω):List (E→Ω):=js.map fun x=>match okPk pk x.2 with
 | true=>fun e=>k x.1 (q3t pr e x.2)
 | false=>fun _=>pr.fail
def qij (cfg:Cf3) (P:Program) (fr:Fr) (hd:Option (Hd3 Δ N R M Ω)) (rn:Rn3 Δ N R M Ω) (ops:Array Oper) (o:Oper) (st:S3 Δ N R M) (k:S3 Δ N R M→Ω):Ω :=
 match o.guard with
  | none=>qkI pr cfg P fr hd rn o st k
  | some (j,want)=>match q3L ops j with
   | none=>pr.fail
   | some gt =>
    let skip:=fun (st:S3 Δ N R M)=>if q5G fr.nt o.dst=true then k (q78 o.dst (.tup []) st.ob st) else pr.fail
    let st1:=fun (b:Bool)=>({ st with env:=(gt,.one (.b b))::st.env }:S3 Δ N R M)
    match qaF (q2P st.env gt),want with
    | (some none,_),_=>skip st
    | (some (some true),_),true=>qkI pr cfg P fr hd rn o st k
    | (some (some false),_),false=>qkI pr cfg P fr hd rn o st k
    | (some (some _),_),_=>skip st
    | (none,some x),true=>pr.cond x (qkI pr cfg P fr hd rn o (st1 true) k) (skip (st1 false))
    | (none,some x),false=>pr.cond x (skip (st1 true)) (qkI pr cfg P fr hd rn o (st1 false) k)
    | (none,none),_=>pr.fail
def qlA (ops:Array Oper) (env:List (Nat×V3 Δ N)) (o:Oper):Bool:=match o.guard with
 | none=>false
 | some (j,_)=>match q3L ops j with
  | none=>false
  | some gt=>match q2P env gt with
   | .one (.d _)=>true
   | _=>false
def qiG (cfg:Cf3) (P:Program) (fr:Fr) (hd:Option (Hd3 Δ N R M Ω)) (rn:Rn3 Δ N R M Ω) (ops:Array Oper) (id:Nat):Nat→Nat→List Oper→S3 Δ N R M→(S3 Δ N R M→Ω)→Ω
 | _,_,[],st,k=>k st
 | 0,_,_::_,_,_=>pr.fail
 | n+1,i,o::rest,st,k=>match (match qlA ops st.env o with | true=>cfg.gj fr.f fr.b (id*1000+i) | false=>none) with
  | none=>qij pr cfg P fr hd rn ops o st fun st'=>qiG cfg P fr hd rn ops id n (i+1) rest st' k
  | some (len,cs)=>match ctx pr fr.pr st cs 0 with
   | none=>pr.miss 6 fr.f fr.b (id*1000+i) fr.pr .normal st []
   | some (c,js)=>pr.bnd (qij pr cfg P fr hd rn ops o st fun st'=>qiG cfg P fr hd rn ops id n (i+1) (rest.take len) st' (qhN pr (4+10*c) fr.f fr.b (id*1000+i) fr.pr js .normal))
    (q7z pr fr.pr js fun _ st'=>qiG cfg P fr hd rn ops id n (i+1+len) (rest.drop len) st' k)
abbrev Log:=List (List Nat×List Nat)
def qaN (pairs:List (Nat×Nat)) (i:Nat) (log:Log) (rd wr:List Nat):Bool :=
 pairs.all fun p=>if p.2=i then (match log[p.1]? with
  | some (rj,wj)=>(wj.all fun x=>!(rd.contains x)&&!(wr.contains x))&&(rj.all fun x=>!(wr.contains x))
  | none=>false) else true
def qby (cfg:Cf3) (f:Nat) (o:Oper):Option Nat:=match o.dst with
 | some d=>match cfg.cb f d with
  | true=>none
  | false=>some d
 | none=>none
def qfZ (cfg:Cf3) (ρ:Operand→V3 Δ N) (o:Oper):Option (Nat×List (V3 Δ N)):=match q4k cfg [] ρ o with
 | .inl f args=>match cfg.inl f,cfg.ms f with
  | none,some _=>some (f,args)
  | _,_=>none
 | _=>none
def ownO3:O3 Δ N R M→Bool
 | .box ..=>true
 | .arr _ _ _ own=>own
 | .mp _ _ own=>own
def qlj (cfg:Cf3) (fr:Fr) (rn:Rn3 Δ N R M Ω) (q:Nat) (o:Oper) (f:Nat) (args:List (V3 Δ N)) (ob:Ups Δ N R M) (k:V3 Δ N→Ups Δ N R M→List Nat→Ω):Ω:=match qjb [] args ob with
 | none=>pr.fail
 | some kept =>
  let ks:=kept.map (·.1)
  if (q4J ks&&(kept.all fun p=>ownO3 p.2&&p.2.keysOf.all ks.contains)&&args.all fun v=>v.keysOf.all ks.contains)=true then
   match cfg.gj fr.f fr.b q with
   | none=>pr.fail
   | some (_,cs)=>match ctx pr ks ⟨[],kept,[],none⟩ cs 0 with
    | none=>pr.miss 6 fr.f fr.b q ks .normal ⟨[],kept,[],none⟩ []
    | some (c,js)=>pr.bnd (rn f args (fr.b*1000+o.dst.getD 998+1) kept fun v ob'=>qhN pr (4+10*c) fr.f fr.b q ks js .normal ⟨[(0,v)],ob',[],none⟩)
     (q7z pr ks js fun _ st' =>
      let us:=st'.ob.map (·.1)
      if (q4J us&&((us.filter fun q=>!ks.contains q).all fun q=>(q0V ob q).isNone)&&ks.all us.contains&&(st'.ob.all fun p=>p.2.keysOf.all us.contains)&&(q2P st'.env 0).keysOf.all us.contains)=true then k (q2P st'.env 0) st'.ob (ks++us.filter fun q=>!ks.contains q) else pr.fail)
  else pr.fail
def qbB (cfg:Cf3) (ρ:Operand→V3 Δ N) (o:Oper):Option (Nat×List (V3 Δ N)):=match q4k cfg [] ρ o with
 | .inl f args=>match cfg.inl f with
  | some _=>some (f,args)
  | none=>none
 | _=>none
def goDr (cfg:Cf3) (P:Program) (fr:Fr) (rn:Rn3 Δ N R M Ω) (q:Nat) (o:Oper) (st:S3 Δ N R M) (k:V3 Δ N→Ups Δ N R M→List Nat→Ω):Ω:=match qfZ cfg (ev3 pr st.env) o with
 | some p=>qdy pr cfg p.1 p.2 st.ob k
 | none=>match qbB cfg (ev3 pr st.env) o with
  | some p=>qlj pr cfg fr rn q o p.1 p.2 st.ob k
  | none=>opC3 pr cfg P st.ob (qby cfg fr.f o) (ev3 pr st.env) o.op k
def dr3 (cfg:Cf3) (P:Program) (fr:Fr) (rn:Rn3 Δ N R M Ω) (id:Nat) (ops:Array Oper) (pairs:List (Nat×Nat)):List Oper→Nat→Log→S3 Δ N R M→(S3 Δ N R M→Ω)→Ω
 | [],_,_,st,k=>k st
 | o::rest,i,log,st,k =>
  let next:=fun (st:S3 Δ N R M) (v:V3 Δ N) (us:Ups Δ N R M) (rd:List Nat) =>
   if (q5G fr.nt o.dst&&qaN pairs i log rd (us.map (·.1)))=true then dr3 cfg P fr rn id ops pairs rest (i+1) (log++[(rd,us.map (·.1))]) (q78 o.dst v (q2d us st.ob) st) k else pr.fail
  let go:=fun (st:S3 Δ N R M)=>goDr pr cfg P fr rn (id*1000+i) o st (next st)
  let skip:=fun (st:S3 Δ N R M)=>dr3 cfg P fr rn id ops pairs rest (i+1) (log++[([],[])]) (q78 o.dst (.tup []) st.ob st) k
  match o.guard with
  | none=>go st
  | some (j,want)=>match q3L ops j with
   | none=>pr.fail
   | some gt =>
    let st1:=fun (b:Bool)=>({ st with env:=(gt,.one (.b b))::st.env }:S3 Δ N R M)
    match qaF (q2P st.env gt),want with
    | (some none,_),_=>skip st
    | (some (some true),_),true=>go st
    | (some (some false),_),false=>go st
    | (some (some _),_),_=>skip st
    | (none,some x),true=>pr.cond x (go (st1 true)) (skip (st1 false))
    | (none,some x),false=>pr.cond x (skip (st1 true)) (go (st1 false))
    | (none,none),_=>pr.fail
abbrev Ev3 (Δ N R M Ω:Type):=Fr→Option (Hd3 Δ N R M Ω)→Nat→Nat→Code→S3 Δ N R M→(Ex→S3 Δ N R M→Ω)→Ω
def q2z (ob:Ups Δ N R M):List Nat:=q4T (ob.map (·.1)) []
def q4N (P:Program) (bd:Bd) (ob:Ups Δ N R M) (kk:V3 Δ N→Ups Δ N R M→Ω) (st':S3 Δ N R M):Ω :=
 qa9 pr P st'.ob st'.env bd.res fun vs=>match qjb (q2z ob) vs st'.ob with
  | some ob'=>kk (q2T vs) ob'
  | none=>pr.fail
def qgk:V3 Δ N→Bool
 | .one (.slk ..)=>true
 | _=>false
def formOK (ms:Ms) (args:List (V3 Δ N)):Bool:=if ms.args.isEmpty then args.any qgk else (ms.args.map qgk==args.map qgk)
def byForm (cfg:Cf3) (f:Nat) (args:List (V3 Δ N)):Bool:=match cfg.ms f with
 | some ms=>formOK ms args
 | none=>false
def qio (cfg:Cf3) (P:Program) (ex:Ev3 Δ N R M Ω):Rn3 Δ N R M Ω:=fun f args b ob kk=>if byForm cfg f args=true then qlK pr cfg f args ob kk else match cfg.inl f with
 | none=>match cfg.ms f with
  | some _=>qlK pr cfg f args ob kk
  | none=>qh1 pr cfg f args b ob kk
 | some bd=>if args.length≤bd.nt then ex ⟨f,b,bd.nt,true,q2z ob,false⟩ none 0 1 bd.code ⟨q7d args 0,ob,[],none⟩ (fun e st=>match e with
   | .exit _=>pr.fail
   | .normal=>q4N pr P bd ob kk st
   | .ret=>q4N pr P bd ob kk st) else pr.fail
def bdy3 (ob:Ups Δ N R M) (kk:Option Ex→Ups Δ N R M→Ω) (e2:Ex) (st2:S3 Δ N R M):Ω:=match qjb (q2z ob) [] st2.ob with
 | some ob'=>kk (match e2 with | .normal=>none | .exit i=>some (.exit i) | .ret=>some .ret) ob'
 | none=>pr.fail
def rngH3 (ex:Ev3 Δ N R M Ω) (fr:Fr) (cur p:Nat) (ps:Array Tmp) (assign body:Code) (env:List (Nat×V3 Δ N)):Hd3 Δ N R M Ω:=fun vals ob kk=>if vals.length=ps.size then
  ex ⟨fr.f,fr.b,fr.nt,false,q2z ob,false⟩ none cur (2*p) assign ⟨((ps.toList.zip vals).reverse++env),ob,[],none⟩ (fun e st1=>match e with
   | .normal=>ex ⟨fr.f,fr.b,fr.nt,false,q2z st1.ob,false⟩ none cur (2*p+1) body st1 (bdy3 pr ob kk)
   | .exit _=>pr.fail
   | .ret=>pr.fail)
 else pr.fail
def qda (st:S3 Δ N R M) (k:Ex→S3 Δ N R M→Ω) (st':S3 Δ N R M):Ω:=match qjb (q2z st.ob) [] st'.ob with
 | some ob'=>k (match st'.pend with | none=>.normal | some e=>e) ⟨st.env,ob',[],st.pend⟩
 | none=>pr.fail
def exIn (id:Nat):Ex→Ex
 | .exit i=>if i=id then .normal else .exit i
 | .normal=>.normal
 | .ret=>.ret
def q7c:List (Option Nat×Nat)→S3 Δ N R M→(S3 Δ N R M→Ω)→Ω
 | [],st,kk=>kk st
 | (none,t)::r,st,kk=>match q2P st.env t with
  | .one (.slk key off n c)=>qkf pr st.ob (.slk key off n c) fun d us _=>q7c r { st with env:=(t,.one (.d d))::st.env,ob:=q2d us st.ob } kk
  | .one .nil=>q7c r { st with env:=(t,.one (.d (pr.lit (.slice none 0 0))))::st.env } kk
  | _=>q7c r st kk
 | (some b,i)::r,st,kk=>match q0V st.ob b with
  | some (.box cells e)=>match cells[i]? with
   | some (.slk key off n c)=>qkf pr st.ob (.slk key off n c) fun d us _=>q7c r { st with ob:=(b,.box (cells.set i (.d d)) e)::q2d us st.ob } kk
   | some .nil=>q7c r { st with ob:=(b,.box (cells.set i (.d (pr.lit (.slice none 0 0)))) e)::st.ob } kk
   | some (.mk key)=>qkf pr st.ob (.mk key) fun d us _=>q7c r { st with ob:=(b,.box (cells.set i (.d d)) e)::q2d us st.ob } kk
   | _=>q7c r st kk
  | _=>q7c r st kk
def frzE (l:List (Option Nat×Nat)) (k:Ex→S3 Δ N R M→Ω) (e:Ex) (st:S3 Δ N R M):Ω:=match e with
 | .normal=>q7c pr l st (k .normal)
 | .exit i=>k (.exit i) st
 | .ret=>k .ret st
def q1M (cfg:Cf3) (P:Program):Nat→Ev3 Δ N R M Ω
 | 0,_,_,_,_,_,_,_=>pr.fail
 | n+1,fr,hd,cur,p,c,st,k=>match c with
  | .skip=>k .normal st
  | .label _=>k .normal st
  | .ret=>k .ret st
  | .exit id=>k (.exit id) st
  | .region id ops draw=>match draw with
   | false=>qiG pr cfg P fr hd (qio pr cfg P (q1M cfg P n)) ops id ops.size 0 ops.toList st (k .normal)
   | true=>match st.ys with
    | []=>dr3 pr cfg P fr (qio pr cfg P (q1M cfg P n)) id ops (cfg.draw fr.f id ops) ops.toList 0 [] st (k .normal)
    | _=>pr.fail
  | .seq a b =>
   let kk:=fun (e:Ex) (st':S3 Δ N R M)=>match e with
    | .normal=>q1M cfg P n fr hd cur (2*p+1) b st' k
    | .exit i=>k (.exit i) st'
    | .ret=>k .ret st'
   match cfg.jn fr.f fr.b p with
    | none=>q1M cfg P n fr hd cur (2*p) a st (frzE pr (cfg.fz fr.f fr.b p) kk)
    | some cs=>match ctx pr fr.pr st cs 0 with
     | none=>pr.miss 5 fr.f fr.b p fr.pr .normal st []
     | some (c,js)=>pr.bnd (q1M cfg P n fr hd cur (2*p) a st (frzE pr (cfg.fz fr.f fr.b p) (qhN pr (10*c) fr.f fr.b p fr.pr js))) (q7z pr fr.pr js kk)
  | .cond c a b=>match c with
   | .tmp t=>match q2P st.env t with
    | .one (.b true)=>q1M cfg P n fr hd cur (2*p) a st k
    | .one (.b false)=>q1M cfg P n fr hd cur (2*p+1) b st k
    | .one (.d x)=>pr.cond x (q1M cfg P n fr hd cur (2*p) a { st with env:=(t,.one (.b true))::st.env } k) (q1M cfg P n fr hd cur (2*p+1) b { st with env:=(t,.one (.b false))::st.env } k)
    | _=>pr.fail
   | .const (.bool true)=>q1M cfg P n fr hd cur (2*p) a st k
   | .const (.bool false)=>q1M cfg P n fr hd cur (2*p+1) b st k
   | _=>pr.fail
  | .block id c=>match c with
   | .loop body=>match ctx pr fr.pr st (cfg.lp fr.f fr.b id) 0 with
    | none=>pr.miss 7 fr.f fr.b id fr.pr .normal st []
    | some (c,sks,outs)=>match q86 pr fr.pr st sks 0 with
     | none=>pr.miss (1+10*c) fr.f fr.b id fr.pr .normal st []
     | some (i0,ys0)=>pr.bnd (pr.loop (sks.map fun sk=>fun J e=>if okPk fr.pr sk=false then pr.fail else q1M cfg P n fr hd id (2*p) body (q3t pr e sk) fun e' st'=>match e' with
       | .normal=>(match q86 pr fr.pr st' sks 0 with
        | some (j,ys)=>J j ys
        | none=>pr.miss (1+10*c) fr.f fr.b id fr.pr .normal st' [])
       | .exit i=>qhN pr (2+10*c) fr.f fr.b id fr.pr outs (exIn id (.exit i)) st'
       | .ret=>qhN pr (2+10*c) fr.f fr.b id fr.pr outs .ret st') i0 ys0) (q7z pr fr.pr outs k)
   | c=>q1M cfg P n fr hd id (2*p) c st fun e st'=>match e with
    | .normal=>k .normal st'
    | .ret=>k .ret st'
    | .exit i=>if i=id then k .normal st' else k (.exit i) st'
  | .rangeFunc g ps assign body=>if fr.rng=true then
    match st.ys with
    | []=>match fn3 (ev3 pr st.env g) with
     | none=>pr.fail
     | some (f,caps)=>match cfg.inl f with
      | none=>pr.fail
      | some bd=>if caps.length+1≤bd.nt∧bd.res=[]∧ps.toList.all (fun p=>decide (p < fr.nt))=true then
        q1M cfg P n ⟨f,(fr.b+1)*1000,bd.nt,false,q2z st.ob,false⟩ (some (rngH3 pr (q1M cfg P n) fr cur p ps assign body st.env)) 0 1 bd.code ⟨q7d (.one .undef::caps.map .one) 0,st.ob,[0],none⟩ (fun e st'=>match e with
         | .exit _=>pr.fail
         | .normal=>qda pr st k st'
         | .ret=>qda pr st k st')
       else pr.fail
    | _=>pr.fail
   else pr.fail
  | _=>pr.fail
def fin3 (cfg:Cf3) (P:Program) (f:Nat) (res:List ResultVar) (e:Ex) (st:S3 Δ N R M):Ω :=
 let go:=qa9 pr P st.ob st.env res fun vs=>match qa6 st.ob vs (cfg.rsk f) 0 with
  | none=>pr.miss 3 f 0 0 [] e st (vs.map (formV st.ob))
  | some (j,rs)=>match allD rs with
   | true=>qjT pr st.ob vs fun ys=>pr.out j ys
   | false=>q8x pr st.ob rs vs fun ys ks=>if q4J ks=true then pr.out j ys else pr.fail
 match e with
 | .exit _=>pr.fail
 | .normal=>go
 | .ret=>go
end
end
section
abbrev Rr:=List (List D)
abbrev Mr:=List Value×List (List D)
abbrev Yr:=Y D Nat Rr Mr
abbrev Out:=Option (Nat×List Yr)
abbrev L3r:=L3 D Nat
abbrev V3r:=V3 D Nat
abbrev O3r:=O3 D Nat Rr Mr
abbrev S3r:=S3 D Nat Rr Mr
abbrev Ur:=Ups D Nat Rr Mr
def q0o (bs:List ((Nat→List Yr→Out)→List Yr→Out)):Nat→Nat→List Yr→Out
 | 0,_,_=>none
 | m+1,j,ys=>match bs[j]? with
  | some b=>b (q0o bs m) ys
  | none=>none
def qkm (op:BinOp) (bl:Bool):D→D→Option D
 | .lit (.int k a),.lit (.int k' b)=>(aBin op k a k' b).map .lit
 | .lit (.bool a),.lit (.bool b)=>if bl=true then (match op with
   | .eql=>some (.lit (.bool (a==b)))
   | .neq=>some (.lit (.bool (a != b)))
   | _=>none) else none
 | .lit (.string a),.lit (.string b)=>(aStr op a b).map .lit
 | _,_=>none
def unD (op:UnOp):D→Option D
 | .lit (.bool b)=>match op with | .not=>some (.lit (.bool !b)) | _=>none
 | .lit (.int k n)=>match op with | .neg=>some (.lit (.int k (k.wrap (0 - n)))) | _=>none
 | _=>none
def mmD (mx:Bool):D→D→Option D
 | .lit (.int k a),.lit (.int k' b)=>if k=k' then some (.lit (.int k (if mx then max a b else min a b))) else none
 | _,_=>none
def intD:D→Option Int
 | .lit (.int _ n)=>some n
 | _=>none
def q5d:Option D→Option (Option Int)
 | none=>some none
 | some x=>(intD x).map some
def qiR:D→Option Nat
 | .sl _ rows=>some rows.length
 | .lit (.slice none 0 0)=>some 0
 | _=>none
def q5W (es:Nat):D→Option Rr
 | .lit (.slice none 0 0)=>some []
 | .sl size rows=>if size=es then some rows else none
 | _=>none
def qlG (es:Nat) (l h:Option Int):D→Option D
 | .sl size rows=>if size=es then (if 0≤l.getD 0∧l.getD 0≤h.getD rows.length∧h.getD rows.length≤rows.length then some (.sl size ((rows.drop (l.getD 0).toNat).take (h.getD rows.length - l.getD 0).toNat)) else none) else none
 | .lit (.slice none 0 0)=>if l.getD 0=0∧h.getD 0=0 then some (.lit (.slice none 0 0)) else none
 | _=>none
def qhO:D→Option Value
 | .lit v=>some v
 | _=>none
def qlP (agg:Bool):D→Option Mr
 | .mp agg' keys vals=>if agg=agg' then some (keys,vals) else none
 | .lit (.map none)=>some ([],[])
 | _=>none
def q79 (kd:Nat) (zs:List Value) (m:Mr) (key:D):Option (List D×D):=match qhO key with
 | some v=>if q6E kd v=true then (match q3f kd v m.1 0 with
  | some (some j)=>match m.2[j]? with
   | some r=>if r.length=zs.length then some (r,.lit (.bool true)) else none
   | none=>none
  | some none=>some (zs.map .lit,.lit (.bool false))
  | none=>none) else none
 | none=>none
def qhI (kd:Nat) (m:Mr) (key:D) (ds:List D):Option Mr:=match qhO key with
 | some v=>if q6E kd v=true then (match q3f kd v m.1 0 with
  | some (some j)=>some (m.1,m.2.set j ds)
  | some none=>some (m.1++[v],m.2++[ds])
  | none=>none) else none
 | none=>none
def qiF {α:Type} (o:Option α) (k:α→Out):Out:=match o with
 | some a=>k a
 | none=>none
def qa0:Yr→Bool
 | .d x=>x.isLit
 | .r rows=>rows.all fun r=>r.all D.isLit
 | .m m=>m.2.all fun r=>r.all D.isLit
 | .n _=>true
def selR (ks:List Out) (j:Nat):Out:=match ks[j]? with
 | some k=>k
 | none=>none
def q05 (Fn:Nat→List D→Out) (FnD:D→List Sh→List D→Out) (m:Nat):Pr D Nat Rr (List D) Mr (List Yr) Out where
 fail:=none
 out j ys:=some (j,ys)
 bnd o ks:=match o with
  | some (j,ys)=>(match ks[j]? with | some k=>k ys | none=>none)
  | none=>none
 loop bs j ys:=q0o bs m j ys
 call:=Fn
 callD:=FnD
 miss _ _ _ _ _ _ _ _:=none
 cond x a b:=match x with | .lit (.bool true)=>a | .lit (.bool false)=>b | _=>none
 ld e j:=match e[j]? with | some (.d x)=>x | _=>default
 ln e j:=match e[j]? with | some (.n x)=>x | _=>0
 lr e j:=match e[j]? with | some (.r x)=>x | _=>[]
 lm e j:=match e[j]? with | some (.m x)=>x | _=>([],[])
 lit v:=.lit v
 natD n:=.lit (.int .i64 n)
 natN n:=n
 addN a b:=a+b
 slD s r:=.sl s r
 dpD r o:=.dp r o
 fnD f l:=.fn f l
 mpD g m:=.mp g m.1 m.2
 ifD t g l:=.ifc t g l
 len r:=r.length
 rows l:=l
 repl n z:=List.replicate n z
 app a b:=a++b
 seg r o n:=(r.drop (o.getD 0)).take n
 setR r i l:=r.set i l
 emp:=([],[])
 cell w j:=w.getD j default
 eqN a b k:=if a=b then k else none
 leN a b k:=if a≤b then k else none
 ptrW n x k:=match x with | .dp row 0=>if row.length=n then k row else none | _=>none
 isPtr x k:=match x with | .dp _ _=>k | _=>none
 nilD x k:=match x with | .lit (.slice none 0 0)=>k | _=>none
 rowAt s r i k:=match r[i]? with
  | some w=>if w.length=s then k w else none
  | none=>none
 bin op b x y k:=qiF (qkm op b x y) k
 un op x k:=qiF (unD op x) k
 eqs ks ng x y k:=match q1x ks (x.map .d) (y.map .d) with
  | some b=>k (.lit (.bool (if ng then !b else b)))
  | none=>none
 mm mx x y k:=qiF (mmD mx x y) k
 mkN bs x y k:=match x,y with
  | .lit (.int a n),.lit (.int b n')=>if a=b∧n=n'∧0≤n∧bs*n≤140737488355328∧n≤9223372036854775807 then k n.toNat else none
  | _,_=>none
 gap bs x k:=match x with
  | .lit (.int _ n)=>if 0 < n∧bs*n≤140737488355328∧n≤9223372036854775807 then k n.toNat else none
  | _=>none
 cut l h n k e:=match q5d l,q5d h with
  | some l,some h=>if 0≤l.getD 0∧l.getD 0≤h.getD n∧h.getD n≤n then (if l.getD 0=0∨l.getD 0 < h.getD n then k (l.getD 0).toNat (h.getD n - l.getD 0).toNat else e) else none
  | _,_=>none
 cutD es x l h k:=match q5d l,q5d h with
  | some l,some h=>qiF (qlG es l h x) k
  | _,_=>none
 cutNil l h k:=match q5d l,q5d h with
  | some l,some h=>if l.getD 0=0∧h.getD 0=0 then k else none
  | _,_=>none
 selI n x ks:=match x with
  | .lit (.int _ z)=>if 0≤z∧z < n then selR ks z.toNat else none
  | _=>none
 inx x n k:=match x with
  | .lit (.int _ z)=>if 0≤z∧z < n then k z.toNat else none
  | _=>none
 rowD es x i k:=match x,i with
  | .sl size rows,.lit (.int _ z)=>if size=es∧0≤z then (match rows[z.toNat]? with
   | some r=>if r.length=es then k r else none
   | none=>none) else none
  | _,_=>none
 lenD x k:=match qiR x with
  | some n=>k (.lit (.int .i64 n))
  | none=>none
 lenS x k:=match x with
  | .lit (.string s)=>k (.lit (.int .i64 s.size))
  | _=>none
 rowsD es x k:=match q5W es x with
  | some r=>k r
  | none=>none
 isNil r a b:=match r with | []=>a | _::_=>b
 fits bs n k:=if n*bs≤140737488355328∧n≤maxLen then k else none
 asM agg x k:=match qlP agg x with
  | some m=>k m
  | none=>none
 look kd zs m key k:=match q79 kd zs m key with
  | some p=>k p.1 p.2
  | none=>none
 upd kd m key ds k:=match qhI kd m key ds with
  | some m'=>k m'
  | none=>none
 lits ys k:=if ys.all qa0=true then k else none
 nilE x a b:=match x with
  | .lit (.slice none 0 0)=>a
  | .sl _ _=>b
  | _=>none
 cvI kd y k:=match y with | .lit (.int _ n)=>k (.lit (.int kd (kd.wrap n))) | _=>none
 ins y rows new k:=match y with | .lit (.int .i64 z)=>if 0≤z∧z.toNat≤rows.length then k (rows.take z.toNat++new++rows.drop z.toNat) else none | _=>none
mutual
def eL:L3r→L
 | .d x=>.d x
 | .b v=>.d (.lit (.bool v))
 | .i k n=>.d (.lit (.int k n))
 | .nil=>.d (.lit (.slice none 0 0))
 | .dp r o=>.d (.dp r o)
 | .fn f cs=>.fn f (eLs cs)
 | .slk k o n c=>.slk k (o.getD 0) n c
 | .pa k i o c=>.pa k i o c
 | .ptr k o=>.ptr k o
 | .mk k=>.mk k
 | .undef=>.undef
def eLs:List L3r→List L
 | []=>[]
 | x::xs=>eL x::eLs xs
end
mutual
def eV:V3r→V
 | .one x=>.one (eL x)
 | .agg xs=>.agg (eLs xs)
 | .tup xs=>.tup (eVs xs)
def eVs:List V3r→List V
 | []=>[]
 | x::xs=>eV x::eVs xs
end
def eO:O3r→O
 | .box cs e=>.box (eLs cs) e
 | .arr rows s e o=>.arr rows s e o
 | .mp g m o=>.mp g m.1 m.2 o
def q1y (env:List (Nat×V3r)):List (Nat×V):=env.map fun p=>(p.1,eV p.2)
def eOb (ob:Ur):List (Nat×O):=ob.map fun p=>(p.1,eO p.2)
def eS (st:S3r):S2:=⟨q1y st.env,eOb st.ob,st.ys,st.pend⟩
theorem q0X:∀ xs:List L3r,eLs xs=xs.map eL
 | []=>rfl
 | x::xs=>by simp [eLs,q0X xs]
theorem q24:∀ xs:List V3r,eVs xs=xs.map eV
 | []=>rfl
 | x::xs=>by simp [eVs,q24 xs]
theorem q3B (t:Nat):∀ env:List (Nat×V3r),q1g (q1y env) t=eV (q2P env t)
 | []=>rfl
 | (k,v)::r=>by
  simp only [q1y,List.map_cons,q1g,q2P]
  split
  ·rfl
  ·exact q3B t r
theorem q0h (k:Nat):∀ ob:Ur,q0a (eOb ob) k=(q0V ob k).map eO
 | []=>rfl
 | (j,o)::r=>by
  simp only [eOb,List.map_cons,q0a,q0V]
  split
  ·rfl
  ·exact q0h k r
theorem q4v:∀ us ob:Ur,eOb (q2d us ob)=addO (eOb us) (eOb ob)
 | [],ob=>rfl
 | (k,o)::r,ob=>by
  show eOb (q2d r ((k,o)::ob))=addO (eOb r) ((k,eO o)::eOb ob)
  rw [q4v r];rfl
variable {Fn:Nat→List D→Out} {FnD:D→List Sh→List D→Out} {m:Nat}
theorem qk1 (v:Value):eL (qk2 (q05 Fn FnD m) v)=.d (.lit v):=by
 unfold qk2;split<;>simp [eL,q05]
theorem qbu (vs:List Value):eLs (vs.map (qk2 (q05 Fn FnD m)))=q5e vs:=by
 rw [q0X,List.map_map];unfold q5e;congr 1;funext v;exact qk1 v
theorem qjn (v:Value):eV (qbT (q05 Fn FnD m) v)=q93 v:=by
 unfold qbT q93
 split
 ·split<;>rename_i h<;>simp [eV,qbu,eL,h]
 ·split<;>rename_i h<;>simp [eV,qk1,eL,h]
theorem qly (env:List (Nat×V3r)) (x:Operand):eV (ev3 (q05 Fn FnD m) env x)=ev (q1g (q1y env)) x:=by
 cases x with
 | tmp t=>exact (q3B t env).symm
 | const v=>exact qjn v
 | global g=>rfl
 | func f=>simp only [ev3,ev];split<;>simp [eV,eL,eLs]
theorem qki (env:List (Nat×V3r)):(fun x=>eV (ev3 (q05 Fn FnD m) env x))=ev (q1g (q1y env)):=funext (qly env)
theorem q2b {x:L3r} {y:D} (h:q5M (q05 Fn FnD m) x=some y):eL x=.d y:=by
 unfold q5M at h;split at h<;>first | (cases h;simp [eL,q05]) | cases h
theorem q3J {x:V3r} {y:D} (h:q6q (q05 Fn FnD m) x=some y):eV x=.one (.d y):=by
 unfold q6q at h;split at h
 ·simp only [eV,q2b h]
 ·cases h
theorem qbz (x:L3r):(eL x).isDef=x.isDef:=by cases x<;>simp [eL,L.isDef,L3.isDef]
theorem q8f (v:V3r):(eV v).cells=v.cells.map eLs:=by
 cases v with
 | one x=>simp only [eV,V.cells,V3.cells,qbz];split<;>simp [eLs]
 | agg xs =>
  simp only [eV,V.cells,V3.cells,q0X,List.all_map]
  have:(L.isDef ∘ eL)=(L3.isDef:L3r→Bool):=funext qbz
  rw [this];split<;>simp [q0X]
 | tup xs=>simp [eV,V.cells,V3.cells]
theorem q37 (xs:List L3r):(eLs xs).length=xs.length:=by rw [q0X,List.length_map]
theorem q35 (g:Bool) (s off:Nat) (cs:List L3r):q1q g s off (eLs cs)=(q2Q g s off cs).map eV:=by
 unfold q1q q2Q
 cases g with
 | true=>simp only [q37,if_true];split<;>simp [eV,q0X,List.map_drop,List.map_take]
 | false =>
  simp only [Bool.false_eq_true,if_false,q0X,List.getElem?_map]
  cases cs[off]?<;>simp [eV]
theorem mkV_e (g:Bool) (xs:List L3r):mkV g (eLs xs)=(mkV3 g xs).map eV:=by
 cases g with
 | true=>simp [mkV,mkV3,eV]
 | false =>
  match xs with
  | []=>rfl
  | [x]=>simp [mkV,mkV3,eV,eLs]
  | x::y::r=>rfl
theorem q8k {n:Nat} {v u:V3r} (h:q6l n v=some u):q3o n (eV v)=some (eV u):=by
 unfold q6l at h
 split at h<;>first | (cases h;simp [q3o,eV,eL]) | cases h
theorem qkh (pl:Nat→Option (Nat×Nat)):∀ (ps:List (Nat×V3r)) (cs:List L3r),q6M pl (eLs cs) (ps.map fun p=>(p.1,eV p.2))=(qjj pl cs ps).map eLs
 | [],cs=>rfl
 | (i,v)::r,cs=>by
  simp only [List.map_cons,q6M,qjj,q8f]
  cases pl i with
  | none=>rfl
  | some q =>
   obtain ⟨off,size⟩:=q
   cases hv:v.cells with
   | none=>rfl
   | some vs =>
    simp only [Option.map_some,q37]
    split
    ·rw [←qkh pl r]
     congr 1
     simp only [q0X,List.map_append,List.map_take,List.map_drop]
    ·rfl
theorem q3V:∀ vs:List V3r,q1O (vs.map eV)=(q3W vs).map eLs
 | []=>rfl
 | .one x::r=>by
  simp only [List.map_cons,eV,q1O,q3W,qbz,q3V r]
  split
  ·cases q3W r<;>simp [eLs]
  ·rfl
 | .agg xs::r=>rfl
 | .tup xs::r=>rfl
theorem q2p {w:List D} {s:Nat} (h:w.length=s):cellsOf (q05 Fn FnD m) s w=w:=by
 subst h
 unfold cellsOf
 apply List.ext_getElem?
 intro i
 simp only [List.getElem?_map,q05,List.getD_eq_getElem?_getD]
 by_cases hi:i < w.length
 ·rw [List.getElem?_range hi];simp [hi]
 ·rw [List.getElem?_eq_none (by simpa using hi)];simp;omega
theorem qlz (w:List D):eLs (w.map .d)=w.map .d:=by rw [q0X,List.map_map];rfl
theorem qlh (v:V3r):q3i (eV v)=qk9 v:=by cases v<;>rfl
theorem q0n:eOb []=[]:=rfl
theorem q0y (k:Nat) (o:O3r) (r:Ur):eOb ((k,o)::r)=(k,eO o)::eOb r:=rfl
theorem q43 (a b:Ur):eOb (a++b)=eOb a++eOb b:=by simp [eOb]
end
section
variable {P:Program} {Fn:Nat→List D→Out} {FnD:D→List Sh→List D→Out} {m:Nat} {r:Nat×List Yr} {ob:Ur}
theorem Q.reads_bind {α β:Type} (o:Ob) (q:Q α) (f:α→Q β):(q.bind f).reads o=q.reads o++(match q.run o with | some a=>(f a).reads o | none=>[]):=by
 induction q with
 | ret a=>rfl
 | get k g ih=>simp only [Q.bind,Q.reads,Q.run,ih,List.cons_append]
 | fail=>rfl
def OKQ (ob:Ur) (q:Q Res) (k:K3 D Nat Rr Mr Out) (r:Nat×List Yr):Prop :=
 ∃ v us rd,q.run (q0a (eOb ob))=some (eV v,eOb us)∧(∀ x∈q.reads (q0a (eOb ob)),x∈rd)∧k v us rd=some r
theorem OKQ.ret {v:V3r} {us:Ur} {rd:List Nat} {k:K3 D Nat Rr Mr Out} (h:k v us rd=some r):OKQ ob (.ret (eV v,eOb us)) k r:=⟨v,us,rd,rfl,by simp [Q.reads],h⟩
theorem OKQ.ret0 {v:V3r} {rd:List Nat} {k:K3 D Nat Rr Mr Out} (h:k v [] rd=some r):OKQ ob (.ret (eV v,[])) k r:=OKQ.ret (us:=[]) h
theorem OKQ.get {key:Nat} {f:Option O→Q Res} {k:K3 D Nat Rr Mr Out} {rd0:List Nat} (h:OKQ ob (f (q0a (eOb ob) key)) (fun v us rd=>k v us (rd0++rd)) r) (hk:key∈rd0):OKQ ob (.get key f) k r:=by
 obtain ⟨v,us,rd,h1,h2,h3⟩:=h
 refine ⟨v,us,rd0++rd,h1,?_,h3⟩
 intro x hx
 simp only [Q.reads,List.mem_cons] at hx
 rcases hx with rfl | hx
 ·exact List.mem_append_left _ hk
 ·exact List.mem_append_right _ (h2 x hx)
theorem q3K {o:Option V3r} {o':Option V} {rd:List Nat} {k:K3 D Nat Rr Mr Out} (h:qf1 (q05 Fn FnD m) o rd k=some r) (ho:∀ v,o=some v→o'=some (eV v)):∃ v,o'=some (eV v)∧k v [] rd=some r:=by
 unfold qf1 at h
 split at h
 ·rename_i v;exact ⟨v,ho v rfl,h⟩
 ·cases h
theorem OKQ.mk {q:Q Res} {k:K3 D Nat Rr Mr Out} {v:V3r} {us:Ur} {rd:List Nat} (h1:q.run (q0a (eOb ob))=some (eV v,eOb us)) (h2:∀ x∈q.reads (q0a (eOb ob)),x∈rd) (h3:k v us rd=some r):OKQ ob q k r:=⟨v,us,rd,h1,h2,h3⟩
theorem q0M {a b:Nat} {k:Out} (h:(q05 Fn FnD m).eqN a b k=some r):a=b∧k=some r:=by
 simp only [q05] at h;split at h
 ·exact ⟨‹_›,h⟩
 ·cases h
theorem qcM {a b:Nat} {k:Out} (h:(q05 Fn FnD m).leN a b k=some r):a≤b∧k=some r:=by
 simp only [q05] at h;split at h
 ·exact ⟨‹_›,h⟩
 ·cases h
theorem q4D {x:D} {k:Out} (h:(q05 Fn FnD m).nilD x k=some r):x=.lit (.slice none 0 0)∧k=some r:=by
 simp only [q05] at h;split at h
 ·exact ⟨rfl,h⟩
 ·cases h
theorem qab {n:Nat} {x:D} {k:List D→Out} (h:(q05 Fn FnD m).ptrW n x k=some r):∃ row,x=.dp row 0∧row.length=n∧k row=some r:=by
 simp only [q05] at h;split at h
 ·split at h
  ·exact ⟨_,rfl,‹_›,h⟩
  ·cases h
 ·cases h
theorem qei {x:D} {k:Out} (h:(q05 Fn FnD m).isPtr x k=some r):(∃ row o,x=.dp row o)∧k=some r:=by
 simp only [q05] at h;split at h
 ·exact ⟨⟨_,_,rfl⟩,h⟩
 ·cases h
theorem q3Q {s i:Nat} {rows:Rr} {k:List D→Out} (h:(q05 Fn FnD m).rowAt s rows i k=some r):∃ w,rows[i]?=some w∧w.length=s∧k w=some r:=by
 simp only [q05] at h;split at h
 ·split at h
  ·exact ⟨_,‹_›,‹_›,h⟩
  ·cases h
 ·cases h
theorem q62 {α:Type} {o:Option α} {k:α→Out} (h:qiF o k=some r):∃ a,o=some a∧k a=some r:=by
 unfold qiF at h;split at h
 ·exact ⟨_,rfl,h⟩
 ·cases h
theorem qiu {x:D} {n:Nat} {k:Nat→Out} (h:(q05 Fn FnD m).inx x n k=some r):∃ kk z,x=.lit (.int kk z)∧(0≤z∧z < (n:Int))∧k z.toNat=some r:=by
 simp only [q05] at h;split at h
 ·split at h
  ·exact ⟨_,_,rfl,‹_›,h⟩
  ·cases h
 ·cases h
theorem qaa {x:D} {n:Nat} {ks:List Out} (h:(q05 Fn FnD m).selI n x ks=some r):∃ kk z,x=.lit (.int kk z)∧(0≤z∧z < (n:Int))∧selR ks z.toNat=some r:=by
 simp only [q05] at h;split at h
 ·split at h
  ·exact ⟨_,_,rfl,‹_›,h⟩
  ·cases h
 ·cases h
theorem qft {es:Nat} {x i:D} {k:List D→Out} (h:(q05 Fn FnD m).rowD es x i k=some r):∃ rows kk z w,x=.sl es rows∧i=.lit (.int kk z)∧0≤z∧rows[z.toNat]?=some w∧w.length=es∧k w=some r:=by
 simp only [q05] at h;split at h
 ·split at h
  ·rename_i hz
   obtain ⟨rfl,hz⟩:=hz
   split at h
   ·split at h
    ·exact ⟨_,_,_,_,rfl,rfl,hz,‹_›,‹_›,h⟩
    ·cases h
   ·cases h
  ·cases h
 ·cases h
theorem qcP {l h':Option D} {n:Nat} {k:Nat→Nat→Out} {e:Out} (h:(q05 Fn FnD m).cut l h' n k e=some r):∃ zl zh,q5d l=some zl∧q5d h'=some zh∧(0≤zl.getD 0∧zl.getD 0≤zh.getD n∧zh.getD n≤n) ∧
  (((zl.getD 0=0∨zl.getD 0 < zh.getD n)∧k (zl.getD 0).toNat (zh.getD n - zl.getD 0).toNat=some r)∨(¬ (zl.getD 0=0∨zl.getD 0 < zh.getD n)∧e=some r)):=by
 simp only [q05] at h;split at h
 ·rename_i zl zh h1 h2
  split at h
  ·split at h
   ·exact ⟨zl,zh,h1,h2,‹_›,.inl ⟨‹_›,h⟩⟩
   ·exact ⟨zl,zh,h1,h2,‹_›,.inr ⟨‹_›,h⟩⟩
  ·cases h
 ·cases h
theorem qfx {es:Nat} {x:D} {l h':Option D} {k:D→Out} (h:(q05 Fn FnD m).cutD es x l h' k=some r):∃ zl zh z,q5d l=some zl∧q5d h'=some zh∧qlG es zl zh x=some z∧k z=some r:=by
 simp only [q05] at h;split at h
 ·obtain ⟨z,h1,h2⟩:=q62 h;exact ⟨_,_,z,‹_›,‹_›,h1,h2⟩
 ·cases h
theorem qbl {l h':Option D} {k:Out} (h:(q05 Fn FnD m).cutNil l h' k=some r):∃ zl zh,q5d l=some zl∧q5d h'=some zh∧(zl.getD 0=0∧zh.getD 0=0)∧k=some r:=by
 simp only [q05] at h;split at h
 ·split at h
  ·exact ⟨_,_,‹_›,‹_›,‹_›,h⟩
  ·cases h
 ·cases h
theorem q3R {x:D} {a b:Out} (h:(q05 Fn FnD m).cond x a b=some r):(x=.lit (.bool true)∧a=some r)∨(x=.lit (.bool false)∧b=some r):=by
 simp only [q05] at h;split at h
 ·exact .inl ⟨rfl,h⟩
 ·exact .inr ⟨rfl,h⟩
 ·cases h
theorem q3x {o:Out} {ks:List (List Yr→Out)} (h:(q05 Fn FnD m).bnd o ks=some r):∃ j ys k,o=some (j,ys)∧ks[j]?=some k∧k ys=some r:=by
 simp only [q05] at h;split at h
 ·split at h
  ·exact ⟨_,_,_,rfl,‹_›,h⟩
  ·cases h
 ·cases h
theorem qix {op:BinOp} {bl:Bool} {x y:D} {k:D→Out} (h:(q05 Fn FnD m).bin op bl x y k=some r):∃ z,qkm op bl x y=some z∧k z=some r:=q62 h
theorem qfs {op:UnOp} {x:D} {k:D→Out} (h:(q05 Fn FnD m).un op x k=some r):∃ z,unD op x=some z∧k z=some r:=q62 h
theorem qkL {mx:Bool} {x y:D} {k:D→Out} (h:(q05 Fn FnD m).mm mx x y k=some r):∃ z,mmD mx x y=some z∧k z=some r:=q62 h
theorem qcO {ks:List Bool} {ng:Bool} {x y:List D} {k:D→Out} (h:(q05 Fn FnD m).eqs ks ng x y k=some r):∃ b,q1x ks (x.map .d) (y.map .d)=some b∧k (.lit (.bool (if ng then !b else b)))=some r:=by
 simp only [q05] at h;split at h
 ·exact ⟨_,‹_›,h⟩
 ·cases h
theorem qit {bs:Nat} {x y:D} {k:Nat→Out} (h:(q05 Fn FnD m).mkN bs x y k=some r):∃ a n,x=.lit (.int a n)∧y=.lit (.int a n)∧(0≤n∧bs*n≤140737488355328∧n≤9223372036854775807)∧k n.toNat=some r:=by
 simp only [q05] at h;split at h
 ·split at h
  ·rename_i hc;obtain ⟨rfl,rfl,hc⟩:=hc;exact ⟨_,_,rfl,rfl,hc,h⟩
  ·cases h
 ·cases h
theorem qiv {bs:Nat} {x:D} {k:Nat→Out} (h:(q05 Fn FnD m).gap bs x k=some r):∃ a n,x=.lit (.int a n)∧(0 < n∧bs*n≤140737488355328∧n≤9223372036854775807)∧k n.toNat=some r:=by
 simp only [q05] at h;split at h
 ·split at h
  ·exact ⟨_,_,rfl,‹_›,h⟩
  ·cases h
 ·cases h
theorem qfw {x:D} {k:D→Out} (h:(q05 Fn FnD m).lenD x k=some r):∃ n,qiR x=some n∧k (.lit (.int .i64 n))=some r:=by
 simp only [q05] at h;split at h
 ·exact ⟨_,‹_›,h⟩
 ·cases h
theorem qfv {x:D} {k:D→Out} (h:(q05 Fn FnD m).lenS x k=some r):∃ s,x=.lit (.string s)∧k (.lit (.int .i64 s.size))=some r:=by
 simp only [q05] at h;split at h
 ·exact ⟨_,rfl,h⟩
 ·cases h
theorem q8K {es:Nat} {x:D} {k:Rr→Out} (h:(q05 Fn FnD m).rowsD es x k=some r):∃ rows,q5W es x=some rows∧k rows=some r:=by
 simp only [q05] at h;split at h
 ·exact ⟨_,‹_›,h⟩
 ·cases h
theorem q8L {rows:Rr} {a b:Out} (h:(q05 Fn FnD m).isNil rows a b=some r):(rows=[]∧a=some r)∨(rows≠[]∧b=some r):=by
 cases rows with
 | nil=>exact .inl ⟨rfl,h⟩
 | cons x xs=>exact .inr ⟨by simp,h⟩
theorem q5X {bs n:Nat} {k:Out} (h:(q05 Fn FnD m).fits bs n k=some r):n*bs≤140737488355328∧n≤maxLen∧k=some r:=by
 simp only [q05] at h;split at h
 ·rename_i hc;exact ⟨hc.1,hc.2,h⟩
 ·cases h
theorem qcQ {agg:Bool} {x:D} {k:Mr→Out} (h:(q05 Fn FnD m).asM agg x k=some r):∃ mm,qlP agg x=some mm∧k mm=some r:=by
 simp only [q05] at h;split at h
 ·exact ⟨_,‹_›,h⟩
 ·cases h
theorem qfu {kd:Nat} {zs:List Value} {mm:Mr} {key:D} {k:List D→D→Out} (h:(q05 Fn FnD m).look kd zs mm key k=some r):∃ p,q79 kd zs mm key=some p∧k p.1 p.2=some r:=by
 simp only [q05] at h;split at h
 ·exact ⟨_,‹_›,h⟩
 ·cases h
theorem qis {kd:Nat} {mm:Mr} {key:D} {ds:List D} {k:Mr→Out} (h:(q05 Fn FnD m).upd kd mm key ds k=some r):∃ m',qhI kd mm key ds=some m'∧k m'=some r:=by
 simp only [q05] at h;split at h
 ·exact ⟨_,‹_›,h⟩
 ·cases h
theorem qac {x:D} {a b:Out} (h:(q05 Fn FnD m).nilE x a b=some r):(x=.lit (.slice none 0 0)∧a=some r)∨∃ s rows,x=.sl s rows∧b=some r:=by
 simp only [q05] at h
 split at h
 ·exact .inl ⟨rfl,h⟩
 ·exact .inr ⟨_,_,rfl,h⟩
 ·cases h
theorem qiw {kd:IntKind} {y:D} {k:D→Out} (h:(q05 Fn FnD m).cvI kd y k=some r):∃ a n,y=.lit (.int a n)∧k (.lit (.int kd (kd.wrap n)))=some r:=by
 simp only [q05] at h;split at h
 ·exact ⟨_,_,rfl,h⟩
 ·cases h
theorem qcN {y:D} {rows new:Rr} {k:Rr→Out} (h:(q05 Fn FnD m).ins y rows new k=some r):∃ z,y=.lit (.int .i64 z)∧(0≤z∧z.toNat≤rows.length)∧k (rows.take z.toNat++new++rows.drop z.toNat)=some r:=by
 simp only [q05] at h;split at h
 ·split at h
  ·exact ⟨_,rfl,‹_›,h⟩
  ·cases h
 ·cases h
theorem qad {ys:List Yr} {k:Out} (h:(q05 Fn FnD m).lits ys k=some r):ys.all qa0=true∧k=some r:=by
 simp only [q05] at h;split at h
 ·exact ⟨‹_›,h⟩
 ·cases h
theorem qd7 {g:Bool} {s:Nat} {x:V3r} {k:K3 D Nat Rr Mr Out} (h:qiM (q05 Fn FnD m) g s ob x k=some r):OKQ ob (q6y g s (eV x)) k r:=by
 unfold qiM at h
 split at h
 ·rename_i key off
  split at h
  ·rename_i cells elem hk
   obtain ⟨v,h1,h2⟩:=q3K (o':=q1q g s off (eLs cells)) h fun v hv=>by rw [q35,hv];rfl
   refine OKQ.mk (v:=v) (us:=[]) (rd:=[key]) ?_ ?_ h2
   ·simp [q6y,eV,eL,Q.run,q0h,hk,eO,q0E,h1,Q.opt,Q.bind,q0n]
   ·simp [q6y,eV,eL,Q.reads,q0h,hk,eO,q0E,h1,Q.opt,Q.bind]
  ·cases h
 ·rename_i key i off c
  split at h
  ·rename_i rows size elem own hk
   obtain ⟨hc,h⟩:=q0M h
   obtain ⟨w,h1,h2,h⟩:=q3Q h
   rw [q2p h2] at h
   obtain ⟨v,h3,h4⟩:=q3K (o':=q1q g s off (w.map .d)) h fun v hv=>by rw [←qlz,q35,hv];rfl
   have hc':c=rows.length:=hc
   refine OKQ.mk (v:=v) (us:=[]) (rd:=[key]) ?_ ?_ h4
   ·simp [q6y,eV,eL,Q.run,q0h,hk,eO,q0E,h1,h3,Q.opt,Q.bind,q0n,Q.guard,hc']
   ·simp [q6y,eV,eL,Q.reads,q0h,hk,eO,q0E,h1,h3,Q.opt,Q.bind,Q.guard,hc']
  ·cases h
 ·rename_i row off
  obtain ⟨v,h1,h2⟩:=q3K (o':=q1q g s off (row.map .d)) h fun v hv=>by rw [←qlz,q35,hv];rfl
  refine OKQ.mk (v:=v) (us:=[]) (rd:=[]) ?_ ?_ h2
  ·simp [q6y,eV,eL,Q.run,q0E,h1,Q.opt,Q.bind,q0n]
  ·simp [q6y,eV,eL,Q.reads,q0E,h1,Q.opt,Q.bind]
 ·cases h
theorem qgz {x:L3r} {k:D→Ur→List Nat→Out} (h:qkf (q05 Fn FnD m) ob x k=some r):∃ d us rd,(frz (eL x)).run (q0a (eOb ob))=some (d,eOb us)∧(∀ q∈(frz (eL x)).reads (q0a (eOb ob)),q∈rd)∧k d us rd=some r:=by
 unfold qkf at h
 split at h
 ·rename_i key off n c
  split at h
  ·rename_i rows size elem own hk
   obtain ⟨hc,h⟩:=q0M h
   have hc':c=rows.length:=hc
   refine ⟨_,_,_,?_,?_,h⟩
   ·simp [frz,eL,Q.run,q0h,hk,eO,Q.guard,hc',q05,q0n,q0y]
   ·simp [frz,eL,Q.reads,q0h,hk,eO,Q.guard,hc']
  ·cases h
 ·rename_i key
  split at h
  ·rename_i agg mm own hk
   refine ⟨_,_,_,?_,?_,h⟩
   ·simp [frz,eL,Q.run,q0h,hk,eO,q05,q0n,q0y]
   ·simp [frz,eL,Q.reads,q0h,hk,eO]
  ·cases h
 ·split at h
  ·rename_i y hy
   refine ⟨_,_,_,?_,?_,h⟩
   ·rw [q2b hy];simp [frz,Q.run,q0n]
   ·rw [q2b hy];simp [frz,Q.reads]
  ·cases h
theorem q56:∀ {xs:List L3r} {k:List D→Ur→List Nat→Out},qaG (q05 Fn FnD m) ob xs k=some r→∃ ds us rd,(q5l (eLs xs)).run (q0a (eOb ob))=some (ds,eOb us)∧(∀ q∈(q5l (eLs xs)).reads (q0a (eOb ob)),q∈rd)∧k ds us rd=some r
 | [],k,h=>⟨[],[],[],by simp [eLs,q5l,Q.run,q0n],by simp [eLs,q5l,Q.reads],h⟩
 | x::xs,k,h=>by
  simp only [qaG] at h
  obtain ⟨d,us,rd,h1,h2,h⟩:=qgz h
  obtain ⟨ds,us',rd',h3,h4,h⟩:=q56 h
  refine ⟨_,_,_,?_,?_,h⟩
  ·simp [eLs,q5l,Q.run_bind,h1,h3,Q.run,q43]
  ·intro q hq
   simp only [eLs,q5l,Q.reads_bind,h1,h3,List.mem_append,Q.reads,List.not_mem_nil,or_false] at hq
   rcases hq with hq | hq
   ·exact List.mem_append_left _ (h2 q hq)
   ·exact List.mem_append_right _ (h4 q hq)
theorem q3k {dst:Option Nat} {o:O3r} {v:Nat→V3r} {v':Nat→V} {k:K3 D Nat Rr Mr Out} (h:q3E (q05 Fn FnD m) ob dst o v k=some r) (hv:∀ q,eV (v q)=v' q):OKQ ob (fresh dst (eO o) v') k r:=by
 unfold q3E at h
 split at h
 ·rename_i key
  split at h
  ·rename_i hk
   refine OKQ.mk ?_ ?_ h
   ·simp [fresh,Q.run,q0h,hk,hv,q0n,q0y]
   ·simp [fresh,Q.reads,q0h,hk]
  ·cases h
 ·cases h
theorem qfo {x:V3r} {cs:List L3r} {k:K3 D Nat Rr Mr Out} (h:qfp (q05 Fn FnD m) ob x cs k=some r):OKQ ob (q6U (eV x) (eLs cs)) k r:=by
 unfold qfp at h
 split at h
 ·rename_i key off
  split at h
  ·rename_i cells elem hk
   split at h
   ·rename_i hle
    refine OKQ.mk ?_ ?_ h
    ·simp [q6U,eV,eL,Q.run,q0h,hk,eO,Q.guard,hle,q0n,q0y,q0X,List.map_take,List.map_drop]
    ·simp [q6U,eV,eL,Q.reads,q0h,hk,eO,Q.guard,q37,hle]
   ·cases h
  ·cases h
 ·rename_i key i off c
  split at h
  ·rename_i rows size elem own hk
   split at h
   ·obtain ⟨hc,h⟩:=q0M h
    have hc':c=rows.length:=hc
    obtain ⟨w,h1,h2,h⟩:=q3Q h
    obtain ⟨ds,us,rd,h3,h4,h⟩:=q56 h
    rw [q2p h2] at h
    split at h
    ·split at h
     ·rename_i hle
      refine OKQ.mk ?_ ?_ h
      ·simp only [q6U,eV,eL,Q.run,q0h,hk,Option.map_some,eO,Q.guard,hc',decide_true,Bool.and_true,h1,Q.opt,Q.bind,Q.run_bind,h3,Option.bind_some,h2,hle,q0n,q0y,List.isEmpty_nil]
       simp [q05]
      ·intro q hq
       simp only [q6U,eV,eL,Q.reads,q0h,hk,Option.map_some,eO,Q.guard,hc',decide_true,Bool.and_true,h1,Q.opt,Q.bind,Q.reads_bind,h3,h2,hle,q0n,List.isEmpty_nil,List.mem_cons,List.mem_append,List.not_mem_nil,or_false] at hq
       rcases hq with rfl | hq
       ·simp
       ·exact List.mem_cons_of_mem _ (h4 q hq)
     ·cases h
    ·cases h
   ·cases h
  ·cases h
 ·cases h
end
section
variable {P:Program} {Fn:Nat→List D→Out} {FnD:D→List Sh→List D→Out} {m:Nat} {r:Nat×List Yr} {ob:Ur}
theorem q4W {rec:L3r→(D→List Nat→Out)→Out} {f:L→Q D} (hrec:∀ x k,rec x k=some r→∃ d rd,(f (eL x)).run (q0a (eOb ob))=some d∧(∀ q∈(f (eL x)).reads (q0a (eOb ob)),q∈rd)∧k d rd=some r) :
  ∀ {xs:List L3r} {k:List D→List Nat→Out},qa2 rec xs k=some r→∃ ds rd,(Q.mapM f (eLs xs)).run (q0a (eOb ob))=some ds∧(∀ q∈(Q.mapM f (eLs xs)).reads (q0a (eOb ob)),q∈rd)∧ds.length=xs.length∧k ds rd=some r
 | [],k,h=>⟨[],[],by simp [eLs,Q.mapM,Q.run],by simp [eLs,Q.mapM,Q.reads],rfl,h⟩
 | x::xs,k,h=>by
  simp only [qa2] at h
  obtain ⟨d,rd,h1,h2,h⟩:=hrec _ _ h
  obtain ⟨ds,rd',h3,h4,h5,h⟩:=q4W hrec h
  refine ⟨_,_,?_,?_,?_,h⟩
  ·simp [eLs,Q.mapM,Q.run_bind,h1,h3,Q.run]
  ·intro q hq
   simp only [eLs,Q.mapM,Q.reads_bind,h1,h3,List.mem_append,Q.reads,List.not_mem_nil,or_false] at hq
   rcases hq with hq | hq
   ·exact List.mem_append_left _ (h2 q hq)
   ·exact List.mem_append_right _ (h4 q hq)
  ·simp [h5]
theorem q7v:∀ (n:Nat) (x:L3r) (k:D→List Nat→Out),q5L (q05 Fn FnD m) ob n x k=some r→∃ d rd,(toD n (eL x)).run (q0a (eOb ob))=some d∧(∀ q∈(toD n (eL x)).reads (q0a (eOb ob)),q∈rd)∧k d rd=some r:=by
 intro n
 induction n with
 | zero =>
  intro x k h
  cases x with
  | slk key off n' c =>
   simp only [q5L] at h
   split at h
   ·rename_i rows size elem own hk
    obtain ⟨hc,h⟩:=q0M h
    have hc':c=rows.length:=hc
    refine ⟨_,_,?_,?_,h⟩
    ·simp [toD,eL,Q.run,q0h,hk,eO,Q.guard,hc',q05]
    ·simp [toD,eL,Q.reads,q0h,hk,eO,Q.guard,hc']
   ·cases h
  | pa key i off c =>
   simp only [q5L] at h
   split at h
   ·rename_i rows size elem own hk
    obtain ⟨hc,h⟩:=q0M h
    have hc':c=rows.length:=hc
    obtain ⟨w,h1,h2,h⟩:=q3Q h
    rw [q2p h2] at h
    refine ⟨_,_,?_,?_,h⟩
    ·simp [toD,eL,Q.run,q0h,hk,eO,Q.guard,hc',h1,Q.opt,Q.bind,q05]
    ·simp [toD,eL,Q.reads,q0h,hk,eO,Q.guard,hc',h1,Q.opt,Q.bind]
   ·cases h
  | mk key =>
   simp only [q5L] at h
   split at h
   ·rename_i agg mm own hk
    refine ⟨_,_,?_,?_,h⟩
    ·simp [toD,eL,Q.run,q0h,hk,eO,q05]
    ·simp [toD,eL,Q.reads,q0h,hk,eO]
   ·cases h
  | ptr _ _=>simp [q5L,q5M,q05] at h
  | fn _ _=>simp [q5L,q5M,q05] at h
  | undef=>simp [q5L,q5M,q05] at h
  | d x=>simp only [q5L,q5M] at h;exact ⟨_,_,by simp [eL,toD,Q.run],by simp [eL,toD,Q.reads],h⟩
  | b x=>simp only [q5L,q5M] at h;exact ⟨_,_,by simp [eL,toD,Q.run,q05],by simp [eL,toD,Q.reads],h⟩
  | i x y=>simp only [q5L,q5M] at h;exact ⟨_,_,by simp [eL,toD,Q.run,q05],by simp [eL,toD,Q.reads],h⟩
  | nil=>simp only [q5L,q5M] at h;exact ⟨_,_,by simp [eL,toD,Q.run,q05],by simp [eL,toD,Q.reads],h⟩
  | dp x y=>simp only [q5L,q5M] at h;exact ⟨_,_,by simp [eL,toD,Q.run,q05],by simp [eL,toD,Q.reads],h⟩
 | succ n ih =>
  intro x k h
  cases x with
  | slk key off n' c =>
   simp only [q5L] at h
   split at h
   ·rename_i rows size elem own hk
    obtain ⟨hc,h⟩:=q0M h
    have hc':c=rows.length:=hc
    refine ⟨_,_,?_,?_,h⟩
    ·simp [toD,eL,Q.run,q0h,hk,eO,Q.guard,hc',q05]
    ·simp [toD,eL,Q.reads,q0h,hk,eO,Q.guard,hc']
   ·cases h
  | pa key i off c =>
   simp only [q5L] at h
   split at h
   ·rename_i rows size elem own hk
    obtain ⟨hc,h⟩:=q0M h
    have hc':c=rows.length:=hc
    obtain ⟨w,h1,h2,h⟩:=q3Q h
    rw [q2p h2] at h
    refine ⟨_,_,?_,?_,h⟩
    ·simp [toD,eL,Q.run,q0h,hk,eO,Q.guard,hc',h1,Q.opt,Q.bind,q05]
    ·simp [toD,eL,Q.reads,q0h,hk,eO,Q.guard,hc',h1,Q.opt,Q.bind]
   ·cases h
  | mk key =>
   simp only [q5L] at h
   split at h
   ·rename_i agg mm own hk
    refine ⟨_,_,?_,?_,h⟩
    ·simp [toD,eL,Q.run,q0h,hk,eO,q05]
    ·simp [toD,eL,Q.reads,q0h,hk,eO]
   ·cases h
  | ptr key off =>
   simp only [q5L] at h
   split at h
   ·rename_i cells elem hk
    obtain ⟨ds,rd,h1,h2,_,h⟩:=q4W (f:=toD n) ih h
    refine ⟨_,_,?_,?_,h⟩
    ·simp [toD,eL,Q.run,q0h,hk,eO,Q.run_bind,h1,q05]
    ·intro q hq
     simp only [toD,eL,Q.reads,q0h,hk,Option.map_some,eO,Q.reads_bind,h1,List.mem_cons,List.mem_append,List.not_mem_nil,or_false] at hq
     rcases hq with rfl | hq
     ·simp
     ·exact List.mem_cons_of_mem _ (h2 q hq)
   ·cases h
  | fn f cs =>
   simp only [q5L] at h
   obtain ⟨ds,rd,h1,h2,_,h⟩:=q4W (f:=toD n) ih h
   refine ⟨_,_,?_,?_,h⟩
   ·simp [toD,eL,Q.run_bind,h1,Q.run,q05]
   ·intro q hq
    simp only [toD,eL,Q.reads_bind,h1,Q.reads,List.mem_append,List.not_mem_nil,or_false] at hq
    exact h2 q hq
  | undef=>simp [q5L,q5M,q05] at h
  | d x=>simp only [q5L,q5M] at h;exact ⟨_,_,by simp [eL,toD,Q.run],by simp [eL,toD,Q.reads],h⟩
  | b x=>simp only [q5L,q5M] at h;exact ⟨_,_,by simp [eL,toD,Q.run,q05],by simp [eL,toD,Q.reads],h⟩
  | i x y=>simp only [q5L,q5M] at h;exact ⟨_,_,by simp [eL,toD,Q.run,q05],by simp [eL,toD,Q.reads],h⟩
  | nil=>simp only [q5L,q5M] at h;exact ⟨_,_,by simp [eL,toD,Q.run,q05],by simp [eL,toD,Q.reads],h⟩
  | dp x y=>simp only [q5L,q5M] at h;exact ⟨_,_,by simp [eL,toD,Q.run,q05],by simp [eL,toD,Q.reads],h⟩
theorem qcC {x:L3r} {k:IntKind} {z:Int} (h:q5M (q05 Fn FnD m) x=some (.lit (.int k z))):vInt? (.one (eL x))=some (k,z):=by rw [q2b h];rfl
theorem qgs {es:Nat} {x:V3r} {k:K3 D Nat Rr Mr Out} {j:Nat} (h:idxC (q05 Fn FnD m) es x k j=some r):∃ v,q3o (j*es) (eV x)=some (eV v)∧k v [] []=some r:=by
 unfold idxC at h
 exact q3K (o':=q3o (j*es) (eV x)) h fun v hv=>q8k hv
theorem qaB {arr:Option Nat} {e:Nat} {es:Nat} {x:V3r} {i:L3r} {k:K3 D Nat Rr Mr Out} (h:qde (q05 Fn FnD m) arr es ob x i k=some r):∃ kk z,vInt? (.one (eL i))=some (kk,z)∧OKQ ob (q2V (arr.map fun n=>(n,e)) es (eV x) z) k r:=by
 unfold qde at h
 cases arr with
 | some n =>
  simp only at h
  split at h
  ·rename_i kk z
   split at h
   ·rename_i hz
    obtain ⟨v,h1,h2⟩:=qgs h
    refine ⟨kk,z,rfl,OKQ.mk (v:=v) (us:=[]) (rd:=[]) ?_ ?_ h2⟩
    ·simp [q2V,q0E,hz,h1,Q.opt,Q.bind,Q.run,q0n]
    ·simp [q2V,q0E,hz,h1,Q.opt,Q.bind,Q.reads]
   ·cases h
  ·rename_i y
   obtain ⟨kk,z,rfl,hz,h⟩:=qaa h
   simp only [selR,List.getElem?_map] at h
   rw [List.getElem?_range (by omega)] at h
   obtain ⟨v,h1,h2⟩:=qgs (Fn:=Fn) (FnD:=FnD) (m:=m) h
   refine ⟨kk,z,rfl,OKQ.mk (v:=v) (us:=[]) (rd:=[]) ?_ ?_ h2⟩
   ·simp [q2V,q0E,hz,h1,Q.opt,Q.bind,Q.run,q0n]
   ·simp [q2V,q0E,hz,h1,Q.opt,Q.bind,Q.reads]
  ·cases h
 | none =>
  simp only at h
  split at h
  ·cases h
  ·rename_i y hy
   split at h
   ·rename_i key off n c
    split at h
    ·rename_i rows size elem own hk
     split at h
     ·rename_i hs
      subst hs
      obtain ⟨hc,h⟩:=q0M h
      have hc':c=rows.length:=hc
      obtain ⟨kk,z,rfl,hz,h⟩:=qiu h
      refine ⟨kk,z,qcC hy,OKQ.mk ?_ ?_ h⟩
      ·simp only [q2V,eV,eL,Q.run,q0h,hk,Option.map_some,Option.map_none,eO,Q.guard,hc',and_self,decide_true,q0E,Q.opt,q0n]
       rw [if_pos hz]
       cases off<;>simp [Q.run,Q.bind,q05]
      ·simp only [q2V,eV,eL,Q.reads,q0h,hk,Option.map_some,Option.map_none,eO,Q.guard,hc',and_self,decide_true,q0E,Q.opt]
       rw [if_pos hz]
       simp [Q.reads,Q.bind]
     ·cases h
    ·cases h
   ·rename_i z0
    obtain ⟨rows,kk,z,w,rfl,rfl,hz,hw,hl,h⟩:=qft h
    rw [q2p hl] at h
    refine ⟨kk,z,qcC hy,OKQ.mk ?_ ?_ h⟩
    ·simp [q2V,eV,eL,Q.guard,hz,hw,q0E,Q.opt,Q.bind,Q.run,q0n]
    ·simp [q2V,eV,eL,Q.guard,hz,hw,q0E,Q.opt,Q.bind,Q.reads]
   ·cases h
theorem q2L {ρ:Operand→V3r} {o:Option Operand} {d:Option D} {z:Option Int} (h:qee (q05 Fn FnD m) ρ o=some d) (hz:q5d d=some z):qf2 (fun x=>eV (ρ x)) o=some z:=by
 unfold qee at h
 split at h
 ·cases h;simp only [q5d] at hz;cases hz;rfl
 ·split at h
  ·rename_i y hy
   cases h
   simp only [q5d,Option.map_eq_some_iff] at hz
   obtain ⟨n,hn,rfl⟩:=hz
   unfold intD at hn
   split at hn
   ·cases hn;simp [qf2,q3J hy,vInt?]
   ·cases hn
  ·cases h
theorem qlF {es:Nat} {x:V3r} {ρ:Operand→V3r} {lo hi:Option Operand} {l h':Option D} {k:K3 D Nat Rr Mr Out} (hl:qee (q05 Fn FnD m) ρ lo=some l) (hh:qee (q05 Fn FnD m) ρ hi=some h') (h:cutK (q05 Fn FnD m) es ob x l h' k=some r) :
  ∃ zl zh,qf2 (fun x=>eV (ρ x)) lo=some zl∧qf2 (fun x=>eV (ρ x)) hi=some zh∧OKQ ob (qaO es (eV x) zl zh) k r:=by
 unfold cutK at h
 split at h
 ·rename_i key off n c
  split at h
  ·rename_i rows size elem own hk
   split at h
   case isFalse=>cases h
   rename_i hs
   subst hs
   obtain ⟨hc,h⟩:=q0M h
   have hc':c=rows.length:=hc
   cases l with
   | none =>
    obtain ⟨zl,zh,hzl,hzh,hb,h | ⟨_,h⟩⟩:=qcP h
    ·obtain ⟨hb2,h⟩:=h
     simp only [q5d,Option.some.injEq] at hzl
     subst hzl
     refine ⟨none,zh,q2L hl rfl,q2L hh hzh,OKQ.mk ?_ ?_ h⟩
     ·simp only [qaO,eV,eL,Q.run,q0h,hk,Option.map_some,eO,Q.guard,hc',and_self,decide_true,q0E,Q.opt,q0n]
      rw [if_pos hb,if_pos hb2]
      simp [Q.run,Q.bind]
     ·simp only [qaO,eV,eL,Q.reads,q0h,hk,Option.map_some,eO,Q.guard,hc',and_self,decide_true,q0E,Q.opt]
      rw [if_pos hb,if_pos hb2]
      simp [Q.reads,Q.bind]
    ·cases h
   | some y =>
    obtain ⟨zl,zh,hzl,hzh,hb,⟨hb2,h⟩ | ⟨hb2,h⟩⟩:=qcP h
    ·refine ⟨zl,zh,q2L hl hzl,q2L hh hzh,OKQ.mk ?_ ?_ h⟩
     ·simp only [qaO,eV,eL,Q.run,q0h,hk,Option.map_some,eO,Q.guard,hc',and_self,decide_true,q0E,Q.opt,q0n]
      rw [if_pos hb,if_pos hb2]
      cases off<;>simp [Q.run,Q.bind,q05]
     ·simp only [qaO,eV,eL,Q.reads,q0h,hk,Option.map_some,eO,Q.guard,hc',and_self,decide_true,q0E,Q.opt]
      rw [if_pos hb,if_pos hb2]
      simp [Q.reads,Q.bind]
    ·refine ⟨zl,zh,q2L hl hzl,q2L hh hzh,OKQ.mk ?_ ?_ h⟩
     ·simp only [qaO,eV,eL,Q.run,q0h,hk,Option.map_some,eO,Q.guard,hc',and_self,decide_true,q0E,Q.opt,q0n]
      rw [if_pos hb,if_neg hb2]
      simp [Q.run,Q.bind,q05]
     ·simp only [qaO,eV,eL,Q.reads,q0h,hk,Option.map_some,eO,Q.guard,hc',and_self,decide_true,q0E,Q.opt]
      rw [if_pos hb,if_neg hb2]
      simp [Q.reads,Q.bind]
  ·cases h
 ·rename_i y
  obtain ⟨zl,zh,z,hzl,hzh,hz,h⟩:=qfx h
  refine ⟨zl,zh,q2L hl hzl,q2L hh hzh,?_⟩
  unfold qlG at hz
  split at hz
  ·rename_i size rows
   split at hz
   case isFalse=>cases hz
   rename_i hs
   subst hs
   split at hz
   ·rename_i hb
    cases hz
    refine OKQ.mk ?_ ?_ h
    ·simp only [qaO,eV,eL,Q.guard,decide_true,q0E,q0n]
     rw [if_pos hb]
     simp [Q.opt,Q.bind,Q.run]
    ·simp only [qaO,eV,eL,Q.guard,decide_true,q0E]
     rw [if_pos hb]
     simp [Q.opt,Q.bind,Q.reads]
   ·cases hz
  ·split at hz
   ·rename_i hb
    cases hz
    refine OKQ.mk ?_ ?_ h
    ·simp [qaO,eV,eL,q0E,hb,Q.opt,Q.bind,Q.run,q0n]
    ·simp [qaO,eV,eL,q0E,hb,Q.opt,Q.bind,Q.reads]
   ·cases hz
  ·cases hz
 ·obtain ⟨zl,zh,hzl,hzh,hb,h⟩:=qbl h
  refine ⟨zl,zh,q2L hl hzl,q2L hh hzh,OKQ.mk ?_ ?_ h⟩
  ·simp [qaO,eV,eL,q0E,hb,Q.opt,Q.bind,Q.run,q0n]
  ·simp [qaO,eV,eL,q0E,hb,Q.opt,Q.bind,Q.reads]
 ·cases h
end
section
variable {P:Program} {Fn:Nat→List D→Out} {FnD:D→List Sh→List D→Out} {m:Nat} {r:Nat×List Yr} {ob:Ur}
theorem qcJ {ρ:Operand→V3r} {size n:Nat}:∀ {parts:List (Nat×Operand)} {rows:Rr} {k:List (List D)→Ur→List Nat→Out},rows.length=n→qin (q05 Fn FnD m) ob size n rows (parts.map fun p=>(p.1,ρ p.2)) k=some r →
  ∃ rows' us rd,(q2g (fun x=>eV (ρ x)) size rows parts).run (q0a (eOb ob))=some (rows',eOb us)∧(∀ q∈(q2g (fun x=>eV (ρ x)) size rows parts).reads (q0a (eOb ob)),q∈rd)∧k rows' us rd=some r
 | [],rows,k,hn,h=>⟨rows,[],[],by simp [q2g,Q.run,q0n],by simp [q2g,Q.reads],h⟩
 | (i,x)::rest,rows,k,hn,h=>by
  simp only [List.map_cons,qin] at h
  split at h
  ·cases h
  ·rename_i cs hcs
   split at h
   ·rename_i hc
    obtain ⟨ds,us,rd,h1,h2,h⟩:=q56 h
    obtain ⟨rows',us',rd',h3,h4,h⟩:=qcJ (rows:=rows.set i ds) (by simp [hn]) h
    have hce:(eV (ρ x)).cells=some (eLs cs):=by rw [q8f,hcs];rfl
    have hgd:(decide ((eLs cs).length=size∧i < rows.length))=true:=by simp [q37,hc,hn]
    refine ⟨_,_,_,?_,?_,h⟩
    ·simp only [q2g,hce,Q.opt,Q.bind,hgd,Q.guard,Q.run_bind,h1,h3,Option.bind_some,Q.run,q43]
    ·intro q hq
     simp only [q2g,hce,Q.opt,Q.bind,hgd,Q.guard,Q.reads_bind,h1,h3,Q.reads,List.append_nil,List.mem_append] at hq
     rcases hq with hq | hq
     ·exact List.mem_append_left _ (h2 q hq)
     ·exact List.mem_append_right _ (h4 q hq)
   ·cases h
theorem qkG {es:Nat} {x:V3r} {k:Rr→List Nat→Out} (h:srcK (q05 Fn FnD m) es ob x k=some r):∃ rows rd,(q2e es (eV x)).run (q0a (eOb ob))=some rows∧(∀ q∈(q2e es (eV x)).reads (q0a (eOb ob)),q∈rd)∧k rows rd=some r:=by
 unfold srcK at h
 split at h
 ·exact ⟨[],[],by simp [q2e,eV,eL,Q.run],by simp [q2e,eV,eL,Q.reads],h⟩
 ·obtain ⟨rows,hr,h⟩:=q8K h
  refine ⟨rows,[],?_,?_,h⟩
  ·unfold q5W at hr
   split at hr
   ·cases hr;simp [q2e,eV,eL,Q.run]
   ·split at hr
    ·rename_i hs;cases hr;simp [q2e,eV,eL,Q.run,Q.guard,hs]
    ·cases hr
   ·cases hr
  ·unfold q5W at hr
   split at hr
   ·simp [q2e,eV,eL,Q.reads]
   ·split at hr
    ·rename_i hs;simp [q2e,eV,eL,Q.reads,Q.guard,hs]
    ·cases hr
   ·cases hr
 ·rename_i key off n c
  split at h
  ·rename_i rows size elem own hk
   split at h
   ·rename_i hs
    subst hs
    obtain ⟨hc,h⟩:=q0M h
    have hc':c=rows.length:=hc
    refine ⟨_,_,?_,?_,h⟩
    ·simp [q2e,eV,eL,Q.run,q0h,hk,eO,Q.guard,hc',q05]
    ·simp [q2e,eV,eL,Q.reads,q0h,hk,eO,Q.guard,hc']
   ·cases h
  ·cases h
 ·cases h
theorem qeQ {dst:Option Nat} {elem size bytes:Nat} {s:V3r} {new:Rr} {rd:List Nat} {k:K3 D Nat Rr Mr Out} (h:qbY (q05 Fn FnD m) ob dst elem size bytes s new rd k=some r) :
  ∃ v us rd',(q2F dst elem size bytes (eV s) new).run (q0a (eOb ob))=some (eV v,eOb us)∧(∀ q∈(q2F dst elem size bytes (eV s) new).reads (q0a (eOb ob)),q∈rd')∧k v us (rd++rd')=some r:=by
 unfold qbY at h
 have nilc:q9R (q05 Fn FnD m) ob dst elem size bytes (.one .nil) new rd k=some r→∃ v us rd',(q2F dst elem size bytes (.one (.d (.lit (.slice none 0 0)))) new).run (q0a (eOb ob))=some (eV v,eOb us)∧(∀ q∈(q2F dst elem size bytes (.one (.d (.lit (.slice none 0 0)))) new).reads (q0a (eOb ob)),q∈rd')∧k v us (rd++rd')=some r:=by
  intro h
  unfold q9R at h
  rcases q8L h with ⟨hn0,h9⟩ | ⟨hne,h⟩
  ·subst hn0
   refine ⟨.one .nil,[],[],?_,?_,by simpa using h9⟩
   ·simp [q2F,eV,eL,Q.run,q0n]
   ·simp [q2F,Q.reads]
  ·obtain ⟨h1,h2,h⟩:=q5X h
   have h1':new.length*bytes≤140737488355328:=h1
   have h2':new.length≤maxLen:=h2
   obtain ⟨v,us,rd',h3,h4,h⟩:=q3k (v':=fun key=>.one (.slk key 0 new.length new.length)) h (fun q=>by simp [eV,eL,q05])
   refine ⟨v,us,rd',?_,?_,h⟩
   ·simp only [q2F]
    rw [if_neg hne,show decide (new.length*bytes≤140737488355328∧new.length≤maxLen)=true from by simp [h1',h2']]
    exact h3
   ·intro q hq
    simp only [q2F] at hq
    rw [if_neg hne,show decide (new.length*bytes≤140737488355328∧new.length≤maxLen)=true from by simp [h1',h2']] at hq
    exact h4 q hq
 split at h
 ·exact nilc h
 ·obtain ⟨rfl,h⟩:=q4D h
  exact nilc h
 ·rename_i key n c
  split at h
  ·rename_i rows size' elem' own hk
   split at h
   ·split at h
    ·rename_i hse
     obtain ⟨rfl,rfl⟩:=hse
     obtain ⟨hc,h⟩:=q0M h
     have hc':c=rows.length:=hc
     obtain ⟨hn,h⟩:=q0M h
     have hn':n=rows.length:=hn
     obtain ⟨h1,h2,h9⟩:=q5X h
     have h1':(n+new.length)*bytes≤140737488355328:=h1
     have h2':n+new.length≤maxLen:=h2
     subst hn' hc'
     refine ⟨_,_,[key],?_,?_,h9⟩
     ·simp [q2F,eV,eL,Q.run,q0h,hk,eO,Q.guard,h1',h2',q05,q0n,q0y]
     ·simp [q2F,eV,eL,Q.reads,q0h,hk,eO,Q.guard,h1',h2']
    ·cases h
   ·cases h
  ·cases h
 ·cases h
theorem qg7 {x:D} {v:Value} (h:qhO x=some v):x=.lit v:=by
 unfold qhO at h;split at h<;>cases h;rfl
theorem qiL {kd:Nat} {agg:Bool} {zs:List Value} {mm:Mr} {key:D} {p:List D×D} (h:q79 kd zs mm key=some p):∃ v b,key=.lit v∧q6E kd v=true∧p.2=.lit (.bool b)∧p.1.length=zs.length∧(q3f kd v mm.1 0).bind (qep agg zs mm.2)=(mkV agg (p.1.map .d)).map fun u=>(u,b):=by
 unfold q79 at h
 split at h
 ·rename_i v hv
  have:=qg7 hv
  subst this
  split at h
  ·rename_i hk
   split at h
   ·rename_i j hf
    split at h
    ·rename_i w hw
     split at h
     ·rename_i hl
      cases h
      exact ⟨v,true,rfl,hk,rfl,hl,by simp [hf,qep,hw]⟩
     ·cases h
    ·cases h
   ·rename_i hf
    cases h
    refine ⟨v,false,rfl,hk,rfl,by simp,?_⟩
    simp [hf,qep,q5e,Function.comp_def]
   ·cases h
  ·cases h
 ·cases h
theorem qiK {kd:Nat} {agg ok:Bool} {zs:List Value} {x:V3r} {key:D} {k:K3 D Nat Rr Mr Out} (h:ql1 (q05 Fn FnD m) kd agg ok zs ob x key k=some r):∃ v,key=.lit v∧q6E kd v=true∧OKQ ob (q7S kd agg ok zs (eV x) v) k r:=by
 have fin:∀ (mm:Mr) (rd:List Nat) (F:List D→D→Out),(q05 Fn FnD m).look kd zs mm key F=some r→(∀ w f,F w f=some r→∃ v,mkV3 agg ((cellsOf (q05 Fn FnD m) zs.length w).map .d)=some v∧k (if ok then .tup [v,.one (.d f)] else v) [] rd=some r)→∃ v u b,key=.lit v∧q6E kd v=true∧(q3f kd v mm.1 0).bind (qep agg zs mm.2)=some (eV u,b)∧k (if ok then .tup [u,.one (.d (.lit (.bool b)))] else u) [] rd=some r:=by
  intro mm rd F h hF
  obtain ⟨p,hp,h⟩:=qfu h
  obtain ⟨v,b,h1,h2,h3,h4,h5⟩:=qiL (agg:=agg) hp
  obtain ⟨u,hu,h⟩:=hF _ _ h
  rw [q2p h4] at hu
  refine ⟨v,u,b,h1,h2,?_,by rw [←h3];exact h⟩
  rw [h5,← qlz,mkV_e,hu];rfl
 have tupe:∀ (u:V3r) (b:Bool),eV (if ok then .tup [u,.one (.d (.lit (.bool b)))] else u)=if ok then .tup [eV u,q3q (.bool b)] else eV u:=by
  intro u b;cases ok<;>simp [eV,eVs,eL,q3q]
 unfold ql1 at h
 simp only at h
 split at h
 ·rename_i y
  obtain ⟨mm,hm,h⟩:=qcQ h
  obtain ⟨v,u,b,h1,h2,h3,h4⟩:=fin mm [] _ h (fun w f hw=>by split at hw;exact ⟨_,‹_›,hw⟩;cases hw)
  refine ⟨v,h1,h2,OKQ.mk ?_ ?_ h4⟩
  ·rw [tupe,q0n]
   unfold qlP at hm
   split at hm
   ·split at hm
    ·rename_i hg
     cases hm
     subst hg
     simp only at h3
     simp [q7S,eV,eL,Q.guard,h3,Q.opt,Q.bind,Q.run]
    ·cases hm
   ·cases hm
    have h3':qep agg zs [] none=some (eV u,b):=by simpa [q3f] using h3
    simp [q7S,eV,eL,h3',Q.opt,Q.bind,Q.run]
   ·cases hm
  ·unfold qlP at hm
   split at hm
   ·split at hm
    ·rename_i hg
     cases hm
     subst hg
     simp only at h3
     simp [q7S,eV,eL,Q.guard,h3,Q.opt,Q.bind,Q.reads]
    ·cases hm
   ·cases hm
    have h3':qep agg zs [] none=some (eV u,b):=by simpa [q3f] using h3
    simp [q7S,eV,eL,h3',Q.opt,Q.bind,Q.reads]
   ·cases hm
 ·rename_i q
  split at h
  ·rename_i agg' mm own hk
   split at h
   ·rename_i hg
    have hg':agg=agg':=by simpa using hg
    subst hg'
    obtain ⟨v,u,b,h1,h2,h3,h4⟩:=fin mm [q] _ h (fun w f hw=>by split at hw;exact ⟨_,‹_›,hw⟩;cases hw)
    refine ⟨v,h1,h2,OKQ.mk ?_ ?_ h4⟩
    ·rw [tupe,q0n]
     simp [q7S,eV,eL,Q.run,Q.bind,q0h,hk,eO,Q.guard,h3,Q.opt]
    ·simp [q7S,eV,eL,Q.reads,Q.bind,q0h,hk,eO,Q.guard,h3,Q.opt]
   ·cases h
  ·cases h
 ·cases h
theorem qkC {kd:Nat} {agg:Bool} {x v:V3r} {key:D} {k:K3 D Nat Rr Mr Out} (h:updK (q05 Fn FnD m) kd agg ob x key v k=some r):∃ kv,key=.lit kv∧OKQ ob (qjH kd agg (eV x) kv (eV v)) k r:=by
 unfold updK at h
 split at h
 ·rename_i q
  split at h
  ·rename_i agg' mm own hk
   split at h
   ·rename_i hc
    simp only [Bool.and_eq_true,beq_iff_eq] at hc
    obtain ⟨⟨rfl,rfl⟩,ha⟩:=hc
    split at h
    ·cases h
    ·rename_i cs hcs
     obtain ⟨ds,us,rd,h1,h2,h⟩:=q56 h
     split at h
     ·obtain ⟨m',hm,h⟩:=qis h
      unfold qhI at hm
      split at hm
      ·rename_i kv hkv
       have:=qg7 hkv
       subst this
       split at hm
       ·rename_i hkey
        have hce:(eV v).cells=some (eLs cs):=by rw [q8f,hcs];rfl
        have hag:(q3i (eV v)==agg)=true:=by rw [qlh];simpa using ha
        refine ⟨kv,rfl,?_⟩
        split at hm
        ·rename_i j hf
         cases hm
         refine OKQ.mk ?_ ?_ h
         ·simp only [qjH,eV,eL,Q.run,q0h,hk,Option.map_some,eO,hag,hkey,beq_self_eq_true,Bool.and_self,Q.guard,hce,Q.opt,Q.bind,Q.run_bind,h1,Option.bind_some,q0n,List.isEmpty_nil,hf,q0y]
         ·intro y hy
          simp only [qjH,eV,eL,Q.reads,q0h,hk,Option.map_some,eO,hag,hkey,beq_self_eq_true,Bool.and_self,Q.guard,hce,Q.opt,Q.bind,Q.reads_bind,h1,q0n,List.isEmpty_nil,hf,List.append_nil,List.mem_cons] at hy
          rcases hy with rfl | hy
          ·simp
          ·exact List.mem_cons_of_mem _ (h2 y hy)
        ·rename_i hf
         cases hm
         refine OKQ.mk ?_ ?_ h
         ·simp only [qjH,eV,eL,Q.run,q0h,hk,Option.map_some,eO,hag,hkey,beq_self_eq_true,Bool.and_self,Q.guard,hce,Q.opt,Q.bind,Q.run_bind,h1,Option.bind_some,q0n,List.isEmpty_nil,hf,q0y]
         ·intro y hy
          simp only [qjH,eV,eL,Q.reads,q0h,hk,Option.map_some,eO,hag,hkey,beq_self_eq_true,Bool.and_self,Q.guard,hce,Q.opt,Q.bind,Q.reads_bind,h1,q0n,List.isEmpty_nil,hf,List.append_nil,List.mem_cons] at hy
          rcases hy with rfl | hy
          ·simp
          ·exact List.mem_cons_of_mem _ (h2 y hy)
        ·cases hm
       ·cases hm
      ·cases hm
     ·cases h
   ·cases h
  ·cases h
 ·cases h
theorem qkV {mx:Bool} {a b z:D} (h:mmD mx a b=some z):mm2 mx (.one (.d a)) (.one (.d b))=some (.one (.d z)):=by
 unfold mmD at h
 split at h
 ·split at h
  ·rename_i hk;cases h;simp [mm2,vInt?,hk,q3q]
  ·cases h
 ·cases h
theorem qg0 {mx:Bool}:∀ {l:List D} {a:D} {k:D→Out},mmK (q05 Fn FnD m) mx a l k=some r→∃ z,mmF mx (.one (.d a)) (l.map fun x=>.one (.d x))=some (.one (.d z))∧k z=some r
 | [],a,k,h=>⟨a,rfl,h⟩
 | y::l,a,k,h=>by
  simp only [mmK] at h
  obtain ⟨z,hz,h⟩:=qkL h
  obtain ⟨z',h1,h2⟩:=qg0 h
  exact ⟨z',by simp only [List.map_cons,mmF,qkV hz,Option.bind_some];exact h1,h2⟩
theorem q9q {ρ:Operand→V3r}:∀ {xs:List Operand} {ys:List D},qef (q05 Fn FnD m) ρ xs=some ys→xs.map (fun x=>eV (ρ x))=ys.map fun y=>.one (.d y)
 | [],ys,h=>by simp only [qef,Option.some.injEq] at h;subst h;rfl
 | x::xs,ys,h=>by
  simp only [qef] at h
  split at h
  ·rename_i y ys' h1 h2
   cases h
   simp only [List.map_cons,q3J h1,q9q h2]
  ·cases h
theorem q2f:∀ {xs:List L3r} {ys:List D},qa4 (q05 Fn FnD m) xs=some ys→eLs xs=ys.map .d
 | [],ys,h=>by simp only [qa4,Option.some.injEq] at h;subst h;rfl
 | x::xs,ys,h=>by
  simp only [qa4] at h
  split at h
  ·rename_i y ys' h1 h2
   cases h
   simp only [eLs,q2b h1,q2f h2,List.map_cons]
  ·cases h
theorem qh5 {op:BinOp} {t:Nat} {a b z:D} (h:qkm op (qjq P t) a b=some z):qaQ P op t (.one (.d a)) (.one (.d b))=some (.one (.d z)):=by
 unfold qkm at h
 split at h
 ·simp only [Option.map_eq_some_iff] at h
  obtain ⟨v,hv,rfl⟩:=h
  simp [qaQ,hv,q3q]
 ·split at h
  ·rename_i hb
   split at h
   ·cases h;simp [qaQ,hb,q3q]
   ·cases h;simp [qaQ,hb,q3q]
   ·cases h
  ·cases h
 ·simp only [Option.map_eq_some_iff] at h
  obtain ⟨v,hv,rfl⟩:=h
  simp [qaQ,hv,q3q]
 ·cases h
theorem qlL {op:BinOp} {t:Nat} {x y:V3r} {k:K3 D Nat Rr Mr Out} (h:binK (q05 Fn FnD m) P op t x y k=some r):OKQ ob (q0E (qaQ P op t (eV x) (eV y))) k r:=by
 unfold binK at h
 split at h
 ·split at h
  ·rename_i hel
   split at h
   ·rename_i a ha
    rcases qac h with ⟨rfl,h⟩ | ⟨s,rows,rfl,h⟩
    ·refine OKQ.mk ?_ ?_ h<;>simp [eV,q2b ha,qaQ,nilQ,hel,q0E,Q.opt,Q.bind,Q.run,Q.reads,eL,q0n,q3q]
    ·refine OKQ.mk ?_ ?_ h<;>simp [eV,q2b ha,qaQ,nilQ,hel,q0E,Q.opt,Q.bind,Q.run,Q.reads,eL,q0n,q3q]
   ·rename_i a ha
    rcases qac h with ⟨rfl,h⟩ | ⟨s,rows,rfl,h⟩
    ·refine OKQ.mk ?_ ?_ h<;>simp [eV,q2b ha,qaQ,nilQ,hel,q0E,Q.opt,Q.bind,Q.run,Q.reads,eL,q0n,q3q]
    ·refine OKQ.mk ?_ ?_ h<;>simp [eV,q2b ha,qaQ,nilQ,hel,q0E,Q.opt,Q.bind,Q.run,Q.reads,eL,q0n,q3q]
   ·cases h
  split at h
  ·rename_i a b ha hb
   obtain ⟨z,hz,h⟩:=qix h
   refine OKQ.mk ?_ ?_ h
   ·simp [eV,q2b ha,q2b hb,qh5 hz,q0E,Q.opt,Q.bind,Q.run,eL,q0n]
   ·simp [eV,q2b ha,q2b hb,qh5 hz,q0E,Q.opt,Q.bind,Q.reads]
  ·cases h
 ·rename_i xs ys
  split at h
  ·rename_i ks xs' ys' hks hxs hys
   split at h
   ·rename_i hag
    split at h
    ·obtain ⟨b,hb,h⟩:=qcO h
     refine OKQ.mk ?_ ?_ h
     ·simp [eV,q2f hxs,q2f hys,qaQ,hks,hag,hb,q0E,Q.opt,Q.bind,Q.run,eL,q0n,q3q]
     ·simp [eV,q2f hxs,q2f hys,qaQ,hks,hag,hb,q0E,Q.opt,Q.bind,Q.reads]
    ·obtain ⟨b,hb,h⟩:=qcO h
     refine OKQ.mk ?_ ?_ h
     ·simp [eV,q2f hxs,q2f hys,qaQ,hks,hag,hb,q0E,Q.opt,Q.bind,Q.run,eL,q0n,q3q]
     ·simp [eV,q2f hxs,q2f hys,qaQ,hks,hag,hb,q0E,Q.opt,Q.bind,Q.reads]
    ·cases h
   ·cases h
  ·cases h
 ·cases h
theorem qiQ {x:D} {n:Nat} (h:qiR x=some n):lenQ (.one (.d x))=some n:=by
 unfold qiR at h;split at h<;>cases h<;>rfl
end
section
variable {P:Program} {Fn:Nat→List D→Out} {FnD:D→List Sh→List D→Out} {m:Nat} {r:Nat×List Yr} {ob:Ur}
theorem OKQ.pure {o:Option V} {v:V3r} {k:K3 D Nat Rr Mr Out} (ho:o=some (eV v)) (h:k v [] []=some r):OKQ ob (q0E o) k r:=by
 subst ho;exact OKQ.mk (us:=[]) (by simp [q0E,Q.opt,Q.bind,Q.run,q0n]) (by simp [q0E,Q.opt,Q.bind,Q.reads]) h
theorem OKQ.cond {q:Q Res} {k:K3 D Nat Rr Mr Out} (b:Bool) (hb:b=true) (h:OKQ ob q k r):OKQ ob (Q.guard b q) k r:=by subst hb;exact h
theorem OKQ.some {α:Type} {o:Option α} {a:α} {f:α→Q Res} {k:K3 D Nat Rr Mr Out} (ho:o=.some a) (h:OKQ ob (f a) k r):OKQ ob ((Q.opt o).bind f) k r:=by subst ho;exact h
theorem OKQ.bind {α:Type} {q:Q α} {a:α} {f:α→Q Res} {k:K3 D Nat Rr Mr Out} {v:V3r} {us:Ur} {rd rd':List Nat} (h1:q.run (q0a (eOb ob))=.some a) (h2:∀ x∈q.reads (q0a (eOb ob)),x∈rd) (h3:(f a).run (q0a (eOb ob))=.some (eV v,eOb us)) (h4:∀ x∈(f a).reads (q0a (eOb ob)),x∈rd') (h:k v us (rd++rd')=.some r):OKQ ob (q.bind f) k r:=by
 refine ⟨v,us,rd++rd',by rw [Q.run_bind,h1];exact h3,fun x hx=>?_,h⟩
 rw [Q.reads_bind,h1] at hx
 rcases List.mem_append.1 hx with hx | hx
 ·exact List.mem_append_left _ (h2 x hx)
 ·exact List.mem_append_right _ (h4 x hx)
theorem qeL {dst:Option Nat} {ρ:Operand→V3r} {c:Call} {k:K3 D Nat Rr Mr Out} (h:qbU (q05 Fn FnD m) P ob dst ρ c k=some r):OKQ ob (aop P dst (fun x=>eV (ρ x)) (.call c)) k r:=by
 unfold qbU at h
 simp only [aop]
 split at h
 ·
  rename_i hc
  simp only [hc]
  split at h
  ·rename_i x hx
   simp only [hx]
   split at h
   ·rename_i t ht
    simp only [ht]
    split at h
    ·rename_i e he
     simp only [he]
     split at h
     ·rename_i q o n c' hρ
      refine OKQ.pure (v:=.one (.d (.lit (.int .i64 n)))) ?_ h
      simp [hρ,eV,eL,lenQ,q3q]
     ·rename_i hρ
      refine OKQ.pure (v:=.one (.i .i64 0)) ?_ h
      simp [hρ,eV,eL,lenQ,q3q]
     ·rename_i y hρ
      obtain ⟨n,hn,h⟩:=qfw h
      refine OKQ.pure (v:=.one (.d (.lit (.int .i64 n)))) ?_ h
      simp [hρ,eV,eL,qiQ hn,q3q]
     ·cases h
    ·rename_i he
     simp only [he]
     split at h
     ·rename_i hs
      simp only [hs,Q.guard]
      split at h
      ·rename_i y hy
       obtain ⟨s,rfl,h⟩:=qfv h
       refine OKQ.pure (v:=.one (.d (.lit (.int .i64 s.size)))) ?_ h
       simp [q3J hy,qfn,eV,eL,q3q]
      ·cases h
     ·cases h
   ·cases h
  ·cases h
 ·
  rename_i hc
  simp only [hc]
  split at h
  ·rename_i x t hx ht
   simp only [hx,ht]
   split at h
   ·rename_i hρ
    split at h
    ·rename_i he
     have hρ':eV (ρ x)=.one (.d (.lit (.slice none 0 0))):=by rw [hρ];rfl
     simp only [hρ',he,Q.guard]
     exact OKQ.mk (v:=.one (.i .i64 0)) (us:=[]) (by simp [Q.run,eV,eL,q3q,q0n]) (by simp [Q.reads]) h
    ·cases h
   ·rename_i y hρ
    split at h
    ·rename_i he
     obtain ⟨rfl,h⟩:=q4D h
     have hρ':eV (ρ x)=.one (.d (.lit (.slice none 0 0))):=by rw [hρ];rfl
     simp only [hρ',he,Q.guard]
     exact OKQ.mk (v:=.one (.i .i64 0)) (us:=[]) (by simp [Q.run,eV,eL,q3q,q0n]) (by simp [Q.reads]) h
    ·cases h
   ·cases h
  ·cases h
 ·
  rename_i hc
  simp only [hc]
  split at h
  ·rename_i x t hx ht
   simp only [hx,ht]
   split at h
   ·rename_i zs hz
    obtain ⟨e,he,hze⟩:=Option.bind_eq_some_iff.1 hz
    split at h
    ·rename_i hpos
     have body:OKQ ob (q2o zs (eV (ρ x))) k r→OKQ ob ((Q.opt (q1Y P t)).bind fun e=>(Q.opt (q25 P e)).bind fun zs=>Q.guard (decide (0 < zs.length)) (q2o zs (eV (ρ x)))) k r:=fun hb=>by
      exact OKQ.some he (OKQ.some hze (OKQ.cond _ (by simp [hpos]) hb))
     refine body ?_
     split at h
     ·rename_i hρ
      rw [hρ]
      exact OKQ.mk (v:=.tup []) (us:=[]) (by simp [q2o,Q.run,eV,eL,eVs,q0n]) (by simp [q2o,eV,eL,Q.reads]) h
     ·rename_i y hρ
      obtain ⟨rfl,h⟩:=q4D h
      rw [hρ]
      exact OKQ.mk (v:=.tup []) (us:=[]) (by simp [q2o,Q.run,eV,eL,eVs,q0n]) (by simp [q2o,eV,eL,Q.reads]) h
     ·rename_i key off n c hρ
      split at h
      ·rename_i rows size elem hk
       split at h
       ·rename_i hsz
        obtain ⟨hcc,h⟩:=q0M h
        obtain ⟨hoff,h⟩:=q0M h
        rw [hρ]
        have hl:(zs.map (q05 Fn FnD m).lit)=zs.map D.lit:=rfl
        have hob:q0a (eOb ob) key=some (.arr rows size elem true):=by rw [q0h,hk];rfl
        have hlen:c=rows.length:=hcc
        cases off with
        | none =>
         have hoff':n=rows.length:=hoff
         have h1:(q2o zs (.one (.slk key 0 n c))).run (q0a (eOb ob))=some (.tup [],[(key,.arr (List.replicate n (zs.map D.lit)) size elem true)]):=by
          simp [q2o,Q.run,hob,hlen,hsz,hoff',Q.guard]
         have h2:(q2o zs (.one (.slk key 0 n c))).reads (q0a (eOb ob))=[key]:=by
          simp [q2o,Q.reads,hob,hlen,hsz,hoff',Q.guard]
         exact OKQ.mk (v:=.tup []) (us:=[(key,.arr (List.replicate n (zs.map D.lit)) size elem true)]) (rd:=[key]) h1 (fun q hq=>by
          have hq':q∈(q2o zs (.one (.slk key 0 n c))).reads (q0a (eOb ob)):=hq
          rw [h2] at hq';exact hq') h
        | some o =>
         have hoff':o+n=rows.length:=hoff
         have h1:(q2o zs (.one (.slk key o n c))).run (q0a (eOb ob))=some (.tup [],[(key,.arr (rows.take o++List.replicate n (zs.map D.lit)) size elem true)]):=by
          simp [q2o,Q.run,hob,hlen,hsz,hoff',Q.guard]
         have h2:(q2o zs (.one (.slk key o n c))).reads (q0a (eOb ob))=[key]:=by
          simp [q2o,Q.reads,hob,hlen,hsz,hoff',Q.guard]
         exact OKQ.mk (v:=.tup []) (us:=[(key,.arr (rows.take o++List.replicate n (zs.map D.lit)) size elem true)]) (rd:=[key]) h1 (fun q hq=>by
          have hq':q∈(q2o zs (.one (.slk key o n c))).reads (q0a (eOb ob)):=hq
          rw [h2] at hq';exact hq') h
       ·cases h
      ·cases h
     ·cases h
    ·cases h
   ·cases h
  ·cases h
 ·
  rename_i hc
  simp only [hc]
  split at h
  ·rename_i a l hl
   obtain ⟨z,h1,h2⟩:=qg0 h
   refine OKQ.pure (v:=.one (.d z)) ?_ h2
   rw [q9q hl,List.map_cons]
   simp only [q7M,h1,eV,eL]
  ·cases h
 ·
  rename_i hc
  simp only [hc]
  split at h
  ·rename_i a l hl
   obtain ⟨z,h1,h2⟩:=qg0 h
   refine OKQ.pure (v:=.one (.d z)) ?_ h2
   rw [q9q hl,List.map_cons]
   simp only [q7M,h1,eV,eL]
  ·cases h
 ·
  rename_i hc
  simp only [hc]
  split at h
  ·rename_i s x t t' hs ht
   simp only [hs,ht]
   split at h
   ·cases h
   ·rename_i e he
    split at h
    ·rename_i sz bs zs h1 h2 h3
     split at h
     ·rename_i ik hik
      simp only [hik]
      have gapc:∀ y,q6q (q05 Fn FnD m) (ρ x)=some y→0 < sz∧zs.length=sz→eV (ρ s)=.one (.d (.lit (.slice none 0 0)))→((q05 Fn FnD m).gap bs y fun n=>q3E (q05 Fn FnD m) ob dst (.arr ((q05 Fn FnD m).repl n (zs.map (q05 Fn FnD m).lit)) sz e true) (fun key=>.one (.slk key none n n)) k)=some r→OKQ ob (match eV (ρ s) with
        | .one (.d (.lit (.slice none 0 0)))=>(Q.opt (q1Y P t)).bind fun e=>(Q.opt (q1b P e)).bind fun sz=>(Q.opt (q4U P e)).bind fun bs=>(Q.opt (q25 P e)).bind fun zs=>(Q.opt (vInt? (eV (ρ x)))).bind fun n =>
         Q.guard (decide (0 < sz∧zs.length=sz∧0 < n.2∧bs*n.2≤140737488355328∧n.2≤9223372036854775807)) (fresh dst (.arr (List.replicate n.2.toNat (zs.map .lit)) sz e true) fun k=>.one (.slk k 0 n.2.toNat n.2.toNat))
        | _=>.fail) k r:=by
       intro y hy hcond hρ' h
       obtain ⟨a,n,rfl,hn,h⟩:=qiv h
       simp only [hρ',he,h1,h2,h3,Q.opt,Q.bind,q3J hy,vInt?]
       have hn1:0 < n:=hn.1
       have hn2:(bs:Int)*n≤140737488355328:=hn.2.1
       have hn3:n≤9223372036854775807:=hn.2.2
       refine OKQ.cond _ (by simp [hcond,hn1,hn2,hn3]) ?_
       have:=q3k (v':=fun key=>.one (.slk key 0 n.toNat n.toNat)) h (fun q=>by simp [eV,eL])
       simpa [eO,q05] using this
      split at h
      ·rename_i y hρ hy
       split at h
       ·rename_i hcond
        exact gapc y hy hcond (by rw [hρ];rfl) h
       ·cases h
      ·rename_i x0 y hρ hy
       split at h
       ·rename_i hcond
        obtain ⟨rfl,h⟩:=q4D h
        exact gapc y hy hcond (by rw [hρ];rfl) h
       ·cases h
      ·cases h
     ·rename_i hik
      simp only [hik]
      split at h
      ·rename_i hcond
       simp only [he,h1,h2,h3,Q.opt,Q.bind]
       refine OKQ.cond _ (by simp [hcond]) ?_
       obtain ⟨rows,rd,g1,g2,h⟩:=qkG h
       obtain ⟨v,us,rd',g3,g4,h⟩:=qeQ h
       exact OKQ.bind g1 g2 g3 g4 h
      ·cases h
    ·cases h
  ·cases h
 ·cases h
theorem op3_ok {dst:Option Nat} {ρ:Operand→V3r} {op:Op} {k:K3 D Nat Rr Mr Out} (h:op3 (q05 Fn FnD m) P ob dst ρ op k=some r):OKQ ob (aop P dst (fun x=>eV (ρ x)) op) k r:=by
 cases op with
 | move x=>exact OKQ.ret0 h
 | assign x=>exact OKQ.ret0 h
 | pick c a b =>
  simp only [op3] at h
  simp only [aop]
  split at h
  ·rename_i hc
   exact OKQ.pure (v:=ρ a) (by simp [hc,eV,eL,vBool?]) h
  ·rename_i hc
   exact OKQ.pure (v:=ρ b) (by simp [hc,eV,eL,vBool?]) h
  ·rename_i y hc
   rcases q3R h with ⟨rfl,h⟩ | ⟨rfl,h⟩
   ·exact OKQ.pure (v:=ρ a) (by simp [hc,eV,eL,vBool?]) h
   ·exact OKQ.pure (v:=ρ b) (by simp [hc,eV,eL,vBool?]) h
  ·cases h
 | box elem x =>
  simp only [op3] at h
  simp only [aop]
  split at h
  ·rename_i cs hcs
   refine OKQ.some (a:=eLs cs) (by rw [q8f,hcs];rfl) ?_
   cases dst with
   | some q=>exact q3k (o:=.box cs elem) h (fun q=>by simp [eV,eL])
   | none =>
    obtain ⟨ds,us,rd,h1,h2,h⟩:=q56 h
    refine OKQ.mk (v:=.one (.dp ds 0)) (us:=us) (rd:=rd) ?_ ?_ h
    ·rw [Q.run_bind,h1];rfl
    ·intro q hq
     rw [Q.reads_bind,h1] at hq
     simp only [Q.reads,List.append_nil] at hq
     exact h2 q hq
  ·cases h
 | alloc elem =>
  simp only [op3] at h
  simp only [aop]
  split at h
  ·rename_i zs hz
   refine OKQ.some hz ?_
   have:=q3k (v':=fun key=>.one (.ptr key 0)) h (fun q=>by simp [eV,eL])
   rwa [eO,qbu] at this
  ·cases h
 | build t parts =>
  simp only [op3] at h
  simp only [aop]
  split at h
  ·rename_i zs hz
   split at h
   ·rename_i hc
    refine OKQ.some hz (OKQ.cond _ hc ?_)
    split at h
    ·rename_i cs hcs
     refine OKQ.pure (v:=.agg cs) ?_ h
     have:=qkh (q70 P t) (parts.toList.map fun p=>(p.1,ρ p.2)) (zs.map (qk2 (q05 Fn FnD m)))
     rw [qbu,hcs,List.map_map] at this
     rw [show (parts.toList.map fun p=>(p.1,eV (ρ p.2)))=(parts.toList.map ((fun p=>(p.1,eV p.2)) ∘ fun p=>(p.1,ρ p.2))) from rfl,this]
     simp [eV]
    ·cases h
   ·cases h
  ·cases h
 | buildSlice t len parts =>
  simp only [op3] at h
  simp only [aop]
  split at h
  ·cases h
  ·rename_i e he
   split at h
   ·rename_i s zs hs hz
    split at h
    ·rename_i hc
     obtain ⟨rows,us,rd,h1,h2,h⟩:=qcJ (n:=len) (ρ:=ρ) (by simp) h
     cases dst with
     | none =>
      refine OKQ.some he (OKQ.some hs (OKQ.some hz (OKQ.cond _ (by simp [hc]) ?_)))
      have hl:(List.replicate len (zs.map (q05 Fn FnD m).lit))=List.replicate len (zs.map .lit):=rfl
      rw [hl] at h1 h2
      refine OKQ.bind (v:=.one (.d (.sl s rows))) (us:=us) (rd':=[]) h1 h2 ?_ ?_ (by rw [List.append_nil];exact h)
      ·simp [q7T,Q.bind,Q.run,eV,eL]
      ·intro x hx;simp [q7T,Q.bind,Q.reads] at hx
     | some q0 =>
     obtain ⟨v,u,rd',h3,h4,h⟩:=q3k (v':=fun key=>.one (.slk key 0 len len)) h (fun q=>by simp [eV,eL,q05])
     refine OKQ.some he (OKQ.some hs (OKQ.some hz (OKQ.cond _ (by simp [hc]) ?_)))
     have hl:(List.replicate len (zs.map (q05 Fn FnD m).lit))=List.replicate len (zs.map .lit):=rfl
     rw [hl] at h1 h2
     refine OKQ.bind (v:=v) (us:=us++u) (rd':=rd') h1 h2 ?_ ?_ h
     ·rw [Q.run_bind,show (q7T (some q0) rows s e len).run (q0a (eOb ob))=some (eV v,eOb u) from h3]
      simp [Q.run,q43]
     ·intro x hx
      rw [Q.reads_bind,show (q7T (some q0) rows s e len).run (q0a (eOb ob))=some (eV v,eOb u) from h3] at hx
      simp only [Q.reads,List.append_nil] at hx
      exact h4 x hx
    ·cases h
   ·cases h
 | load t a =>
  simp only [op3] at h
  simp only [aop]
  split at h
  ·rename_i g s hg hs
   exact OKQ.some hg (OKQ.some hs (qd7 h))
  ·cases h
 | store t a x =>
  simp only [op3] at h
  simp only [aop]
  split at h
  ·rename_i cs hcs
   split at h
   ·rename_i hs
    exact OKQ.some (a:=eLs cs) (by rw [q8f,hcs];rfl) (OKQ.cond _ (by rw [q37];exact hs) (qfo h))
   ·cases h
  ·cases h
 | nilCheck x =>
  simp only [op3] at h
  simp only [aop]
  split at h
  ·rename_i hρ;rw [hρ] at h ⊢;exact OKQ.ret0 (v:=.one (.ptr _ _)) h
  ·rename_i hρ;rw [hρ] at h ⊢;exact OKQ.ret0 (v:=.one (.pa _ _ _ _)) h
  ·rename_i hρ;rw [hρ] at h ⊢;exact OKQ.ret0 (v:=.one (.dp _ _)) h
  ·rename_i y hρ
   obtain ⟨⟨row,o,rfl⟩,h⟩:=qei h
   rw [hρ] at h ⊢
   exact OKQ.ret0 (v:=.one (.d (.dp row o))) h
  ·cases h
 | binOp op t x y z=>exact qlL h
 | unOp op t x =>
  simp only [op3] at h
  simp only [aop]
  split at h
  ·rename_i v hv
   exact OKQ.pure (v:=.one (.b !v)) (by simp [hv,eV,eL,V.lit?,q3q]) h
  ·rename_i y hv
   obtain ⟨z,hz,h⟩:=qfs h
   unfold unD at hz
   split at hz
   ·cases hz
    exact OKQ.pure (by simp [hv,eV,eL,V.lit?,q3q]) h
   ·cases hz
   ·cases hz
  ·split at h
   ·rename_i y hy
    obtain ⟨z,hz,h⟩:=qfs h
    unfold unD at hz
    split at hz
    ·cases hz
    ·cases hz
     refine OKQ.pure (v:=.one (.d _)) ?_ h
     simp [q3J hy,V.lit?,q3q,eV,eL]
    ·cases hz
   ·cases h
  ·cases h
 | makeFunc fn first captured =>
  simp only [op3] at h
  simp only [aop]
  split at h
  ·rename_i f caps h2 h3
   have e1:q1O (first.toList.map fun x=>eV (ρ x))=some []:=by
    have:=q3V (first.toList.map ρ)
    rw [h2,List.map_map] at this
    exact this
   have e2:q1O (captured.toList.map fun x=>eV (ρ x))=some (eLs caps):=by
    have:=q3V (captured.toList.map ρ)
    rw [h3,List.map_map] at this
    exact this
   split at h
   ·rename_i hlt
    simp only [e1,e2,if_pos hlt]
    exact OKQ.ret0 (v:=.one (.fn f caps)) h
   ·cases h
  ·rename_i f c cs h2 h3
   have e1:q1O (first.toList.map fun x=>eV (ρ x))=some (eL c::eLs cs):=by
    have:=q3V (first.toList.map ρ)
    rw [h2,List.map_map] at this
    exact this
   have e2:q1O (captured.toList.map fun x=>eV (ρ x))=some []:=by
    have:=q3V (captured.toList.map ρ)
    rw [h3,List.map_map] at this
    exact this
   simp only [e1,e2]
   exact OKQ.ret0 (v:=.one (.fn (f+2000000) (c::cs))) h
  ·cases h
 | index t x ix =>
  simp only [op3] at h
  simp only [aop]
  split at h
  ·rename_i p hp
   split at h
   ·rename_i s g cs hs hg hx
    split at h
    ·rename_i kk z hix
     split at h
     ·rename_i hz
      obtain ⟨v,hv,h⟩:=q3K h (fun v hv=>by
       have:=q35 g s (z.toNat*s) cs
       rw [hv] at this
       exact this)
      refine OKQ.some (a:=(kk,z)) (by simp [hix,eV,eL,vInt?]) (OKQ.some hp (OKQ.some hs (OKQ.some hg ?_)))
      simp only [hx,eV]
      exact OKQ.cond _ (by simp [hz]) (OKQ.pure hv h)
     ·cases h
    ·rename_i y hix
     obtain ⟨kk,z,rfl,hz,h⟩:=qaa h
     unfold selR at h
     split at h
     ·rename_i kont hk
      rw [List.getElem?_map] at hk
      obtain ⟨j,hj,rfl⟩:=Option.map_eq_some_iff.1 hk
      have hjz:j=z.toNat:=by
       have:=(List.getElem?_eq_some_iff.1 hj).2
       simpa using this.symm
      subst hjz
      obtain ⟨v,hv,h⟩:=q3K h (fun v hv=>by
       have:=q35 g s (z.toNat*s) cs
       rw [hv] at this
       exact this)
      refine OKQ.some (a:=(kk,z)) (by simp [hix,eV,eL,vInt?]) (OKQ.some hp (OKQ.some hs (OKQ.some hg ?_)))
      simp only [hx,eV]
      exact OKQ.cond _ (by simp [hz]) (OKQ.pure hv h)
     ·cases h
    ·cases h
   ·cases h
  ·cases h
 | convert src dst x =>
  simp only [op3] at h
  simp only [aop]
  split at h
  ·rename_i k0 kd y h1 h2 h3
   obtain ⟨a,n,rfl,h⟩:=qiw h
   refine OKQ.some h1 (OKQ.some h2 (OKQ.some (a:=(a,n)) (by simp [q3J h3,vInt?]) ?_))
   exact OKQ.ret0 (v:=.one (.d (.lit (.int kd (kd.wrap n))))) h
  ·cases h
 | makeInterface t x =>
  simp only [op3] at h
  simp only [aop]
  have fz:∀ zs:List D,(q5l (zs.map L.d)).run (q0a (eOb ob))=some (zs,[])∧(q5l (zs.map L.d)).reads (q0a (eOb ob))=[]:=by
   intro zs
   induction zs with
   | nil=>exact ⟨rfl,rfl⟩
   | cons c cs ih=>simp [q5l,frz,Q.bind,Q.run_bind,Q.reads_bind,Q.run,Q.reads,ih.1,ih.2]
  split at h
  ·rename_i hc
   split at h
   ·rename_i y hg hy
    split at h
    ·rename_i z hz
     refine OKQ.cond _ (by simp [hc,hg,hy,eV,q3i]) ?_
     have hz':=q2b hz
     refine OKQ.some (a:=[z].map L.d) (by simp [hy,eV,hz',V.cells,L.isDef]) ?_
     refine OKQ.mk (v:=.one (.d (.ifc t false [z]))) (us:=[]) (rd:=[]) ?_ ?_ h
     ·rw [Q.run_bind,(fz [z]).1];simp [Q.run,hy,eV,eL,q3i,q0n]
     ·intro q hq;rw [Q.reads_bind,(fz [z]).1,(fz [z]).2] at hq;simp [Q.reads] at hq
    ·cases h
   ·rename_i ys hg hy
    split at h
    ·rename_i zs hz
     refine OKQ.cond _ (by simp [hc,hg,hy,eV,q3i]) ?_
     have hz':=q2f hz
     refine OKQ.some (a:=zs.map L.d) (by simp [hy,eV,hz',V.cells,L.isDef,Function.comp_def]) ?_
     refine OKQ.mk (v:=.one (.d (.ifc t true zs))) (us:=[]) (rd:=[]) ?_ ?_ h
     ·rw [Q.run_bind,(fz zs).1];simp [Q.run,hy,eV,eL,q3i,q0n]
     ·intro q hq;rw [Q.reads_bind,(fz zs).1,(fz zs).2] at hq;simp [Q.reads] at hq
    ·cases h
   ·cases h
  ·cases h
 | makeSlice t l c =>
  simp only [op3] at h
  simp only [aop]
  split at h
  ·cases h
  ·rename_i e he
   split at h
   ·rename_i s zs bs hs hz hb
    split at h
    ·rename_i n n' hn hn'
     split at h
     ·rename_i hc
      obtain ⟨a,z,rfl,rfl,hz2,h⟩:=qit h
      refine OKQ.some he (OKQ.some hs (OKQ.some hz (OKQ.some hb (OKQ.some (a:=(a,z)) (by simp [q3J hn,vInt?]) (OKQ.some (a:=(a,z)) (by simp [q3J hn',vInt?]) (OKQ.cond _ (by simp [hc,hz2]) ?_))))))
      have:=q3k (v':=fun key=>.one (.slk key 0 z.toNat z.toNat)) h (fun q=>by simp [eV,eL])
      simpa [eO,q05] using this
     ·cases h
    ·cases h
   ·cases h
 | slice t x lo hi mx =>
  simp only [op3] at h
  simp only [aop]
  split at h
  ·rename_i e he
   split at h
   ·rename_i l h' s hl hh hs
    obtain ⟨zl,zh,h1,h2,h3⟩:=qlF hl hh h
    exact OKQ.cond _ (by simp [he]) (OKQ.some h1 (OKQ.some h2 (OKQ.some he (OKQ.some hs h3))))
   ·cases h
  ·cases h
 | fieldAddr s x f =>
  simp only [op3] at h
  simp only [aop]
  split at h
  ·rename_i p hp
   split at h
   ·rename_i y hρ
    split at h
    ·rename_i n _
     obtain ⟨row,rfl,hl,h⟩:=qab h
     rw [q2p hl] at h
     obtain ⟨v,h1,h2⟩:=q3K (o':=q3o p.1 (eV (.one (.dp row 0)))) h fun v hv=>q8k hv
     refine OKQ.some hp (OKQ.pure ?_ h2)
     rw [hρ];exact h1
    ·cases h
   ·obtain ⟨v,h1,h2⟩:=q3K (o':=q3o p.1 (eV (ρ x))) h fun v hv=>q8k hv
    exact OKQ.some hp (OKQ.pure h1 h2)
  ·cases h
 | field s x f =>
  simp only [op3] at h
  simp only [aop]
  split at h
  ·rename_i p cs hp hx
   obtain ⟨v,h1,h2⟩:=q3K (o':=q1q p.2.2 p.2.1 p.1 (eLs cs)) h fun v hv=>by rw [q35,hv];rfl
   refine OKQ.some hp ?_
   have:eV (ρ x)=.agg (eLs cs):=by rw [hx];simp [eV]
   simp only [this]
   exact OKQ.pure h1 h2
  ·cases h
 | indexAddr t x ix =>
  simp only [op3] at h
  simp only [aop]
  split at h
  ·rename_i i hi
   have hi':eV (ρ ix)=.one (eL i):=by rw [hi];simp [eV]
   split at h
   ·rename_i p hp
    split at h
    ·rename_i s hs
     obtain ⟨kk,z,h1,h2⟩:=qaB (e:=p.2) h
     refine OKQ.some (a:=(kk,z)) (by rw [hi'];exact h1) ?_
     simp only [hp]
     exact OKQ.some hs h2
    ·cases h
   ·rename_i hp
    split at h
    ·rename_i e he
     split at h
     ·rename_i s hs
      obtain ⟨kk,z,h1,h2⟩:=qaB (e:=0) h
      refine OKQ.some (a:=(kk,z)) (by rw [hi'];exact h1) ?_
      simp only [hp,he]
      exact OKQ.some hs h2
     ·cases h
    ·cases h
  ·cases h
 | makeMap t rr =>
  cases rr with
  | some _=>simp [op3,q05] at h
  | none =>
   simp only [op3] at h
   simp only [aop]
   split at h
   ·rename_i kd g hk hg
    refine OKQ.cond _ (by simp [hk]) (OKQ.some hg ?_)
    have:=q3k (v':=fun key=>.one (.mk key)) h (fun q=>by simp [eV,eL])
    simpa [eO,q05] using this
   ·cases h
 | lookup t x ix ok =>
  simp only [op3] at h
  simp only [aop]
  split at h
  ·rename_i kd e hk he
   split at h
   ·rename_i g zs key hg hz hkey
    split at h
    ·rename_i hzs
     obtain ⟨v,h1,h2,h3⟩:=qiK h
     subst h1
     exact OKQ.some hk (OKQ.some he (OKQ.some hg (OKQ.some hz (OKQ.some (a:=v) (by simp [q3J hkey,V.lit?]) (OKQ.cond _ (by simp [h2,hzs]) h3)))))
    ·cases h
   ·cases h
  ·cases h
 | mapUpdate t q kk v =>
  simp only [op3] at h
  simp only [aop]
  split at h
  ·rename_i kd g hk hg
   split at h
   ·rename_i key hkey
    obtain ⟨kv,h1,h2⟩:=qkC h
    subst h1
    rcases hme:q66 P t with _ | e
    ·rw [hme] at hg;cases hg
    ·rw [hme] at hg
     exact OKQ.some hk (OKQ.some rfl (OKQ.some hg (OKQ.some (a:=kv) (by simp [q3J hkey,V.lit?]) h2)))
   ·cases h
  ·cases h
 | extract t i =>
  simp only [op3] at h
  simp only [aop]
  split at h
  ·rename_i vs hρ
   obtain ⟨v,h1,h2⟩:=q3K (o':=(eVs vs)[i]?) h fun v hv=>by rw [q24,List.getElem?_map,hv];rfl
   have:eV (ρ t)=.tup (eVs vs):=by rw [hρ];simp [eV]
   simp only [this]
   exact OKQ.pure h1 h2
  ·cases h
 | call c=>exact qeL h
 | _=>simp [op3,q05] at h
end
end Go.VE
