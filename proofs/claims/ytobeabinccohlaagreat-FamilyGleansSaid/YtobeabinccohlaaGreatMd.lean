/- An evaluator whose data are abstract: what is known before the data is worked out, the rest is handed to a record of operations. -/
import Derived.Test.YtobeabinccohlaaGreatMc
namespace Go.VE
open Go.RowKit
inductive L3 (Δ N:Type) where
 | d (x:Δ)
 | b (v:Bool)
 | i (k:IntKind) (n:Int)
 | nil
 | dp (row:List Δ) (off:Nat)
 | fn (f:Nat) (caps:List (L3 Δ N))
 | slk (k:Nat) (off:Option N) (n c:N)
 | pa (k:Nat) (i:N) (off:Nat) (c:N)
 | ptr (k off:Nat)
 | mk (k:Nat)
 | undef
inductive V3 (Δ N:Type) where
 | one (x:L3 Δ N)
 | agg (xs:List (L3 Δ N))
 | tup (xs:List (V3 Δ N))
inductive O3 (Δ N R M:Type) where
 | box (cells:List (L3 Δ N)) (elem:Nat)
 | arr (rows:R) (size elem:Nat) (own:Bool)
 | mp (agg:Bool) (m:M) (own:Bool)
structure S3 (Δ N R M:Type) where
 env:List (Nat×V3 Δ N)
 ob:List (Nat×O3 Δ N R M)
 ys:List Nat
 pend:Option Ex
instance {Δ N:Type}:Inhabited (L3 Δ N):=⟨.undef⟩
instance {Δ N:Type}:Inhabited (V3 Δ N):=⟨.one .undef⟩
inductive Y (Δ N R M:Type) where
 | d (x:Δ)
 | n (x:N)
 | r (x:R)
 | m (x:M)
abbrev Sk:=S3 Unit Unit Unit Unit
inductive Sh where
 | one
 | agg (n:Nat)
 | ptr (n:Nat)
 | met (name:String) (n:Nat)
inductive RK where
 | d
 | own (size elem:Nat)
 | om (agg:Bool)
abbrev RS:=List (Bool×List RK)
structure Pr (Δ N R W M E Ω:Type) where
 fail:Ω
 out:Nat→List (Y Δ N R M)→Ω
 bnd:Ω→List (E→Ω)→Ω
 loop:List ((Nat→List (Y Δ N R M)→Ω)→E→Ω)→Nat→List (Y Δ N R M)→Ω
 call:Nat→List Δ→Ω
 callD:Δ→List Sh→List Δ→Ω
 miss:Nat→Nat→Nat→Nat→List Nat→Ex→S3 Δ N R M→RS→Ω
 cond:Δ→Ω→Ω→Ω
 ld:E→Nat→Δ
 ln:E→Nat→N
 lr:E→Nat→R
 lm:E→Nat→M
 lit:Value→Δ
 natD:N→Δ
 natN:Nat→N
 addN:N→N→N
 slD:Nat→R→Δ
 dpD:List Δ→Nat→Δ
 fnD:Nat→List Δ→Δ
 mpD:Bool→M→Δ
 ifD:Nat→Bool→List Δ→Δ
 len:R→N
 rows:List (List Δ)→R
 repl:N→List Δ→R
 app:R→R→R
 seg:R→Option N→N→R
 setR:R→N→List Δ→R
 emp:M
 cell:W→Nat→Δ
 eqN:N→N→Ω→Ω
 leN:N→N→Ω→Ω
 nilD:Δ→Ω→Ω
 ptrW:Nat→Δ→(W→Ω)→Ω
 isPtr:Δ→Ω→Ω
 rowAt:Nat→R→N→(W→Ω)→Ω
 bin:BinOp→Bool→Δ→Δ→(Δ→Ω)→Ω
 un:UnOp→Δ→(Δ→Ω)→Ω
 eqs:List Bool→Bool→List Δ→List Δ→(Δ→Ω)→Ω
 mm:Bool→Δ→Δ→(Δ→Ω)→Ω
 mkN:Nat→Δ→Δ→(N→Ω)→Ω
 gap:Nat→Δ→(N→Ω)→Ω
 cut:Option Δ→Option Δ→N→(N→N→Ω)→Ω→Ω
 cutD:Nat→Δ→Option Δ→Option Δ→(Δ→Ω)→Ω
 cutNil:Option Δ→Option Δ→Ω→Ω
 selI:Nat→Δ→List Ω→Ω
 inx:Δ→N→(N→Ω)→Ω
 rowD:Nat→Δ→Δ→(W→Ω)→Ω
 lenD:Δ→(Δ→Ω)→Ω
 lenS:Δ→(Δ→Ω)→Ω
 rowsD:Nat→Δ→(R→Ω)→Ω
 isNil:R→Ω→Ω→Ω
 fits:Nat→N→Ω→Ω
 asM:Bool→Δ→(M→Ω)→Ω
 look:Nat→List Value→M→Δ→(W→Δ→Ω)→Ω
 upd:Nat→M→Δ→List Δ→(M→Ω)→Ω
 lits:List (Y Δ N R M)→Ω→Ω
 cvI:IntKind→Δ→(Δ→Ω)→Ω
 nilE:Δ→Ω→Ω→Ω
 ins:Δ→R→R→(R→Ω)→Ω
section
variable {Δ N R W M E Ω:Type} (pr:Pr Δ N R W M E Ω)
def q2N:List (Nat×V3 Δ N)→Nat→V3 Δ N
 | [],_=>.one .undef
 | (k,v)::r,t=>if t=k then v else q2N r t
def q0W:List (Nat×O3 Δ N R M)→Nat→Option (O3 Δ N R M)
 | [],_=>none
 | (k,o)::r,j=>if j=k then some o else q0W r j
def q2v:List (Nat×O3 Δ N R M)→List (Nat×O3 Δ N R M)→List (Nat×O3 Δ N R M)
 | [],ob=>ob
 | (k,o)::r,ob=>q2v r ((k,o)::ob)
mutual
def L3.keysOf:L3 Δ N→List Nat
 | .slk k _ _ _=>[k]
 | .pa k _ _ _=>[k]
 | .ptr k _=>[k]
 | .mk k=>[k]
 | .fn _ caps=>L3.keysF caps
 | _=>[]
def L3.keysF:List (L3 Δ N)→List Nat
 | []=>[]
 | x::xs=>x.keysOf++L3.keysF xs
end
mutual
def V3.keysOf:V3 Δ N→List Nat
 | .one x=>x.keysOf
 | .agg xs=>L3.keysF xs
 | .tup xs=>V3.keysF xs
def V3.keysF:List (V3 Δ N)→List Nat
 | []=>[]
 | x::xs=>x.keysOf++V3.keysF xs
end
def O3.keysOf:O3 Δ N R M→List Nat
 | .box cells _=>L3.keysF cells
 | _=>[]
def q9t (ob:List (Nat×O3 Δ N R M)):List Nat→List (Nat×O3 Δ N R M)
 | []=>[]
 | k::ks=>match q0W ob k with
  | some o=>(k,o)::q9t ob ks
  | none=>q9t ob ks
def q58 (ob:List (Nat×O3 Δ N R M)):List Nat→List Nat
 | []=>[]
 | k::ks=>match q0W ob k with
  | some o=>o.keysOf++q58 ob ks
  | none=>q58 ob ks
def qb2 (ob:List (Nat×O3 Δ N R M)):Nat→List Nat→List Nat
 | 0,ks=>ks
 | n+1,ks=>qb2 ob n (q4h (q58 ob ks) ks)
def qht (pk:List Nat) (vs:List (V3 Δ N)) (ob:List (Nat×O3 Δ N R M)):Option (List (Nat×O3 Δ N R M)) :=
 let ks:=qb2 ob 6 (q4h (V3.keysF vs) pk)
 let ob':=q9t ob ks
 if (vs.all fun v=>v.keysOf.all fun k=>ks.contains k)&&(ob'.all fun p=>p.2.keysOf.all fun k=>ks.contains k) then some ob' else none
def qhh:Value→L3 Δ N
 | .bool v=>.b v
 | .int k n=>.i k n
 | .slice none 0 0=>.nil
 | v=>.d (pr.lit v)
def qak:Value→V3 Δ N
 | .agg cs=>if cs.toList.all plain then .agg (cs.toList.map (qhh pr)) else .one .undef
 | v=>if plain v then .one (qhh pr v) else .one .undef
def ev3 (env:List (Nat×V3 Δ N)):Operand→V3 Δ N
 | .tmp t=>q2N env t
 | .const v=>qak pr v
 | .global _=>.one .undef
 | .func f=>if f < 2000000 then .one (.fn f []) else .one .undef
def q4T:L3 Δ N→Option Δ
 | .d x=>some x
 | .b v=>some (pr.lit (.bool v))
 | .i k n=>some (pr.lit (.int k n))
 | .nil=>some (pr.lit (.slice none 0 0))
 | .dp row off=>some (pr.dpD row off)
 | _=>none
def q5w:V3 Δ N→Option Δ
 | .one x=>q4T pr x
 | _=>none
def q8V:List (L3 Δ N)→Option (List Δ)
 | []=>some []
 | x::xs=>match q4T pr x,q8V xs with
  | some y,some ys=>some (y::ys)
  | _,_=>none
def qc2 (ρ:Operand→V3 Δ N):Option Operand→Option (Option Δ)
 | none=>some none
 | some x=>match q5w pr (ρ x) with
  | some y=>some (some y)
  | none=>none
def qc3 (ρ:Operand→V3 Δ N):List Operand→Option (List Δ)
 | []=>some []
 | x::xs=>match q5w pr (ρ x),qc3 ρ xs with
  | some y,some ys=>some (y::ys)
  | _,_=>none
def L3.isDef:L3 Δ N→Bool | .undef=>false | _=>true
def V3.cells:V3 Δ N→Option (List (L3 Δ N))
 | .one x=>if x.isDef then some [x] else none
 | .agg xs=>if xs.all L3.isDef then some xs else none
 | .tup _=>none
def mkV3 (agg:Bool) (xs:List (L3 Δ N)):Option (V3 Δ N):=match agg,xs with
 | true,xs=>some (.agg xs)
 | false,[x]=>some (.one x)
 | false,_=>none
def q2r (agg:Bool) (s off:Nat) (cells:List (L3 Δ N)):Option (V3 Δ N) :=
 if agg then (if off+s≤cells.length then some (.agg ((cells.drop off).take s)) else none)
 else match cells[off]? with
  | some x=>some (.one x)
  | none=>none
def qg9 (place:Nat→Option (Nat×Nat)) (cells:List (L3 Δ N)):List (Nat×V3 Δ N)→Option (List (L3 Δ N))
 | []=>some cells
 | (i,v)::rest=>match place i,v.cells with
  | some (off,size),some cs=>if cs.length=size∧off+size≤cells.length then qg9 place (cells.take off++cs++cells.drop (off+size)) rest else none
  | _,_=>none
def q5s (n:Nat):V3 Δ N→Option (V3 Δ N)
 | .one (.ptr k off)=>some (.one (.ptr k (off+n)))
 | .one (.pa k i off c)=>some (.one (.pa k i (off+n) c))
 | .one (.dp r off)=>some (.one (.dp r (off+n)))
 | _=>none
def q3o:List (V3 Δ N)→Option (List (L3 Δ N))
 | []=>some []
 | .one x::r=>if x.isDef then (match q3o r with
  | some xs=>some (x::xs)
  | none=>none) else none
 | _::_=>none
def cellsOf (size:Nat) (r:W):List Δ:=(List.range size).map (pr.cell r)
abbrev Ups (Δ N R M:Type):=List (Nat×O3 Δ N R M)
abbrev K3 (Δ N R M Ω:Type):=V3 Δ N→Ups Δ N R M→List Nat→Ω
def qcJ (o:Option (V3 Δ N)) (rd:List Nat) (k:K3 Δ N R M Ω):Ω:=match o with
 | some v=>k v [] rd
 | none=>pr.fail
def q37 (ob:Ups Δ N R M) (dst:Option Nat) (o:O3 Δ N R M) (v:Nat→V3 Δ N) (k:K3 Δ N R M Ω):Ω:=match dst with
 | some key=>match q0W ob key with
  | none=>k (v key) [(key,o)] [key]
  | some _=>pr.fail
 | none=>pr.fail
def frz3 (ob:Ups Δ N R M) (x:L3 Δ N) (k:Δ→Ups Δ N R M→List Nat→Ω):Ω:=match x with
 | .slk key off n c=>match q0W ob key with
  | some (.arr rows size elem _)=>pr.eqN c (pr.len rows) (k (pr.slD size (pr.seg rows off n)) [(key,.arr rows size elem false)] [key])
  | _=>pr.fail
 | .mk key=>match q0W ob key with
  | some (.mp agg m _)=>k (pr.mpD agg m) [(key,.mp agg m false)] [key]
  | _=>pr.fail
 | x=>match q4T pr x with
  | some y=>k y [] []
  | none=>pr.fail
def q9A (ob:Ups Δ N R M):List (L3 Δ N)→(List Δ→Ups Δ N R M→List Nat→Ω)→Ω
 | [],k=>k [] [] []
 | x::xs,k=>frz3 pr ob x fun d u rd=>q9A ob xs fun ds us rd'=>k (d::ds) (u++us) (rd++rd')
def q8T (rec:L3 Δ N→(Δ→List Nat→Ω)→Ω):List (L3 Δ N)→(List Δ→List Nat→Ω)→Ω
 | [],k=>k [] []
 | x::xs,k=>rec x fun d rd=>q8T rec xs fun ds rd'=>k (d::ds) (rd++rd')
def q4S (ob:Ups Δ N R M):Nat→L3 Δ N→(Δ→List Nat→Ω)→Ω
 | n,.slk key off n' c,k=>match q0W ob key with
  | some (.arr rows size _ _)=>pr.eqN c (pr.len rows) (k (pr.slD size (pr.seg rows off n')) [key])
  | _=>pr.fail
 | n,.pa key i off c,k=>match q0W ob key with
  | some (.arr rows size _ _)=>pr.eqN c (pr.len rows) (pr.rowAt size rows i fun r=>k (pr.dpD (cellsOf pr size r) off) [key])
  | _=>pr.fail
 | n,.mk key,k=>match q0W ob key with
  | some (.mp agg m _)=>k (pr.mpD agg m) [key]
  | _=>pr.fail
 | n+1,.ptr key off,k=>match q0W ob key with
  | some (.box cells _)=>q8T (q4S ob n) cells fun ds rd=>k (pr.dpD ds off) (key::rd)
  | _=>pr.fail
 | n+1,.fn f caps,k=>q8T (q4S ob n) caps fun ds rd=>k (pr.fnD f ds) rd
 | n,x,k=>match q4T pr x with
  | some y=>k y []
  | none=>pr.fail
def qfK (agg:Bool) (s:Nat) (ob:Ups Δ N R M) (x:V3 Δ N) (k:K3 Δ N R M Ω):Ω:=match x with
 | .one (.ptr key off)=>match q0W ob key with
  | some (.box cells _)=>qcJ pr (q2r agg s off cells) [key] k
  | _=>pr.fail
 | .one (.pa key i off c)=>match q0W ob key with
  | some (.arr rows size _ _)=>pr.eqN c (pr.len rows) (pr.rowAt size rows i fun r=>qcJ pr (q2r agg s off ((cellsOf pr size r).map .d)) [key] k)
  | _=>pr.fail
 | .one (.dp row off)=>qcJ pr (q2r agg s off (row.map .d)) [] k
 | _=>pr.fail
def qd2 (ob:Ups Δ N R M) (x:V3 Δ N) (cs:List (L3 Δ N)) (k:K3 Δ N R M Ω):Ω:=match x with
 | .one (.ptr key off)=>match q0W ob key with
  | some (.box cells elem)=>if off+cs.length≤cells.length then k (.one .undef) [(key,.box (cells.take off++cs++cells.drop (off+cs.length)) elem)] [key] else pr.fail
  | _=>pr.fail
 | .one (.pa key i off c)=>match q0W ob key with
  | some (.arr rows size elem own)=>match own with
   | true=>pr.eqN c (pr.len rows) (pr.rowAt size rows i fun r=>q9A pr ob cs fun ds us rd=>match us with
    | []=>if off+ds.length≤size then k (.one .undef) [(key,.arr (pr.setR rows i ((cellsOf pr size r).take off++ds++(cellsOf pr size r).drop (off+ds.length))) size elem own)] (key::rd) else pr.fail
    | _=>pr.fail)
   | false=>pr.fail
  | _=>pr.fail
 | _=>pr.fail
def idxC (es:Nat) (x:V3 Δ N) (k:K3 Δ N R M Ω) (j:Nat):Ω:=qcJ pr (q5s (j*es) x) [] k
def qbn (arr:Option Nat) (es:Nat) (ob:Ups Δ N R M) (x:V3 Δ N) (i:L3 Δ N) (k:K3 Δ N R M Ω):Ω:=match arr with
 | some n=>match i with
  | .i _ z=>if 0≤z∧z < n then idxC pr es x k z.toNat else pr.fail
  | .d y=>pr.selI n y ((List.range n).map (idxC pr es x k))
  | _=>pr.fail
 | none=>match q4T pr i with
  | none=>pr.fail
  | some y=>match x with
   | .one (.slk key off n c)=>match q0W ob key with
    | some (.arr rows size _ _)=>if size=es then pr.eqN c (pr.len rows) (pr.inx y n fun j=>k (.one (.pa key (match off with | none=>j | some o=>pr.addN o j) 0 c)) [] [key]) else pr.fail
    | _=>pr.fail
   | .one (.d z)=>pr.rowD es z y fun r=>k (.one (.dp (cellsOf pr es r) 0)) [] []
   | _=>pr.fail
def cutK (es:Nat) (ob:Ups Δ N R M) (x:V3 Δ N) (l h:Option Δ) (k:K3 Δ N R M Ω):Ω:=match x with
 | .one (.slk key off n c)=>match q0W ob key with
  | some (.arr rows size _ _)=>if size=es then pr.eqN c (pr.len rows) (match l with
    | none=>pr.cut l h n (fun _ m=>k (.one (.slk key off m c)) [] [key]) pr.fail
    | some _=>pr.cut l h n (fun o m=>k (.one (.slk key (some (match off with | none=>o | some o'=>pr.addN o' o)) m c)) [] [key]) (k (.one (.d (pr.slD es (pr.rows [])))) [] [key])) else pr.fail
  | _=>pr.fail
 | .one (.d y)=>pr.cutD es y l h fun z=>k (.one (.d z)) [] []
 | .one .nil=>pr.cutNil l h (k (.one .nil) [] [])
 | _=>pr.fail
def qfn (ob:Ups Δ N R M) (size n:Nat) (rows:List (List Δ)):List (Nat×V3 Δ N)→(List (List Δ)→Ups Δ N R M→List Nat→Ω)→Ω
 | [],k=>k rows [] []
 | (i,v)::rest,k=>match v.cells with
  | none=>pr.fail
  | some cs=>if cs.length=size∧i < n then q9A pr ob cs fun ds us rd=>qfn ob size n (rows.set i ds) rest fun rows' us' rd'=>k rows' (us++us') (rd++rd') else pr.fail
def srcK (es:Nat) (ob:Ups Δ N R M) (x:V3 Δ N) (k:R→List Nat→Ω):Ω:=match x with
 | .one .nil=>k (pr.rows []) []
 | .one (.d y)=>pr.rowsD es y fun r=>k r []
 | .one (.slk key off n c)=>match q0W ob key with
  | some (.arr rows size _ _)=>if size=es then pr.eqN c (pr.len rows) (k (pr.seg rows off n) [key]) else pr.fail
  | _=>pr.fail
 | _=>pr.fail
def q8E (ob:Ups Δ N R M) (dst:Option Nat) (elem size bytes:Nat) (s:V3 Δ N) (new:R) (rd:List Nat) (k:K3 Δ N R M Ω):Ω :=
 pr.isNil new (k s [] rd) (pr.fits bytes (pr.len new) (q37 pr ob dst (.arr new size elem true) (fun key=>.one (.slk key none (pr.len new) (pr.len new))) fun v u rd'=>k v u (rd++rd')))
def qap (ob:Ups Δ N R M) (dst:Option Nat) (elem size bytes:Nat) (s:V3 Δ N) (new:R) (rd:List Nat) (k:K3 Δ N R M Ω):Ω:=match s with
 | .one .nil=>q8E pr ob dst elem size bytes (.one .nil) new rd k
 | .one (.d y)=>pr.nilD y (q8E pr ob dst elem size bytes (.one .nil) new rd k)
 | .one (.slk key none n c)=>match q0W ob key with
  | some (.arr rows size' elem' own)=>match own with
   | true=>if size'=size∧elem'=elem then pr.eqN c (pr.len rows) (pr.eqN n (pr.len rows) (pr.fits bytes (pr.addN n (pr.len new)) (k (.one (.slk key none (pr.addN n (pr.len new)) (pr.addN n (pr.len new)))) [(key,.arr (pr.app rows new) size elem true)] (rd++[key])))) else pr.fail
   | false=>pr.fail
  | _=>pr.fail
 | _=>pr.fail
def qi8 (kd:Nat) (agg ok:Bool) (zs:List Value) (ob:Ups Δ N R M) (x:V3 Δ N) (key:Δ) (k:K3 Δ N R M Ω):Ω :=
 let fin:=fun (m:M) (rd:List Nat)=>pr.look kd zs m key fun r f=>match mkV3 agg ((cellsOf pr zs.length r).map .d) with
  | some v=>k (if ok then .tup [v,.one (.d f)] else v) [] rd
  | none=>pr.fail
 match x with
  | .one (.d y)=>pr.asM agg y fun m=>fin m []
  | .one (.mk q)=>match q0W ob q with
   | some (.mp agg' m _)=>if agg==agg' then fin m [q] else pr.fail
   | _=>pr.fail
  | _=>pr.fail
def qho:V3 Δ N→Bool | .agg _=>true | _=>false
def updK (kd:Nat) (agg:Bool) (ob:Ups Δ N R M) (x:V3 Δ N) (key:Δ) (v:V3 Δ N) (k:K3 Δ N R M Ω):Ω:=match x with
 | .one (.mk q)=>match q0W ob q with
  | some (.mp agg' m own)=>if (own&&agg==agg'&&qho v==agg)=true then (match v.cells with
   | none=>pr.fail
   | some cs=>q9A pr ob cs fun ds us rd=>match us with
    | []=>pr.upd kd m key ds fun m'=>k (.one .undef) [(q,.mp agg m' true)] (q::rd)
    | _=>pr.fail) else pr.fail
  | _=>pr.fail
 | _=>pr.fail
def mmK (mx:Bool):Δ→List Δ→(Δ→Ω)→Ω
 | a,[],k=>k a
 | a,y::r,k=>pr.mm mx a y fun z=>mmK mx z r k
def binK (P:Program) (op:BinOp) (t:Nat) (x y:V3 Δ N) (k:K3 Δ N R M Ω):Ω:=match x,y with
 | .one x,.one y=>if (q1F P t).isSome=true then (match op,y,q4T pr x with
  | .eql,.nil,some a=>pr.nilE a (k (.one (.b true)) [] []) (k (.one (.b false)) [] [])
  | .neq,.nil,some a=>pr.nilE a (k (.one (.b false)) [] []) (k (.one (.b true)) [] [])
  | _,_,_=>pr.fail) else match q4T pr x,q4T pr y with
  | some a,some b=>pr.bin op (qgh P t) a b fun z=>k (.one (.d z)) [] []
  | _,_=>pr.fail
 | .agg xs,.agg ys=>match q70 P 8 t,q8V pr xs,q8V pr ys with
  | some ks,some xs,some ys=>if q3A P t=some true then (match op with
   | .eql=>pr.eqs ks false xs ys fun z=>k (.one (.d z)) [] []
   | .neq=>pr.eqs ks true xs ys fun z=>k (.one (.d z)) [] []
   | _=>pr.fail) else pr.fail
  | _,_,_=>pr.fail
 | _,_=>pr.fail
def qal (P:Program) (ob:Ups Δ N R M) (dst:Option Nat) (ρ:Operand→V3 Δ N) (c:Call) (k:K3 Δ N R M Ω):Ω:=match c.callee with
 | .builtin .len=>match c.args.toList with
  | [x]=>match c.argTypes.toList with
   | [t]=>match q1F P t with
    | some _=>match ρ x with
     | .one (.slk _ _ n _)=>k (.one (.d (pr.natD n))) [] []
     | .one .nil=>k (.one (.i .i64 0)) [] []
     | .one (.d y)=>pr.lenD y fun z=>k (.one (.d z)) [] []
     | _=>pr.fail
    | none=>if strC P t=true then (match q5w pr (ρ x) with
     | some y=>pr.lenS y fun z=>k (.one (.d z)) [] []
     | none=>pr.fail) else pr.fail
   | _=>pr.fail
  | _=>pr.fail
 | .builtin .cap=>match c.args.toList,c.argTypes.toList with
  | [x],[t]=>match ρ x with
   | .one .nil=>if (q1F P t).isSome=true then k (.one (.i .i64 0)) [] [] else pr.fail
   | .one (.d y)=>if (q1F P t).isSome=true then pr.nilD y (k (.one (.i .i64 0)) [] []) else pr.fail
   | _=>pr.fail
  | _,_=>pr.fail
 | .builtin .clear=>match c.args.toList,c.argTypes.toList with
  | [x],[t]=>match (q1F P t).bind (q1G P) with
   | some zs=>if 0 < zs.length then (match ρ x with
    | .one .nil=>k (.tup []) [] []
    | .one (.d y)=>pr.nilD y (k (.tup []) [] [])
    | .one (.slk key off n c)=>match q0W ob key with
     | some (.arr rows size elem true)=>if size=zs.length then pr.eqN c (pr.len rows) (pr.eqN (match off with | none=>n | some o=>pr.addN o n) (pr.len rows) (k (.tup []) [(key,.arr (match off with | none=>pr.repl n (zs.map pr.lit) | some o=>pr.app (pr.seg rows none o) (pr.repl n (zs.map pr.lit))) size elem true)] [key])) else pr.fail
     | _=>pr.fail
    | _=>pr.fail) else pr.fail
   | none=>pr.fail
  | _,_=>pr.fail
 | .builtin .min=>match qc3 pr ρ c.args.toList with
  | some (a::r)=>mmK pr false a r fun z=>k (.one (.d z)) [] []
  | _=>pr.fail
 | .builtin .max=>match qc3 pr ρ c.args.toList with
  | some (a::r)=>mmK pr true a r fun z=>k (.one (.d z)) [] []
  | _=>pr.fail
 | .builtin .append=>match c.args.toList,c.argTypes.toList with
  | [s,x],[t,t']=>match q1F P t with
   | none=>pr.fail
   | some e=>match q0Y P e,q4i P e,q1G P e with
    | some sz,some bs,some zs=>match qf7 P t' with
     | some _=>match ρ s,q5w pr (ρ x) with
      | .one .nil,some y=>if 0 < sz∧zs.length=sz then pr.gap bs y fun n=>q37 pr ob dst (.arr (pr.repl n (zs.map pr.lit)) sz e true) (fun key=>.one (.slk key none n n)) k else pr.fail
      | .one (.d x),some y=>if 0 < sz∧zs.length=sz then pr.nilD x (pr.gap bs y fun n=>q37 pr ob dst (.arr (pr.repl n (zs.map pr.lit)) sz e true) (fun key=>.one (.slk key none n n)) k) else pr.fail
      | _,_=>pr.fail
     | none=>if t=t'∧0 < sz∧0 < bs∧zs.length=sz then srcK pr sz ob (ρ x) fun new rd=>qap pr ob dst e sz bs (ρ s) new rd k else pr.fail
    | _,_,_=>pr.fail
  | _,_=>pr.fail
 | _=>pr.fail
def op3 (P:Program) (ob:Ups Δ N R M) (dst:Option Nat) (ρ:Operand→V3 Δ N) (op:Op) (k:K3 Δ N R M Ω):Ω:=match op with
 | .move x=>k (ρ x) [] []
 | .assign x=>k (ρ x) [] []
 | .pick c a b=>match ρ c with
  | .one (.b true)=>k (ρ a) [] []
  | .one (.b false)=>k (ρ b) [] []
  | .one (.d y)=>pr.cond y (k (ρ a) [] []) (k (ρ b) [] [])
  | _=>pr.fail
 | .box elem x=>match (ρ x).cells with
  | some cs=>match dst with
   | none=>q9A pr ob cs fun ds us rd=>k (.one (.dp ds 0)) us rd
   | some _=>q37 pr ob dst (.box cs elem) (fun key=>.one (.ptr key 0)) k
  | none=>pr.fail
 | .alloc elem=>match q1G P elem with
  | some zs=>q37 pr ob dst (.box (zs.map (qhh pr)) elem) (fun key=>.one (.ptr key 0)) k
  | none=>pr.fail
 | .build t parts=>match q1G P t with
  | some zs=>if (q3A P t==some true&&layC P t)=true then (match qg9 (q63 P t) (zs.map (qhh pr)) (parts.toList.map fun p=>(p.1,ρ p.2)) with
   | some cs=>k (.agg cs) [] []
   | none=>pr.fail) else pr.fail
  | none=>pr.fail
 | .buildSlice t len parts=>match q1F P t with
  | none=>pr.fail
  | some e=>match q0Y P e,q1G P e with
   | some s,some zs=>if 0 < s∧zs.length=s∧len*s≤16777216 then qfn pr ob s len (List.replicate len (zs.map pr.lit)) (parts.toList.map fun p=>(p.1,ρ p.2)) fun rows us rd =>
     match dst with
     | some _=>q37 pr ob dst (.arr (pr.rows rows) s e true) (fun key=>.one (.slk key none (pr.natN len) (pr.natN len))) fun v u rd'=>k v (us++u) (rd++rd')
     | none=>k (.one (.d (pr.slD s (pr.rows rows)))) us rd else pr.fail
   | _,_=>pr.fail
 | .load t a=>match q3A P t,q0Y P t with
  | some g,some s=>qfK pr g s ob (ρ a) k
  | _,_=>pr.fail
 | .store t a x=>match (ρ x).cells with
  | some cs=>if (q0Y P t==some cs.length)=true then qd2 pr ob (ρ a) cs k else pr.fail
  | none=>pr.fail
 | .nilCheck x=>match ρ x with
  | .one (.ptr ..)=>k (ρ x) [] []
  | .one (.pa ..)=>k (ρ x) [] []
  | .one (.dp ..)=>k (ρ x) [] []
  | .one (.d y)=>pr.isPtr y (k (ρ x) [] [])
  | _=>pr.fail
 | .binOp op t x y _=>binK pr P op t (ρ x) (ρ y) k
 | .unOp op _ x=>match op,ρ x with
  | .not,.one (.b v)=>k (.one (.b !v)) [] []
  | .not,.one (.d y)=>pr.un .not y fun z=>k (.one (.d z)) [] []
  | .neg,v=>match q5w pr v with
   | some y=>pr.un .neg y fun z=>k (.one (.d z)) [] []
   | none=>pr.fail
  | _,_=>pr.fail
 | .makeFunc fn first captured=>match fn,q3o (first.toList.map ρ),q3o (captured.toList.map ρ) with
  | .func f,some [],some caps=>if f < 2000000 then k (.one (.fn f caps)) [] [] else pr.fail
  | .func f,some (c::cs),some []=>k (.one (.fn (f+2000000) (c::cs))) [] []
  | _,_,_=>pr.fail
 | .makeInterface t x=>if conC P t=true then (match q3A P t,ρ x with
  | some false,.one y=>match q4T pr y with
   | some z=>k (.one (.d (pr.ifD t false [z]))) [] []
   | none=>pr.fail
  | some true,.agg ys=>match q8V pr ys with
   | some zs=>k (.one (.d (pr.ifD t true zs))) [] []
   | none=>pr.fail
  | _,_=>pr.fail) else pr.fail
 | .makeSlice t l c=>match q1F P t with
  | none=>pr.fail
  | some e=>match q0Y P e,q1G P e,q4i P e with
   | some s,some zs,some bs=>match q5w pr (ρ l),q5w pr (ρ c) with
    | some n,some m=>if 0 < s∧zs.length=s then pr.mkN bs n m fun n=>q37 pr ob dst (.arr (pr.repl n (zs.map pr.lit)) s e true) (fun key=>.one (.slk key none n n)) k else pr.fail
    | _,_=>pr.fail
   | _,_,_=>pr.fail
 | .slice t x lo hi mx=>match q1F P t,mx with
  | some e,none=>match qc2 pr ρ lo,qc2 pr ρ hi,q0Y P e with
   | some l,some h,some s=>cutK pr s ob (ρ x) l h k
   | _,_,_=>pr.fail
  | _,_=>pr.fail
 | .fieldAddr s x f=>match q5l P s f with
  | some p=>match ρ x with
   | .one (.d y)=>match q0Y P s with
    | some n=>pr.ptrW n y fun w=>qcJ pr (q5s p.1 (.one (.dp (cellsOf pr n w) 0))) [] k
    | none=>pr.fail
   | v=>qcJ pr (q5s p.1 v) [] k
  | none=>pr.fail
 | .field s x f=>match q5l P s f,ρ x with
  | some p,.agg cs=>qcJ pr (q2r p.2.2 p.2.1 p.1 cs) [] k
  | _,_=>pr.fail
 | .indexAddr t x ix=>match ρ ix with
  | .one i=>match qgk P t with
   | some p=>match q0Y P p.2 with
    | some s=>qbn pr (some p.1) s ob (ρ x) i k
    | none=>pr.fail
   | none=>match q1F P t with
    | some e=>match q0Y P e with
     | some s=>qbn pr none s ob (ρ x) i k
     | none=>pr.fail
    | none=>pr.fail
  | _=>pr.fail
 | .index t x ix=>match qgk P t with
  | some p=>match q0Y P p.2,q3A P p.2,ρ x with
   | some s,some g,.agg cs=>match ρ ix with
    | .one (.i _ z)=>if 0≤z∧z < p.1 then qcJ pr (q2r g s (z.toNat*s) cs) [] k else pr.fail
    | .one (.d y)=>pr.selI p.1 y ((List.range p.1).map fun j=>qcJ pr (q2r g s (j*s) cs) [] k)
    | _=>pr.fail
   | _,_,_=>pr.fail
  | none=>pr.fail
 | .convert src dst x=>match qf7 P src,qf7 P dst,q5w pr (ρ x) with
  | some _,some kd,some y=>pr.cvI kd y fun z=>k (.one (.d z)) [] []
  | _,_,_=>pr.fail
 | .makeMap t none=>match qf6 P t,(q5b P t).bind (q3A P) with
  | some _,some g=>q37 pr ob dst (.mp g pr.emp true) (fun key=>.one (.mk key)) k
  | _,_=>pr.fail
 | .lookup t x ix ok=>match qf6 P t,q5b P t with
  | some kd,some e=>match q3A P e,q1G P e,q5w pr (ρ ix) with
   | some g,some zs,some key=>if qaF P e g=true then qi8 pr kd g ok zs ob (ρ x) key k else pr.fail
   | _,_,_=>pr.fail
  | _,_=>pr.fail
 | .mapUpdate t m q v=>match qf6 P t,(q5b P t).bind (q3A P) with
  | some kd,some g=>match q5w pr (ρ q) with
   | some key=>updK pr kd g ob (ρ m) key (ρ v) k
   | none=>pr.fail
  | _,_=>pr.fail
 | .extract t i=>match ρ t with
  | .tup vs=>qcJ pr vs[i]? [] k
  | _=>pr.fail
 | .call c=>qal pr P ob dst ρ c k
 | _=>pr.fail
end
end Go.VE
namespace Go.VE
open Go.RowKit
section
variable {Δ N R W M E Ω:Type} (pr:Pr Δ N R W M E Ω)
mutual
def q8y:L3 Unit Unit→L3 Δ N→Option (List (Y Δ N R M))
 | .d _,x=>match q4T pr x with
  | some y=>some [.d y]
  | none=>none
 | .b v,.b v'=>if v=v' then some [] else none
 | .i k n,.i k' n'=>if k=k'∧n=n' then some [] else none
 | .nil,.nil=>some []
 | .dp r o,.dp r' o'=>if r.length=r'.length∧o=o' then some (r'.map .d) else none
 | .fn f cs,.fn f' cs'=>if f=f' then q9B cs cs' else none
 | .slk k none _ _,.slk k' none n c=>if k=k' then some [.n n,.n c] else none
 | .slk k (some _) _ _,.slk k' (some o) n c=>if k=k' then some [.n o,.n n,.n c] else none
 | .slk k (some _) _ _,.slk k' none n c=>if k=k' then some [.n (pr.natN 0),.n n,.n c] else none
 | .pa k _ o _,.pa k' i o' c=>if k=k'∧o=o' then some [.n i,.n c] else none
 | .ptr k o,.ptr k' o'=>if k=k'∧o=o' then some [] else none
 | .mk k,.mk k'=>if k=k' then some [] else none
 | .undef,.undef=>some []
 | _,_=>none
def q9B:List (L3 Unit Unit)→List (L3 Δ N)→Option (List (Y Δ N R M))
 | [],[]=>some []
 | x::xs,y::ys=>match q8y x y,q9B xs ys with
  | some a,some b=>some (a++b)
  | _,_=>none
 | _,_=>none
end
mutual
def qcM:V3 Unit Unit→V3 Δ N→Option (List (Y Δ N R M))
 | .one x,.one y=>q8y pr x y
 | .agg xs,.agg ys=>q9B pr xs ys
 | .tup xs,.tup ys=>qcp xs ys
 | _,_=>none
def qcp:List (V3 Unit Unit)→List (V3 Δ N)→Option (List (Y Δ N R M))
 | [],[]=>some []
 | x::xs,y::ys=>match qcM x y,qcp xs ys with
  | some a,some b=>some (a++b)
  | _,_=>none
 | _,_=>none
end
def fitO:O3 Unit Unit Unit Unit→O3 Δ N R M→Option (List (Y Δ N R M))
 | .box cs e,.box cs' e'=>if e=e' then q9B pr cs cs' else none
 | .arr _ s e o,.arr rows s' e' o'=>if s=s'∧e=e'∧o=o' then some [.r rows] else none
 | .mp g _ o,.mp g' m o'=>if g=g'∧o=o' then some [.m m] else none
 | _,_=>none
def fitT (s:V3 Unit Unit) (x:V3 Δ N):Option (List (Y Δ N R M)):=match s with
 | .one .undef=>some []
 | s=>qcM pr s x
def q9D (env:List (Nat×V3 Δ N)):List (Nat×V3 Unit Unit)→Option (List (Y Δ N R M))
 | []=>some []
 | (t,v)::r=>match fitT pr v (q2N env t),q9D env r with
  | some a,some b=>some (a++b)
  | _,_=>none
def qg7 (ob:Ups Δ N R M):Ups Unit Unit Unit Unit→Option (List (Y Δ N R M))
 | []=>some []
 | (k,o)::r=>match q0W ob k with
  | some o'=>match fitO pr o o',qg7 ob r with
   | some a,some b=>some (a++b)
   | _,_=>none
  | none=>none
def qgW (sk:Sk):Bool:=(sk.env.all fun p=>p.2.keysOf.all fun k=>(sk.ob.map (·.1)).contains k)&&(sk.ob.all fun p=>p.2.keysOf.all fun k=>(sk.ob.map (·.1)).contains k)
def exEq:Ex→Ex→Bool
 | .normal,.normal=>true
 | .ret,.ret=>true
 | .exit i,.exit j=>i==j
 | _,_=>false
def qdl:Option Ex→Option Ex→Bool
 | none,none=>true
 | some a,some b=>exEq a b
 | _,_=>false
def qg6 (pk:List Nat) (sk:Sk) (st:S3 Δ N R M):Option (List (Y Δ N R M)) :=
 if (qgW sk&&pk.all (sk.ob.map (·.1)).contains&&qdl sk.pend st.pend&&sk.ys.all st.ys.contains)=true then
  match q9D pr st.env sk.env,qg7 pr st.ob sk.ob with
  | some a,some b=>some (a++b)
  | _,_=>none
 else none
def q71 (pk:List Nat) (st:S3 Δ N R M):List Sk→Nat→Option (Nat×List (Y Δ N R M))
 | [],_=>none
 | sk::r,j=>match qg6 pr pk sk st with
  | some ys=>some (j,ys)
  | none=>q71 pk st r (j+1)
def qcq (pk:List Nat) (e:Ex) (st:S3 Δ N R M):List (Ex×Sk)→Nat→Option (Nat×List (Y Δ N R M))
 | [],_=>none
 | (x,sk)::r,j=>if exEq x e=true then (match qg6 pr pk sk st with
  | some ys=>some (j,ys)
  | none=>qcq pk e st r (j+1)) else qcq pk e st r (j+1)
mutual
def q1a (e:E):L3 Unit Unit→Nat→L3 Δ N×Nat
 | .d _,j=>(.d (pr.ld e j),j+1)
 | .b v,j=>(.b v,j)
 | .i k n,j=>(.i k n,j)
 | .nil,j=>(.nil,j)
 | .dp r o,j=>(.dp ((List.range r.length).map fun i=>pr.ld e (j+i)) o,j+r.length)
 | .fn f cs,j=>(.fn f (q1X e cs j).1,(q1X e cs j).2)
 | .slk k none _ _,j=>(.slk k none (pr.ln e j) (pr.ln e (j+1)),j+2)
 | .slk k (some _) _ _,j=>(.slk k (some (pr.ln e j)) (pr.ln e (j+1)) (pr.ln e (j+2)),j+3)
 | .pa k _ o _,j=>(.pa k (pr.ln e j) o (pr.ln e (j+1)),j+2)
 | .ptr k o,j=>(.ptr k o,j)
 | .mk k,j=>(.mk k,j)
 | .undef,j=>(.undef,j)
def q1X (e:E):List (L3 Unit Unit)→Nat→List (L3 Δ N)×Nat
 | [],j=>([],j)
 | x::xs,j=>((q1a e x j).1::(q1X e xs (q1a e x j).2).1,(q1X e xs (q1a e x j).2).2)
end
mutual
def q1H (e:E):V3 Unit Unit→Nat→V3 Δ N×Nat
 | .one x,j=>(.one (q1a pr e x j).1,(q1a pr e x j).2)
 | .agg xs,j=>(.agg (q1X pr e xs j).1,(q1X pr e xs j).2)
 | .tup xs,j=>(.tup (q3f e xs j).1,(q3f e xs j).2)
def q3f (e:E):List (V3 Unit Unit)→Nat→List (V3 Δ N)×Nat
 | [],j=>([],j)
 | x::xs,j=>((q1H e x j).1::(q3f e xs (q1H e x j).2).1,(q3f e xs (q1H e x j).2).2)
end
def q4f (e:E):O3 Unit Unit Unit Unit→Nat→O3 Δ N R M×Nat
 | .box cs el,j=>(.box (q1X pr e cs j).1 el,(q1X pr e cs j).2)
 | .arr _ s el o,j=>(.arr (pr.lr e j) s el o,j+1)
 | .mp g _ o,j=>(.mp g (pr.lm e j) o,j+1)
def q1Y (e:E):List (Nat×V3 Unit Unit)→Nat→List (Nat×V3 Δ N)×Nat
 | [],j=>([],j)
 | (t,v)::r,j=>((t,(q1H pr e v j).1)::(q1Y e r (q1H pr e v j).2).1,(q1Y e r (q1H pr e v j).2).2)
def q4e (e:E):Ups Unit Unit Unit Unit→Nat→Ups Δ N R M×Nat
 | [],j=>([],j)
 | (k,o)::r,j=>((k,(q4f pr e o j).1)::(q4e e r (q4f pr e o j).2).1,(q4e e r (q4f pr e o j).2).2)
def q3w (e:E) (sk:Sk):S3 Δ N R M :=
 ⟨(q1Y pr e sk.env 0).1,(q4e pr e sk.ob (q1Y pr e sk.env 0).2).1,sk.ys,sk.pend⟩
def q8Z (P:Program) (ob:Ups Δ N R M) (env:List (Nat×V3 Δ N)):List ResultVar→(List (V3 Δ N)→Ω)→Ω
 | [],k=>k []
 | .tmp t::r,k=>q8Z P ob env r fun vs=>k (q2N env t::vs)
 | .cell a T::r,k=>match q3A P T,q0Y P T with
  | some g,some s=>qfK pr g s ob (q2N env a) fun v _ _=>q8Z P ob env r fun vs=>k (v::vs)
  | _,_=>pr.fail
def rcK (ob:Ups Δ N R M):RK→L3 Δ N→(Y Δ N R M→List Nat→Ω)→Ω
 | .d,.slk key none n c,k=>match q0W ob key with
  | some (.arr rows size _ _)=>pr.eqN c (pr.len rows) (pr.leN n (pr.len rows) (k (.d (pr.slD size (pr.seg rows none n))) [key]))
  | _=>pr.fail
 | .own s e,.slk key none n c,k=>match q0W ob key with
  | some (.arr rows size elem true)=>if s=size∧e=elem then pr.eqN c (pr.len rows) (pr.leN n (pr.len rows) (k (.r (pr.seg rows none n)) [key])) else pr.fail
  | _=>pr.fail
 | .d,.mk key,k=>match q0W ob key with
  | some (.mp agg m _)=>k (.d (pr.mpD agg m)) [key]
  | _=>pr.fail
 | .om g,.mk key,k=>match q0W ob key with
  | some (.mp agg m true)=>if g=agg then k (.m m) [key] else pr.fail
  | _=>pr.fail
 | .d,x,k=>match q4T pr x with
  | some y=>k (.d y) []
  | none=>pr.fail
 | _,_,_=>pr.fail
def rcsK (ob:Ups Δ N R M):List RK→List (L3 Δ N)→(List (Y Δ N R M)→List Nat→Ω)→Ω
 | [],[],k=>k [] []
 | r::rs,x::xs,k=>rcK pr ob r x fun y u=>rcsK ob rs xs fun ys us=>k (y::ys) (u++us)
 | _,_,_=>pr.fail
def q7p (ob:Ups Δ N R M):RS→List (V3 Δ N)→(List (Y Δ N R M)→List Nat→Ω)→Ω
 | [],[],k=>k [] []
 | (false,[r])::rs,.one x::vs,k=>rcK pr ob r x fun y u=>q7p ob rs vs fun ys us=>k (y::ys) (u++us)
 | (true,r)::rs,.agg xs::vs,k=>rcsK pr ob r xs fun y u=>q7p ob rs vs fun ys us=>k (y++ys) (u++us)
 | _,_,_=>pr.fail
def rcFit (ob:Ups Δ N R M):RK→L3 Δ N→Bool
 | .d,.undef=>false
 | .d,_=>true
 | .own s e,.slk key none _ _=>match q0W ob key with
  | some (.arr _ size elem own)=>own&&s==size&&e==elem
  | _=>false
 | .om g,.mk key=>match q0W ob key with
  | some (.mp agg _ own)=>own&&g==agg
  | _=>false
 | _,_=>false
def qb5 (ob:Ups Δ N R M):List RK→List (L3 Δ N)→Bool
 | [],[]=>true
 | r::rs,x::xs=>rcFit ob r x&&qb5 ob rs xs
 | _,_=>false
def q6v (ob:Ups Δ N R M):RS→List (V3 Δ N)→Bool
 | [],[]=>true
 | (false,[r])::rs,.one x::vs=>rcFit ob r x&&q6v ob rs vs
 | (true,r)::rs,.agg xs::vs=>qb5 ob r xs&&q6v ob rs vs
 | _,_=>false
def RK.isD:RK→Bool | .d=>true | _=>false
def allD (rs:RS):Bool:=rs.all fun p=>p.2.all RK.isD
def q8X (ob:Ups Δ N R M) (vs:List (V3 Δ N)):List RS→Nat→Option (Nat×RS)
 | [],_=>none
 | x::r,j=>if q6v ob x vs=true then some (j,x) else q8X ob vs r (j+1)
def formC (ob:Ups Δ N R M):L3 Δ N→RK
 | .slk key none _ _=>match q0W ob key with
  | some (.arr _ size elem true)=>.own size elem
  | _=>.d
 | .mk key=>match q0W ob key with
  | some (.mp agg _ true)=>.om agg
  | _=>.d
 | _=>.d
def formV (ob:Ups Δ N R M):V3 Δ N→Bool×List RK
 | .one x=>(false,[formC ob x])
 | .agg xs=>(true,xs.map (formC ob))
 | .tup _=>(false,[])
def qh2 (ob:Ups Δ N R M):List (V3 Δ N)→(List (Y Δ N R M)→Ω)→Ω
 | [],k=>k []
 | .one x::vs,k=>q4S pr ob 4 x fun y _=>qh2 ob vs fun ys=>k (.d y::ys)
 | .agg xs::vs,k=>q8T (q4S pr ob 4) xs fun y _=>qh2 ob vs fun ys=>k (y.map .d++ys)
 | .tup _::_,_=>pr.fail
def q59:List Nat→Bool
 | []=>true
 | x::xs=>!xs.contains x&&q59 xs
def q8r (e:E) (base:Nat):RK→Nat→Nat→L3 Δ N×Ups Δ N R M×Nat
 | .d,j,n=>(.d (pr.ld e j),[],n)
 | .own size elem,j,n=>(.slk (base+n) none (pr.len (pr.lr e j)) (pr.len (pr.lr e j)),[(base+n,.arr (pr.lr e j) size elem true)],n+1)
 | .om agg,j,n=>(.mk (base+n),[(base+n,.mp agg (pr.lm e j) true)],n+1)
def q1V (e:E) (base:Nat):List RK→Nat→Nat→List (L3 Δ N)×Ups Δ N R M×Nat
 | [],_,n=>([],[],n)
 | x::xs,j,n=>((q8r pr e base x j n).1::(q1V e base xs (j+1) (q8r pr e base x j n).2.2).1,(q8r pr e base x j n).2.1++(q1V e base xs (j+1) (q8r pr e base x j n).2.2).2.1,(q1V e base xs (j+1) (q8r pr e base x j n).2.2).2.2)
def one3 (g:Bool) (xs:List (L3 Δ N)):V3 Δ N:=match g,xs with
 | false,[x]=>.one x
 | _,xs=>.agg xs
def q1h (e:E) (base:Nat):RS→Nat→Nat→List (V3 Δ N)×Ups Δ N R M×Nat
 | [],_,n=>([],[],n)
 | (g,cs)::r,j,n=>(one3 g (q1V pr e base cs j n).1::(q1h e base r (j+cs.length) (q1V pr e base cs j n).2.2).1,(q1V pr e base cs j n).2.1++(q1h e base r (j+cs.length) (q1V pr e base cs j n).2.2).2.1,(q1h e base r (j+cs.length) (q1V pr e base cs j n).2.2).2.2)
def q2x:List (V3 Δ N)→V3 Δ N
 | [x]=>x
 | xs=>.tup xs
def q7g (ob:Ups Δ N R M):Ups Δ N R M→Bool
 | []=>true
 | (k,_)::r=>(match q0W ob k with | none=>true | some _=>false)&&q7g ob r
def q7z:List Sh→List Δ→Option (List (V3 Δ N))
 | [],[]=>some []
 | .one::r,x::xs=>match q7z r xs with
  | some vs=>some (.one (.d x)::vs)
  | none=>none
 | .agg n::r,xs=>if (xs.take n).length=n then (match q7z r (xs.drop n) with
  | some vs=>some (.agg ((xs.take n).map .d)::vs)
  | none=>none) else none
 | .ptr n::r,xs=>if (xs.take n).length=n then (match q7z r (xs.drop n) with
  | some vs=>some (.one (.dp (xs.take n) 0)::vs)
  | none=>none) else none
 | _,_=>none
def q4Q (ob:Ups Δ N R M):List Sh→List (V3 Δ N)→(List Δ→List Nat→Ω)→Ω
 | [],[],k=>k [] []
 | .one::r,.one x::vs,k=>q4S pr ob 4 x fun d rd=>q4Q ob r vs fun ds rd'=>k (d::ds) (rd++rd')
 | .agg n::r,.agg xs::vs,k=>if xs.length=n then q8T (q4S pr ob 4) xs fun d rd=>q4Q ob r vs fun ds rd'=>k (d++ds) (rd++rd') else pr.fail
 | .ptr n::r,.one (.dp row o)::vs,k=>if row.length=n∧o=0 then q4Q ob r vs fun ds rd'=>k (row++ds) rd' else pr.fail
 | .ptr n::r,.one (.d x)::vs,k=>pr.ptrW n x fun w=>q4Q ob r vs fun ds rd'=>k (cellsOf pr n w++ds) rd'
 | .ptr n::r,.one (.ptr key o)::vs,k=>match q0W ob key with
  | some (.box cells _)=>if cells.length=n∧o=0 then q8T (q4S pr ob 3) cells fun d rd=>q4Q ob r vs fun ds rd'=>k (d++ds) (key::rd++rd') else pr.fail
  | _=>pr.fail
 | .ptr n::r,.one (.pa key i o c)::vs,k=>match q0W ob key with
  | some (.arr rows size _ _)=>if size=n∧o=0 then pr.eqN c (pr.len rows) (pr.rowAt size rows i fun w=>q4Q ob r vs fun ds rd'=>k (cellsOf pr size w++ds) (key::rd')) else pr.fail
  | _=>pr.fail
 | _,_,_=>pr.fail
def L3.isD:L3 Δ N→Bool
 | .d _ | .b _ | .i _ _ | .nil | .dp _ _=>true
 | _=>false
def L3.isF:L3 Δ N→Bool
 | .fn _ caps=>caps.all L3.isD
 | x=>x.isD
def V3.isD:V3 Δ N→Bool
 | .one l=>l.isF
 | .agg ls=>ls.all L3.isD
 | .tup _=>false
structure Ms where
 args:List (V3 Unit Unit)
 obs:List (Nat×O3 Unit Unit Unit Unit)
 res:Option (Bool×Nat)
 ref:Option Nat
structure Cf3 where
 inl:Nat→Option Bd
 draw:Nat→Nat→Array Oper→List (Nat×Nat)
 lp:Nat→Nat→Nat→List (Sk×List Sk×List (Ex×Sk))
 jn:Nat→Nat→Nat→Option (List (Sk×List (Ex×Sk)))
 gj:Nat→Nat→Nat→Option (Nat×List (Sk×List (Ex×Sk)))
 ash:Nat→Option (List Sh)
 rsk:Nat→List RS
 iv:String→Nat
 ms:Nat→Option Ms
 sp:Nat→Option (Nat×Nat×Nat)
 cb:Nat→Nat→Bool
 fz:Nat→Nat→Nat→List (Option Nat×Nat)
def fn3:V3 Δ N→Option (Nat×List (L3 Δ N))
 | .one (.fn f caps)=>if f < 2000000 then some (f,caps) else none
 | _=>none
def qdJ (e:E) (p:RK×Nat):Y Δ N R M:=match p.1 with
 | .d=>.d (pr.ld e p.2)
 | .own _ _=>.r (pr.lr e p.2)
 | .om _=>.m (pr.lm e p.2)
def qgg (cfg:Cf3) (ob:Ups Δ N R M) (dst:Option Nat) (f:Nat) (args:List (V3 Δ N)) (caps:List (L3 Δ N)) (k:K3 Δ N R M Ω):Ω:=match cfg.ash f with
 | none=>pr.fail
 | some sh=>q4Q pr ob sh (args++caps.map .one) fun ds rd=>pr.bnd (pr.call f ds) ((cfg.rsk f).map fun rs=>fun e =>
   let vs:=(q1h pr e (q22 dst) rs 0 0).1
   let us:=(q1h pr e (q22 dst) rs 0 0).2.1
   if q59 (us.map (·.1))=true∧q7g ob us=true then
    (if (args.all V3.isD&&caps.all L3.isD)=true then k (q2x vs) us (rd++us.map (·.1)) else pr.lits ((rs.flatMap (·.2)).zipIdx.map (qdJ pr e)) (k (q2x vs) us (rd++us.map (·.1))))
   else pr.fail)
def shs3:List (V3 Δ N)→Option (List Sh)
 | []=>some []
 | .one (.dp _ _)::_=>none
 | .one (.ptr _ _)::_=>none
 | .one (.pa _ _ _ _)::_=>none
 | .one _::r=>match shs3 r with
  | some s=>some (.one::s)
  | none=>none
 | .agg xs::r=>match shs3 r with
  | some s=>some (.agg xs.length::s)
  | none=>none
 | .tup _::_=>none
def opC3 (cfg:Cf3) (P:Program) (ob:Ups Δ N R M) (dst:Option Nat) (ρ:Operand→V3 Δ N) (op:Op) (k:K3 Δ N R M Ω):Ω:=match q39 op with
 | some (fo,args)=>match ρ fo with
  | .one (.fn f caps)=>if f < 2000000 then qgg pr cfg ob dst f (args.map ρ) caps k else qgg pr cfg ob dst (f - 2000000) (caps.map .one++args.map ρ) [] k
  | .one (.d x)=>match shs3 (args.map ρ) with
   | some sh=>q4Q pr ob sh (args.map ρ) fun ds rd=>pr.bnd (pr.callD x sh ds) [fun e=>if (args.map ρ).all V3.isD=true then k (.one (.d (pr.ld e 0))) [] rd else pr.lits [.d (pr.ld e 0)] (k (.one (.d (pr.ld e 0))) [] rd)]
   | none=>pr.fail
  | _=>pr.fail
 | none=>match qa9 op with
  | some (recv,name)=>match ρ recv with
   | .one (.d x)=>pr.bnd (pr.callD x [.met name (cfg.iv name)] []) [fun e =>
    let vs:=(q1h pr e (q22 dst) (List.replicate (cfg.iv name) (false,[.d])) 0 0).1
    let us:=(q1h pr e (q22 dst) (List.replicate (cfg.iv name) (false,[.d])) 0 0).2.1
    if q59 (us.map (·.1))=true∧q7g ob us=true then k (q2x vs) us (us.map (·.1)) else pr.fail]
   | _=>pr.fail
  | none=>op3 pr P ob dst ρ op k
mutual
def q1U (ρ:Nat→Nat):L3 Unit Unit→L3 Δ N→Option (List Δ)
 | .d _,x=>match q4T pr x with
  | some y=>some [y]
  | none=>none
 | .fn f cs,.fn f' cs'=>if f=f' then q32 ρ cs cs' else none
 | .mk c,.mk k=>if ρ c=k then some [] else none
 | .ptr c o,.ptr k o'=>if ρ c=k∧o=o' then some [] else none
 | .dp r o,.dp row o'=>if r.length=row.length∧o=o' then some row else none
 | _,_=>none
def q32 (ρ:Nat→Nat):List (L3 Unit Unit)→List (L3 Δ N)→Option (List Δ)
 | [],[]=>some []
 | s::ss,x::xs=>match q1U ρ s x,q32 ρ ss xs with
  | some a,some b=>some (a++b)
  | _,_=>none
 | _,_=>none
end
def q6c (ρ:Nat→Nat):V3 Unit Unit→V3 Δ N→Option (List Δ)
 | .one (.slk c none _ _),.one (.slk k none _ _)=>if ρ c=k then some [] else none
 | .one s,.one x=>q1U pr ρ s x
 | .agg ss,.agg xs=>q32 pr ρ ss xs
 | _,_=>none
def q4A (ρ:Nat→Nat):List (V3 Unit Unit)→List (V3 Δ N)→Option (List Δ)
 | [],[]=>some []
 | s::ss,x::xs=>match q6c pr ρ s x,q4A ρ ss xs with
  | some a,some b=>some (a++b)
  | _,_=>none
 | _,_=>none
def q2q (ρ:Nat→Nat) (ob:Ups Δ N R M) (wn:Bool):List (Nat×O3 Unit Unit Unit Unit)→Option (List Δ)
 | []=>some []
 | (c,.box cells e)::r=>match q0W ob (ρ c) with
  | some (.box cells' e')=>if e=e' then (match q32 pr ρ cells cells',q2q ρ ob wn r with
   | some a,some b=>some (a++b)
   | _,_=>none) else none
  | _=>none
 | (c,.mp g _ true)::r=>match q0W ob (ρ c) with
  | some (.mp g' m true)=>if g=g' then (match q2q ρ ob wn r with
   | some b=>some (pr.mpD g m::b)
   | none=>none) else none
  | _=>none
 | (c,.arr _ size elem _)::r=>match q0W ob (ρ c) with
  | some (.arr rows size' elem' own)=>if size=size'∧elem=elem'∧own=wn then (match q2q ρ ob wn r with
   | some b=>some (pr.slD size rows::b)
   | none=>none) else none
  | _=>none
 | _=>none
mutual
def q4y (ρ:Nat→Nat):L3 Unit Unit→List Δ→Option (L3 Δ N×List Δ)
 | .d _,x::xs=>some (.d x,xs)
 | .fn f cs,xs=>match q3T ρ cs xs with
  | some (ys,r)=>some (.fn f ys,r)
  | none=>none
 | .mk c,xs=>some (.mk (ρ c),xs)
 | .ptr c o,xs=>some (.ptr (ρ c) o,xs)
 | .dp r o,xs=>if (xs.take r.length).length=r.length then some (.dp (xs.take r.length) o,xs.drop r.length) else none
 | _,_=>none
def q3T (ρ:Nat→Nat):List (L3 Unit Unit)→List Δ→Option (List (L3 Δ N)×List Δ)
 | [],xs=>some ([],xs)
 | s::ss,xs=>match q4y ρ s xs with
  | some (y,r)=>match q3T ρ ss r with
   | some (ys,r')=>some (y::ys,r')
   | none=>none
  | none=>none
end
def q4E (ρ:Nat→Nat) (us:Ups Δ N R M):V3 Unit Unit→List Δ→Option (V3 Δ N×List Δ)
 | .one (.slk c none _ _),xs=>match q0W us (ρ c) with
  | some (.arr rows _ _ _)=>some (.one (.slk (ρ c) none (pr.len rows) (pr.len rows)),xs)
  | _=>none
 | .one s,xs=>match q4y ρ s xs with
  | some (y,r)=>some (.one y,r)
  | none=>none
 | .agg ss,xs=>match q3T ρ ss xs with
  | some (ys,r)=>some (.agg ys,r)
  | none=>none
 | _,_=>none
def q4g (ρ:Nat→Nat) (us:Ups Δ N R M):List (V3 Unit Unit)→List Δ→Option (List (V3 Δ N)×List Δ)
 | [],xs=>some ([],xs)
 | s::ss,xs=>match q4E pr ρ us s xs with
  | some (y,r)=>match q4g ρ us ss r with
   | some (ys,r')=>some (y::ys,r')
   | none=>none
  | none=>none
def q5k (ρ:Nat→Nat) (wn:Bool):List (Nat×O3 Unit Unit Unit Unit)→List Δ→(Ups Δ N R M→List Δ→Ω)→Ω
 | [],xs,k=>k [] xs
 | (c,.box cells e)::r,xs,k=>match q3T ρ cells xs with
  | some (ys,xs')=>q5k ρ wn r xs' fun us zs=>k ((ρ c,.box ys e)::us) zs
  | none=>pr.fail
 | (c,.mp g _ true)::r,x::xs,k=>pr.asM g x fun m=>q5k ρ wn r xs fun us zs=>k ((ρ c,.mp g m true)::us) zs
 | (c,.arr _ size elem _)::r,x::xs,k=>pr.rowsD size x fun rows=>q5k ρ wn r xs fun us zs=>k ((ρ c,.arr rows size elem wn)::us) zs
 | _,_,_=>pr.fail
def q79:List (V3 Unit Unit)→List (V3 Δ N)→List (Nat×N×N)
 | .one (.slk _ none _ _)::ss,.one (.slk k none n c)::xs=>(k,n,c)::q79 ss xs
 | _::ss,_::xs=>q79 ss xs
 | _,_=>[]
def chkK (ob:Ups Δ N R M):List (Nat×N×N)→Ω→Ω
 | [],k=>k
 | (key,n,c)::r,k=>match q0W ob key with
  | some (.arr rows _ _ _)=>pr.eqN n (pr.len rows) (pr.eqN c (pr.len rows) (chkK ob r k))
  | _=>pr.fail
mutual
def qhs:L3 Unit Unit→L3 Δ N→List (Nat×Nat)
 | .mk c,.mk k=>[(c,k)]
 | .ptr c _,.ptr k _=>[(c,k)]
 | .slk c _ _ _,.slk k _ _ _=>[(c,k)]
 | .fn _ cs,.fn _ cs'=>q8x cs cs'
 | _,_=>[]
def q8x:List (L3 Unit Unit)→List (L3 Δ N)→List (Nat×Nat)
 | s::ss,x::xs=>qhs s x++q8x ss xs
 | _,_=>[]
end
def q8w:List (V3 Unit Unit)→List (V3 Δ N)→List (Nat×Nat)
 | .one s::ss,.one x::xs=>qhs s x++q8w ss xs
 | .agg s::ss,.agg x::xs=>q8x s x++q8w ss xs
 | _::ss,_::xs=>q8w ss xs
 | _,_=>[]
def qdX (ob:Ups Δ N R M) (al:List (Nat×Nat)):List (Nat×O3 Unit Unit Unit Unit)→List (Nat×Nat)
 | []=>[]
 | (c,.box cells _)::r=>(match al.find? (fun p=>p.1==c) with
  | some (_,k)=>match q0W ob k with
   | some (.box cells' _)=>q8x cells cells'
   | _=>[]
  | none=>[])++qdX ob al r
 | _::r=>qdX ob al r
def qhS (al:List (Nat×Nat)) (c:Nat):Nat:=match al.find? (fun p=>p.1==c) with
 | some (_,k)=>k
 | none=>c
mutual
def cntL:L3 Unit Unit→Nat
 | .d _=>1
 | .fn _ cs=>qeq cs
 | .dp r _=>r.length
 | _=>0
def qeq:List (L3 Unit Unit)→Nat
 | []=>0
 | x::xs=>cntL x+qeq xs
end
def qcw:List (Nat×O3 Unit Unit Unit Unit)→Nat
 | []=>0
 | (_,.box cells _)::r=>qeq cells+qcw r
 | (_,_)::r=>1+qcw r
def okMs (ms:Ms):Bool :=
 let C:=ms.obs.map (·.1)
 q59 C&&(V3.keysF ms.args).all C.contains&&(ms.obs.all fun p=>p.2.keysOf.all C.contains)&&(match ms.ref with | none=>true | some c=>C.contains c)
def qhQ:Option (Bool×Nat)→Nat
 | none=>0
 | some (_,n)=>n
def q6w (e:Nat→Δ):Option (Bool×Nat)→V3 Δ N
 | none=>.tup []
 | some (false,_)=>.one (.d (e 0))
 | some (true,n)=>.agg ((List.range n).map fun i=>.d (e i))
def qfA:List (V3 Unit Unit)→List (V3 Δ N)→List (V3 Δ N)
 | .one (.d _)::ss,.one (.fn f cs)::xs=>(match q8V pr cs with
  | some ds=>.one (.d (pr.fnD f ds))
  | none=>.one (.fn f cs))::qfA ss xs
 | _::ss,x::xs=>x::qfA ss xs
 | _,xs=>xs
def qgf (cfg:Cf3) (f:Nat) (args:List (V3 Δ N)) (ob:Ups Δ N R M) (kk:V3 Δ N→Ups Δ N R M→Ω):Ω:=match cfg.ms f with
 | none=>pr.fail
 | some ms =>
  let args0:=args
  let args:=qfA pr ms.args args
  let al:=q8w ms.args args
  let al:=al++qdX ob al ms.obs
  if (okMs ms&&q59 ((ms.obs.map (·.1)).map (qhS al)))=true then
   match q4A pr (qhS al) ms.args args,q2q pr (qhS al) ob true ms.obs with
   | some xs,some ys=>chkK pr ob (q79 ms.args args) (pr.bnd (pr.call (f+1000000) (ys++xs)) [fun e=>q5k pr (qhS al) ms.res.isNone ms.obs ((List.range (qcw ms.obs)).map fun i=>pr.ld e (qhQ ms.res+i)) fun us _=>match ms.ref with
     | none=>kk (q6w (pr.ld e) ms.res) (q2v us ob)
     | some c=>match q0W us (qhS al c) with
      | some (.arr rows _ _ _)=>kk (.one (.slk (qhS al c) none (pr.len rows) (pr.len rows))) (q2v us ob)
      | _=>pr.fail])
   | _,_=>pr.miss 8 f 0 0 [] .normal ⟨args0.zipIdx.map fun p=>(p.2,p.1),ob,[],none⟩ []
  else pr.miss 8 f 0 0 [] .normal ⟨args0.zipIdx.map fun p=>(p.2,p.1),ob,[],none⟩ []
def qhR:Option (Bool×Nat)→V3 Δ N→Option (List (L3 Δ N))
 | none,.tup []=>some []
 | some (false,1),.one x=>some [x]
 | some (true,n),.agg xs=>if xs.length=n then some xs else none
 | _,_=>none
def qhx (ms:Ms) (v:V3 Δ N) (ob:Ups Δ N R M) (k:List (L3 Δ N)→Ω):Ω:=match ms.ref with
 | none=>match qhR ms.res v with
  | none=>pr.fail
  | some cs=>k cs
 | some c=>match v with
  | .one (.slk key none n m)=>if key=c∧ms.res=none∧(ms.obs.map (·.1)).contains c=true then (match q0W ob c with
   | some (.arr rows _ _ _)=>pr.eqN n (pr.len rows) (pr.eqN m (pr.len rows) (k []))
   | _=>pr.fail) else pr.fail
  | _=>pr.fail
def finK (ms:Ms) (ob:Ups Δ N R M) (cs:List (L3 Δ N)):Ω:=q9A pr ob cs fun ds us _=>match q2q pr id (q2v us ob) ms.res.isNone ms.obs with
  | some ys=>pr.out 0 ((ds++ys).map .d)
  | none=>pr.fail
def finM (ms:Ms) (v:V3 Δ N) (ob:Ups Δ N R M):Ω:=qhx pr ms v ob (finK pr ms ob)
def q7X (ob:Ups Δ N R M):Nat→Nat→Nat
 | 0,k=>k
 | n+1,k=>if ob.all fun p=>p.1 != k&&(Nat.blt p.1 (1000*(k+1))||Nat.ble (1000*(k+2)) p.1) then k else q7X ob n (k+1000000000)
def qey (cfg:Cf3) (f:Nat) (args:List (V3 Δ N)) (b:Nat) (ob:Ups Δ N R M) (kk:V3 Δ N→Ups Δ N R M→Ω):Ω:=match cfg.sp f with
 | none=>pr.fail
 | some (size,elem,bs)=>match args with
  | [s,.one i,.one (.slk key2 none n2 c2)]=>match q4T pr i,q0W ob key2 with
   | some y,some (.arr rows2 size2 _ true)=>if size2=size then pr.eqN c2 (pr.len rows2) (pr.isNil (pr.seg rows2 none n2) pr.fail (
     let nilc:=pr.fits bs (pr.len (pr.seg rows2 none n2)) (pr.ins y (pr.rows []) (pr.seg rows2 none n2) fun r =>
      q37 pr ob (some (q7X ob 8 b)) (.arr r size elem true) (fun key=>.one (.slk key none (pr.len (pr.seg rows2 none n2)) (pr.len (pr.seg rows2 none n2)))) fun v us _=>kk v (q2v us ob))
     match s with
     | .one .nil=>nilc
     | .one (.d x)=>pr.nilD x nilc
     | .one (.slk key none n c)=>if key=key2 then pr.fail else match q0W ob key with
      | some (.arr rows size' elem' true)=>if size'=size∧elem'=elem then pr.eqN c (pr.len rows) (pr.eqN n (pr.len rows) (pr.fits bs (pr.addN n (pr.len (pr.seg rows2 none n2))) (pr.ins y rows (pr.seg rows2 none n2) fun r =>
        kk (.one (.slk key none (pr.addN n (pr.len (pr.seg rows2 none n2))) (pr.addN n (pr.len (pr.seg rows2 none n2))))) (q2v [(key,.arr r size elem true)] ob)))) else pr.fail
      | _=>pr.fail
     | _=>pr.fail)) else pr.fail
   | _,_=>pr.fail
  | _=>pr.fail
abbrev Hd3 (Δ N R M Ω:Type):=List (V3 Δ N)→Ups Δ N R M→(Option Ex→Ups Δ N R M→Ω)→Ω
abbrev Rn3 (Δ N R M Ω:Type):=Nat→List (V3 Δ N)→Nat→Ups Δ N R M→(V3 Δ N→Ups Δ N R M→Ω)→Ω
def kd3 (ob:Ups Δ N R M) (b:Nat) (dst:Option Nat):Option Nat:=match dst with
 | some d=>some (q7X ob 8 (b*1000+d))
 | none=>none
def q7M (dst:Option Nat) (v:V3 Δ N) (ob:Ups Δ N R M) (st:S3 Δ N R M):S3 Δ N R M:=⟨match dst with | some d=>(d,v)::st.env | none=>st.env,ob,q7r st.ys dst,st.pend⟩
def q5V:List (V3 Δ N)→Nat→List (Nat×V3 Δ N)
 | [],_=>[]
 | x::xs,i=>(i,x)::q5V xs (i+1)
inductive Kind3 (Δ N:Type) where
 | copy (d:Nat)
 | yld (args:List Operand)
 | inl (f:Nat) (args:List (V3 Δ N))
 | op
def q4M (cfg:Cf3) (ys:List Nat) (ρ:Operand→V3 Δ N) (o:Oper):Kind3 Δ N:=match o.op with
 | .move x=>match yOf ys x,o.dst with
  | true,some d=>.copy d
  | _,_=>.op
 | .assign x=>match yOf ys x,o.dst with
  | true,some d=>.copy d
  | _,_=>.op
 | op=>match q39 op with
  | none=>.op
  | some (fo,args)=>if yOf ys fo=true then .yld args else match fn3 (ρ fo) with
   | some (f,caps)=>match cfg.inl f with
    | some _=>.inl f (args.map ρ++caps.map .one)
    | none=>match (match ((args.map ρ).all V3.isD&&caps.all L3.isD) with | true=>none | false=>cfg.ms f) with
     | some _=>.inl f (args.map ρ++caps.map .one)
     | none=>match cfg.sp f with
      | some _=>.inl f (args.map ρ++caps.map .one)
      | none=>.op
   | none=>.op
def keyOf3 (cfg:Cf3) (f:Nat) (ob:Ups Δ N R M) (b:Nat) (dst:Option Nat):Option Nat:=match dst with
 | some d=>match cfg.cb f d with
  | true=>none
  | false=>kd3 ob b (some d)
 | none=>none
def qhO (cfg:Cf3) (P:Program) (fr:Fr) (hd:Option (Hd3 Δ N R M Ω)) (rn:Rn3 Δ N R M Ω) (o:Oper) (st:S3 Δ N R M) (k:S3 Δ N R M→Ω):Ω :=
 if q5n fr.nt o.dst=true then
  match q4M cfg st.ys (ev3 pr st.env) o with
  | .copy d=>k ⟨(d,.one .undef)::st.env,st.ob,d::st.ys,st.pend⟩
  | .yld args=>match hd,st.pend with
   | some h,none=>h (args.map (ev3 pr st.env)) st.ob fun p ob=>k { q7M o.dst (.one (.b p.isNone)) ob st with pend:=p }
   | _,_=>pr.fail
  | .inl f args=>rn f args (fr.b*1000+o.dst.getD 998+1) st.ob fun v ob=>k (q7M o.dst v ob st)
  | .op=>opC3 pr cfg P st.ob (keyOf3 cfg fr.f st.ob fr.b o.dst) (ev3 pr st.env) o.op fun v us _=>k (q7M o.dst v (q2v us st.ob) st)
 else pr.fail
def q9z (v:V3 Δ N):Option (Option Bool)×Option Δ:=match v with
 | .one (.b b)=>(some (some b),none)
 | .one (.d x)=>(none,some x)
 | .tup []=>(some none,none)
 | _=>(none,none)
def qfD (kind f b p:Nat) (pk:List Nat) (js:List (Ex×Sk)) (e:Ex) (st:S3 Δ N R M):Ω:=match qcq pr pk e st js 0 with
 | some (j,ys)=>pr.out j ys
 | none=>pr.miss kind f b p pk e st []
def ctx {α:Type} (pk:List Nat) (st:S3 Δ N R M):List (Sk×α)→Nat→Option (Nat×α)
 | [],_=>none
 | (sk,x)::r,j=>match qg6 pr pk sk st with
  | some _=>some (j,x)
  | none=>ctx pk st r (j+1)
def okPk (pk:List Nat) (sk:Sk):Bool:=pk.all (sk.ob.map (·.1)).contains
def q7G (pk:List Nat) (js:List (Ex×Sk)) (k:Ex→S3 Δ N R M→Ω):List (E→Ω):=js.map fun x=>match okPk pk x.2 with
 | true=>fun e=>k x.1 (q3w pr e x.2)
 | false=>fun _=>pr.fail
def qfk (cfg:Cf3) (P:Program) (fr:Fr) (hd:Option (Hd3 Δ N R M Ω)) (rn:Rn3 Δ N R M Ω) (ops:Array Oper) (o:Oper) (st:S3 Δ N R M) (k:S3 Δ N R M→Ω):Ω :=
 match o.guard with
  | none=>qhO pr cfg P fr hd rn o st k
  | some (j,want)=>match q2O ops j with
   | none=>pr.fail
   | some gt =>
    let skip:=fun (st:S3 Δ N R M)=>if q5n fr.nt o.dst=true then k (q7M o.dst (.tup []) st.ob st) else pr.fail
    let st1:=fun (b:Bool)=>({ st with env:=(gt,.one (.b b))::st.env }:S3 Δ N R M)
    match q9z (q2N st.env gt),want with
    | (some none,_),_=>skip st
    | (some (some true),_),true=>qhO pr cfg P fr hd rn o st k
    | (some (some false),_),false=>qhO pr cfg P fr hd rn o st k
    | (some (some _),_),_=>skip st
    | (none,some x),true=>pr.cond x (qhO pr cfg P fr hd rn o (st1 true) k) (skip (st1 false))
    | (none,some x),false=>pr.cond x (skip (st1 true)) (qhO pr cfg P fr hd rn o (st1 false) k)
    | (none,none),_=>pr.fail
def qix (ops:Array Oper) (env:List (Nat×V3 Δ N)) (o:Oper):Bool:=match o.guard with
 | none=>false
 | some (j,_)=>match q2O ops j with
  | none=>false
  | some gt=>match q2N env gt with
   | .one (.d _)=>true
   | _=>false
def qfF (cfg:Cf3) (P:Program) (fr:Fr) (hd:Option (Hd3 Δ N R M Ω)) (rn:Rn3 Δ N R M Ω) (ops:Array Oper) (id:Nat):Nat→Nat→List Oper→S3 Δ N R M→(S3 Δ N R M→Ω)→Ω
 | _,_,[],st,k=>k st
 | 0,_,_::_,_,_=>pr.fail
 | n+1,i,o::rest,st,k=>match (match qix ops st.env o with | true=>cfg.gj fr.f fr.b (id*1000+i) | false=>none) with
  | none=>qfk pr cfg P fr hd rn ops o st fun st'=>qfF cfg P fr hd rn ops id n (i+1) rest st' k
  | some (len,cs)=>match ctx pr fr.pr st cs 0 with
   | none=>pr.miss 6 fr.f fr.b (id*1000+i) fr.pr .normal st []
   | some (c,js)=>pr.bnd (qfk pr cfg P fr hd rn ops o st fun st'=>qfF cfg P fr hd rn ops id n (i+1) (rest.take len) st' (qfD pr (4+10*c) fr.f fr.b (id*1000+i) fr.pr js .normal))
    (q7G pr fr.pr js fun _ st'=>qfF cfg P fr hd rn ops id n (i+1+len) (rest.drop len) st' k)
abbrev Log:=List (List Nat×List Nat)
def qec (pairs:List (Nat×Nat)) (i:Nat) (log:Log) (rd wr:List Nat):Bool :=
 pairs.all fun p=>if p.2=i then (match log[p.1]? with
  | some (rj,wj)=>(wj.all fun x=>!(rd.contains x)&&!(wr.contains x))&&(rj.all fun x=>!(wr.contains x))
  | none=>false) else true
def qa7 (cfg:Cf3) (f:Nat) (o:Oper):Option Nat:=match o.dst with
 | some d=>match cfg.cb f d with
  | true=>none
  | false=>some d
 | none=>none
def dr3 (cfg:Cf3) (P:Program) (fr:Fr) (ops:Array Oper) (pairs:List (Nat×Nat)):List Oper→Nat→Log→S3 Δ N R M→(S3 Δ N R M→Ω)→Ω
 | [],_,_,st,k=>k st
 | o::rest,i,log,st,k =>
  let go:=fun (st:S3 Δ N R M)=>opC3 pr cfg P st.ob (qa7 cfg fr.f o) (ev3 pr st.env) o.op fun v us rd =>
   if (q5n fr.nt o.dst&&qec pairs i log rd (us.map (·.1)))=true then dr3 cfg P fr ops pairs rest (i+1) (log++[(rd,us.map (·.1))]) (q7M o.dst v (q2v us st.ob) st) k else pr.fail
  let skip:=fun (st:S3 Δ N R M)=>dr3 cfg P fr ops pairs rest (i+1) (log++[([],[])]) (q7M o.dst (.tup []) st.ob st) k
  match o.guard with
  | none=>go st
  | some (j,want)=>match q2O ops j with
   | none=>pr.fail
   | some gt =>
    let st1:=fun (b:Bool)=>({ st with env:=(gt,.one (.b b))::st.env }:S3 Δ N R M)
    match q9z (q2N st.env gt),want with
    | (some none,_),_=>skip st
    | (some (some true),_),true=>go st
    | (some (some false),_),false=>go st
    | (some (some _),_),_=>skip st
    | (none,some x),true=>pr.cond x (go (st1 true)) (skip (st1 false))
    | (none,some x),false=>pr.cond x (skip (st1 true)) (go (st1 false))
    | (none,none),_=>pr.fail
abbrev Ev3 (Δ N R M Ω:Type):=Fr→Option (Hd3 Δ N R M Ω)→Nat→Nat→Code→S3 Δ N R M→(Ex→S3 Δ N R M→Ω)→Ω
def q2b (ob:Ups Δ N R M):List Nat:=q4h (ob.map (·.1)) []
def q4b (P:Program) (bd:Bd) (ob:Ups Δ N R M) (kk:V3 Δ N→Ups Δ N R M→Ω) (st':S3 Δ N R M):Ω :=
 q8Z pr P st'.ob st'.env bd.res fun vs=>match qht (q2b ob) vs st'.ob with
  | some ob'=>kk (q2x vs) ob'
  | none=>pr.fail
def qdT:V3 Δ N→Bool
 | .one (.slk ..)=>true
 | _=>false
def formOK (ms:Ms) (args:List (V3 Δ N)):Bool:=if ms.args.isEmpty then args.any qdT else (ms.args.map qdT==args.map qdT)
def byForm (cfg:Cf3) (f:Nat) (args:List (V3 Δ N)):Bool:=match cfg.ms f with
 | some ms=>formOK ms args
 | none=>false
def qhP (cfg:Cf3) (P:Program) (ex:Ev3 Δ N R M Ω):Rn3 Δ N R M Ω:=fun f args b ob kk=>if byForm cfg f args=true then qgf pr cfg f args ob kk else match cfg.inl f with
 | none=>match cfg.ms f with
  | some _=>qgf pr cfg f args ob kk
  | none=>qey pr cfg f args b ob kk
 | some bd=>if args.length≤bd.nt then ex ⟨f,b,bd.nt,true,q2b ob,false⟩ none 0 1 bd.code ⟨q5V args 0,ob,[],none⟩ (fun e st=>match e with
   | .exit _=>pr.fail
   | .normal=>q4b pr P bd ob kk st
   | .ret=>q4b pr P bd ob kk st) else pr.fail
def bdy3 (ob:Ups Δ N R M) (kk:Option Ex→Ups Δ N R M→Ω) (e2:Ex) (st2:S3 Δ N R M):Ω:=match qht (q2b ob) [] st2.ob with
 | some ob'=>kk (match e2 with | .normal=>none | .exit i=>some (.exit i) | .ret=>some .ret) ob'
 | none=>pr.fail
def rngH3 (ex:Ev3 Δ N R M Ω) (fr:Fr) (cur p:Nat) (ps:Array Tmp) (assign body:Code) (env:List (Nat×V3 Δ N)):Hd3 Δ N R M Ω:=fun vals ob kk=>if vals.length=ps.size then
  ex ⟨fr.f,fr.b,fr.nt,false,q2b ob,false⟩ none cur (2*p) assign ⟨((ps.toList.zip vals).reverse++env),ob,[],none⟩ (fun e st1=>match e with
   | .normal=>ex ⟨fr.f,fr.b,fr.nt,false,q2b st1.ob,false⟩ none cur (2*p+1) body st1 (bdy3 pr ob kk)
   | .exit _=>pr.fail
   | .ret=>pr.fail)
 else pr.fail
def qbk (st:S3 Δ N R M) (k:Ex→S3 Δ N R M→Ω) (st':S3 Δ N R M):Ω:=match qht (q2b st.ob) [] st'.ob with
 | some ob'=>k (match st'.pend with | none=>.normal | some e=>e) ⟨st.env,ob',[],st.pend⟩
 | none=>pr.fail
def exIn (id:Nat):Ex→Ex
 | .exit i=>if i=id then .normal else .exit i
 | .normal=>.normal
 | .ret=>.ret
def q6X:List (Option Nat×Nat)→S3 Δ N R M→(S3 Δ N R M→Ω)→Ω
 | [],st,kk=>kk st
 | (none,t)::r,st,kk=>match q2N st.env t with
  | .one (.slk key off n c)=>frz3 pr st.ob (.slk key off n c) fun d us _=>q6X r { st with env:=(t,.one (.d d))::st.env,ob:=q2v us st.ob } kk
  | .one .nil=>q6X r { st with env:=(t,.one (.d (pr.lit (.slice none 0 0))))::st.env } kk
  | _=>q6X r st kk
 | (some b,i)::r,st,kk=>match q0W st.ob b with
  | some (.box cells e)=>match cells[i]? with
   | some (.slk key off n c)=>frz3 pr st.ob (.slk key off n c) fun d us _=>q6X r { st with ob:=(b,.box (cells.set i (.d d)) e)::q2v us st.ob } kk
   | some .nil=>q6X r { st with ob:=(b,.box (cells.set i (.d (pr.lit (.slice none 0 0)))) e)::st.ob } kk
   | _=>q6X r st kk
  | _=>q6X r st kk
def frzE (l:List (Option Nat×Nat)) (k:Ex→S3 Δ N R M→Ω) (e:Ex) (st:S3 Δ N R M):Ω:=match e with
 | .normal=>q6X pr l st (k .normal)
 | .exit i=>k (.exit i) st
 | .ret=>k .ret st
def q1v (cfg:Cf3) (P:Program):Nat→Ev3 Δ N R M Ω
 | 0,_,_,_,_,_,_,_=>pr.fail
 | n+1,fr,hd,cur,p,c,st,k=>match c with
  | .skip=>k .normal st
  | .label _=>k .normal st
  | .ret=>k .ret st
  | .exit id=>k (.exit id) st
  | .region id ops draw=>match draw with
   | false=>qfF pr cfg P fr hd (qhP pr cfg P (q1v cfg P n)) ops id ops.size 0 ops.toList st (k .normal)
   | true=>match st.ys with
    | []=>dr3 pr cfg P fr ops (cfg.draw fr.f id ops) ops.toList 0 [] st (k .normal)
    | _=>pr.fail
  | .seq a b =>
   let kk:=fun (e:Ex) (st':S3 Δ N R M)=>match e with
    | .normal=>q1v cfg P n fr hd cur (2*p+1) b st' k
    | .exit i=>k (.exit i) st'
    | .ret=>k .ret st'
   match cfg.jn fr.f fr.b p with
    | none=>q1v cfg P n fr hd cur (2*p) a st (frzE pr (cfg.fz fr.f fr.b p) kk)
    | some cs=>match ctx pr fr.pr st cs 0 with
     | none=>pr.miss 5 fr.f fr.b p fr.pr .normal st []
     | some (c,js)=>pr.bnd (q1v cfg P n fr hd cur (2*p) a st (frzE pr (cfg.fz fr.f fr.b p) (qfD pr (10*c) fr.f fr.b p fr.pr js))) (q7G pr fr.pr js kk)
  | .cond c a b=>match c with
   | .tmp t=>match q2N st.env t with
    | .one (.b true)=>q1v cfg P n fr hd cur (2*p) a st k
    | .one (.b false)=>q1v cfg P n fr hd cur (2*p+1) b st k
    | .one (.d x)=>pr.cond x (q1v cfg P n fr hd cur (2*p) a { st with env:=(t,.one (.b true))::st.env } k) (q1v cfg P n fr hd cur (2*p+1) b { st with env:=(t,.one (.b false))::st.env } k)
    | _=>pr.fail
   | .const (.bool true)=>q1v cfg P n fr hd cur (2*p) a st k
   | .const (.bool false)=>q1v cfg P n fr hd cur (2*p+1) b st k
   | _=>pr.fail
  | .block id c=>match c with
   | .loop body=>match ctx pr fr.pr st (cfg.lp fr.f fr.b id) 0 with
    | none=>pr.miss 7 fr.f fr.b id fr.pr .normal st []
    | some (c,sks,outs)=>match q71 pr fr.pr st sks 0 with
     | none=>pr.miss (1+10*c) fr.f fr.b id fr.pr .normal st []
     | some (i0,ys0)=>pr.bnd (pr.loop (sks.map fun sk=>fun J e=>if okPk fr.pr sk=false then pr.fail else q1v cfg P n fr hd id (2*p) body (q3w pr e sk) fun e' st'=>match e' with
       | .normal=>(match q71 pr fr.pr st' sks 0 with
        | some (j,ys)=>J j ys
        | none=>pr.miss (1+10*c) fr.f fr.b id fr.pr .normal st' [])
       | .exit i=>qfD pr (2+10*c) fr.f fr.b id fr.pr outs (exIn id (.exit i)) st'
       | .ret=>qfD pr (2+10*c) fr.f fr.b id fr.pr outs .ret st') i0 ys0) (q7G pr fr.pr outs k)
   | c=>q1v cfg P n fr hd id (2*p) c st fun e st'=>match e with
    | .normal=>k .normal st'
    | .ret=>k .ret st'
    | .exit i=>if i=id then k .normal st' else k (.exit i) st'
  | .rangeFunc g ps assign body=>if fr.rng=true then
    match st.ys with
    | []=>match fn3 (ev3 pr st.env g) with
     | none=>pr.fail
     | some (f,caps)=>match cfg.inl f with
      | none=>pr.fail
      | some bd=>if caps.length+1≤bd.nt∧bd.res=[]∧ps.toList.all (fun p=>decide (p < fr.nt))=true then
        q1v cfg P n ⟨f,(fr.b+1)*1000,bd.nt,false,q2b st.ob,false⟩ (some (rngH3 pr (q1v cfg P n) fr cur p ps assign body st.env)) 0 1 bd.code ⟨q5V (.one .undef::caps.map .one) 0,st.ob,[0],none⟩ (fun e st'=>match e with
         | .exit _=>pr.fail
         | .normal=>qbk pr st k st'
         | .ret=>qbk pr st k st')
       else pr.fail
    | _=>pr.fail
   else pr.fail
  | _=>pr.fail
def fin3 (cfg:Cf3) (P:Program) (f:Nat) (res:List ResultVar) (e:Ex) (st:S3 Δ N R M):Ω :=
 let go:=q8Z pr P st.ob st.env res fun vs=>match q8X st.ob vs (cfg.rsk f) 0 with
  | none=>pr.miss 3 f 0 0 [] e st (vs.map (formV st.ob))
  | some (j,rs)=>match allD rs with
   | true=>qh2 pr st.ob vs fun ys=>pr.out j ys
   | false=>q7p pr st.ob rs vs fun ys ks=>if q59 ks=true then pr.out j ys else pr.fail
 match e with
 | .exit _=>pr.fail
 | .normal=>go
 | .ret=>go
def func3 (cfg:Cf3) (P:Program) (fuel f:Nat) (args:List Δ):Ω:=match cfg.ash f,bdOf P f with
 | some sh,some bd=>match q7z sh args with
  | some vs=>if vs.length≤bd.nt then q1v pr cfg P fuel ⟨f,0,bd.nt,true,[],true⟩ none 0 1 bd.code ⟨q5V vs 0,[],[],none⟩ (fin3 pr cfg P f bd.res) else pr.fail
  | none=>pr.fail
 | _,_=>pr.fail
end
end Go.VE
namespace Go.VE
open Go.RowKit
abbrev Rr:=List (List D)
abbrev Mr:=List Value×List (List D)
abbrev Yr:=Y D Nat Rr Mr
abbrev Out:=Option (Nat×List Yr)
abbrev L3r:=L3 D Nat
abbrev V3r:=V3 D Nat
abbrev O3r:=O3 D Nat Rr Mr
abbrev S3r:=S3 D Nat Rr Mr
abbrev Ur:=Ups D Nat Rr Mr
def q0I (bs:List ((Nat→List Yr→Out)→List Yr→Out)):Nat→Nat→List Yr→Out
 | 0,_,_=>none
 | m+1,j,ys=>match bs[j]? with
  | some b=>b (q0I bs m) ys
  | none=>none
def qhy (op:BinOp) (bl:Bool):D→D→Option D
 | .lit (.int k a),.lit (.int k' b)=>(aBin op k a k' b).map .lit
 | .lit (.bool a),.lit (.bool b)=>if bl=true then (match op with
   | .eql=>some (.lit (.bool (a==b)))
   | .neq=>some (.lit (.bool (a != b)))
   | _=>none) else none
 | .lit (.string a),.lit (.string b)=>(aStr op a b).map .lit
 | _,_=>none
def unD (op:UnOp):D→Option D
 | .lit (.bool b)=>match op with | .not=>some (.lit (.bool !b)) | _=>none
 | .lit (.int k n)=>match op with | .neg=>some (.lit (.int k (k.wrap (0 - n)))) | _=>none
 | _=>none
def mmD (mx:Bool):D→D→Option D
 | .lit (.int k a),.lit (.int k' b)=>if k=k' then some (.lit (.int k (if mx then max a b else min a b))) else none
 | _,_=>none
def intD:D→Option Int
 | .lit (.int _ n)=>some n
 | _=>none
def q4w:Option D→Option (Option Int)
 | none=>some none
 | some x=>(intD x).map some
def qfO:D→Option Nat
 | .sl _ rows=>some rows.length
 | .lit (.slice none 0 0)=>some 0
 | _=>none
def q4Z (es:Nat):D→Option Rr
 | .lit (.slice none 0 0)=>some []
 | .sl size rows=>if size=es then some rows else none
 | _=>none
def qiB (es:Nat) (l h:Option Int):D→Option D
 | .sl size rows=>if size=es then (if 0≤l.getD 0∧l.getD 0≤h.getD rows.length∧h.getD rows.length≤rows.length then some (.sl size ((rows.drop (l.getD 0).toNat).take (h.getD rows.length - l.getD 0).toNat)) else none) else none
 | .lit (.slice none 0 0)=>if l.getD 0=0∧h.getD 0=0 then some (.lit (.slice none 0 0)) else none
 | _=>none
def qhf:D→Option Value
 | .lit v=>some v
 | _=>none
def qiF (agg:Bool):D→Option Mr
 | .mp agg' keys vals=>if agg=agg' then some (keys,vals) else none
 | .lit (.map none)=>some ([],[])
 | _=>none
def q8o (kd:Nat) (zs:List Value) (m:Mr) (key:D):Option (List D×D):=match qhf key with
 | some v=>if q6T kd v=true then (match q3J kd v m.1 0 with
  | some (some j)=>match m.2[j]? with
   | some r=>if r.length=zs.length then some (r,.lit (.bool true)) else none
   | none=>none
  | some none=>some (zs.map .lit,.lit (.bool false))
  | none=>none) else none
 | none=>none
def qhJ (kd:Nat) (m:Mr) (key:D) (ds:List D):Option Mr:=match qhf key with
 | some v=>if q6T kd v=true then (match q3J kd v m.1 0 with
  | some (some j)=>some (m.1,m.2.set j ds)
  | some none=>some (m.1++[v],m.2++[ds])
  | none=>none) else none
 | none=>none
def qfE {α:Type} (o:Option α) (k:α→Out):Out:=match o with
 | some a=>k a
 | none=>none
def q8P:Yr→Bool
 | .d x=>x.isLit
 | .r rows=>rows.all fun r=>r.all D.isLit
 | .m m=>m.2.all fun r=>r.all D.isLit
 | .n _=>true
def selR (ks:List Out) (j:Nat):Out:=match ks[j]? with
 | some k=>k
 | none=>none
def q05 (Fn:Nat→List D→Out) (FnD:D→List Sh→List D→Out) (m:Nat):Pr D Nat Rr (List D) Mr (List Yr) Out where
 fail:=none
 out j ys:=some (j,ys)
 bnd o ks:=match o with
  | some (j,ys)=>(match ks[j]? with | some k=>k ys | none=>none)
  | none=>none
 loop bs j ys:=q0I bs m j ys
 call:=Fn
 callD:=FnD
 miss _ _ _ _ _ _ _ _:=none
 cond x a b:=match x with | .lit (.bool true)=>a | .lit (.bool false)=>b | _=>none
 ld e j:=match e[j]? with | some (.d x)=>x | _=>default
 ln e j:=match e[j]? with | some (.n x)=>x | _=>0
 lr e j:=match e[j]? with | some (.r x)=>x | _=>[]
 lm e j:=match e[j]? with | some (.m x)=>x | _=>([],[])
 lit v:=.lit v
 natD n:=.lit (.int .i64 n)
 natN n:=n
 addN a b:=a+b
 slD s r:=.sl s r
 dpD r o:=.dp r o
 fnD f l:=.fn f l
 mpD g m:=.mp g m.1 m.2
 ifD t g l:=.ifc t g l
 len r:=r.length
 rows l:=l
 repl n z:=List.replicate n z
 app a b:=a++b
 seg r o n:=(r.drop (o.getD 0)).take n
 setR r i l:=r.set i l
 emp:=([],[])
 cell w j:=w.getD j default
 eqN a b k:=if a=b then k else none
 leN a b k:=if a≤b then k else none
 ptrW n x k:=match x with | .dp row 0=>if row.length=n then k row else none | _=>none
 isPtr x k:=match x with | .dp _ _=>k | _=>none
 nilD x k:=match x with | .lit (.slice none 0 0)=>k | _=>none
 rowAt s r i k:=match r[i]? with
  | some w=>if w.length=s then k w else none
  | none=>none
 bin op b x y k:=qfE (qhy op b x y) k
 un op x k:=qfE (unD op x) k
 eqs ks ng x y k:=match q1l ks (x.map .d) (y.map .d) with
  | some b=>k (.lit (.bool (if ng then !b else b)))
  | none=>none
 mm mx x y k:=qfE (mmD mx x y) k
 mkN bs x y k:=match x,y with
  | .lit (.int a n),.lit (.int b n')=>if a=b∧n=n'∧0≤n∧bs*n≤140737488355328∧n≤9223372036854775807 then k n.toNat else none
  | _,_=>none
 gap bs x k:=match x with
  | .lit (.int _ n)=>if 0 < n∧bs*n≤140737488355328∧n≤9223372036854775807 then k n.toNat else none
  | _=>none
 cut l h n k e:=match q4w l,q4w h with
  | some l,some h=>if 0≤l.getD 0∧l.getD 0≤h.getD n∧h.getD n≤n then (if l.getD 0=0∨l.getD 0 < h.getD n then k (l.getD 0).toNat (h.getD n - l.getD 0).toNat else e) else none
  | _,_=>none
 cutD es x l h k:=match q4w l,q4w h with
  | some l,some h=>qfE (qiB es l h x) k
  | _,_=>none
 cutNil l h k:=match q4w l,q4w h with
  | some l,some h=>if l.getD 0=0∧h.getD 0=0 then k else none
  | _,_=>none
 selI n x ks:=match x with
  | .lit (.int _ z)=>if 0≤z∧z < n then selR ks z.toNat else none
  | _=>none
 inx x n k:=match x with
  | .lit (.int _ z)=>if 0≤z∧z < n then k z.toNat else none
  | _=>none
 rowD es x i k:=match x,i with
  | .sl size rows,.lit (.int _ z)=>if size=es∧0≤z then (match rows[z.toNat]? with
   | some r=>if r.length=es then k r else none
   | none=>none) else none
  | _,_=>none
 lenD x k:=match qfO x with
  | some n=>k (.lit (.int .i64 n))
  | none=>none
 lenS x k:=match x with
  | .lit (.string s)=>k (.lit (.int .i64 s.size))
  | _=>none
 rowsD es x k:=match q4Z es x with
  | some r=>k r
  | none=>none
 isNil r a b:=match r with | []=>a | _::_=>b
 fits bs n k:=if n*bs≤140737488355328∧n≤maxLen then k else none
 asM agg x k:=match qiF agg x with
  | some m=>k m
  | none=>none
 look kd zs m key k:=match q8o kd zs m key with
  | some p=>k p.1 p.2
  | none=>none
 upd kd m key ds k:=match qhJ kd m key ds with
  | some m'=>k m'
  | none=>none
 lits ys k:=if ys.all q8P=true then k else none
 nilE x a b:=match x with
  | .lit (.slice none 0 0)=>a
  | .sl _ _=>b
  | _=>none
 cvI kd y k:=match y with | .lit (.int _ n)=>k (.lit (.int kd (kd.wrap n))) | _=>none
 ins y rows new k:=match y with | .lit (.int .i64 z)=>if 0≤z∧z.toNat≤rows.length then k (rows.take z.toNat++new++rows.drop z.toNat) else none | _=>none
mutual
def eL:L3r→L
 | .d x=>.d x
 | .b v=>.d (.lit (.bool v))
 | .i k n=>.d (.lit (.int k n))
 | .nil=>.d (.lit (.slice none 0 0))
 | .dp r o=>.d (.dp r o)
 | .fn f cs=>.fn f (eLs cs)
 | .slk k o n c=>.slk k (o.getD 0) n c
 | .pa k i o c=>.pa k i o c
 | .ptr k o=>.ptr k o
 | .mk k=>.mk k
 | .undef=>.undef
def eLs:List L3r→List L
 | []=>[]
 | x::xs=>eL x::eLs xs
end
mutual
def eV:V3r→V
 | .one x=>.one (eL x)
 | .agg xs=>.agg (eLs xs)
 | .tup xs=>.tup (eVs xs)
def eVs:List V3r→List V
 | []=>[]
 | x::xs=>eV x::eVs xs
end
def eO:O3r→O
 | .box cs e=>.box (eLs cs) e
 | .arr rows s e o=>.arr rows s e o
 | .mp g m o=>.mp g m.1 m.2 o
def q1K (env:List (Nat×V3r)):List (Nat×V):=env.map fun p=>(p.1,eV p.2)
def eOb (ob:Ur):List (Nat×O):=ob.map fun p=>(p.1,eO p.2)
def eS (st:S3r):S2:=⟨q1K st.env,eOb st.ob,st.ys,st.pend⟩
theorem q12:∀ xs:List L3r,eLs xs=xs.map eL
 | []=>rfl
 | x::xs=>by simp [eLs,q12 xs]
theorem q1Z:∀ xs:List V3r,eVs xs=xs.map eV
 | []=>rfl
 | x::xs=>by simp [eVs,q1Z xs]
theorem q34 (t:Nat):∀ env:List (Nat×V3r),q0S (q1K env) t=eV (q2N env t)
 | []=>rfl
 | (k,v)::r=>by
  simp only [q1K,List.map_cons,q0S,q2N]
  split
  ·rfl
  ·exact q34 t r
theorem q0f (k:Nat):∀ ob:Ur,q09 (eOb ob) k=(q0W ob k).map eO
 | []=>rfl
 | (j,o)::r=>by
  simp only [eOb,List.map_cons,q09,q0W]
  split
  ·rfl
  ·exact q0f k r
theorem q3V:∀ us ob:Ur,eOb (q2v us ob)=qiJ (eOb us) (eOb ob)
 | [],ob=>rfl
 | (k,o)::r,ob=>by
  show eOb (q2v r ((k,o)::ob))=qiJ (eOb r) ((k,eO o)::eOb ob)
  rw [q3V r];rfl
variable {Fn:Nat→List D→Out} {FnD:D→List Sh→List D→Out} {m:Nat}
theorem qhg (v:Value):eL (qhh (q05 Fn FnD m) v)=.d (.lit v):=by
 unfold qhh;split<;>simp [eL,q05]
theorem qa4 (vs:List Value):eLs (vs.map (qhh (q05 Fn FnD m)))=q4x vs:=by
 rw [q12,List.map_map];unfold q4x;congr 1;funext v;exact qhg v
theorem qge (v:Value):eV (qak (q05 Fn FnD m) v)=q80 v:=by
 unfold qak q80
 split
 ·split<;>rename_i h<;>simp [eV,qa4,eL,h]
 ·split<;>rename_i h<;>simp [eV,qhg,eL,h]
theorem ev_e (env:List (Nat×V3r)) (x:Operand):eV (ev3 (q05 Fn FnD m) env x)=ev (q0S (q1K env)) x:=by
 cases x with
 | tmp t=>exact (q34 t env).symm
 | const v=>exact qge v
 | global g=>rfl
 | func f=>simp only [ev3,ev];split<;>simp [eV,eL,eLs]
theorem qhv (env:List (Nat×V3r)):(fun x=>eV (ev3 (q05 Fn FnD m) env x))=ev (q0S (q1K env)):=funext (ev_e env)
theorem q1N {x:L3r} {y:D} (h:q4T (q05 Fn FnD m) x=some y):eL x=.d y:=by
 unfold q4T at h;split at h<;>first | (cases h;simp [eL,q05]) | cases h
theorem q3a {x:V3r} {y:D} (h:q5w (q05 Fn FnD m) x=some y):eV x=.one (.d y):=by
 unfold q5w at h;split at h
 ·simp only [eV,q1N h]
 ·cases h
theorem qa8 (x:L3r):(eL x).isDef=x.isDef:=by cases x<;>simp [eL,L.isDef,L3.isDef]
theorem q7a (v:V3r):(eV v).cells=v.cells.map eLs:=by
 cases v with
 | one x=>simp only [eV,V.cells,V3.cells,qa8];split<;>simp [eLs]
 | agg xs =>
  simp only [eV,V.cells,V3.cells,q12,List.all_map]
  have:(L.isDef ∘ eL)=(L3.isDef:L3r→Bool):=funext qa8
  rw [this];split<;>simp [q12]
 | tup xs=>simp [eV,V.cells,V3.cells]
theorem q2g (xs:List L3r):(eLs xs).length=xs.length:=by rw [q12,List.length_map]
theorem q2E (g:Bool) (s off:Nat) (cs:List L3r):q1c g s off (eLs cs)=(q2r g s off cs).map eV:=by
 unfold q1c q2r
 cases g with
 | true=>simp only [q2g,if_true];split<;>simp [eV,q12,List.map_drop,List.map_take]
 | false =>
  simp only [Bool.false_eq_true,if_false,q12,List.getElem?_map]
  cases cs[off]?<;>simp [eV]
theorem mkV_e (g:Bool) (xs:List L3r):mkV g (eLs xs)=(mkV3 g xs).map eV:=by
 cases g with
 | true=>simp [mkV,mkV3,eV]
 | false =>
  match xs with
  | []=>rfl
  | [x]=>simp [mkV,mkV3,eV,eLs]
  | x::y::r=>rfl
theorem q7e {n:Nat} {v u:V3r} (h:q5s n v=some u):q2S n (eV v)=some (eV u):=by
 unfold q5s at h
 split at h<;>first | (cases h;simp [q2S,eV,eL]) | cases h
theorem qhu (pl:Nat→Option (Nat×Nat)):∀ (ps:List (Nat×V3r)) (cs:List L3r),q5S pl (eLs cs) (ps.map fun p=>(p.1,eV p.2))=(qg9 pl cs ps).map eLs
 | [],cs=>rfl
 | (i,v)::r,cs=>by
  simp only [List.map_cons,q5S,qg9,q7a]
  cases pl i with
  | none=>rfl
  | some q =>
   obtain ⟨off,size⟩:=q
   cases hv:v.cells with
   | none=>rfl
   | some vs =>
    simp only [Option.map_some,q2g]
    split
    ·rw [←qhu pl r]
     congr 1
     simp only [q12,List.map_append,List.map_take,List.map_drop]
    ·rfl
theorem q3n:∀ vs:List V3r,q1w (vs.map eV)=(q3o vs).map eLs
 | []=>rfl
 | .one x::r=>by
  simp only [List.map_cons,eV,q1w,q3o,qa8,q3n r]
  split
  ·cases q3o r<;>simp [eLs]
  ·rfl
 | .agg xs::r=>rfl
 | .tup xs::r=>rfl
theorem q21 {w:List D} {s:Nat} (h:w.length=s):cellsOf (q05 Fn FnD m) s w=w:=by
 subst h
 unfold cellsOf
 apply List.ext_getElem?
 intro i
 simp only [List.getElem?_map,q05,List.getD_eq_getElem?_getD]
 by_cases hi:i < w.length
 ·rw [List.getElem?_range hi];simp [hi]
 ·rw [List.getElem?_eq_none (by simpa using hi)];simp;omega
theorem qiw (w:List D):eLs (w.map .d)=w.map .d:=by rw [q12,List.map_map];rfl
theorem qif (v:V3r):q2M (eV v)=qho v:=by cases v<;>rfl
theorem q0j:eOb []=[]:=rfl
theorem q0s (k:Nat) (o:O3r) (r:Ur):eOb ((k,o)::r)=(k,eO o)::eOb r:=rfl
theorem q2G (a b:Ur):eOb (a++b)=eOb a++eOb b:=by simp [eOb]
end Go.VE
namespace Go.VE
open Go.RowKit
variable {P:Program} {Fn:Nat→List D→Out} {FnD:D→List Sh→List D→Out} {m:Nat} {r:Nat×List Yr} {ob:Ur}
theorem Q.reads_bind {α β:Type} (o:Ob) (q:Q α) (f:α→Q β):(q.bind f).reads o=q.reads o++(match q.run o with | some a=>(f a).reads o | none=>[]):=by
 induction q with
 | ret a=>rfl
 | get k g ih=>simp only [Q.bind,Q.reads,Q.run,ih,List.cons_append]
 | fail=>rfl
def OKQ (ob:Ur) (q:Q Res) (k:K3 D Nat Rr Mr Out) (r:Nat×List Yr):Prop :=
 ∃ v us rd,q.run (q09 (eOb ob))=some (eV v,eOb us)∧(∀ x∈q.reads (q09 (eOb ob)),x∈rd)∧k v us rd=some r
theorem OKQ.ret {v:V3r} {us:Ur} {rd:List Nat} {k:K3 D Nat Rr Mr Out} (h:k v us rd=some r):OKQ ob (.ret (eV v,eOb us)) k r:=⟨v,us,rd,rfl,by simp [Q.reads],h⟩
theorem OKQ.ret0 {v:V3r} {rd:List Nat} {k:K3 D Nat Rr Mr Out} (h:k v [] rd=some r):OKQ ob (.ret (eV v,[])) k r:=OKQ.ret (us:=[]) h
theorem OKQ.get {key:Nat} {f:Option O→Q Res} {k:K3 D Nat Rr Mr Out} {rd0:List Nat} (h:OKQ ob (f (q09 (eOb ob) key)) (fun v us rd=>k v us (rd0++rd)) r) (hk:key∈rd0):OKQ ob (.get key f) k r:=by
 obtain ⟨v,us,rd,h1,h2,h3⟩:=h
 refine ⟨v,us,rd0++rd,h1,?_,h3⟩
 intro x hx
 simp only [Q.reads,List.mem_cons] at hx
 rcases hx with rfl | hx
 ·exact List.mem_append_left _ hk
 ·exact List.mem_append_right _ (h2 x hx)
theorem q3c {o:Option V3r} {o':Option V} {rd:List Nat} {k:K3 D Nat Rr Mr Out} (h:qcJ (q05 Fn FnD m) o rd k=some r) (ho:∀ v,o=some v→o'=some (eV v)):∃ v,o'=some (eV v)∧k v [] rd=some r:=by
 unfold qcJ at h
 split at h
 ·rename_i v;exact ⟨v,ho v rfl,h⟩
 ·cases h
theorem OKQ.mk {q:Q Res} {k:K3 D Nat Rr Mr Out} {v:V3r} {us:Ur} {rd:List Nat} (h1:q.run (q09 (eOb ob))=some (eV v,eOb us)) (h2:∀ x∈q.reads (q09 (eOb ob)),x∈rd) (h3:k v us rd=some r):OKQ ob q k r:=⟨v,us,rd,h1,h2,h3⟩
theorem q0K {a b:Nat} {k:Out} (h:(q05 Fn FnD m).eqN a b k=some r):a=b∧k=some r:=by
 simp only [q05] at h;split at h
 ·exact ⟨‹_›,h⟩
 ·cases h
theorem qaX {a b:Nat} {k:Out} (h:(q05 Fn FnD m).leN a b k=some r):a≤b∧k=some r:=by
 simp only [q05] at h;split at h
 ·exact ⟨‹_›,h⟩
 ·cases h
theorem q42 {x:D} {k:Out} (h:(q05 Fn FnD m).nilD x k=some r):x=.lit (.slice none 0 0)∧k=some r:=by
 simp only [q05] at h;split at h
 ·exact ⟨rfl,h⟩
 ·cases h
theorem q91 {n:Nat} {x:D} {k:List D→Out} (h:(q05 Fn FnD m).ptrW n x k=some r):∃ row,x=.dp row 0∧row.length=n∧k row=some r:=by
 simp only [q05] at h;split at h
 ·split at h
  ·exact ⟨_,rfl,‹_›,h⟩
  ·cases h
 ·cases h
theorem qc6 {x:D} {k:Out} (h:(q05 Fn FnD m).isPtr x k=some r):(∃ row o,x=.dp row o)∧k=some r:=by
 simp only [q05] at h;split at h
 ·exact ⟨⟨_,_,rfl⟩,h⟩
 ·cases h
theorem q3j {s i:Nat} {rows:Rr} {k:List D→Out} (h:(q05 Fn FnD m).rowAt s rows i k=some r):∃ w,rows[i]?=some w∧w.length=s∧k w=some r:=by
 simp only [q05] at h;split at h
 ·split at h
  ·exact ⟨_,‹_›,‹_›,h⟩
  ·cases h
 ·cases h
theorem q57 {α:Type} {o:Option α} {k:α→Out} (h:qfE o k=some r):∃ a,o=some a∧k a=some r:=by
 unfold qfE at h;split at h
 ·exact ⟨_,rfl,h⟩
 ·cases h
theorem qfs {x:D} {n:Nat} {k:Nat→Out} (h:(q05 Fn FnD m).inx x n k=some r):∃ kk z,x=.lit (.int kk z)∧(0≤z∧z < (n:Int))∧k z.toNat=some r:=by
 simp only [q05] at h;split at h
 ·split at h
  ·exact ⟨_,_,rfl,‹_›,h⟩
  ·cases h
 ·cases h
theorem q90 {x:D} {n:Nat} {ks:List Out} (h:(q05 Fn FnD m).selI n x ks=some r):∃ kk z,x=.lit (.int kk z)∧(0≤z∧z < (n:Int))∧selR ks z.toNat=some r:=by
 simp only [q05] at h;split at h
 ·split at h
  ·exact ⟨_,_,rfl,‹_›,h⟩
  ·cases h
 ·cases h
theorem qd8 {es:Nat} {x i:D} {k:List D→Out} (h:(q05 Fn FnD m).rowD es x i k=some r):∃ rows kk z w,x=.sl es rows∧i=.lit (.int kk z)∧0≤z∧rows[z.toNat]?=some w∧w.length=es∧k w=some r:=by
 simp only [q05] at h;split at h
 ·split at h
  ·rename_i hz
   obtain ⟨rfl,hz⟩:=hz
   split at h
   ·split at h
    ·exact ⟨_,_,_,_,rfl,rfl,hz,‹_›,‹_›,h⟩
    ·cases h
   ·cases h
  ·cases h
 ·cases h
theorem qb0 {l h':Option D} {n:Nat} {k:Nat→Nat→Out} {e:Out} (h:(q05 Fn FnD m).cut l h' n k e=some r):∃ zl zh,q4w l=some zl∧q4w h'=some zh∧(0≤zl.getD 0∧zl.getD 0≤zh.getD n∧zh.getD n≤n) ∧
  (((zl.getD 0=0∨zl.getD 0 < zh.getD n)∧k (zl.getD 0).toNat (zh.getD n - zl.getD 0).toNat=some r)∨(¬ (zl.getD 0=0∨zl.getD 0 < zh.getD n)∧e=some r)):=by
 simp only [q05] at h;split at h
 ·rename_i zl zh h1 h2
  split at h
  ·split at h
   ·exact ⟨zl,zh,h1,h2,‹_›,.inl ⟨‹_›,h⟩⟩
   ·exact ⟨zl,zh,h1,h2,‹_›,.inr ⟨‹_›,h⟩⟩
  ·cases h
 ·cases h
theorem qdc {es:Nat} {x:D} {l h':Option D} {k:D→Out} (h:(q05 Fn FnD m).cutD es x l h' k=some r):∃ zl zh z,q4w l=some zl∧q4w h'=some zh∧qiB es zl zh x=some z∧k z=some r:=by
 simp only [q05] at h;split at h
 ·obtain ⟨z,h1,h2⟩:=q57 h;exact ⟨_,_,z,‹_›,‹_›,h1,h2⟩
 ·cases h
theorem q9W {l h':Option D} {k:Out} (h:(q05 Fn FnD m).cutNil l h' k=some r):∃ zl zh,q4w l=some zl∧q4w h'=some zh∧(zl.getD 0=0∧zh.getD 0=0)∧k=some r:=by
 simp only [q05] at h;split at h
 ·split at h
  ·exact ⟨_,_,‹_›,‹_›,‹_›,h⟩
  ·cases h
 ·cases h
theorem q3k {x:D} {a b:Out} (h:(q05 Fn FnD m).cond x a b=some r):(x=.lit (.bool true)∧a=some r)∨(x=.lit (.bool false)∧b=some r):=by
 simp only [q05] at h;split at h
 ·exact .inl ⟨rfl,h⟩
 ·exact .inr ⟨rfl,h⟩
 ·cases h
theorem q3G {o:Out} {ks:List (List Yr→Out)} (h:(q05 Fn FnD m).bnd o ks=some r):∃ j ys k,o=some (j,ys)∧ks[j]?=some k∧k ys=some r:=by
 simp only [q05] at h;split at h
 ·split at h
  ·exact ⟨_,_,_,rfl,‹_›,h⟩
  ·cases h
 ·cases h
theorem qfv {op:BinOp} {bl:Bool} {x y:D} {k:D→Out} (h:(q05 Fn FnD m).bin op bl x y k=some r):∃ z,qhy op bl x y=some z∧k z=some r:=q57 h
theorem qd7 {op:UnOp} {x:D} {k:D→Out} (h:(q05 Fn FnD m).un op x k=some r):∃ z,unD op x=some z∧k z=some r:=q57 h
theorem qhT {mx:Bool} {x y:D} {k:D→Out} (h:(q05 Fn FnD m).mm mx x y k=some r):∃ z,mmD mx x y=some z∧k z=some r:=q57 h
theorem qaZ {ks:List Bool} {ng:Bool} {x y:List D} {k:D→Out} (h:(q05 Fn FnD m).eqs ks ng x y k=some r):∃ b,q1l ks (x.map .d) (y.map .d)=some b∧k (.lit (.bool (if ng then !b else b)))=some r:=by
 simp only [q05] at h;split at h
 ·exact ⟨_,‹_›,h⟩
 ·cases h
theorem qfr {bs:Nat} {x y:D} {k:Nat→Out} (h:(q05 Fn FnD m).mkN bs x y k=some r):∃ a n,x=.lit (.int a n)∧y=.lit (.int a n)∧(0≤n∧bs*n≤140737488355328∧n≤9223372036854775807)∧k n.toNat=some r:=by
 simp only [q05] at h;split at h
 ·split at h
  ·rename_i hc;obtain ⟨rfl,rfl,hc⟩:=hc;exact ⟨_,_,rfl,rfl,hc,h⟩
  ·cases h
 ·cases h
theorem qft {bs:Nat} {x:D} {k:Nat→Out} (h:(q05 Fn FnD m).gap bs x k=some r):∃ a n,x=.lit (.int a n)∧(0 < n∧bs*n≤140737488355328∧n≤9223372036854775807)∧k n.toNat=some r:=by
 simp only [q05] at h;split at h
 ·split at h
  ·exact ⟨_,_,rfl,‹_›,h⟩
  ·cases h
 ·cases h
theorem qdb {x:D} {k:D→Out} (h:(q05 Fn FnD m).lenD x k=some r):∃ n,qfO x=some n∧k (.lit (.int .i64 n))=some r:=by
 simp only [q05] at h;split at h
 ·exact ⟨_,‹_›,h⟩
 ·cases h
theorem qda {x:D} {k:D→Out} (h:(q05 Fn FnD m).lenS x k=some r):∃ s,x=.lit (.string s)∧k (.lit (.int .i64 s.size))=some r:=by
 simp only [q05] at h;split at h
 ·exact ⟨_,rfl,h⟩
 ·cases h
theorem q7H {es:Nat} {x:D} {k:Rr→Out} (h:(q05 Fn FnD m).rowsD es x k=some r):∃ rows,q4Z es x=some rows∧k rows=some r:=by
 simp only [q05] at h;split at h
 ·exact ⟨_,‹_›,h⟩
 ·cases h
theorem q7I {rows:Rr} {a b:Out} (h:(q05 Fn FnD m).isNil rows a b=some r):(rows=[]∧a=some r)∨(rows≠[]∧b=some r):=by
 cases rows with
 | nil=>exact .inl ⟨rfl,h⟩
 | cons x xs=>exact .inr ⟨by simp,h⟩
theorem q50 {bs n:Nat} {k:Out} (h:(q05 Fn FnD m).fits bs n k=some r):n*bs≤140737488355328∧n≤maxLen∧k=some r:=by
 simp only [q05] at h;split at h
 ·rename_i hc;exact ⟨hc.1,hc.2,h⟩
 ·cases h
theorem qb1 {agg:Bool} {x:D} {k:Mr→Out} (h:(q05 Fn FnD m).asM agg x k=some r):∃ mm,qiF agg x=some mm∧k mm=some r:=by
 simp only [q05] at h;split at h
 ·exact ⟨_,‹_›,h⟩
 ·cases h
theorem qd9 {kd:Nat} {zs:List Value} {mm:Mr} {key:D} {k:List D→D→Out} (h:(q05 Fn FnD m).look kd zs mm key k=some r):∃ p,q8o kd zs mm key=some p∧k p.1 p.2=some r:=by
 simp only [q05] at h;split at h
 ·exact ⟨_,‹_›,h⟩
 ·cases h
theorem qfq {kd:Nat} {mm:Mr} {key:D} {ds:List D} {k:Mr→Out} (h:(q05 Fn FnD m).upd kd mm key ds k=some r):∃ m',qhJ kd mm key ds=some m'∧k m'=some r:=by
 simp only [q05] at h;split at h
 ·exact ⟨_,‹_›,h⟩
 ·cases h
theorem q92 {x:D} {a b:Out} (h:(q05 Fn FnD m).nilE x a b=some r):(x=.lit (.slice none 0 0)∧a=some r)∨∃ s rows,x=.sl s rows∧b=some r:=by
 simp only [q05] at h
 split at h
 ·exact .inl ⟨rfl,h⟩
 ·exact .inr ⟨_,_,rfl,h⟩
 ·cases h
theorem qfu {kd:IntKind} {y:D} {k:D→Out} (h:(q05 Fn FnD m).cvI kd y k=some r):∃ a n,y=.lit (.int a n)∧k (.lit (.int kd (kd.wrap n)))=some r:=by
 simp only [q05] at h;split at h
 ·exact ⟨_,_,rfl,h⟩
 ·cases h
theorem qaY {y:D} {rows new:Rr} {k:Rr→Out} (h:(q05 Fn FnD m).ins y rows new k=some r):∃ z,y=.lit (.int .i64 z)∧(0≤z∧z.toNat≤rows.length)∧k (rows.take z.toNat++new++rows.drop z.toNat)=some r:=by
 simp only [q05] at h;split at h
 ·split at h
  ·exact ⟨_,rfl,‹_›,h⟩
  ·cases h
 ·cases h
theorem q93 {ys:List Yr} {k:Out} (h:(q05 Fn FnD m).lits ys k=some r):ys.all q8P=true∧k=some r:=by
 simp only [q05] at h;split at h
 ·exact ⟨‹_›,h⟩
 ·cases h
theorem qbh {g:Bool} {s:Nat} {x:V3r} {k:K3 D Nat Rr Mr Out} (h:qfK (q05 Fn FnD m) g s ob x k=some r):OKQ ob (q5G g s (eV x)) k r:=by
 unfold qfK at h
 split at h
 ·rename_i key off
  split at h
  ·rename_i cells elem hk
   obtain ⟨v,h1,h2⟩:=q3c (o':=q1c g s off (eLs cells)) h fun v hv=>by rw [q2E,hv];rfl
   refine OKQ.mk (v:=v) (us:=[]) (rd:=[key]) ?_ ?_ h2
   ·simp [q5G,eV,eL,Q.run,q0f,hk,eO,q0D,h1,Q.opt,Q.bind,q0j,q0s]
   ·simp [q5G,eV,eL,Q.reads,q0f,hk,eO,q0D,h1,Q.opt,Q.bind]
  ·cases h
 ·rename_i key i off c
  split at h
  ·rename_i rows size elem own hk
   obtain ⟨hc,h⟩:=q0K h
   obtain ⟨w,h1,h2,h⟩:=q3j h
   rw [q21 h2] at h
   obtain ⟨v,h3,h4⟩:=q3c (o':=q1c g s off (w.map .d)) h fun v hv=>by rw [←qiw,q2E,hv];rfl
   have hc':c=rows.length:=hc
   refine OKQ.mk (v:=v) (us:=[]) (rd:=[key]) ?_ ?_ h4
   ·simp [q5G,eV,eL,Q.run,q0f,hk,eO,q0D,h1,h3,Q.opt,Q.bind,q0j,q0s,Q.guard,hc']
   ·simp [q5G,eV,eL,Q.reads,q0f,hk,eO,q0D,h1,h3,Q.opt,Q.bind,Q.guard,hc']
  ·cases h
 ·rename_i row off
  obtain ⟨v,h1,h2⟩:=q3c (o':=q1c g s off (row.map .d)) h fun v hv=>by rw [←qiw,q2E,hv];rfl
  refine OKQ.mk (v:=v) (us:=[]) (rd:=[]) ?_ ?_ h2
  ·simp [q5G,eV,eL,Q.run,q0D,h1,Q.opt,Q.bind,q0j,q0s]
  ·simp [q5G,eV,eL,Q.reads,q0D,h1,Q.opt,Q.bind]
 ·cases h
theorem qe5 {x:L3r} {k:D→Ur→List Nat→Out} (h:frz3 (q05 Fn FnD m) ob x k=some r):∃ d us rd,(frz (eL x)).run (q09 (eOb ob))=some (d,eOb us)∧(∀ q∈(frz (eL x)).reads (q09 (eOb ob)),q∈rd)∧k d us rd=some r:=by
 unfold frz3 at h
 split at h
 ·rename_i key off n c
  split at h
  ·rename_i rows size elem own hk
   obtain ⟨hc,h⟩:=q0K h
   have hc':c=rows.length:=hc
   refine ⟨_,_,_,?_,?_,h⟩
   ·simp [frz,eL,Q.run,q0f,hk,eO,Q.guard,hc',q05,q0j,q0s]
   ·simp [frz,eL,Q.reads,q0f,hk,eO,Q.guard,hc']
  ·cases h
 ·rename_i key
  split at h
  ·rename_i agg mm own hk
   refine ⟨_,_,_,?_,?_,h⟩
   ·simp [frz,eL,Q.run,q0f,hk,eO,q05,q0j,q0s]
   ·simp [frz,eL,Q.reads,q0f,hk,eO]
  ·cases h
 ·split at h
  ·rename_i y hy
   refine ⟨_,_,_,?_,?_,h⟩
   ·rw [q1N hy];simp [frz,Q.run,q0j,q0s]
   ·rw [q1N hy];simp [frz,Q.reads]
  ·cases h
theorem q4r:∀ {xs:List L3r} {k:List D→Ur→List Nat→Out},q9A (q05 Fn FnD m) ob xs k=some r→∃ ds us rd,(q4U (eLs xs)).run (q09 (eOb ob))=some (ds,eOb us)∧(∀ q∈(q4U (eLs xs)).reads (q09 (eOb ob)),q∈rd)∧k ds us rd=some r
 | [],k,h=>⟨[],[],[],by simp [eLs,q4U,Q.run,q0j,q0s],by simp [eLs,q4U,Q.reads],h⟩
 | x::xs,k,h=>by
  simp only [q9A] at h
  obtain ⟨d,us,rd,h1,h2,h⟩:=qe5 h
  obtain ⟨ds,us',rd',h3,h4,h⟩:=q4r h
  refine ⟨_,_,_,?_,?_,h⟩
  ·simp [eLs,q4U,Q.run_bind,h1,h3,Q.run,q2G]
  ·intro q hq
   simp only [eLs,q4U,Q.reads_bind,h1,h3,List.mem_append,Q.reads,List.not_mem_nil,or_false] at hq
   rcases hq with hq | hq
   ·exact List.mem_append_left _ (h2 q hq)
   ·exact List.mem_append_right _ (h4 q hq)
theorem q2P {dst:Option Nat} {o:O3r} {v:Nat→V3r} {v':Nat→V} {k:K3 D Nat Rr Mr Out} (h:q37 (q05 Fn FnD m) ob dst o v k=some r) (hv:∀ q,eV (v q)=v' q):OKQ ob (q24 dst (eO o) v') k r:=by
 unfold q37 at h
 split at h
 ·rename_i key
  split at h
  ·rename_i hk
   refine OKQ.mk ?_ ?_ h
   ·simp [q24,Q.run,q0f,hk,hv,q0j,q0s]
   ·simp [q24,Q.reads,q0f,hk]
  ·cases h
 ·cases h
theorem qd1 {x:V3r} {cs:List L3r} {k:K3 D Nat Rr Mr Out} (h:qd2 (q05 Fn FnD m) ob x cs k=some r):OKQ ob (q5Z (eV x) (eLs cs)) k r:=by
 unfold qd2 at h
 split at h
 ·rename_i key off
  split at h
  ·rename_i cells elem hk
   split at h
   ·rename_i hle
    refine OKQ.mk ?_ ?_ h
    ·simp [q5Z,eV,eL,Q.run,q0f,hk,eO,Q.guard,q2g,hle,q0j,q0s,q12,List.map_take,List.map_drop,decide_eq_true hle]
    ·simp [q5Z,eV,eL,Q.reads,q0f,hk,eO,Q.guard,q2g,hle]
   ·cases h
  ·cases h
 ·rename_i key i off c
  split at h
  ·rename_i rows size elem own hk
   split at h
   ·obtain ⟨hc,h⟩:=q0K h
    have hc':c=rows.length:=hc
    obtain ⟨w,h1,h2,h⟩:=q3j h
    obtain ⟨ds,us,rd,h3,h4,h⟩:=q4r h
    rw [q21 h2] at h
    split at h
    ·split at h
     ·rename_i hle
      refine OKQ.mk ?_ ?_ h
      ·simp only [q5Z,eV,eL,Q.run,q0f,hk,Option.map_some,eO,Q.guard,hc',decide_true,Bool.and_true,h1,Q.opt,Q.bind,Q.run_bind,h3,Option.bind_some,h2,hle,q0j,q0s,List.isEmpty_nil]
       simp [q05]
      ·intro q hq
       simp only [q5Z,eV,eL,Q.reads,q0f,hk,Option.map_some,eO,Q.guard,hc',decide_true,Bool.and_true,h1,Q.opt,Q.bind,Q.reads_bind,h3,h2,hle,q0j,q0s,List.isEmpty_nil,List.mem_cons,List.mem_append,List.not_mem_nil,or_false] at hq
       rcases hq with rfl | hq
       ·simp
       ·exact List.mem_cons_of_mem _ (h4 q hq)
     ·cases h
    ·cases h
   ·cases h
  ·cases h
 ·cases h
end Go.VE
namespace Go.VE
open Go.RowKit
variable {P:Program} {Fn:Nat→List D→Out} {FnD:D→List Sh→List D→Out} {m:Nat} {r:Nat×List Yr} {ob:Ur}
theorem q4k {rec:L3r→(D→List Nat→Out)→Out} {f:L→Q D} (hrec:∀ x k,rec x k=some r→∃ d rd,(f (eL x)).run (q09 (eOb ob))=some d∧(∀ q∈(f (eL x)).reads (q09 (eOb ob)),q∈rd)∧k d rd=some r) :
  ∀ {xs:List L3r} {k:List D→List Nat→Out},q8T rec xs k=some r→∃ ds rd,(Q.mapM f (eLs xs)).run (q09 (eOb ob))=some ds∧(∀ q∈(Q.mapM f (eLs xs)).reads (q09 (eOb ob)),q∈rd)∧ds.length=xs.length∧k ds rd=some r
 | [],k,h=>⟨[],[],by simp [eLs,Q.mapM,Q.run],by simp [eLs,Q.mapM,Q.reads],rfl,h⟩
 | x::xs,k,h=>by
  simp only [q8T] at h
  obtain ⟨d,rd,h1,h2,h⟩:=hrec _ _ h
  obtain ⟨ds,rd',h3,h4,h5,h⟩:=q4k hrec h
  refine ⟨_,_,?_,?_,?_,h⟩
  ·simp [eLs,Q.mapM,Q.run_bind,h1,h3,Q.run]
  ·intro q hq
   simp only [eLs,Q.mapM,Q.reads_bind,h1,h3,List.mem_append,Q.reads,List.not_mem_nil,or_false] at hq
   rcases hq with hq | hq
   ·exact List.mem_append_left _ (h2 q hq)
   ·exact List.mem_append_right _ (h4 q hq)
  ·simp [h5]
theorem q6r:∀ (n:Nat) (x:L3r) (k:D→List Nat→Out),q4S (q05 Fn FnD m) ob n x k=some r→∃ d rd,(toD n (eL x)).run (q09 (eOb ob))=some d∧(∀ q∈(toD n (eL x)).reads (q09 (eOb ob)),q∈rd)∧k d rd=some r:=by
 intro n
 induction n with
 | zero =>
  intro x k h
  cases x with
  | slk key off n' c =>
   simp only [q4S] at h
   split at h
   ·rename_i rows size elem own hk
    obtain ⟨hc,h⟩:=q0K h
    have hc':c=rows.length:=hc
    refine ⟨_,_,?_,?_,h⟩
    ·simp [toD,eL,Q.run,q0f,hk,eO,Q.guard,hc',q05]
    ·simp [toD,eL,Q.reads,q0f,hk,eO,Q.guard,hc']
   ·cases h
  | pa key i off c =>
   simp only [q4S] at h
   split at h
   ·rename_i rows size elem own hk
    obtain ⟨hc,h⟩:=q0K h
    have hc':c=rows.length:=hc
    obtain ⟨w,h1,h2,h⟩:=q3j h
    rw [q21 h2] at h
    refine ⟨_,_,?_,?_,h⟩
    ·simp [toD,eL,Q.run,q0f,hk,eO,Q.guard,hc',h1,Q.opt,Q.bind,q05]
    ·simp [toD,eL,Q.reads,q0f,hk,eO,Q.guard,hc',h1,Q.opt,Q.bind]
   ·cases h
  | mk key =>
   simp only [q4S] at h
   split at h
   ·rename_i agg mm own hk
    refine ⟨_,_,?_,?_,h⟩
    ·simp [toD,eL,Q.run,q0f,hk,eO,q05]
    ·simp [toD,eL,Q.reads,q0f,hk,eO]
   ·cases h
  | ptr _ _=>simp [q4S,q4T,q05] at h
  | fn _ _=>simp [q4S,q4T,q05] at h
  | undef=>simp [q4S,q4T,q05] at h
  | d x=>simp only [q4S,q4T] at h;exact ⟨_,_,by simp [eL,toD,Q.run],by simp [eL,toD,Q.reads],h⟩
  | b x=>simp only [q4S,q4T] at h;exact ⟨_,_,by simp [eL,toD,Q.run,q05],by simp [eL,toD,Q.reads],h⟩
  | i x y=>simp only [q4S,q4T] at h;exact ⟨_,_,by simp [eL,toD,Q.run,q05],by simp [eL,toD,Q.reads],h⟩
  | nil=>simp only [q4S,q4T] at h;exact ⟨_,_,by simp [eL,toD,Q.run,q05],by simp [eL,toD,Q.reads],h⟩
  | dp x y=>simp only [q4S,q4T] at h;exact ⟨_,_,by simp [eL,toD,Q.run,q05],by simp [eL,toD,Q.reads],h⟩
 | succ n ih =>
  intro x k h
  cases x with
  | slk key off n' c =>
   simp only [q4S] at h
   split at h
   ·rename_i rows size elem own hk
    obtain ⟨hc,h⟩:=q0K h
    have hc':c=rows.length:=hc
    refine ⟨_,_,?_,?_,h⟩
    ·simp [toD,eL,Q.run,q0f,hk,eO,Q.guard,hc',q05]
    ·simp [toD,eL,Q.reads,q0f,hk,eO,Q.guard,hc']
   ·cases h
  | pa key i off c =>
   simp only [q4S] at h
   split at h
   ·rename_i rows size elem own hk
    obtain ⟨hc,h⟩:=q0K h
    have hc':c=rows.length:=hc
    obtain ⟨w,h1,h2,h⟩:=q3j h
    rw [q21 h2] at h
    refine ⟨_,_,?_,?_,h⟩
    ·simp [toD,eL,Q.run,q0f,hk,eO,Q.guard,hc',h1,Q.opt,Q.bind,q05]
    ·simp [toD,eL,Q.reads,q0f,hk,eO,Q.guard,hc',h1,Q.opt,Q.bind]
   ·cases h
  | mk key =>
   simp only [q4S] at h
   split at h
   ·rename_i agg mm own hk
    refine ⟨_,_,?_,?_,h⟩
    ·simp [toD,eL,Q.run,q0f,hk,eO,q05]
    ·simp [toD,eL,Q.reads,q0f,hk,eO]
   ·cases h
  | ptr key off =>
   simp only [q4S] at h
   split at h
   ·rename_i cells elem hk
    obtain ⟨ds,rd,h1,h2,_,h⟩:=q4k (f:=toD n) ih h
    refine ⟨_,_,?_,?_,h⟩
    ·simp [toD,eL,Q.run,q0f,hk,eO,Q.run_bind,h1,q05]
    ·intro q hq
     simp only [toD,eL,Q.reads,q0f,hk,Option.map_some,eO,Q.reads_bind,h1,List.mem_cons,List.mem_append,List.not_mem_nil,or_false] at hq
     rcases hq with rfl | hq
     ·simp
     ·exact List.mem_cons_of_mem _ (h2 q hq)
   ·cases h
  | fn f cs =>
   simp only [q4S] at h
   obtain ⟨ds,rd,h1,h2,_,h⟩:=q4k (f:=toD n) ih h
   refine ⟨_,_,?_,?_,h⟩
   ·simp [toD,eL,Q.run_bind,h1,Q.run,q05]
   ·intro q hq
    simp only [toD,eL,Q.reads_bind,h1,Q.reads,List.mem_append,List.not_mem_nil,or_false] at hq
    exact h2 q hq
  | undef=>simp [q4S,q4T,q05] at h
  | d x=>simp only [q4S,q4T] at h;exact ⟨_,_,by simp [eL,toD,Q.run],by simp [eL,toD,Q.reads],h⟩
  | b x=>simp only [q4S,q4T] at h;exact ⟨_,_,by simp [eL,toD,Q.run,q05],by simp [eL,toD,Q.reads],h⟩
  | i x y=>simp only [q4S,q4T] at h;exact ⟨_,_,by simp [eL,toD,Q.run,q05],by simp [eL,toD,Q.reads],h⟩
  | nil=>simp only [q4S,q4T] at h;exact ⟨_,_,by simp [eL,toD,Q.run,q05],by simp [eL,toD,Q.reads],h⟩
  | dp x y=>simp only [q4S,q4T] at h;exact ⟨_,_,by simp [eL,toD,Q.run,q05],by simp [eL,toD,Q.reads],h⟩
theorem qaO {x:L3r} {k:IntKind} {z:Int} (h:q4T (q05 Fn FnD m) x=some (.lit (.int k z))):vInt? (.one (eL x))=some (k,z):=by rw [q1N h];rfl
theorem qdW {es:Nat} {x:V3r} {k:K3 D Nat Rr Mr Out} {j:Nat} (h:idxC (q05 Fn FnD m) es x k j=some r):∃ v,q2S (j*es) (eV x)=some (eV v)∧k v [] []=some r:=by
 unfold idxC at h
 exact q3c (o':=q2S (j*es) (eV x)) h fun v hv=>q7e hv
theorem q9u {arr:Option Nat} {e:Nat} {es:Nat} {x:V3r} {i:L3r} {k:K3 D Nat Rr Mr Out} (h:qbn (q05 Fn FnD m) arr es ob x i k=some r):∃ kk z,vInt? (.one (eL i))=some (kk,z)∧OKQ ob (q2y (arr.map fun n=>(n,e)) es (eV x) z) k r:=by
 unfold qbn at h
 cases arr with
 | some n =>
  simp only at h
  split at h
  ·rename_i kk z
   split at h
   ·rename_i hz
    obtain ⟨v,h1,h2⟩:=qdW h
    refine ⟨kk,z,rfl,OKQ.mk (v:=v) (us:=[]) (rd:=[]) ?_ ?_ h2⟩
    ·simp [q2y,q0D,hz,h1,Q.opt,Q.bind,Q.run,q0j]
    ·simp [q2y,q0D,hz,h1,Q.opt,Q.bind,Q.reads]
   ·cases h
  ·rename_i y
   obtain ⟨kk,z,rfl,hz,h⟩:=q90 h
   simp only [selR,List.getElem?_map] at h
   rw [List.getElem?_range (by omega)] at h
   obtain ⟨v,h1,h2⟩:=qdW (Fn:=Fn) (FnD:=FnD) (m:=m) h
   refine ⟨kk,z,rfl,OKQ.mk (v:=v) (us:=[]) (rd:=[]) ?_ ?_ h2⟩
   ·simp [q2y,q0D,hz,h1,Q.opt,Q.bind,Q.run,q0j]
   ·simp [q2y,q0D,hz,h1,Q.opt,Q.bind,Q.reads]
  ·cases h
 | none =>
  simp only at h
  split at h
  ·cases h
  ·rename_i y hy
   split at h
   ·rename_i key off n c
    split at h
    ·rename_i rows size elem own hk
     split at h
     ·rename_i hs
      subst hs
      obtain ⟨hc,h⟩:=q0K h
      have hc':c=rows.length:=hc
      obtain ⟨kk,z,rfl,hz,h⟩:=qfs h
      refine ⟨kk,z,qaO hy,OKQ.mk ?_ ?_ h⟩
      ·simp only [q2y,eV,eL,Q.run,q0f,hk,Option.map_some,Option.map_none,eO,Q.guard,hc',and_self,decide_true,q0D,Q.opt,Q.bind,q0j]
       rw [if_pos hz]
       cases off<;>simp [Q.run,Q.bind,q05]
      ·simp only [q2y,eV,eL,Q.reads,q0f,hk,Option.map_some,Option.map_none,eO,Q.guard,hc',and_self,decide_true,q0D,Q.opt,Q.bind]
       rw [if_pos hz]
       simp [Q.reads,Q.bind]
     ·cases h
    ·cases h
   ·rename_i z0
    obtain ⟨rows,kk,z,w,rfl,rfl,hz,hw,hl,h⟩:=qd8 h
    rw [q21 hl] at h
    refine ⟨kk,z,qaO hy,OKQ.mk ?_ ?_ h⟩
    ·simp [q2y,eV,eL,Q.guard,hz,hw,q0D,Q.opt,Q.bind,Q.run,q0j]
    ·simp [q2y,eV,eL,Q.guard,hz,hw,q0D,Q.opt,Q.bind,Q.reads]
   ·cases h
theorem q2m {ρ:Operand→V3r} {o:Option Operand} {d:Option D} {z:Option Int} (h:qc2 (q05 Fn FnD m) ρ o=some d) (hz:q4w d=some z):qcK (fun x=>eV (ρ x)) o=some z:=by
 unfold qc2 at h
 split at h
 ·cases h;simp only [q4w] at hz;cases hz;rfl
 ·split at h
  ·rename_i y hy
   cases h
   simp only [q4w,Option.map_eq_some_iff] at hz
   obtain ⟨n,hn,rfl⟩:=hz
   unfold intD at hn
   split at hn
   ·cases hn;simp [qcK,q3a hy,vInt?]
   ·cases hn
  ·cases h
theorem qiA {es:Nat} {x:V3r} {ρ:Operand→V3r} {lo hi:Option Operand} {l h':Option D} {k:K3 D Nat Rr Mr Out} (hl:qc2 (q05 Fn FnD m) ρ lo=some l) (hh:qc2 (q05 Fn FnD m) ρ hi=some h') (h:cutK (q05 Fn FnD m) es ob x l h' k=some r) :
  ∃ zl zh,qcK (fun x=>eV (ρ x)) lo=some zl∧qcK (fun x=>eV (ρ x)) hi=some zh∧OKQ ob (q9H es (eV x) zl zh) k r:=by
 unfold cutK at h
 split at h
 ·rename_i key off n c
  split at h
  ·rename_i rows size elem own hk
   split at h
   case isFalse=>cases h
   rename_i hs
   subst hs
   obtain ⟨hc,h⟩:=q0K h
   have hc':c=rows.length:=hc
   cases l with
   | none =>
    obtain ⟨zl,zh,hzl,hzh,hb,h | ⟨_,h⟩⟩:=qb0 h
    ·obtain ⟨hb2,h⟩:=h
     simp only [q4w,Option.some.injEq] at hzl
     subst hzl
     refine ⟨none,zh,q2m hl rfl,q2m hh hzh,OKQ.mk ?_ ?_ h⟩
     ·simp only [q9H,eV,eL,Q.run,q0f,hk,Option.map_some,eO,Q.guard,hc',and_self,decide_true,q0D,Q.opt,Q.bind,q0j]
      rw [if_pos hb,if_pos hb2]
      simp [Q.run,Q.bind]
     ·simp only [q9H,eV,eL,Q.reads,q0f,hk,Option.map_some,eO,Q.guard,hc',and_self,decide_true,q0D,Q.opt,Q.bind]
      rw [if_pos hb,if_pos hb2]
      simp [Q.reads,Q.bind]
    ·cases h
   | some y =>
    obtain ⟨zl,zh,hzl,hzh,hb,⟨hb2,h⟩ | ⟨hb2,h⟩⟩:=qb0 h
    ·refine ⟨zl,zh,q2m hl hzl,q2m hh hzh,OKQ.mk ?_ ?_ h⟩
     ·simp only [q9H,eV,eL,Q.run,q0f,hk,Option.map_some,eO,Q.guard,hc',and_self,decide_true,q0D,Q.opt,Q.bind,q0j]
      rw [if_pos hb,if_pos hb2]
      cases off<;>simp [Q.run,Q.bind,q05]
     ·simp only [q9H,eV,eL,Q.reads,q0f,hk,Option.map_some,eO,Q.guard,hc',and_self,decide_true,q0D,Q.opt,Q.bind]
      rw [if_pos hb,if_pos hb2]
      simp [Q.reads,Q.bind]
    ·refine ⟨zl,zh,q2m hl hzl,q2m hh hzh,OKQ.mk ?_ ?_ h⟩
     ·simp only [q9H,eV,eL,Q.run,q0f,hk,Option.map_some,eO,Q.guard,hc',and_self,decide_true,q0D,Q.opt,Q.bind,q0j]
      rw [if_pos hb,if_neg hb2]
      simp [Q.run,Q.bind,q05]
     ·simp only [q9H,eV,eL,Q.reads,q0f,hk,Option.map_some,eO,Q.guard,hc',and_self,decide_true,q0D,Q.opt,Q.bind]
      rw [if_pos hb,if_neg hb2]
      simp [Q.reads,Q.bind]
  ·cases h
 ·rename_i y
  obtain ⟨zl,zh,z,hzl,hzh,hz,h⟩:=qdc h
  refine ⟨zl,zh,q2m hl hzl,q2m hh hzh,?_⟩
  unfold qiB at hz
  split at hz
  ·rename_i size rows
   split at hz
   case isFalse=>cases hz
   rename_i hs
   subst hs
   split at hz
   ·rename_i hb
    cases hz
    refine OKQ.mk ?_ ?_ h
    ·simp only [q9H,eV,eL,Q.guard,decide_true,q0D,q0j]
     rw [if_pos hb]
     simp [Q.opt,Q.bind,Q.run]
    ·simp only [q9H,eV,eL,Q.guard,decide_true,q0D]
     rw [if_pos hb]
     simp [Q.opt,Q.bind,Q.reads]
   ·cases hz
  ·split at hz
   ·rename_i hb
    cases hz
    refine OKQ.mk ?_ ?_ h
    ·simp [q9H,eV,eL,q0D,hb,Q.opt,Q.bind,Q.run,q0j]
    ·simp [q9H,eV,eL,q0D,hb,Q.opt,Q.bind,Q.reads]
   ·cases hz
  ·cases hz
 ·obtain ⟨zl,zh,hzl,hzh,hb,h⟩:=q9W h
  refine ⟨zl,zh,q2m hl hzl,q2m hh hzh,OKQ.mk ?_ ?_ h⟩
  ·simp [q9H,eV,eL,q0D,hb,Q.opt,Q.bind,Q.run,q0j]
  ·simp [q9H,eV,eL,q0D,hb,Q.opt,Q.bind,Q.reads]
 ·cases h
end Go.VE
namespace Go.VE
open Go.RowKit
variable {P:Program} {Fn:Nat→List D→Out} {FnD:D→List Sh→List D→Out} {m:Nat} {r:Nat×List Yr} {ob:Ur}
theorem qaU {ρ:Operand→V3r} {size n:Nat}:∀ {parts:List (Nat×Operand)} {rows:Rr} {k:List (List D)→Ur→List Nat→Out},rows.length=n→qfn (q05 Fn FnD m) ob size n rows (parts.map fun p=>(p.1,ρ p.2)) k=some r →
  ∃ rows' us rd,(q1S (fun x=>eV (ρ x)) size rows parts).run (q09 (eOb ob))=some (rows',eOb us)∧(∀ q∈(q1S (fun x=>eV (ρ x)) size rows parts).reads (q09 (eOb ob)),q∈rd)∧k rows' us rd=some r
 | [],rows,k,hn,h=>⟨rows,[],[],by simp [q1S,Q.run,q0j],by simp [q1S,Q.reads],h⟩
 | (i,x)::rest,rows,k,hn,h=>by
  simp only [List.map_cons,qfn] at h
  split at h
  ·cases h
  ·rename_i cs hcs
   split at h
   ·rename_i hc
    obtain ⟨ds,us,rd,h1,h2,h⟩:=q4r h
    obtain ⟨rows',us',rd',h3,h4,h⟩:=qaU (rows:=rows.set i ds) (by simp [hn]) h
    have hce:(eV (ρ x)).cells=some (eLs cs):=by rw [q7a,hcs];rfl
    have hgd:(decide ((eLs cs).length=size∧i < rows.length))=true:=by simp [q2g,hc,hn]
    refine ⟨_,_,_,?_,?_,h⟩
    ·simp only [q1S,hce,Q.opt,Q.bind,hgd,Q.guard,Q.run_bind,h1,h3,Option.bind_some,Q.run,q2G]
    ·intro q hq
     simp only [q1S,hce,Q.opt,Q.bind,hgd,Q.guard,Q.reads_bind,h1,h3,Q.reads,List.append_nil,List.mem_append] at hq
     rcases hq with hq | hq
     ·exact List.mem_append_left _ (h2 q hq)
     ·exact List.mem_append_right _ (h4 q hq)
   ·cases h
theorem qhM {es:Nat} {x:V3r} {k:Rr→List Nat→Out} (h:srcK (q05 Fn FnD m) es ob x k=some r):∃ rows rd,(q1Q es (eV x)).run (q09 (eOb ob))=some rows∧(∀ q∈(q1Q es (eV x)).reads (q09 (eOb ob)),q∈rd)∧k rows rd=some r:=by
 unfold srcK at h
 split at h
 ·exact ⟨[],[],by simp [q1Q,eV,eL,Q.run],by simp [q1Q,eV,eL,Q.reads],h⟩
 ·obtain ⟨rows,hr,h⟩:=q7H h
  refine ⟨rows,[],?_,?_,h⟩
  ·unfold q4Z at hr
   split at hr
   ·cases hr;simp [q1Q,eV,eL,Q.run]
   ·split at hr
    ·rename_i hs;cases hr;simp [q1Q,eV,eL,Q.run,Q.guard,hs]
    ·cases hr
   ·cases hr
  ·unfold q4Z at hr
   split at hr
   ·simp [q1Q,eV,eL,Q.reads]
   ·split at hr
    ·rename_i hs;simp [q1Q,eV,eL,Q.reads,Q.guard,hs]
    ·cases hr
   ·cases hr
 ·rename_i key off n c
  split at h
  ·rename_i rows size elem own hk
   split at h
   ·rename_i hs
    subst hs
    obtain ⟨hc,h⟩:=q0K h
    have hc':c=rows.length:=hc
    refine ⟨_,_,?_,?_,h⟩
    ·simp [q1Q,eV,eL,Q.run,q0f,hk,eO,Q.guard,hc',q05]
    ·simp [q1Q,eV,eL,Q.reads,q0f,hk,eO,Q.guard,hc']
   ·cases h
  ·cases h
 ·cases h
theorem qcC {dst:Option Nat} {elem size bytes:Nat} {s:V3r} {new:Rr} {rd:List Nat} {k:K3 D Nat Rr Mr Out} (h:qap (q05 Fn FnD m) ob dst elem size bytes s new rd k=some r) :
  ∃ v us rd',(q2h dst elem size bytes (eV s) new).run (q09 (eOb ob))=some (eV v,eOb us)∧(∀ q∈(q2h dst elem size bytes (eV s) new).reads (q09 (eOb ob)),q∈rd')∧k v us (rd++rd')=some r:=by
 unfold qap at h
 have nilc:q8E (q05 Fn FnD m) ob dst elem size bytes (.one .nil) new rd k=some r→∃ v us rd',(q2h dst elem size bytes (.one (.d (.lit (.slice none 0 0)))) new).run (q09 (eOb ob))=some (eV v,eOb us)∧(∀ q∈(q2h dst elem size bytes (.one (.d (.lit (.slice none 0 0)))) new).reads (q09 (eOb ob)),q∈rd')∧k v us (rd++rd')=some r:=by
  intro h
  unfold q8E at h
  rcases q7I h with ⟨hn0,h9⟩ | ⟨hne,h⟩
  ·subst hn0
   refine ⟨.one .nil,[],[],?_,?_,by simpa using h9⟩
   ·simp [q2h,eV,eL,Q.run,q0j]
   ·simp [q2h,Q.reads]
  ·obtain ⟨h1,h2,h⟩:=q50 h
   have h1':new.length*bytes≤140737488355328:=h1
   have h2':new.length≤maxLen:=h2
   obtain ⟨v,us,rd',h3,h4,h⟩:=q2P (v':=fun key=>.one (.slk key 0 new.length new.length)) h (fun q=>by simp [eV,eL,q05])
   refine ⟨v,us,rd',?_,?_,h⟩
   ·simp only [q2h]
    rw [if_neg hne,show decide (new.length*bytes≤140737488355328∧new.length≤maxLen)=true from by simp [h1',h2']]
    exact h3
   ·intro q hq
    simp only [q2h] at hq
    rw [if_neg hne,show decide (new.length*bytes≤140737488355328∧new.length≤maxLen)=true from by simp [h1',h2']] at hq
    exact h4 q hq
 split at h
 ·exact nilc h
 ·obtain ⟨rfl,h⟩:=q42 h
  exact nilc h
 ·rename_i key n c
  split at h
  ·rename_i rows size' elem' own hk
   split at h
   ·split at h
    ·rename_i hse
     obtain ⟨rfl,rfl⟩:=hse
     obtain ⟨hc,h⟩:=q0K h
     have hc':c=rows.length:=hc
     obtain ⟨hn,h⟩:=q0K h
     have hn':n=rows.length:=hn
     obtain ⟨h1,h2,h9⟩:=q50 h
     have h1':(n+new.length)*bytes≤140737488355328:=h1
     have h2':n+new.length≤maxLen:=h2
     subst hn' hc'
     refine ⟨_,_,[key],?_,?_,h9⟩
     ·simp [q2h,eV,eL,Q.run,q0f,hk,eO,Q.guard,h1',h2',q05,q0j,q0s]
     ·simp [q2h,eV,eL,Q.reads,q0f,hk,eO,Q.guard,h1',h2']
    ·cases h
   ·cases h
  ·cases h
 ·cases h
theorem qdG {x:D} {v:Value} (h:qhf x=some v):x=.lit v:=by
 unfold qhf at h;split at h<;>cases h;rfl
theorem qfJ {kd:Nat} {agg ok:Bool} {zs:List Value} {mm:Mr} {key:D} {p:List D×D} (h:q8o kd zs mm key=some p):∃ v b,key=.lit v∧q6T kd v=true∧p.2=.lit (.bool b)∧p.1.length=zs.length∧(q3J kd v mm.1 0).bind (qcc agg zs mm.2)=(mkV agg (p.1.map .d)).map fun u=>(u,b):=by
 unfold q8o at h
 split at h
 ·rename_i v hv
  have:=qdG hv
  subst this
  split at h
  ·rename_i hk
   split at h
   ·rename_i j hf
    split at h
    ·rename_i w hw
     split at h
     ·rename_i hl
      cases h
      exact ⟨v,true,rfl,hk,rfl,hl,by simp [hf,qcc,hw]⟩
     ·cases h
    ·cases h
   ·rename_i hf
    cases h
    refine ⟨v,false,rfl,hk,rfl,by simp,?_⟩
    simp [hf,qcc,q4x,Function.comp_def]
   ·cases h
  ·cases h
 ·cases h
theorem qfI {kd:Nat} {agg ok:Bool} {zs:List Value} {x:V3r} {key:D} {k:K3 D Nat Rr Mr Out} (h:qi8 (q05 Fn FnD m) kd agg ok zs ob x key k=some r):∃ v,key=.lit v∧q6T kd v=true∧OKQ ob (q6N kd agg ok zs (eV x) v) k r:=by
 have fin:∀ (mm:Mr) (rd:List Nat) (F:List D→D→Out),(q05 Fn FnD m).look kd zs mm key F=some r→(∀ w f,F w f=some r→∃ v,mkV3 agg ((cellsOf (q05 Fn FnD m) zs.length w).map .d)=some v∧k (if ok then .tup [v,.one (.d f)] else v) [] rd=some r)→∃ v u b,key=.lit v∧q6T kd v=true∧(q3J kd v mm.1 0).bind (qcc agg zs mm.2)=some (eV u,b)∧k (if ok then .tup [u,.one (.d (.lit (.bool b)))] else u) [] rd=some r:=by
  intro mm rd F h hF
  obtain ⟨p,hp,h⟩:=qd9 h
  obtain ⟨v,b,h1,h2,h3,h4,h5⟩:=qfJ (agg:=agg) (ok:=ok) hp
  obtain ⟨u,hu,h⟩:=hF _ _ h
  rw [q21 h4] at hu
  refine ⟨v,u,b,h1,h2,?_,by rw [←h3];exact h⟩
  rw [h5,← qiw,mkV_e,hu];rfl
 have tupe:∀ (u:V3r) (b:Bool),eV (if ok then .tup [u,.one (.d (.lit (.bool b)))] else u)=if ok then .tup [eV u,q1O (.bool b)] else eV u:=by
  intro u b;cases ok<;>simp [eV,eVs,eL,q1O]
 unfold qi8 at h
 simp only at h
 split at h
 ·rename_i y
  obtain ⟨mm,hm,h⟩:=qb1 h
  obtain ⟨v,u,b,h1,h2,h3,h4⟩:=fin mm [] _ h (fun w f hw=>by split at hw;exact ⟨_,‹_›,hw⟩;cases hw)
  refine ⟨v,h1,h2,OKQ.mk ?_ ?_ h4⟩
  ·rw [tupe,q0j]
   unfold qiF at hm
   split at hm
   ·split at hm
    ·rename_i hg
     cases hm
     subst hg
     simp only at h3
     simp [q6N,eV,eL,Q.guard,h3,Q.opt,Q.bind,Q.run]
    ·cases hm
   ·cases hm
    have h3':qcc agg zs [] none=some (eV u,b):=by simpa [q3J] using h3
    simp [q6N,eV,eL,h3',Q.opt,Q.bind,Q.run]
   ·cases hm
  ·unfold qiF at hm
   split at hm
   ·split at hm
    ·rename_i hg
     cases hm
     subst hg
     simp only at h3
     simp [q6N,eV,eL,Q.guard,h3,Q.opt,Q.bind,Q.reads]
    ·cases hm
   ·cases hm
    have h3':qcc agg zs [] none=some (eV u,b):=by simpa [q3J] using h3
    simp [q6N,eV,eL,h3',Q.opt,Q.bind,Q.reads]
   ·cases hm
 ·rename_i q
  split at h
  ·rename_i agg' mm own hk
   split at h
   ·rename_i hg
    have hg':agg=agg':=by simpa using hg
    subst hg'
    obtain ⟨v,u,b,h1,h2,h3,h4⟩:=fin mm [q] _ h (fun w f hw=>by split at hw;exact ⟨_,‹_›,hw⟩;cases hw)
    refine ⟨v,h1,h2,OKQ.mk ?_ ?_ h4⟩
    ·rw [tupe,q0j]
     simp [q6N,eV,eL,Q.run,Q.bind,q0f,hk,eO,Q.guard,h3,Q.opt]
    ·simp [q6N,eV,eL,Q.reads,Q.bind,q0f,hk,eO,Q.guard,h3,Q.opt]
   ·cases h
  ·cases h
 ·cases h
theorem qhI {kd:Nat} {agg:Bool} {x v:V3r} {key:D} {k:K3 D Nat Rr Mr Out} (h:updK (q05 Fn FnD m) kd agg ob x key v k=some r):∃ kv,key=.lit kv∧OKQ ob (qgQ kd agg (eV x) kv (eV v)) k r:=by
 unfold updK at h
 split at h
 ·rename_i q
  split at h
  ·rename_i agg' mm own hk
   split at h
   ·rename_i hc
    simp only [Bool.and_eq_true,beq_iff_eq] at hc
    obtain ⟨⟨rfl,rfl⟩,ha⟩:=hc
    split at h
    ·cases h
    ·rename_i cs hcs
     obtain ⟨ds,us,rd,h1,h2,h⟩:=q4r h
     split at h
     ·obtain ⟨m',hm,h⟩:=qfq h
      unfold qhJ at hm
      split at hm
      ·rename_i kv hkv
       have:=qdG hkv
       subst this
       split at hm
       ·rename_i hkey
        have hce:(eV v).cells=some (eLs cs):=by rw [q7a,hcs];rfl
        have hag:(q2M (eV v)==agg)=true:=by rw [qif];simpa using ha
        refine ⟨kv,rfl,?_⟩
        split at hm
        ·rename_i j hf
         cases hm
         refine OKQ.mk ?_ ?_ h
         ·simp only [qgQ,eV,eL,Q.run,q0f,hk,Option.map_some,eO,hag,hkey,beq_self_eq_true,Bool.and_self,Q.guard,hce,Q.opt,Q.bind,Q.run_bind,h1,Option.bind_some,q0j,List.isEmpty_nil,hf,q0s]
         ·intro y hy
          simp only [qgQ,eV,eL,Q.reads,q0f,hk,Option.map_some,eO,hag,hkey,beq_self_eq_true,Bool.and_self,Q.guard,hce,Q.opt,Q.bind,Q.reads_bind,h1,q0j,List.isEmpty_nil,hf,List.append_nil,List.mem_cons] at hy
          rcases hy with rfl | hy
          ·simp
          ·exact List.mem_cons_of_mem _ (h2 y hy)
        ·rename_i hf
         cases hm
         refine OKQ.mk ?_ ?_ h
         ·simp only [qgQ,eV,eL,Q.run,q0f,hk,Option.map_some,eO,hag,hkey,beq_self_eq_true,Bool.and_self,Q.guard,hce,Q.opt,Q.bind,Q.run_bind,h1,Option.bind_some,q0j,List.isEmpty_nil,hf,q0s]
         ·intro y hy
          simp only [qgQ,eV,eL,Q.reads,q0f,hk,Option.map_some,eO,hag,hkey,beq_self_eq_true,Bool.and_self,Q.guard,hce,Q.opt,Q.bind,Q.reads_bind,h1,q0j,List.isEmpty_nil,hf,List.append_nil,List.mem_cons] at hy
          rcases hy with rfl | hy
          ·simp
          ·exact List.mem_cons_of_mem _ (h2 y hy)
        ·cases hm
       ·cases hm
      ·cases hm
     ·cases h
   ·cases h
  ·cases h
 ·cases h
theorem qi3 {mx:Bool} {a b z:D} (h:mmD mx a b=some z):mm2 mx (.one (.d a)) (.one (.d b))=some (.one (.d z)):=by
 unfold mmD at h
 split at h
 ·split at h
  ·rename_i hk;cases h;simp [mm2,vInt?,hk,q1O]
  ·cases h
 ·cases h
theorem qdz {mx:Bool}:∀ {l:List D} {a:D} {k:D→Out},mmK (q05 Fn FnD m) mx a l k=some r→∃ z,mmF mx (.one (.d a)) (l.map fun x=>.one (.d x))=some (.one (.d z))∧k z=some r
 | [],a,k,h=>⟨a,rfl,h⟩
 | y::l,a,k,h=>by
  simp only [mmK] at h
  obtain ⟨z,hz,h⟩:=qhT h
  obtain ⟨z',h1,h2⟩:=qdz h
  exact ⟨z',by simp only [List.map_cons,mmF,qi3 hz,Option.bind_some];exact h1,h2⟩
theorem q8h {ρ:Operand→V3r}:∀ {xs:List Operand} {ys:List D},qc3 (q05 Fn FnD m) ρ xs=some ys→xs.map (fun x=>eV (ρ x))=ys.map fun y=>.one (.d y)
 | [],ys,h=>by simp only [qc3,Option.some.injEq] at h;subst h;rfl
 | x::xs,ys,h=>by
  simp only [qc3] at h
  split at h
  ·rename_i y ys' h1 h2
   cases h
   simp only [List.map_cons,q3a h1,q8h h2]
  ·cases h
theorem q1R:∀ {xs:List L3r} {ys:List D},q8V (q05 Fn FnD m) xs=some ys→eLs xs=ys.map .d
 | [],ys,h=>by simp only [q8V,Option.some.injEq] at h;subst h;rfl
 | x::xs,ys,h=>by
  simp only [q8V] at h
  split at h
  ·rename_i y ys' h1 h2
   cases h
   simp only [eLs,q1N h1,q1R h2,List.map_cons]
  ·cases h
theorem qeA {op:BinOp} {t:Nat} {a b z:D} (h:qhy op (qgh P t) a b=some z):q9I P op t (.one (.d a)) (.one (.d b))=some (.one (.d z)):=by
 unfold qhy at h
 split at h
 ·simp only [Option.map_eq_some_iff] at h
  obtain ⟨v,hv,rfl⟩:=h
  simp [q9I,hv,q1O]
 ·split at h
  ·rename_i hb
   split at h
   ·cases h;simp [q9I,hb,q1O]
   ·cases h;simp [q9I,hb,q1O]
   ·cases h
  ·cases h
 ·simp only [Option.map_eq_some_iff] at h
  obtain ⟨v,hv,rfl⟩:=h
  simp [q9I,hv,q1O]
 ·cases h
theorem qiE {op:BinOp} {t:Nat} {x y:V3r} {k:K3 D Nat Rr Mr Out} (h:binK (q05 Fn FnD m) P op t x y k=some r):OKQ ob (q0D (q9I P op t (eV x) (eV y))) k r:=by
 unfold binK at h
 split at h
 ·split at h
  ·rename_i hel
   split at h
   ·rename_i a ha
    rcases q92 h with ⟨rfl,h⟩ | ⟨s,rows,rfl,h⟩
    ·refine OKQ.mk ?_ ?_ h<;>simp [eV,q1N ha,q9I,nilQ,hel,q0D,Q.opt,Q.bind,Q.run,Q.reads,eL,q0j,q1O]
    ·refine OKQ.mk ?_ ?_ h<;>simp [eV,q1N ha,q9I,nilQ,hel,q0D,Q.opt,Q.bind,Q.run,Q.reads,eL,q0j,q1O]
   ·rename_i a ha
    rcases q92 h with ⟨rfl,h⟩ | ⟨s,rows,rfl,h⟩
    ·refine OKQ.mk ?_ ?_ h<;>simp [eV,q1N ha,q9I,nilQ,hel,q0D,Q.opt,Q.bind,Q.run,Q.reads,eL,q0j,q1O]
    ·refine OKQ.mk ?_ ?_ h<;>simp [eV,q1N ha,q9I,nilQ,hel,q0D,Q.opt,Q.bind,Q.run,Q.reads,eL,q0j,q1O]
   ·cases h
  split at h
  ·rename_i a b ha hb
   obtain ⟨z,hz,h⟩:=qfv h
   refine OKQ.mk ?_ ?_ h
   ·simp [eV,q1N ha,q1N hb,qeA hz,q0D,Q.opt,Q.bind,Q.run,eL,q0j]
   ·simp [eV,q1N ha,q1N hb,qeA hz,q0D,Q.opt,Q.bind,Q.reads]
  ·cases h
 ·rename_i xs ys
  split at h
  ·rename_i ks xs' ys' hks hxs hys
   split at h
   ·rename_i hag
    split at h
    ·obtain ⟨b,hb,h⟩:=qaZ h
     refine OKQ.mk ?_ ?_ h
     ·simp [eV,q1R hxs,q1R hys,q9I,hks,hag,hb,q0D,Q.opt,Q.bind,Q.run,eL,q0j,q1O]
     ·simp [eV,q1R hxs,q1R hys,q9I,hks,hag,hb,q0D,Q.opt,Q.bind,Q.reads]
    ·obtain ⟨b,hb,h⟩:=qaZ h
     refine OKQ.mk ?_ ?_ h
     ·simp [eV,q1R hxs,q1R hys,q9I,hks,hag,hb,q0D,Q.opt,Q.bind,Q.run,eL,q0j,q1O]
     ·simp [eV,q1R hxs,q1R hys,q9I,hks,hag,hb,q0D,Q.opt,Q.bind,Q.reads]
    ·cases h
   ·cases h
  ·cases h
 ·cases h
theorem qfN {x:D} {n:Nat} (h:qfO x=some n):lenQ (.one (.d x))=some n:=by
 unfold qfO at h;split at h<;>cases h<;>rfl
end Go.VE
namespace Go.VE
open Go.RowKit
variable {P:Program} {Fn:Nat→List D→Out} {FnD:D→List Sh→List D→Out} {m:Nat} {r:Nat×List Yr} {ob:Ur}
theorem OKQ.pure {o:Option V} {v:V3r} {k:K3 D Nat Rr Mr Out} (ho:o=some (eV v)) (h:k v [] []=some r):OKQ ob (q0D o) k r:=by
 subst ho;exact OKQ.mk (us:=[]) (by simp [q0D,Q.opt,Q.bind,Q.run,q0j]) (by simp [q0D,Q.opt,Q.bind,Q.reads]) h
theorem OKQ.cond {q:Q Res} {k:K3 D Nat Rr Mr Out} (b:Bool) (hb:b=true) (h:OKQ ob q k r):OKQ ob (Q.guard b q) k r:=by subst hb;exact h
theorem OKQ.some {α:Type} {o:Option α} {a:α} {f:α→Q Res} {k:K3 D Nat Rr Mr Out} (ho:o=.some a) (h:OKQ ob (f a) k r):OKQ ob ((Q.opt o).bind f) k r:=by subst ho;exact h
theorem OKQ.bind {α:Type} {q:Q α} {a:α} {f:α→Q Res} {k:K3 D Nat Rr Mr Out} {v:V3r} {us:Ur} {rd rd':List Nat} (h1:q.run (q09 (eOb ob))=.some a) (h2:∀ x∈q.reads (q09 (eOb ob)),x∈rd) (h3:(f a).run (q09 (eOb ob))=.some (eV v,eOb us)) (h4:∀ x∈(f a).reads (q09 (eOb ob)),x∈rd') (h:k v us (rd++rd')=.some r):OKQ ob (q.bind f) k r:=by
 refine ⟨v,us,rd++rd',by rw [Q.run_bind,h1];exact h3,fun x hx=>?_,h⟩
 rw [Q.reads_bind,h1] at hx
 rcases List.mem_append.1 hx with hx | hx
 ·exact List.mem_append_left _ (h2 x hx)
 ·exact List.mem_append_right _ (h4 x hx)
theorem qcx {dst:Option Nat} {ρ:Operand→V3r} {c:Call} {k:K3 D Nat Rr Mr Out} (h:qal (q05 Fn FnD m) P ob dst ρ c k=some r):OKQ ob (aop P dst (fun x=>eV (ρ x)) (.call c)) k r:=by
 unfold qal at h
 simp only [aop]
 split at h
 ·
  rename_i hc
  simp only [hc]
  split at h
  ·rename_i x hx
   simp only [hx]
   split at h
   ·rename_i t ht
    simp only [ht]
    split at h
    ·rename_i e he
     simp only [he]
     split at h
     ·rename_i q o n c' hρ
      refine OKQ.pure (v:=.one (.d (.lit (.int .i64 n)))) ?_ h
      simp [hρ,eV,eL,lenQ,q1O]
     ·rename_i hρ
      refine OKQ.pure (v:=.one (.i .i64 0)) ?_ h
      simp [hρ,eV,eL,lenQ,q1O]
     ·rename_i y hρ
      obtain ⟨n,hn,h⟩:=qdb h
      refine OKQ.pure (v:=.one (.d (.lit (.int .i64 n)))) ?_ h
      simp [hρ,eV,eL,qfN hn,q1O]
     ·cases h
    ·rename_i he
     simp only [he]
     split at h
     ·rename_i hs
      simp only [hs,Q.guard]
      split at h
      ·rename_i y hy
       obtain ⟨s,rfl,h⟩:=qda h
       refine OKQ.pure (v:=.one (.d (.lit (.int .i64 s.size)))) ?_ h
       simp [q3a hy,qd0,eV,eL,q1O]
      ·cases h
     ·cases h
   ·cases h
  ·cases h
 ·
  rename_i hc
  simp only [hc]
  split at h
  ·rename_i x t hx ht
   simp only [hx,ht]
   split at h
   ·rename_i hρ
    split at h
    ·rename_i he
     have hρ':eV (ρ x)=.one (.d (.lit (.slice none 0 0))):=by rw [hρ];rfl
     simp only [hρ',he,Q.guard]
     exact OKQ.mk (v:=.one (.i .i64 0)) (us:=[]) (by simp [Q.run,eV,eL,q1O,q0j]) (by simp [Q.reads]) h
    ·cases h
   ·rename_i y hρ
    split at h
    ·rename_i he
     obtain ⟨rfl,h⟩:=q42 h
     have hρ':eV (ρ x)=.one (.d (.lit (.slice none 0 0))):=by rw [hρ];rfl
     simp only [hρ',he,Q.guard]
     exact OKQ.mk (v:=.one (.i .i64 0)) (us:=[]) (by simp [Q.run,eV,eL,q1O,q0j]) (by simp [Q.reads]) h
    ·cases h
   ·cases h
  ·cases h
 ·
  rename_i hc
  simp only [hc]
  split at h
  ·rename_i x t hx ht
   simp only [hx,ht]
   split at h
   ·rename_i zs hz
    obtain ⟨e,he,hze⟩:=Option.bind_eq_some_iff.1 hz
    split at h
    ·rename_i hpos
     have body:OKQ ob (q20 zs (eV (ρ x))) k r→OKQ ob ((Q.opt (q1F P t)).bind fun e=>(Q.opt (q1G P e)).bind fun zs=>Q.guard (decide (0 < zs.length)) (q20 zs (eV (ρ x)))) k r:=fun hb=>by
      exact OKQ.some he (OKQ.some hze (OKQ.cond _ (by simp [hpos]) hb))
     refine body ?_
     split at h
     ·rename_i hρ
      rw [hρ]
      exact OKQ.mk (v:=.tup []) (us:=[]) (by simp [q20,Q.run,eV,eL,eVs,q0j]) (by simp [q20,eV,eL,Q.reads]) h
     ·rename_i y hρ
      obtain ⟨rfl,h⟩:=q42 h
      rw [hρ]
      exact OKQ.mk (v:=.tup []) (us:=[]) (by simp [q20,Q.run,eV,eL,eVs,q0j]) (by simp [q20,eV,eL,Q.reads]) h
     ·rename_i key off n c hρ
      split at h
      ·rename_i rows size elem hk
       split at h
       ·rename_i hsz
        obtain ⟨hcc,h⟩:=q0K h
        obtain ⟨hoff,h⟩:=q0K h
        rw [hρ]
        have hl:(zs.map (q05 Fn FnD m).lit)=zs.map D.lit:=rfl
        have hob:q09 (eOb ob) key=some (.arr rows size elem true):=by rw [q0f,hk];rfl
        have hlen:c=rows.length:=hcc
        cases off with
        | none =>
         have hoff':n=rows.length:=hoff
         have h1:(q20 zs (.one (.slk key 0 n c))).run (q09 (eOb ob))=some (.tup [],[(key,.arr (List.replicate n (zs.map D.lit)) size elem true)]):=by
          simp [q20,Q.run,hob,hlen,hsz,hoff',Q.guard]
         have h2:(q20 zs (.one (.slk key 0 n c))).reads (q09 (eOb ob))=[key]:=by
          simp [q20,Q.reads,hob,hlen,hsz,hoff',Q.guard]
         exact OKQ.mk (v:=.tup []) (us:=[(key,.arr (List.replicate n (zs.map D.lit)) size elem true)]) (rd:=[key]) h1 (fun q hq=>by
          have hq':q∈(q20 zs (.one (.slk key 0 n c))).reads (q09 (eOb ob)):=hq
          rw [h2] at hq';exact hq') h
        | some o =>
         have hoff':o+n=rows.length:=hoff
         have h1:(q20 zs (.one (.slk key o n c))).run (q09 (eOb ob))=some (.tup [],[(key,.arr (rows.take o++List.replicate n (zs.map D.lit)) size elem true)]):=by
          simp [q20,Q.run,hob,hlen,hsz,hoff',Q.guard]
         have h2:(q20 zs (.one (.slk key o n c))).reads (q09 (eOb ob))=[key]:=by
          simp [q20,Q.reads,hob,hlen,hsz,hoff',Q.guard]
         exact OKQ.mk (v:=.tup []) (us:=[(key,.arr (rows.take o++List.replicate n (zs.map D.lit)) size elem true)]) (rd:=[key]) h1 (fun q hq=>by
          have hq':q∈(q20 zs (.one (.slk key o n c))).reads (q09 (eOb ob)):=hq
          rw [h2] at hq';exact hq') h
       ·cases h
      ·cases h
     ·cases h
    ·cases h
   ·cases h
  ·cases h
 ·
  rename_i hc
  simp only [hc]
  split at h
  ·rename_i a l hl
   obtain ⟨z,h1,h2⟩:=qdz h
   refine OKQ.pure (v:=.one (.d z)) ?_ h2
   rw [q8h hl,List.map_cons]
   simp only [q6F,h1,eV,eL]
  ·cases h
 ·
  rename_i hc
  simp only [hc]
  split at h
  ·rename_i a l hl
   obtain ⟨z,h1,h2⟩:=qdz h
   refine OKQ.pure (v:=.one (.d z)) ?_ h2
   rw [q8h hl,List.map_cons]
   simp only [q6F,h1,eV,eL]
  ·cases h
 ·
  rename_i hc
  simp only [hc]
  split at h
  ·rename_i s x t t' hs ht
   simp only [hs,ht]
   split at h
   ·cases h
   ·rename_i e he
    split at h
    ·rename_i sz bs zs h1 h2 h3
     split at h
     ·rename_i ik hik
      simp only [hik]
      have gapc:∀ y,q5w (q05 Fn FnD m) (ρ x)=some y→0 < sz∧zs.length=sz→eV (ρ s)=.one (.d (.lit (.slice none 0 0)))→((q05 Fn FnD m).gap bs y fun n=>q37 (q05 Fn FnD m) ob dst (.arr ((q05 Fn FnD m).repl n (zs.map (q05 Fn FnD m).lit)) sz e true) (fun key=>.one (.slk key none n n)) k)=some r→OKQ ob (match eV (ρ s) with
        | .one (.d (.lit (.slice none 0 0)))=>(Q.opt (q1F P t)).bind fun e=>(Q.opt (q0Y P e)).bind fun sz=>(Q.opt (q4i P e)).bind fun bs=>(Q.opt (q1G P e)).bind fun zs=>(Q.opt (vInt? (eV (ρ x)))).bind fun n =>
         Q.guard (decide (0 < sz∧zs.length=sz∧0 < n.2∧bs*n.2≤140737488355328∧n.2≤9223372036854775807)) (q24 dst (.arr (List.replicate n.2.toNat (zs.map .lit)) sz e true) fun k=>.one (.slk k 0 n.2.toNat n.2.toNat))
        | _=>.fail) k r:=by
       intro y hy hcond hρ' h
       obtain ⟨a,n,rfl,hn,h⟩:=qft h
       simp only [hρ',he,h1,h2,h3,Q.opt,Q.bind,q3a hy,vInt?]
       have hn1:0 < n:=hn.1
       have hn2:(bs:Int)*n≤140737488355328:=hn.2.1
       have hn3:n≤9223372036854775807:=hn.2.2
       refine OKQ.cond _ (by simp [hcond,hn1,hn2,hn3]) ?_
       have:=q2P (v':=fun key=>.one (.slk key 0 n.toNat n.toNat)) h (fun q=>by simp [eV,eL])
       simpa [eO,q05] using this
      split at h
      ·rename_i y hρ hy
       split at h
       ·rename_i hcond
        exact gapc y hy hcond (by rw [hρ];rfl) h
       ·cases h
      ·rename_i x0 y hρ hy
       split at h
       ·rename_i hcond
        obtain ⟨rfl,h⟩:=q42 h
        exact gapc y hy hcond (by rw [hρ];rfl) h
       ·cases h
      ·cases h
     ·rename_i hik
      simp only [hik]
      split at h
      ·rename_i hcond
       simp only [he,h1,h2,h3,Q.opt,Q.bind]
       refine OKQ.cond _ (by simp [hcond]) ?_
       obtain ⟨rows,rd,g1,g2,h⟩:=qhM h
       obtain ⟨v,us,rd',g3,g4,h⟩:=qcC h
       exact OKQ.bind g1 g2 g3 g4 h
      ·cases h
    ·cases h
  ·cases h
 ·cases h
theorem op3_ok {dst:Option Nat} {ρ:Operand→V3r} {op:Op} {k:K3 D Nat Rr Mr Out} (h:op3 (q05 Fn FnD m) P ob dst ρ op k=some r):OKQ ob (aop P dst (fun x=>eV (ρ x)) op) k r:=by
 cases op with
 | move x=>exact OKQ.ret0 h
 | assign x=>exact OKQ.ret0 h
 | pick c a b =>
  simp only [op3] at h
  simp only [aop]
  split at h
  ·rename_i hc
   exact OKQ.pure (v:=ρ a) (by simp [hc,eV,eL,vBool?]) h
  ·rename_i hc
   exact OKQ.pure (v:=ρ b) (by simp [hc,eV,eL,vBool?]) h
  ·rename_i y hc
   rcases q3k h with ⟨rfl,h⟩ | ⟨rfl,h⟩
   ·exact OKQ.pure (v:=ρ a) (by simp [hc,eV,eL,vBool?]) h
   ·exact OKQ.pure (v:=ρ b) (by simp [hc,eV,eL,vBool?]) h
  ·cases h
 | box elem x =>
  simp only [op3] at h
  simp only [aop]
  split at h
  ·rename_i cs hcs
   refine OKQ.some (a:=eLs cs) (by rw [q7a,hcs];rfl) ?_
   cases dst with
   | some q=>exact q2P (o:=.box cs elem) h (fun q=>by simp [eV,eL])
   | none =>
    obtain ⟨ds,us,rd,h1,h2,h⟩:=q4r h
    refine OKQ.mk (v:=.one (.dp ds 0)) (us:=us) (rd:=rd) ?_ ?_ h
    ·rw [Q.run_bind,h1];rfl
    ·intro q hq
     rw [Q.reads_bind,h1] at hq
     simp only [Q.reads,List.append_nil] at hq
     exact h2 q hq
  ·cases h
 | alloc elem =>
  simp only [op3] at h
  simp only [aop]
  split at h
  ·rename_i zs hz
   refine OKQ.some hz ?_
   have:=q2P (v':=fun key=>.one (.ptr key 0)) h (fun q=>by simp [eV,eL])
   rwa [eO,qa4] at this
  ·cases h
 | build t parts =>
  simp only [op3] at h
  simp only [aop]
  split at h
  ·rename_i zs hz
   split at h
   ·rename_i hc
    refine OKQ.some hz (OKQ.cond _ hc ?_)
    split at h
    ·rename_i cs hcs
     refine OKQ.pure (v:=.agg cs) ?_ h
     have:=qhu (q63 P t) (parts.toList.map fun p=>(p.1,ρ p.2)) (zs.map (qhh (q05 Fn FnD m)))
     rw [qa4,hcs,List.map_map] at this
     rw [show (parts.toList.map fun p=>(p.1,eV (ρ p.2)))=(parts.toList.map ((fun p=>(p.1,eV p.2)) ∘ fun p=>(p.1,ρ p.2))) from rfl,this]
     simp [eV]
    ·cases h
   ·cases h
  ·cases h
 | buildSlice t len parts =>
  simp only [op3] at h
  simp only [aop]
  split at h
  ·cases h
  ·rename_i e he
   split at h
   ·rename_i s zs hs hz
    split at h
    ·rename_i hc
     obtain ⟨rows,us,rd,h1,h2,h⟩:=qaU (n:=len) (ρ:=ρ) (by simp) h
     cases dst with
     | none =>
      refine OKQ.some he (OKQ.some hs (OKQ.some hz (OKQ.cond _ (by simp [hc]) ?_)))
      have hl:(List.replicate len (zs.map (q05 Fn FnD m).lit))=List.replicate len (zs.map .lit):=rfl
      rw [hl] at h1 h2
      refine OKQ.bind (v:=.one (.d (.sl s rows))) (us:=us) (rd':=[]) h1 h2 ?_ ?_ (by rw [List.append_nil];exact h)
      ·simp [q6P,Q.bind,Q.run,eV,eL,q2G]
      ·intro x hx;simp [q6P,Q.bind,Q.reads] at hx
     | some q0 =>
     obtain ⟨v,u,rd',h3,h4,h⟩:=q2P (v':=fun key=>.one (.slk key 0 len len)) h (fun q=>by simp [eV,eL,q05])
     refine OKQ.some he (OKQ.some hs (OKQ.some hz (OKQ.cond _ (by simp [hc]) ?_)))
     have hl:(List.replicate len (zs.map (q05 Fn FnD m).lit))=List.replicate len (zs.map .lit):=rfl
     rw [hl] at h1 h2
     refine OKQ.bind (v:=v) (us:=us++u) (rd':=rd') h1 h2 ?_ ?_ h
     ·rw [Q.run_bind,show (q6P (some q0) rows s e len).run (q09 (eOb ob))=some (eV v,eOb u) from h3]
      simp [Q.run,q2G]
     ·intro x hx
      rw [Q.reads_bind,show (q6P (some q0) rows s e len).run (q09 (eOb ob))=some (eV v,eOb u) from h3] at hx
      simp only [Q.reads,List.append_nil] at hx
      exact h4 x hx
    ·cases h
   ·cases h
 | load t a =>
  simp only [op3] at h
  simp only [aop]
  split at h
  ·rename_i g s hg hs
   exact OKQ.some hg (OKQ.some hs (qbh h))
  ·cases h
 | store t a x =>
  simp only [op3] at h
  simp only [aop]
  split at h
  ·rename_i cs hcs
   split at h
   ·rename_i hs
    exact OKQ.some (a:=eLs cs) (by rw [q7a,hcs];rfl) (OKQ.cond _ (by rw [q2g];exact hs) (qd1 h))
   ·cases h
  ·cases h
 | nilCheck x =>
  simp only [op3] at h
  simp only [aop]
  split at h
  ·rename_i hρ;rw [hρ] at h ⊢;exact OKQ.ret0 (v:=.one (.ptr _ _)) h
  ·rename_i hρ;rw [hρ] at h ⊢;exact OKQ.ret0 (v:=.one (.pa _ _ _ _)) h
  ·rename_i hρ;rw [hρ] at h ⊢;exact OKQ.ret0 (v:=.one (.dp _ _)) h
  ·rename_i y hρ
   obtain ⟨⟨row,o,rfl⟩,h⟩:=qc6 h
   rw [hρ] at h ⊢
   exact OKQ.ret0 (v:=.one (.d (.dp row o))) h
  ·cases h
 | binOp op t x y z=>exact qiE h
 | unOp op t x =>
  simp only [op3] at h
  simp only [aop]
  split at h
  ·rename_i v hv
   exact OKQ.pure (v:=.one (.b !v)) (by simp [hv,eV,eL,V.lit?,q1O]) h
  ·rename_i y hv
   obtain ⟨z,hz,h⟩:=qd7 h
   unfold unD at hz
   split at hz
   ·cases hz
    exact OKQ.pure (by simp [hv,eV,eL,V.lit?,q1O]) h
   ·cases hz
   ·cases hz
  ·split at h
   ·rename_i y hy
    obtain ⟨z,hz,h⟩:=qd7 h
    unfold unD at hz
    split at hz
    ·cases hz
    ·cases hz
     refine OKQ.pure (v:=.one (.d _)) ?_ h
     simp [q3a hy,V.lit?,q1O,eV,eL]
    ·cases hz
   ·cases h
  ·cases h
 | makeFunc fn first captured =>
  simp only [op3] at h
  simp only [aop]
  split at h
  ·rename_i f caps h2 h3
   have e1:q1w (first.toList.map fun x=>eV (ρ x))=some []:=by
    have:=q3n (first.toList.map ρ)
    rw [h2,List.map_map] at this
    exact this
   have e2:q1w (captured.toList.map fun x=>eV (ρ x))=some (eLs caps):=by
    have:=q3n (captured.toList.map ρ)
    rw [h3,List.map_map] at this
    exact this
   split at h
   ·rename_i hlt
    simp only [e1,e2,if_pos hlt]
    exact OKQ.ret0 (v:=.one (.fn f caps)) h
   ·cases h
  ·rename_i f c cs h2 h3
   have e1:q1w (first.toList.map fun x=>eV (ρ x))=some (eL c::eLs cs):=by
    have:=q3n (first.toList.map ρ)
    rw [h2,List.map_map] at this
    exact this
   have e2:q1w (captured.toList.map fun x=>eV (ρ x))=some []:=by
    have:=q3n (captured.toList.map ρ)
    rw [h3,List.map_map] at this
    exact this
   simp only [e1,e2]
   exact OKQ.ret0 (v:=.one (.fn (f+2000000) (c::cs))) h
  ·cases h
 | index t x ix =>
  simp only [op3] at h
  simp only [aop]
  split at h
  ·rename_i p hp
   split at h
   ·rename_i s g cs hs hg hx
    split at h
    ·rename_i kk z hix
     split at h
     ·rename_i hz
      obtain ⟨v,hv,h⟩:=q3c h (fun v hv=>by
       have:=q2E g s (z.toNat*s) cs
       rw [hv] at this
       exact this)
      refine OKQ.some (a:=(kk,z)) (by simp [hix,eV,eL,vInt?]) (OKQ.some hp (OKQ.some hs (OKQ.some hg ?_)))
      simp only [hx,eV]
      exact OKQ.cond _ (by simp [hz]) (OKQ.pure hv h)
     ·cases h
    ·rename_i y hix
     obtain ⟨kk,z,rfl,hz,h⟩:=q90 h
     unfold selR at h
     split at h
     ·rename_i kont hk
      rw [List.getElem?_map] at hk
      obtain ⟨j,hj,rfl⟩:=Option.map_eq_some_iff.1 hk
      have hjz:j=z.toNat:=by
       have:=(List.getElem?_eq_some_iff.1 hj).2
       simpa using this.symm
      subst hjz
      obtain ⟨v,hv,h⟩:=q3c h (fun v hv=>by
       have:=q2E g s (z.toNat*s) cs
       rw [hv] at this
       exact this)
      refine OKQ.some (a:=(kk,z)) (by simp [hix,eV,eL,vInt?]) (OKQ.some hp (OKQ.some hs (OKQ.some hg ?_)))
      simp only [hx,eV]
      exact OKQ.cond _ (by simp [hz]) (OKQ.pure hv h)
     ·cases h
    ·cases h
   ·cases h
  ·cases h
 | convert src dst x =>
  simp only [op3] at h
  simp only [aop]
  split at h
  ·rename_i k0 kd y h1 h2 h3
   obtain ⟨a,n,rfl,h⟩:=qfu h
   refine OKQ.some h1 (OKQ.some h2 (OKQ.some (a:=(a,n)) (by simp [q3a h3,vInt?]) ?_))
   exact OKQ.ret0 (v:=.one (.d (.lit (.int kd (kd.wrap n))))) h
  ·cases h
 | makeInterface t x =>
  simp only [op3] at h
  simp only [aop]
  have fz:∀ zs:List D,(q4U (zs.map L.d)).run (q09 (eOb ob))=some (zs,[])∧(q4U (zs.map L.d)).reads (q09 (eOb ob))=[]:=by
   intro zs
   induction zs with
   | nil=>exact ⟨rfl,rfl⟩
   | cons c cs ih=>simp [q4U,frz,Q.bind,Q.run_bind,Q.reads_bind,Q.run,Q.reads,ih.1,ih.2]
  split at h
  ·rename_i hc
   split at h
   ·rename_i y hg hy
    split at h
    ·rename_i z hz
     refine OKQ.cond _ (by simp [hc,hg,hy,eV,q2M]) ?_
     have hz':=q1N hz
     refine OKQ.some (a:=[z].map L.d) (by simp [hy,eV,hz',V.cells,L.isDef]) ?_
     refine OKQ.mk (v:=.one (.d (.ifc t false [z]))) (us:=[]) (rd:=[]) ?_ ?_ h
     ·rw [Q.run_bind,(fz [z]).1];simp [Q.run,hy,eV,eL,q2M,q0j]
     ·intro q hq;rw [Q.reads_bind,(fz [z]).1,(fz [z]).2] at hq;simp [Q.reads] at hq
    ·cases h
   ·rename_i ys hg hy
    split at h
    ·rename_i zs hz
     refine OKQ.cond _ (by simp [hc,hg,hy,eV,q2M]) ?_
     have hz':=q1R hz
     refine OKQ.some (a:=zs.map L.d) (by simp [hy,eV,hz',V.cells,L.isDef,Function.comp_def]) ?_
     refine OKQ.mk (v:=.one (.d (.ifc t true zs))) (us:=[]) (rd:=[]) ?_ ?_ h
     ·rw [Q.run_bind,(fz zs).1];simp [Q.run,hy,eV,eL,q2M,q0j]
     ·intro q hq;rw [Q.reads_bind,(fz zs).1,(fz zs).2] at hq;simp [Q.reads] at hq
    ·cases h
   ·cases h
  ·cases h
 | makeSlice t l c =>
  simp only [op3] at h
  simp only [aop]
  split at h
  ·cases h
  ·rename_i e he
   split at h
   ·rename_i s zs bs hs hz hb
    split at h
    ·rename_i n n' hn hn'
     split at h
     ·rename_i hc
      obtain ⟨a,z,rfl,rfl,hz2,h⟩:=qfr h
      refine OKQ.some he (OKQ.some hs (OKQ.some hz (OKQ.some hb (OKQ.some (a:=(a,z)) (by simp [q3a hn,vInt?]) (OKQ.some (a:=(a,z)) (by simp [q3a hn',vInt?]) (OKQ.cond _ (by simp [hc,hz2]) ?_))))))
      have:=q2P (v':=fun key=>.one (.slk key 0 z.toNat z.toNat)) h (fun q=>by simp [eV,eL])
      simpa [eO,q05] using this
     ·cases h
    ·cases h
   ·cases h
 | slice t x lo hi mx =>
  simp only [op3] at h
  simp only [aop]
  split at h
  ·rename_i e he
   split at h
   ·rename_i l h' s hl hh hs
    obtain ⟨zl,zh,h1,h2,h3⟩:=qiA hl hh h
    exact OKQ.cond _ (by simp [he]) (OKQ.some h1 (OKQ.some h2 (OKQ.some he (OKQ.some hs h3))))
   ·cases h
  ·cases h
 | fieldAddr s x f =>
  simp only [op3] at h
  simp only [aop]
  split at h
  ·rename_i p hp
   split at h
   ·rename_i y hρ
    split at h
    ·rename_i n _
     obtain ⟨row,rfl,hl,h⟩:=q91 h
     rw [q21 hl] at h
     obtain ⟨v,h1,h2⟩:=q3c (o':=q2S p.1 (eV (.one (.dp row 0)))) h fun v hv=>q7e hv
     refine OKQ.some hp (OKQ.pure ?_ h2)
     rw [hρ];exact h1
    ·cases h
   ·obtain ⟨v,h1,h2⟩:=q3c (o':=q2S p.1 (eV (ρ x))) h fun v hv=>q7e hv
    exact OKQ.some hp (OKQ.pure h1 h2)
  ·cases h
 | field s x f =>
  simp only [op3] at h
  simp only [aop]
  split at h
  ·rename_i p cs hp hx
   obtain ⟨v,h1,h2⟩:=q3c (o':=q1c p.2.2 p.2.1 p.1 (eLs cs)) h fun v hv=>by rw [q2E,hv];rfl
   refine OKQ.some hp ?_
   have:eV (ρ x)=.agg (eLs cs):=by rw [hx];simp [eV]
   simp only [this]
   exact OKQ.pure h1 h2
  ·cases h
 | indexAddr t x ix =>
  simp only [op3] at h
  simp only [aop]
  split at h
  ·rename_i i hi
   have hi':eV (ρ ix)=.one (eL i):=by rw [hi];simp [eV]
   split at h
   ·rename_i p hp
    split at h
    ·rename_i s hs
     obtain ⟨kk,z,h1,h2⟩:=q9u (e:=p.2) h
     refine OKQ.some (a:=(kk,z)) (by rw [hi'];exact h1) ?_
     simp only [hp]
     exact OKQ.some hs h2
    ·cases h
   ·rename_i hp
    split at h
    ·rename_i e he
     split at h
     ·rename_i s hs
      obtain ⟨kk,z,h1,h2⟩:=q9u (e:=0) h
      refine OKQ.some (a:=(kk,z)) (by rw [hi'];exact h1) ?_
      simp only [hp,he]
      exact OKQ.some hs h2
     ·cases h
    ·cases h
  ·cases h
 | makeMap t rr =>
  cases rr with
  | some _=>simp [op3,q05] at h
  | none =>
   simp only [op3] at h
   simp only [aop]
   split at h
   ·rename_i kd g hk hg
    refine OKQ.cond _ (by simp [hk]) (OKQ.some hg ?_)
    have:=q2P (v':=fun key=>.one (.mk key)) h (fun q=>by simp [eV,eL])
    simpa [eO,q05] using this
   ·cases h
 | lookup t x ix ok =>
  simp only [op3] at h
  simp only [aop]
  split at h
  ·rename_i kd e hk he
   split at h
   ·rename_i g zs key hg hz hkey
    split at h
    ·rename_i hzs
     obtain ⟨v,h1,h2,h3⟩:=qfI h
     subst h1
     exact OKQ.some hk (OKQ.some he (OKQ.some hg (OKQ.some hz (OKQ.some (a:=v) (by simp [q3a hkey,V.lit?]) (OKQ.cond _ (by simp [h2,hzs]) h3)))))
    ·cases h
   ·cases h
  ·cases h
 | mapUpdate t q kk v =>
  simp only [op3] at h
  simp only [aop]
  split at h
  ·rename_i kd g hk hg
   split at h
   ·rename_i key hkey
    obtain ⟨kv,h1,h2⟩:=qhI h
    subst h1
    rcases hme:q5b P t with _ | e
    ·rw [hme] at hg;cases hg
    ·rw [hme] at hg
     exact OKQ.some hk (OKQ.some rfl (OKQ.some hg (OKQ.some (a:=kv) (by simp [q3a hkey,V.lit?]) h2)))
   ·cases h
  ·cases h
 | extract t i =>
  simp only [op3] at h
  simp only [aop]
  split at h
  ·rename_i vs hρ
   obtain ⟨v,h1,h2⟩:=q3c (o':=(eVs vs)[i]?) h fun v hv=>by rw [q1Z,List.getElem?_map,hv];rfl
   have:eV (ρ t)=.tup (eVs vs):=by rw [hρ];simp [eV]
   simp only [this]
   exact OKQ.pure h1 h2
  ·cases h
 | call c=>exact qcx h
 | _=>simp [op3,q05] at h
end Go.VE
