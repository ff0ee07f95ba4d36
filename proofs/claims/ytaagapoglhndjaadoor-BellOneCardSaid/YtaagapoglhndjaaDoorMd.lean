/- An evaluator whose data are abstract: what is known before the data is worked out, the rest is handed to a record of operations. -/
import Derived.Test.YtaagapoglhndjaaDoorMc
namespace Go.VE
open Go.RowKit
section
inductive L3 (Δ N:Type) where
 | d (x:Δ)
 | b (v:Bool)
 | i (k:IntKind) (n:Int)
 | nil
 | dp (row:List Δ) (off:Nat)
 | fn (f:Nat) (caps:List (L3 Δ N))
 | slk (k:Nat) (off:Option N) (n c:N)
 | pa (k:Nat) (i:N) (off:Nat) (c:N)
 | ptr (k off:Nat)
 | mk (k:Nat)
 | mq (k:Nat)
 | pb (k:Nat) (j off:N)
 | px (k base n es:Nat) (i:N) (off:Nat)
 | np
 | sln (k:Nat) (n:N)
 | undef
inductive V3 (Δ N:Type) where
 | one (x:L3 Δ N)
 | agg (xs:List (L3 Δ N))
 | tup (xs:List (V3 Δ N))
inductive O3 (Δ N R M:Type) where
 | box (cells:List (L3 Δ N)) (elem:Nat)
 | arr (rows:R) (size elem:Nat) (own:Bool)
 | mp (agg:Bool) (m:M) (own:Bool)
 | ml (keys:List Value) (vals:List (L3 Δ N))
 | am (m:M) (size elem:Nat)
 | arn (rows:R) (size elem:Nat) (own:Bool)
structure S3 (Δ N R M:Type) where
 env:List (Nat×V3 Δ N)
 ob:List (Nat×O3 Δ N R M)
 ys:List Nat
 pend:Option Ex
instance {Δ N:Type}:Inhabited (L3 Δ N):=⟨.undef⟩
instance {Δ N:Type}:Inhabited (V3 Δ N):=⟨.one .undef⟩
inductive Y (Δ N R M:Type) where
 | d (x:Δ)
 | n (x:N)
 | r (x:R)
 | m (x:M)
abbrev Sk:=S3 Unit Unit Unit Unit
inductive Sh where
 | one
 | agg (n:Nat)
 | ptr (n:Nat)
 | met (name:String) (n:Nat)
inductive RK where
 | d
 | own (size elem:Nat)
 | om (agg:Bool)
abbrev RS:=List (Bool×List RK)
structure Pr (Δ N R W M E Ω:Type) where
 fail:Ω
 out:Nat→List (Y Δ N R M)→Ω
 bnd:Ω→List (E→Ω)→Ω
 loop:List ((Nat→List (Y Δ N R M)→Ω)→E→Ω)→Nat→List (Y Δ N R M)→Ω
 call:Nat→List Δ→Ω
 callD:Δ→List Sh→List Δ→Ω
 miss:Nat→Nat→Nat→Nat→List Nat→Ex→S3 Δ N R M→RS→Ω
 cond:Δ→Ω→Ω→Ω
 ld:E→Nat→Δ
 ln:E→Nat→N
 lr:E→Nat→R
 lm:E→Nat→M
 lit:Value→Δ
 natD:N→Δ
 dN:Δ→N
 natN:Nat→N
 addN:N→N→N
 slD:Nat→R→Δ
 slN:Nat→R→Δ
 dpD:List Δ→Nat→Δ
 fnD:Nat→List Δ→Δ
 mpD:Bool→M→Δ
 ifD:Nat→Bool→List Δ→Δ
 len:R→N
 rows:List (List Δ)→R
 repl:N→List Δ→R
 app:R→R→R
 seg:R→Option N→N→R
 setR:R→N→List Δ→R
 emp:M
 cell:W→Nat→Δ
 eqN:N→N→Ω→Ω
 leN:N→N→Ω→Ω
 nilD:Δ→Ω→Ω
 ptrW:Nat→Δ→(W→Ω)→Ω
 isPtr:Δ→Ω→Ω
 rowAt:Nat→R→N→(W→Ω)→Ω
 bin:BinOp→Bool→Δ→Δ→(Δ→Ω)→Ω
 un:UnOp→Δ→(Δ→Ω)→Ω
 eqs:List Bool→Bool→List Δ→List Δ→(Δ→Ω)→Ω
 mm:Bool→Δ→Δ→(Δ→Ω)→Ω
 mkN:Nat→Δ→Δ→(N→Ω)→Ω
 gap:Nat→Δ→(N→Ω)→Ω
 cut:Option Δ→Option Δ→N→(N→N→Ω)→Ω→Ω
 cutD:Nat→Δ→Option Δ→Option Δ→(Δ→Ω)→Ω
 cutNil:Option Δ→Option Δ→Ω→Ω
 selI:Nat→Δ→List Ω→Ω
 inx:Δ→N→(N→Ω)→Ω
 rowD:Nat→Δ→Δ→(W→Ω)→Ω
 lenD:Δ→(Δ→Ω)→Ω
 lenS:Δ→(Δ→Ω)→Ω
 rowsD:Nat→Δ→(R→Ω)→Ω
 isNil:R→Ω→Ω→Ω
 fits:Nat→N→Ω→Ω
 asM:Bool→Δ→(M→Ω)→Ω
 look:Nat→List Value→M→Δ→(W→Δ→Ω)→Ω
 upd:Nat→M→Δ→List Δ→(M→Ω)→Ω
 lits:List (Y Δ N R M)→Ω→Ω
 cvI:IntKind→Δ→(Δ→Ω)→Ω
 nilE:Δ→Ω→Ω→Ω
 ins:Δ→R→R→(R→Ω)→Ω
 mulN:Nat→N→N
 minN:N→N→N
 cellN:W→N→Nat→Δ
 selN:N→List Δ→Δ
 updN:N→Nat→Δ→Δ→Δ
 mrows:M→R
 mset:M→R→M
 setRC:R→N→N→List Δ→R
 find:Nat→M→Δ→(N→Ω)→Ω→Ω
 addK:Nat→M→Δ→N→(M→Ω)→Ω
 selK:Nat→List Value→Δ→List Ω→Ω
section
variable {Δ N R W M E Ω:Type} (pr:Pr Δ N R W M E Ω)
def q2f:List (Nat×V3 Δ N)→Nat→V3 Δ N
 | [],_=>.one .undef
 | (k,v)::r,t=>if t=k then v else q2f r t
def q0z:List (Nat×O3 Δ N R M)→Nat→Option (O3 Δ N R M)
 | [],_=>none
 | (k,o)::r,j=>if j=k then some o else q0z r j
def q1N:List (Nat×O3 Δ N R M)→List (Nat×O3 Δ N R M)→List (Nat×O3 Δ N R M)
 | [],ob=>ob
 | (k,o)::r,ob=>q1N r ((k,o)::ob)
mutual
def L3.keysOf:L3 Δ N→List Nat
 | .slk k _ _ _=>[k]
 | .pa k _ _ _=>[k]
 | .ptr k _=>[k]
 | .mk k=>[k]
 | .mq k=>[k]
 | .pb k _ _=>[k]
 | .px k _ _ _ _ _=>[k]
 | .sln k _=>[k]
 | .fn _ caps=>L3.keysF caps
 | _=>[]
def L3.keysF:List (L3 Δ N)→List Nat
 | []=>[]
 | x::xs=>x.keysOf++L3.keysF xs
end
mutual
def V3.keysOf:V3 Δ N→List Nat
 | .one x=>x.keysOf
 | .agg xs=>L3.keysF xs
 | .tup xs=>V3.keysF xs
def V3.keysF:List (V3 Δ N)→List Nat
 | []=>[]
 | x::xs=>x.keysOf++V3.keysF xs
end
def O3.keysOf:O3 Δ N R M→List Nat
 | .box cells _=>L3.keysF cells
 | .ml _ vals=>L3.keysF vals
 | _=>[]
def q9W (ob:List (Nat×O3 Δ N R M)):List Nat→List (Nat×O3 Δ N R M)
 | []=>[]
 | k::ks=>match q0z ob k with
  | some o=>(k,o)::q9W ob ks
  | none=>q9W ob ks
def q5r (ob:List (Nat×O3 Δ N R M)):List Nat→List Nat
 | []=>[]
 | k::ks=>match q0z ob k with
  | some o=>o.keysOf++q5r ob ks
  | none=>q5r ob ks
def qbJ (ob:List (Nat×O3 Δ N R M)):Nat→List Nat→List Nat
 | 0,ks=>ks
 | n+1,ks=>qbJ ob n (q4B (q5r ob ks) ks)
def qhf (pk:List Nat) (vs:List (V3 Δ N)) (ob:List (Nat×O3 Δ N R M)):Option (List (Nat×O3 Δ N R M)) :=
 let ks:=qbJ ob 6 (q4B (V3.keysF vs) pk)
 let ob':=q9W ob ks
 if (vs.all fun v=>v.keysOf.all fun k=>ks.contains k)&&(ob'.all fun p=>p.2.keysOf.all fun k=>ks.contains k) then some ob' else none
def qgX:Value→L3 Δ N
 | .bool v=>.b v
 | .int k n=>.i k n
 | .slice none 0 0=>.nil
 | .pointer none=>.np
 | v=>.d (pr.lit v)
def qbg:Value→V3 Δ N
 | .agg cs=>if cs.toList.all plain then .agg (cs.toList.map (qgX pr)) else .one .undef
 | v=>if plain v then .one (qgX pr v) else .one .undef
def ev3 (env:List (Nat×V3 Δ N)):Operand→V3 Δ N
 | .tmp t=>q2f env t
 | .const v=>qbg pr v
 | .global _=>.one .undef
 | .func f=>if f < 2000000 then .one (.fn f []) else .one .undef
def q3T:L3 Δ N→Option Δ
 | .d x=>some x
 | .b v=>some (pr.lit (.bool v))
 | .i k n=>some (pr.lit (.int k n))
 | .nil=>some (pr.lit (.slice none 0 0))
 | .np=>some (pr.lit (.pointer none))
 | .dp row off=>some (pr.dpD row off)
 | _=>none
def q5h:V3 Δ N→Option Δ
 | .one x=>q3T pr x
 | _=>none
def q4m:List (L3 Δ N)→Option (List Δ)
 | []=>some []
 | x::xs=>match q3T pr x,q4m xs with
  | some y,some ys=>some (y::ys)
  | _,_=>none
def qcD (ρ:Operand→V3 Δ N):Option Operand→Option (Option Δ)
 | none=>some none
 | some x=>match q5h pr (ρ x) with
  | some y=>some (some y)
  | none=>none
def qcE (ρ:Operand→V3 Δ N):List Operand→Option (List Δ)
 | []=>some []
 | x::xs=>match q5h pr (ρ x),qcE ρ xs with
  | some y,some ys=>some (y::ys)
  | _,_=>none
def L3.isDef:L3 Δ N→Bool | .undef=>false | _=>true
def V3.cells:V3 Δ N→Option (List (L3 Δ N))
 | .one x=>if x.isDef then some [x] else none
 | .agg xs=>if xs.all L3.isDef then some xs else none
 | .tup _=>none
def qik (agg:Bool) (xs:List (L3 Δ N)):Option (V3 Δ N):=match agg,xs with
 | true,xs=>some (.agg xs)
 | false,[x]=>some (.one x)
 | false,_=>none
def q2g (agg:Bool) (s off:Nat) (cells:List (L3 Δ N)):Option (V3 Δ N) :=
 if agg then (if off+s≤cells.length then some (.agg ((cells.drop off).take s)) else none)
 else match cells[off]? with
  | some x=>some (.one x)
  | none=>none
def qho (place:Nat→Option (Nat×Nat)) (cells:List (L3 Δ N)):List (Nat×V3 Δ N)→Option (List (L3 Δ N))
 | []=>some cells
 | (i,v)::rest=>match place i,v.cells with
  | some (off,size),some cs=>if cs.length=size∧off+size≤cells.length then qho place (cells.take off++cs++cells.drop (off+size)) rest else none
  | _,_=>none
def q5L (n:Nat):V3 Δ N→Option (V3 Δ N)
 | .one (.ptr k off)=>some (.one (.ptr k (off+n)))
 | .one (.pa k i off c)=>some (.one (.pa k i (off+n) c))
 | .one (.dp r off)=>some (.one (.dp r (off+n)))
 | .one (.pb k j off)=>some (.one (.pb k j (pr.addN off (pr.natN n))))
 | .one (.px k b m es i off)=>some (.one (.px k b m es i (off+n)))
 | _=>none
def q3J:List (V3 Δ N)→Option (List (L3 Δ N))
 | []=>some []
 | .one x::r=>if x.isDef then (match q3J r with
  | some xs=>some (x::xs)
  | none=>none) else none
 | _::_=>none
def cellsOf (size:Nat) (r:W):List Δ:=(List.range size).map (pr.cell r)
abbrev Ups (Δ N R M:Type):=List (Nat×O3 Δ N R M)
abbrev K3 (Δ N R M Ω:Type):=V3 Δ N→Ups Δ N R M→List Nat→Ω
def qas (o:Option (V3 Δ N)) (rd:List Nat) (k:K3 Δ N R M Ω):Ω:=match o with
 | some v=>k v [] rd
 | none=>pr.fail
def q2G (ob:Ups Δ N R M) (dst:Option Nat) (o:O3 Δ N R M) (v:Nat→V3 Δ N) (k:K3 Δ N R M Ω):Ω:=match dst with
 | some key=>match q0z ob key with
  | none=>k (v key) [(key,o)] [key]
  | some _=>pr.fail
 | none=>pr.fail
def qhj (ob:Ups Δ N R M) (x:L3 Δ N) (k:Δ→Ups Δ N R M→List Nat→Ω):Ω:=match x with
 | .slk key off n c=>match q0z ob key with
  | some (.arr rows size elem _)=>pr.eqN c (pr.len rows) (k (pr.slD size (pr.seg rows off n)) [(key,.arr rows size elem false)] [key])
  | _=>pr.fail
 | .mk key=>match q0z ob key with
  | some (.mp agg m _)=>k (pr.mpD agg m) [(key,.mp agg m false)] [key]
  | _=>pr.fail
 | .sln key n=>match q0z ob key with
  | some (.arn rows size elem _)=>pr.eqN n (pr.len rows) (k (pr.slN size rows) [(key,.arn rows size elem false)] [key])
  | _=>pr.fail
 | x=>match q3T pr x with
  | some y=>k y [] []
  | none=>pr.fail
def qa5 (ob:Ups Δ N R M):List (L3 Δ N)→(List Δ→Ups Δ N R M→List Nat→Ω)→Ω
 | [],k=>k [] [] []
 | x::xs,k=>qhj pr ob x fun d u rd=>qa5 ob xs fun ds us rd'=>k (d::ds) (u++us) (rd++rd')
def q9l (rec:L3 Δ N→(Δ→List Nat→Ω)→Ω):List (L3 Δ N)→(List Δ→List Nat→Ω)→Ω
 | [],k=>k [] []
 | x::xs,k=>rec x fun d rd=>q9l rec xs fun ds rd'=>k (d::ds) (rd++rd')
def q3S (ob:Ups Δ N R M):Nat→L3 Δ N→(Δ→List Nat→Ω)→Ω
 | _,.slk key off n' c,k=>match q0z ob key with
  | some (.arr rows size _ _)=>pr.eqN c (pr.len rows) (k (pr.slD size (pr.seg rows off n')) [key])
  | _=>pr.fail
 | _,.pa key i off c,k=>match q0z ob key with
  | some (.arr rows size _ _)=>pr.eqN c (pr.len rows) (pr.rowAt size rows i fun r=>k (pr.dpD (cellsOf pr size r) off) [key])
  | some (.arn rows size _ _)=>pr.eqN c (pr.len rows) (pr.rowAt size rows i fun r=>k (pr.dpD (cellsOf pr size r) off) [key])
  | _=>pr.fail
 | _,.mk key,k=>match q0z ob key with
  | some (.mp agg m _)=>k (pr.mpD agg m) [key]
  | _=>pr.fail
 | _,.sln key n',k=>match q0z ob key with
  | some (.arn rows size _ _)=>pr.eqN n' (pr.len rows) (k (pr.slN size rows) [key])
  | _=>pr.fail
 | n+1,.ptr key off,k=>match q0z ob key with
  | some (.box cells _)=>q9l (q3S ob n) cells fun ds rd=>k (pr.dpD ds off) (key::rd)
  | _=>pr.fail
 | n+1,.fn f caps,k=>q9l (q3S ob n) caps fun ds rd=>k (pr.fnD f ds) rd
 | _,x,k=>match q3T pr x with
  | some y=>k y []
  | none=>pr.fail
def colX (cells:List (L3 Δ N)) (base n es o:Nat):Option (List Δ):=q4m pr ((List.range n).map fun q=>cells.getD (base+q*es+o) .undef)
def qfh (cells:List (L3 Δ N)) (base n es:Nat) (i:N):Nat→Nat→Option (List (L3 Δ N))
 | _,0=>some []
 | o,s+1=>match colX pr cells base n es o,qfh cells base n es i (o+1) s with
  | some ds,some xs=>some (.d (pr.selN i ds)::xs)
  | _,_=>none
def putC (i:N) (q:Nat) (x:L3 Δ N) (new:Option Δ):L3 Δ N:=match q3T pr x,new with
 | some old,some nw=>.d (pr.updN i q nw old)
 | _,_=>.undef
def qic (i:N) (base n es off:Nat) (ds:List Δ) (cells:List (L3 Δ N)):List (L3 Δ N):=cells.zipIdx.map fun p =>
 if base≤p.2∧p.2 < base+n*es∧off≤(p.2 - base) % es∧(p.2 - base) % es < off+ds.length then putC pr i ((p.2 - base) / es) p.1 ds[(p.2 - base) % es - off]? else p.1
def qgV (agg:Bool) (s:Nat) (ob:Ups Δ N R M) (x:V3 Δ N) (k:K3 Δ N R M Ω):Ω:=match x with
 | .one (.ptr key off)=>match q0z ob key with
  | some (.box cells _)=>qas pr (q2g agg s off cells) [key] k
  | _=>pr.fail
 | .one (.pa key i off c)=>match q0z ob key with
  | some (.arr rows size _ _)=>pr.eqN c (pr.len rows) (pr.rowAt size rows i fun r=>qas pr (q2g agg s off ((cellsOf pr size r).map .d)) [key] k)
  | some (.arn rows size _ _)=>pr.eqN c (pr.len rows) (pr.rowAt size rows i fun r=>qas pr (q2g agg s off ((cellsOf pr size r).map .d)) [key] k)
  | _=>pr.fail
 | .one (.dp row off)=>qas pr (q2g agg s off (row.map .d)) [] k
 | .one (.pb key j off)=>match q0z ob key with
  | some (.am m size _)=>pr.rowAt size (pr.mrows m) j fun r=>pr.leN (pr.addN off (pr.natN s)) (pr.natN size) (qas pr (qik agg ((List.range s).map fun i=>.d (pr.cellN r off i))) [key] k)
  | _=>pr.fail
 | .one (.px key b n es i off)=>match q0z ob key with
  | some (.box cells _)=>if b+n*es≤cells.length∧off+s≤es then (match qfh pr cells b n es i off s with
   | some xs=>pr.leN (pr.addN i (pr.natN 1)) (pr.natN n) (qas pr (qik agg xs) [key] k)
   | none=>pr.fail) else pr.fail
  | _=>pr.fail
 | _=>pr.fail
def qdB (ob:Ups Δ N R M) (x:V3 Δ N) (cs:List (L3 Δ N)) (k:K3 Δ N R M Ω):Ω:=match x with
 | .one (.ptr key off)=>match q0z ob key with
  | some (.box cells elem)=>if off+cs.length≤cells.length then k (.one .undef) [(key,.box (cells.take off++cs++cells.drop (off+cs.length)) elem)] [key] else pr.fail
  | _=>pr.fail
 | .one (.pa key i off c)=>match q0z ob key with
  | some (.arr rows size elem own)=>match own with
   | true=>pr.eqN c (pr.len rows) (pr.rowAt size rows i fun r=>qa5 pr ob cs fun ds us rd=>match us with
    | []=>if off+ds.length≤size then k (.one .undef) [(key,.arr (pr.setR rows i ((cellsOf pr size r).take off++ds++(cellsOf pr size r).drop (off+ds.length))) size elem own)] (key::rd) else pr.fail
    | _=>pr.fail)
   | false=>pr.fail
  | _=>pr.fail
 | .one (.pb key j off)=>match q0z ob key with
  | some (.am m size elem)=>match q4m pr cs with
   | some ds=>pr.rowAt size (pr.mrows m) j fun _=>pr.leN (pr.addN off (pr.natN ds.length)) (pr.natN size) (k (.one .undef) [(key,.am (pr.mset m (pr.setRC (pr.mrows m) j off ds)) size elem)] [key])
   | none=>pr.fail
  | _=>pr.fail
 | .one (.px key b n es i off)=>match q0z ob key with
  | some (.box cells elem)=>match q4m pr cs with
   | some ds=>if b+n*es≤cells.length∧off+ds.length≤es∧(qic pr i b n es off ds cells).all L3.isDef=true∧0 < es then pr.leN (pr.addN i (pr.natN 1)) (pr.natN n) (k (.one .undef) [(key,.box (qic pr i b n es off ds cells) elem)] [key]) else pr.fail
   | none=>pr.fail
  | _=>pr.fail
 | _=>pr.fail
def idxC (es:Nat) (x:V3 Δ N) (k:K3 Δ N R M Ω) (j:Nat):Ω:=qas pr (q5L pr (j*es) x) [] k
def qc2 (arr:Option Nat) (es:Nat) (ob:Ups Δ N R M) (x:V3 Δ N) (i:L3 Δ N) (k:K3 Δ N R M Ω):Ω:=match arr with
 | some n=>match i with
  | .i _ z=>if 0≤z∧z < n then idxC pr es x k z.toNat else pr.fail
  | .d y=>match x with
   | .one (.pb key j off)=>pr.inx y (pr.natN n) fun i=>k (.one (.pb key j (pr.addN off (pr.mulN es i)))) [] []
   | .one (.ptr key off)=>match q0z ob key with
    | some (.box cells _)=>match q4m pr ((cells.drop off).take (n*es)) with
     | some _=>pr.inx y (pr.natN n) fun i=>k (.one (.px key off n es i 0)) [] []
     | none=>pr.selI n y ((List.range n).map (idxC pr es x k))
    | _=>pr.fail
   | _=>pr.selI n y ((List.range n).map (idxC pr es x k))
  | _=>pr.fail
 | none=>match q3T pr i with
  | none=>pr.fail
  | some y=>match x with
   | .one (.slk key off n c)=>match q0z ob key with
    | some (.arr rows size _ _)=>if size=es then pr.eqN c (pr.len rows) (pr.inx y n fun j=>k (.one (.pa key (match off with | none=>j | some o=>pr.addN o j) 0 c)) [] [key]) else pr.fail
    | _=>pr.fail
   | .one (.sln key n)=>match q0z ob key with
    | some (.arn rows size _ _)=>if size=es then pr.eqN n (pr.len rows) (pr.inx y n fun j=>k (.one (.pa key j 0 n)) [] [key]) else pr.fail
    | _=>pr.fail
   | .one (.d z)=>pr.rowD es z y fun r=>k (.one (.dp (cellsOf pr es r) 0)) [] []
   | _=>pr.fail
def cutK (es:Nat) (ob:Ups Δ N R M) (x:V3 Δ N) (l h:Option Δ) (k:K3 Δ N R M Ω):Ω:=match x with
 | .one (.slk key off n c)=>match q0z ob key with
  | some (.arr rows size _ _)=>if size=es then pr.eqN c (pr.len rows) (match l with
    | none=>pr.cut l h n (fun _ m=>k (.one (.slk key off m c)) [] [key]) pr.fail
    | some _=>pr.cut l h n (fun o m=>k (.one (.slk key (some (match off with | none=>o | some o'=>pr.addN o' o)) m c)) [] [key]) (k (.one (.d (pr.slD es (pr.rows [])))) [] [key])) else pr.fail
  | _=>pr.fail
 | .one (.d y)=>pr.cutD es y l h fun z=>k (.one (.d z)) [] []
 | .one .nil=>pr.cutNil l h (k (.one .nil) [] [])
 | _=>pr.fail
def qgt (ob:Ups Δ N R M) (size n:Nat) (rows:List (List Δ)):List (Nat×V3 Δ N)→(List (List Δ)→Ups Δ N R M→List Nat→Ω)→Ω
 | [],k=>k rows [] []
 | (i,v)::rest,k=>match v.cells with
  | none=>pr.fail
  | some cs=>if cs.length=size∧i < n then qa5 pr ob cs fun ds us rd=>qgt ob size n (rows.set i ds) rest fun rows' us' rd'=>k rows' (us++us') (rd++rd') else pr.fail
def srcK (es:Nat) (ob:Ups Δ N R M) (x:V3 Δ N) (k:R→List Nat→Ω):Ω:=match x with
 | .one .nil=>k (pr.rows []) []
 | .one (.d y)=>pr.rowsD es y fun r=>k r []
 | .one (.slk key off n c)=>match q0z ob key with
  | some (.arr rows size _ _)=>if size=es then pr.eqN c (pr.len rows) (k (pr.seg rows off n) [key]) else pr.fail
  | _=>pr.fail
 | .one (.sln key n)=>match q0z ob key with
  | some (.arn rows size _ _)=>if size=es then pr.eqN n (pr.len rows) (k rows [key]) else pr.fail
  | _=>pr.fail
 | _=>pr.fail
def q9b (ob:Ups Δ N R M) (dst:Option Nat) (elem size bytes:Nat) (s:V3 Δ N) (new:R) (rd:List Nat) (k:K3 Δ N R M Ω):Ω :=
 pr.isNil new (k s [] rd) (pr.fits bytes (pr.len new) (q2G pr ob dst (.arr new size elem true) (fun key=>.one (.slk key none (pr.len new) (pr.len new))) fun v u rd'=>k v u (rd++rd')))
def qbl (ob:Ups Δ N R M) (dst:Option Nat) (elem size bytes:Nat) (s:V3 Δ N) (new:R) (rd:List Nat) (k:K3 Δ N R M Ω):Ω:=match s with
 | .one .nil=>q9b pr ob dst elem size bytes (.one .nil) new rd k
 | .one (.d y)=>pr.nilD y (q9b pr ob dst elem size bytes (.one .nil) new rd k)
 | .one (.slk key none n c)=>match q0z ob key with
  | some (.arr rows size' elem' own)=>match own with
   | true=>if size'=size∧elem'=elem then pr.eqN c (pr.len rows) (pr.eqN n (pr.len rows) (pr.fits bytes (pr.addN n (pr.len new)) (k (.one (.slk key none (pr.addN n (pr.len new)) (pr.addN n (pr.len new)))) [(key,.arr (pr.app rows new) size elem true)] (rd++[key])))) else pr.fail
   | false=>pr.fail
  | _=>pr.fail
 | .one (.sln key n)=>match q0z ob key with
  | some (.arn rows size' elem' own)=>match own with
   | true=>if size'=size∧elem'=elem then pr.eqN n (pr.len rows) (pr.fits bytes (pr.addN n (pr.len new)) (k (.one (.sln key (pr.addN n (pr.len new)))) [(key,.arn (pr.app rows new) size elem true)] (rd++[key]))) else pr.fail
   | false=>pr.fail
  | _=>pr.fail
 | _=>pr.fail
def qex (kd:Nat) (zs:List Value) (ob:Ups Δ N R M) (q:Nat) (key:Δ) (k:K3 Δ N R M Ω):Ω:=match q0z ob q with
 | some (.ml keys vals)=>pr.selK kd keys key (vals.map fun x=>k (.one x) [] [q])
 | some (.am m _ _)=>pr.find kd m key (fun j=>k (.one (.pb q j (pr.natN 0))) [] [q]) (match zs with
  | [z]=>k (.one (qgX pr z)) [] [q]
  | _=>pr.fail)
 | _=>pr.fail
def qji (kd:Nat) (agg ok:Bool) (zs:List Value) (ob:Ups Δ N R M) (x:V3 Δ N) (key:Δ) (k:K3 Δ N R M Ω):Ω :=
 let fin:=fun (m:M) (rd:List Nat)=>pr.look kd zs m key fun r f=>match qik agg ((cellsOf pr zs.length r).map .d) with
  | some v=>k (if ok then .tup [v,.one (.d f)] else v) [] rd
  | none=>pr.fail
 match x with
  | .one (.d y)=>pr.asM agg y fun m=>fin m []
  | .one (.mk q)=>match q0z ob q with
   | some (.mp agg' m _)=>if agg==agg' then fin m [q] else pr.fail
   | _=>pr.fail
  | _=>pr.fail
def qip:V3 Δ N→Bool | .agg _=>true | _=>false
def updK (kd:Nat) (agg:Bool) (ob:Ups Δ N R M) (x:V3 Δ N) (key:Δ) (v:V3 Δ N) (k:K3 Δ N R M Ω):Ω:=match x with
 | .one (.mk q)=>match q0z ob q with
  | some (.mp agg' m own)=>if (own&&agg==agg'&&qip v==agg)=true then (match v.cells with
   | none=>pr.fail
   | some cs=>qa5 pr ob cs fun ds us rd=>match us with
    | []=>pr.upd kd m key ds fun m'=>k (.one .undef) [(q,.mp agg m' true)] (q::rd)
    | _=>pr.fail) else pr.fail
  | _=>pr.fail
 | _=>pr.fail
def keyV:L3 Δ N→Option Value
 | .i k n=>some (.int k n)
 | .b v=>some (.bool v)
 | _=>none
def qgh (kd:Nat) (ob:Ups Δ N R M) (q:Nat) (key:L3 Δ N) (v:V3 Δ N) (k:K3 Δ N R M Ω):Ω:=match q0z ob q with
 | some (.ml keys vals)=>match keyV key,v with
  | some kv,.one x=>if (q45 kd kv&&x.isDef)=true then (match q2d kd kv keys 0 with
   | some none=>k (.one .undef) [(q,.ml (keys++[kv]) (vals++[x]))] [q]
   | _=>pr.fail) else pr.fail
  | _,_=>pr.fail
 | some (.am m size elem)=>match q3T pr key,v with
  | some y,.one (.pb q' j off)=>if q'=q then pr.eqN off (pr.natN 0) (pr.addK kd m y j fun m'=>k (.one .undef) [(q,.am m' size elem)] [q]) else pr.fail
  | _,_=>pr.fail
 | _=>pr.fail
def mmK (mx:Bool):Δ→List Δ→(Δ→Ω)→Ω
 | a,[],k=>k a
 | a,y::r,k=>pr.mm mx a y fun z=>mmK mx z r k
def binK (P:Program) (op:BinOp) (t:Nat) (x y:V3 Δ N) (k:K3 Δ N R M Ω):Ω:=match x,y with
 | .one x,.one y=>if (q1t P t).isSome=true then (match op,y,q3T pr x with
  | .eql,.nil,some a=>pr.nilE a (k (.one (.b true)) [] []) (k (.one (.b false)) [] [])
  | .neq,.nil,some a=>pr.nilE a (k (.one (.b false)) [] []) (k (.one (.b true)) [] [])
  | _,_,_=>pr.fail) else if ptrC P t=true then (match op,x,y with
  | .eql,.np,.np=>k (.one (.b true)) [] []
  | .neq,.np,.np=>k (.one (.b false)) [] []
  | .eql,.pb _ _ _,.np=>k (.one (.b false)) [] []
  | .neq,.pb _ _ _,.np=>k (.one (.b true)) [] []
  | _,_,_=>pr.fail) else match q3T pr x,q3T pr y with
  | some a,some b=>pr.bin op (qhE P t) a b fun z=>k (.one (.d z)) [] []
  | _,_=>pr.fail
 | .agg xs,.agg ys=>match q7k P 8 t,q4m pr xs,q4m pr ys with
  | some ks,some xs,some ys=>if q3B P t=some true then (match op with
   | .eql=>pr.eqs ks false xs ys fun z=>k (.one (.d z)) [] []
   | .neq=>pr.eqs ks true xs ys fun z=>k (.one (.d z)) [] []
   | _=>pr.fail) else pr.fail
  | _,_,_=>pr.fail
 | _,_=>pr.fail
def qbi (P:Program) (ob:Ups Δ N R M) (dst:Option Nat) (ρ:Operand→V3 Δ N) (c:Call) (k:K3 Δ N R M Ω):Ω:=match c.callee with
 | .builtin .len=>match c.args.toList with
  | [x]=>match c.argTypes.toList with
   | [t]=>match q1t P t with
    | some _=>match ρ x with
     | .one (.slk _ _ n _)=>k (.one (.d (pr.natD n))) [] []
     | .one (.sln _ n)=>k (.one (.d (pr.natD n))) [] []
     | .one .nil=>k (.one (.i .i64 0)) [] []
     | .one (.d y)=>pr.lenD y fun z=>k (.one (.d z)) [] []
     | _=>pr.fail
    | none=>if strC P t=true then (match q5h pr (ρ x) with
     | some y=>pr.lenS y fun z=>k (.one (.d z)) [] []
     | none=>pr.fail) else pr.fail
   | _=>pr.fail
  | _=>pr.fail
 | .builtin .cap=>match c.args.toList,c.argTypes.toList with
  | [x],[t]=>match ρ x with
   | .one .nil=>if (q1t P t).isSome=true then k (.one (.i .i64 0)) [] [] else pr.fail
   | .one (.d y)=>if (q1t P t).isSome=true then pr.nilD y (k (.one (.i .i64 0)) [] []) else pr.fail
   | _=>pr.fail
  | _,_=>pr.fail
 | .builtin .clear=>match c.args.toList,c.argTypes.toList with
  | [x],[t]=>match (q1t P t).bind (q1I P) with
   | some zs=>if 0 < zs.length then (match ρ x with
    | .one .nil=>k (.tup []) [] []
    | .one (.d y)=>pr.nilD y (k (.tup []) [] [])
    | .one (.slk key off n c)=>match q0z ob key with
     | some (.arr rows size elem true)=>if size=zs.length then pr.eqN c (pr.len rows) (pr.eqN (match off with | none=>n | some o=>pr.addN o n) (pr.len rows) (k (.tup []) [(key,.arr (match off with | none=>pr.repl n (zs.map pr.lit) | some o=>pr.app (pr.seg rows none o) (pr.repl n (zs.map pr.lit))) size elem true)] [key])) else pr.fail
     | _=>pr.fail
    | _=>pr.fail) else pr.fail
   | none=>pr.fail
  | _,_=>pr.fail
 | .builtin .copy=>match c.args.toList,c.argTypes.toList with
  | [x,y],[t,t']=>match q1t P t with
   | some e=>match q0S P e with
    | some sz=>if t=t'∧0 < sz then srcK pr sz ob (ρ y) fun new rd=>(match ρ x with
     | .one (.slk key none n c)=>match q0z ob key with
      | some (.arr rows size elem true)=>if size=sz then pr.eqN c (pr.len rows) (pr.eqN n (pr.len rows) (k (.one (.d (pr.natD (pr.minN n (pr.len new))))) [(key,.arr (pr.app (pr.seg new none n) (pr.seg rows (some (pr.len new)) n)) size elem true)] (rd++[key]))) else pr.fail
      | _=>pr.fail
     | _=>pr.fail) else pr.fail
    | none=>pr.fail
   | none=>pr.fail
  | _,_=>pr.fail
 | .builtin .min=>match qcE pr ρ c.args.toList with
  | some (a::r)=>mmK pr false a r fun z=>k (.one (.d z)) [] []
  | _=>pr.fail
 | .builtin .max=>match qcE pr ρ c.args.toList with
  | some (a::r)=>mmK pr true a r fun z=>k (.one (.d z)) [] []
  | _=>pr.fail
 | .builtin .append=>match c.args.toList,c.argTypes.toList with
  | [s,x],[t,t']=>match q1t P t with
   | none=>pr.fail
   | some e=>match q0S P e,q4f P e,q1I P e with
    | some sz,some bs,some zs=>match qg8 P t' with
     | some _=>match ρ s,q5h pr (ρ x) with
      | .one .nil,some y=>if 0 < sz∧zs.length=sz then pr.gap bs y fun n=>q2G pr ob dst (.arr (pr.repl n (zs.map pr.lit)) sz e true) (fun key=>.one (.slk key none n n)) k else pr.fail
      | .one (.d x),some y=>if 0 < sz∧zs.length=sz then pr.nilD x (pr.gap bs y fun n=>q2G pr ob dst (.arr (pr.repl n (zs.map pr.lit)) sz e true) (fun key=>.one (.slk key none n n)) k) else pr.fail
      | _,_=>pr.fail
     | none=>if t=t'∧0 < sz∧0 < bs∧zs.length=sz then srcK pr sz ob (ρ x) fun new rd=>qbl pr ob dst e sz bs (ρ s) new rd k else pr.fail
    | _,_,_=>pr.fail
  | _,_=>pr.fail
 | _=>pr.fail
def op3 (P:Program) (ob:Ups Δ N R M) (dst:Option Nat) (ρ:Operand→V3 Δ N) (op:Op) (k:K3 Δ N R M Ω):Ω:=match op with
 | .move x=>k (ρ x) [] []
 | .assign x=>k (ρ x) [] []
 | .pick c a b=>match ρ c with
  | .one (.b true)=>k (ρ a) [] []
  | .one (.b false)=>k (ρ b) [] []
  | .one (.d y)=>pr.cond y (k (ρ a) [] []) (k (ρ b) [] [])
  | _=>pr.fail
 | .box elem x=>match (ρ x).cells with
  | some cs=>match dst with
   | none=>qa5 pr ob cs fun ds us rd=>k (.one (.dp ds 0)) us rd
   | some key=>match q0z ob key with
    | some (.am m size elem')=>match q4m pr cs with
     | some ds=>if elem'=elem∧cs.length=size then k (.one (.pb key (pr.len (pr.mrows m)) (pr.natN 0))) [(key,.am (pr.mset m (pr.app (pr.mrows m) (pr.rows [ds]))) size elem)] [key] else pr.fail
     | none=>pr.fail
    | _=>q2G pr ob dst (.box cs elem) (fun key=>.one (.ptr key 0)) k
  | none=>pr.fail
 | .alloc elem=>match q1I P elem with
  | some zs=>q2G pr ob dst (.box (zs.map (qgX pr)) elem) (fun key=>.one (.ptr key 0)) k
  | none=>pr.fail
 | .build t parts=>match q1I P t with
  | some zs=>if (q3B P t==some true&&layC P t)=true then (match qho (q6l P t) (zs.map (qgX pr)) (parts.toList.map fun p=>(p.1,ρ p.2)) with
   | some cs=>k (.agg cs) [] []
   | none=>pr.fail) else pr.fail
  | none=>pr.fail
 | .buildSlice t len parts=>match q1t P t with
  | none=>pr.fail
  | some e=>match q0S P e,q1I P e with
   | some s,some zs=>if 0 < s∧zs.length=s∧len*s≤16777216 then qgt pr ob s len (List.replicate len (zs.map pr.lit)) (parts.toList.map fun p=>(p.1,ρ p.2)) fun rows us rd =>
     match dst with
     | some _=>q2G pr ob dst (.arr (pr.rows rows) s e true) (fun key=>.one (.slk key none (pr.natN len) (pr.natN len))) fun v u rd'=>k v (us++u) (rd++rd')
     | none=>k (.one (.d (pr.slD s (pr.rows rows)))) us rd else pr.fail
   | _,_=>pr.fail
 | .load t a=>match q3B P t,q0S P t with
  | some g,some s=>qgV pr g s ob (ρ a) k
  | _,_=>pr.fail
 | .store t a x=>match (ρ x).cells with
  | some cs=>if (q0S P t==some cs.length)=true then qdB pr ob (ρ a) cs k else pr.fail
  | none=>pr.fail
 | .nilCheck x=>match ρ x with
  | .one (.ptr ..)=>k (ρ x) [] []
  | .one (.pa ..)=>k (ρ x) [] []
  | .one (.dp ..)=>k (ρ x) [] []
  | .one (.pb ..)=>k (ρ x) [] []
  | .one (.px ..)=>k (ρ x) [] []
  | .one (.d y)=>pr.isPtr y (k (ρ x) [] [])
  | _=>pr.fail
 | .binOp op t x y _=>binK pr P op t (ρ x) (ρ y) k
 | .unOp op _ x=>match op,ρ x with
  | .not,.one (.b v)=>k (.one (.b !v)) [] []
  | .not,.one (.d y)=>pr.un .not y fun z=>k (.one (.d z)) [] []
  | .neg,v=>match q5h pr v with
   | some y=>pr.un .neg y fun z=>k (.one (.d z)) [] []
   | none=>pr.fail
  | _,_=>pr.fail
 | .makeFunc fn first captured=>match fn,q3J (first.toList.map ρ),q3J (captured.toList.map ρ) with
  | .func f,some [],some caps=>if f < 2000000 then k (.one (.fn f caps)) [] [] else pr.fail
  | .func f,some (c::cs),some []=>k (.one (.fn (f+2000000) (c::cs))) [] []
  | _,_,_=>pr.fail
 | .makeInterface t x=>if conC P t=true then (match q3B P t,ρ x with
  | some false,.one y=>match q3T pr y with
   | some z=>k (.one (.d (pr.ifD t false [z]))) [] []
   | none=>pr.fail
  | some true,.agg ys=>match q4m pr ys with
   | some zs=>k (.one (.d (pr.ifD t true zs))) [] []
   | none=>pr.fail
  | _,_=>pr.fail) else pr.fail
 | .makeSlice t l c=>match q1t P t with
  | none=>pr.fail
  | some e=>match q0S P e,q1I P e,q4f P e with
   | some s,some zs,some bs=>match q5h pr (ρ l),q5h pr (ρ c) with
    | some n,some m=>if 0 < s∧zs.length=s then pr.mkN bs n m fun n=>q2G pr ob dst (.arr (pr.repl n (zs.map pr.lit)) s e true) (fun key=>.one (.slk key none n n)) k else pr.fail
    | _,_=>pr.fail
   | _,_,_=>pr.fail
 | .slice t x lo hi mx=>match q1t P t,mx with
  | some e,none=>match qcD pr ρ lo,qcD pr ρ hi,q0S P e with
   | some l,some h,some s=>cutK pr s ob (ρ x) l h k
   | _,_,_=>pr.fail
  | _,_=>pr.fail
 | .fieldAddr s x f=>match q5G P s f with
  | some p=>match ρ x with
   | .one (.d y)=>match q0S P s with
    | some n=>pr.ptrW n y fun w=>qas pr (q5L pr p.1 (.one (.dp (cellsOf pr n w) 0))) [] k
    | none=>pr.fail
   | v=>qas pr (q5L pr p.1 v) [] k
  | none=>pr.fail
 | .field s x f=>match q5G P s f,ρ x with
  | some p,.agg cs=>qas pr (q2g p.2.2 p.2.1 p.1 cs) [] k
  | _,_=>pr.fail
 | .indexAddr t x ix=>match ρ ix with
  | .one i=>match qhI P t with
   | some p=>match q0S P p.2 with
    | some s=>qc2 pr (some p.1) s ob (ρ x) i k
    | none=>pr.fail
   | none=>match q1t P t with
    | some e=>match q0S P e with
     | some s=>qc2 pr none s ob (ρ x) i k
     | none=>pr.fail
    | none=>pr.fail
  | _=>pr.fail
 | .index t x ix=>match qhI P t with
  | some p=>match q0S P p.2,q3B P p.2,ρ x with
   | some s,some g,.agg cs=>match ρ ix with
    | .one (.i _ z)=>if 0≤z∧z < p.1 then qas pr (q2g g s (z.toNat*s) cs) [] k else pr.fail
    | .one (.d y)=>match q4m pr cs with
     | some ds=>if ds.length=p.1*s then pr.inx y (pr.natN p.1) fun i=>qas pr (qik g ((List.range s).map fun q=>.d (pr.selN i ((List.range p.1).map fun j=>ds.getD (j*s+q) (pr.lit .nilFunc))))) [] k else pr.fail
     | none=>pr.selI p.1 y ((List.range p.1).map fun j=>qas pr (q2g g s (j*s) cs) [] k)
    | _=>pr.fail
   | _,_,_=>pr.fail
  | none=>pr.fail
 | .convert src dst x=>match qg8 P src,qg8 P dst,q5h pr (ρ x) with
  | some _,some kd,some y=>pr.cvI kd y fun z=>k (.one (.d z)) [] []
  | _,_,_=>pr.fail
 | .makeMap t none=>match qbZ P t,(q2T P t).bind (q3B P) with
  | some _,some g=>match (q2T P t).bind fun e=>qjh P e g with
   | some (.mp ..)=>q2G pr ob dst (.mp g pr.emp true) (fun key=>.one (.mk key)) k
   | some (.ml ..)=>q2G pr ob dst (.ml [] []) (fun key=>.one (.mq key)) k
   | some (.am _ _ s t')=>q2G pr ob dst (.am pr.emp s t') (fun key=>.one (.mq key)) k
   | _=>pr.fail
  | _,_=>pr.fail
 | .lookup t x ix ok=>match qbZ P t,q2T P t with
  | some kd,some e=>match q3B P e,q1I P e,q5h pr (ρ ix) with
   | some g,some zs,some key=>if q7Y P e g=true then (match ρ x with
    | .one (.mq q)=>if (!ok&&!g)=true then qex pr kd zs ob q key k else pr.fail
    | v=>qji pr kd g ok zs ob v key k) else pr.fail
   | _,_,_=>pr.fail
  | _,_=>pr.fail
 | .mapUpdate t m q v=>match qbZ P t,(q2T P t).bind (q3B P) with
  | some kd,some g=>match ρ m with
   | .one (.mq r)=>match ρ q with
    | .one x=>qgh pr kd ob r x (ρ v) k
    | _=>pr.fail
   | u=>match q5h pr (ρ q) with
    | some key=>updK pr kd g ob u key (ρ v) k
    | none=>pr.fail
  | _,_=>pr.fail
 | .insert t m q v=>match qbZ P t,(q2T P t).bind (q3B P) with
  | some kd,some g=>match ρ m with
   | .one (.mq r)=>match ρ q with
    | .one x=>qgh pr kd ob r x (ρ v) k
    | _=>pr.fail
   | u=>match q5h pr (ρ q) with
    | some key=>updK pr kd g ob u key (ρ v) k
    | none=>pr.fail
  | _,_=>pr.fail
 | .extract t i=>match ρ t with
  | .tup vs=>qas pr vs[i]? [] k
  | _=>pr.fail
 | .call c=>qbi pr P ob dst ρ c k
 | _=>pr.fail
end
end
section
section
variable {Δ N R W M E Ω:Type} (pr:Pr Δ N R W M E Ω)
def qiN (a b:Value):Bool:=kEq 0 a b==some true||kEq 1 a b==some true||kEq 2 a b==some true
def q82:List Value→List Value→Bool
 | [],[]=>true
 | a::as,b::bs=>qiN a b&&q82 as bs
 | _,_=>false
mutual
def q6K:L3 Unit Unit→L3 Δ N→Option (List (Y Δ N R M))
 | .d _,x=>match q3T pr x with
  | some y=>some [.d y]
  | none=>none
 | .b v,.b v'=>if v=v' then some [] else none
 | .i k n,.i k' n'=>if k=k'∧n=n' then some [] else none
 | .nil,.nil=>some []
 | .dp r o,.dp r' o'=>if r.length=r'.length∧o=o' then some (r'.map .d) else none
 | .fn f cs,.fn f' cs'=>if f=f' then q97 cs cs' else none
 | .slk k none _ _,.slk k' none n c=>if k=k' then some [.n n,.n c] else none
 | .slk k (some _) _ _,.slk k' (some o) n c=>if k=k' then some [.n o,.n n,.n c] else none
 | .slk k (some _) _ _,.slk k' none n c=>if k=k' then some [.n (pr.natN 0),.n n,.n c] else none
 | .pa k _ o _,.pa k' i o' c=>if k=k'∧o=o' then some [.n i,.n c] else none
 | .ptr k o,.ptr k' o'=>if k=k'∧o=o' then some [] else none
 | .mk k,.mk k'=>if k=k' then some [] else none
 | .mq k,.mq k'=>if k=k' then some [] else none
 | .pb k _ _,.pb k' j o=>if k=k' then some [.n j,.n o] else none
 | .px k b n es _ o,.px k' b' n' es' i o'=>if k=k'∧b=b'∧n=n'∧es=es'∧o=o' then some [.n i] else none
 | .np,.np=>some []
 | .sln k _,.sln k' n=>if k=k' then some [.n n] else none
 | .undef,.undef=>some []
 | _,_=>none
def q97:List (L3 Unit Unit)→List (L3 Δ N)→Option (List (Y Δ N R M))
 | [],[]=>some []
 | x::xs,y::ys=>match q6K x y,q97 xs ys with
  | some a,some b=>some (a++b)
  | _,_=>none
 | _,_=>none
end
mutual
def qdp:V3 Unit Unit→V3 Δ N→Option (List (Y Δ N R M))
 | .one x,.one y=>q6K pr x y
 | .agg xs,.agg ys=>q97 pr xs ys
 | .tup xs,.tup ys=>qd2 xs ys
 | _,_=>none
def qd2:List (V3 Unit Unit)→List (V3 Δ N)→Option (List (Y Δ N R M))
 | [],[]=>some []
 | x::xs,y::ys=>match qdp x y,qd2 xs ys with
  | some a,some b=>some (a++b)
  | _,_=>none
 | _,_=>none
end
def fitO:O3 Unit Unit Unit Unit→O3 Δ N R M→Option (List (Y Δ N R M))
 | .box cs e,.box cs' e'=>if e=e' then q97 pr cs cs' else none
 | .arr _ s e o,.arr rows s' e' o'=>if s=s'∧e=e'∧o=o' then some [.r rows] else none
 | .mp g _ o,.mp g' m o'=>if g=g'∧o=o' then some [.m m] else none
 | .ml ks cs,.ml ks' cs'=>if q82 ks ks'=true then q97 pr cs cs' else none
 | .am _ s e,.am m s' e'=>if s=s'∧e=e' then some [.m m] else none
 | .arn _ s e o,.arn rows s' e' o'=>if s=s'∧e=e'∧o=o' then some [.r rows] else none
 | _,_=>none
def fitT (s:V3 Unit Unit) (x:V3 Δ N):Option (List (Y Δ N R M)):=match s with
 | .one .undef=>some []
 | s=>qdp pr s x
def qaa (env:List (Nat×V3 Δ N)):List (Nat×V3 Unit Unit)→Option (List (Y Δ N R M))
 | []=>some []
 | (t,v)::r=>match fitT pr v (q2f env t),qaa env r with
  | some a,some b=>some (a++b)
  | _,_=>none
def qhm (ob:Ups Δ N R M):Ups Unit Unit Unit Unit→Option (List (Y Δ N R M))
 | []=>some []
 | (k,o)::r=>match q0z ob k with
  | some o'=>match fitO pr o o',qhm ob r with
   | some a,some b=>some (a++b)
   | _,_=>none
  | none=>none
def qi2 (sk:Sk):Bool:=(sk.env.all fun p=>p.2.keysOf.all fun k=>(sk.ob.map (·.1)).contains k)&&(sk.ob.all fun p=>p.2.keysOf.all fun k=>(sk.ob.map (·.1)).contains k)
def exEq:Ex→Ex→Bool
 | .normal,.normal=>true
 | .ret,.ret=>true
 | .exit i,.exit j=>i==j
 | _,_=>false
def qee:Option Ex→Option Ex→Bool
 | none,none=>true
 | some a,some b=>exEq a b
 | _,_=>false
def qhl (pk:List Nat) (sk:Sk) (st:S3 Δ N R M):Option (List (Y Δ N R M)) :=
 if (qi2 sk&&pk.all (sk.ob.map (·.1)).contains&&qee sk.pend st.pend&&sk.ys.all st.ys.contains)=true then
  match qaa pr st.env sk.env,qhm pr st.ob sk.ob with
  | some a,some b=>some (a++b)
  | _,_=>none
 else none
def q7l (pk:List Nat) (st:S3 Δ N R M):List Sk→Nat→Option (Nat×List (Y Δ N R M))
 | [],_=>none
 | sk::r,j=>match qhl pr pk sk st with
  | some ys=>some (j,ys)
  | none=>q7l pk st r (j+1)
def qd3 (pk:List Nat) (e:Ex) (st:S3 Δ N R M):List (Ex×Sk)→Nat→Option (Nat×List (Y Δ N R M))
 | [],_=>none
 | (x,sk)::r,j=>if exEq x e=true then (match qhl pr pk sk st with
  | some ys=>some (j,ys)
  | none=>qd3 pk e st r (j+1)) else qd3 pk e st r (j+1)
mutual
def q0R (e:E):L3 Unit Unit→Nat→L3 Δ N×Nat
 | .d _,j=>(.d (pr.ld e j),j+1)
 | .b v,j=>(.b v,j)
 | .i k n,j=>(.i k n,j)
 | .nil,j=>(.nil,j)
 | .dp r o,j=>(.dp ((List.range r.length).map fun i=>pr.ld e (j+i)) o,j+r.length)
 | .fn f cs,j=>(.fn f (q1R e cs j).1,(q1R e cs j).2)
 | .slk k none _ _,j=>(.slk k none (pr.ln e j) (pr.ln e (j+1)),j+2)
 | .slk k (some _) _ _,j=>(.slk k (some (pr.ln e j)) (pr.ln e (j+1)) (pr.ln e (j+2)),j+3)
 | .pa k _ o _,j=>(.pa k (pr.ln e j) o (pr.ln e (j+1)),j+2)
 | .ptr k o,j=>(.ptr k o,j)
 | .mk k,j=>(.mk k,j)
 | .mq k,j=>(.mq k,j)
 | .pb k _ _,j=>(.pb k (pr.ln e j) (pr.ln e (j+1)),j+2)
 | .px k b n es _ o,j=>(.px k b n es (pr.ln e j) o,j+1)
 | .np,j=>(.np,j)
 | .sln k _,j=>(.sln k (pr.ln e j),j+1)
 | .undef,j=>(.undef,j)
def q1R (e:E):List (L3 Unit Unit)→Nat→List (L3 Δ N)×Nat
 | [],j=>([],j)
 | x::xs,j=>((q0R e x j).1::(q1R e xs (q0R e x j).2).1,(q1R e xs (q0R e x j).2).2)
end
mutual
def q1V (e:E):V3 Unit Unit→Nat→V3 Δ N×Nat
 | .one x,j=>(.one (q0R pr e x j).1,(q0R pr e x j).2)
 | .agg xs,j=>(.agg (q1R pr e xs j).1,(q1R pr e xs j).2)
 | .tup xs,j=>(.tup (q3z e xs j).1,(q3z e xs j).2)
def q3z (e:E):List (V3 Unit Unit)→Nat→List (V3 Δ N)×Nat
 | [],j=>([],j)
 | x::xs,j=>((q1V e x j).1::(q3z e xs (q1V e x j).2).1,(q3z e xs (q1V e x j).2).2)
end
def q2I (e:E):O3 Unit Unit Unit Unit→Nat→O3 Δ N R M×Nat
 | .box cs el,j=>(.box (q1R pr e cs j).1 el,(q1R pr e cs j).2)
 | .arr _ s el o,j=>(.arr (pr.lr e j) s el o,j+1)
 | .mp g _ o,j=>(.mp g (pr.lm e j) o,j+1)
 | .ml ks cs,j=>(.ml ks (q1R pr e cs j).1,(q1R pr e cs j).2)
 | .am _ s el,j=>(.am (pr.lm e j) s el,j+1)
 | .arn _ s el o,j=>(.arn (pr.lr e j) s el o,j+1)
def q2i (e:E):List (Nat×V3 Unit Unit)→Nat→List (Nat×V3 Δ N)×Nat
 | [],j=>([],j)
 | (t,v)::r,j=>((t,(q1V pr e v j).1)::(q2i e r (q1V pr e v j).2).1,(q2i e r (q1V pr e v j).2).2)
def q4z (e:E):Ups Unit Unit Unit Unit→Nat→Ups Δ N R M×Nat
 | [],j=>([],j)
 | (k,o)::r,j=>((k,(q2I pr e o j).1)::(q4z e r (q2I pr e o j).2).1,(q4z e r (q2I pr e o j).2).2)
def q3i (e:E) (sk:Sk):S3 Δ N R M :=
 ⟨(q2i pr e sk.env 0).1,(q4z pr e sk.ob (q2i pr e sk.env 0).2).1,sk.ys,sk.pend⟩
def q9w (P:Program) (ob:Ups Δ N R M) (env:List (Nat×V3 Δ N)):List ResultVar→(List (V3 Δ N)→Ω)→Ω
 | [],k=>k []
 | .tmp t::r,k=>q9w P ob env r fun vs=>k (q2f env t::vs)
 | .cell a T::r,k=>match q3B P T,q0S P T with
  | some g,some s=>qgV pr g s ob (q2f env a) fun v _ _=>q9w P ob env r fun vs=>k (v::vs)
  | _,_=>pr.fail
def rcK (ob:Ups Δ N R M):RK→L3 Δ N→(Y Δ N R M→List Nat→Ω)→Ω
 | .d,.slk key none n c,k=>match q0z ob key with
  | some (.arr rows size _ _)=>pr.eqN c (pr.len rows) (pr.leN n (pr.len rows) (k (.d (pr.slD size (pr.seg rows none n))) [key]))
  | _=>pr.fail
 | .own s e,.slk key none n c,k=>match q0z ob key with
  | some (.arr rows size elem true)=>if s=size∧e=elem then pr.eqN c (pr.len rows) (pr.leN n (pr.len rows) (k (.r (pr.seg rows none n)) [key])) else pr.fail
  | _=>pr.fail
 | .d,.mk key,k=>match q0z ob key with
  | some (.mp agg m _)=>k (.d (pr.mpD agg m)) [key]
  | _=>pr.fail
 | .om g,.mk key,k=>match q0z ob key with
  | some (.mp agg m true)=>if g=agg then k (.m m) [key] else pr.fail
  | _=>pr.fail
 | .d,x,k=>match q3T pr x with
  | some y=>k (.d y) []
  | none=>pr.fail
 | _,_,_=>pr.fail
def rcsK (ob:Ups Δ N R M):List RK→List (L3 Δ N)→(List (Y Δ N R M)→List Nat→Ω)→Ω
 | [],[],k=>k [] []
 | r::rs,x::xs,k=>rcK pr ob r x fun y u=>rcsK ob rs xs fun ys us=>k (y::ys) (u++us)
 | _,_,_=>pr.fail
def q7I (ob:Ups Δ N R M):RS→List (V3 Δ N)→(List (Y Δ N R M)→List Nat→Ω)→Ω
 | [],[],k=>k [] []
 | (false,[r])::rs,.one x::vs,k=>rcK pr ob r x fun y u=>q7I ob rs vs fun ys us=>k (y::ys) (u++us)
 | (true,r)::rs,.agg xs::vs,k=>rcsK pr ob r xs fun y u=>q7I ob rs vs fun ys us=>k (y++ys) (u++us)
 | _,_,_=>pr.fail
def rcFit (ob:Ups Δ N R M):RK→L3 Δ N→Bool
 | .d,.undef=>false
 | .d,_=>true
 | .own s e,.slk key none _ _=>match q0z ob key with
  | some (.arr _ size elem own)=>own&&s==size&&e==elem
  | _=>false
 | .om g,.mk key=>match q0z ob key with
  | some (.mp agg _ own)=>own&&g==agg
  | _=>false
 | _,_=>false
def qbM (ob:Ups Δ N R M):List RK→List (L3 Δ N)→Bool
 | [],[]=>true
 | r::rs,x::xs=>rcFit ob r x&&qbM ob rs xs
 | _,_=>false
def q6S (ob:Ups Δ N R M):RS→List (V3 Δ N)→Bool
 | [],[]=>true
 | (false,[r])::rs,.one x::vs=>rcFit ob r x&&q6S ob rs vs
 | (true,r)::rs,.agg xs::vs=>qbM ob r xs&&q6S ob rs vs
 | _,_=>false
def RK.isD:RK→Bool | .d=>true | _=>false
def allD (rs:RS):Bool:=rs.all fun p=>p.2.all RK.isD
def q9t (ob:Ups Δ N R M) (vs:List (V3 Δ N)):List RS→Nat→Option (Nat×RS)
 | [],_=>none
 | x::r,j=>if q6S ob x vs=true then some (j,x) else q9t ob vs r (j+1)
def formC (ob:Ups Δ N R M):L3 Δ N→RK
 | .slk key none _ _=>match q0z ob key with
  | some (.arr _ size elem true)=>.own size elem
  | _=>.d
 | .mk key=>match q0z ob key with
  | some (.mp agg _ true)=>.om agg
  | _=>.d
 | _=>.d
def formV (ob:Ups Δ N R M):V3 Δ N→Bool×List RK
 | .one x=>(false,[formC ob x])
 | .agg xs=>(true,xs.map (formC ob))
 | .tup _=>(false,[])
def qi6 (ob:Ups Δ N R M):List (V3 Δ N)→(List (Y Δ N R M)→Ω)→Ω
 | [],k=>k []
 | .one x::vs,k=>q3S pr ob 4 x fun y _=>qi6 ob vs fun ys=>k (.d y::ys)
 | .agg xs::vs,k=>q9l (q3S pr ob 4) xs fun y _=>qi6 ob vs fun ys=>k (y.map .d++ys)
 | .tup _::_,_=>pr.fail
def q4s:List Nat→Bool
 | []=>true
 | x::xs=>!xs.contains x&&q4s xs
def q8Z (e:E) (base:Nat):RK→Nat→Nat→L3 Δ N×Ups Δ N R M×Nat
 | .d,j,n=>(.d (pr.ld e j),[],n)
 | .own size elem,j,n=>(.slk (base+n) none (pr.len (pr.lr e j)) (pr.len (pr.lr e j)),[(base+n,.arr (pr.lr e j) size elem true)],n+1)
 | .om agg,j,n=>(.mk (base+n),[(base+n,.mp agg (pr.lm e j) true)],n+1)
def q2e (e:E) (base:Nat):List RK→Nat→Nat→List (L3 Δ N)×Ups Δ N R M×Nat
 | [],_,n=>([],[],n)
 | x::xs,j,n=>((q8Z pr e base x j n).1::(q2e e base xs (j+1) (q8Z pr e base x j n).2.2).1,(q8Z pr e base x j n).2.1++(q2e e base xs (j+1) (q8Z pr e base x j n).2.2).2.1,(q2e e base xs (j+1) (q8Z pr e base x j n).2.2).2.2)
def one3 (g:Bool) (xs:List (L3 Δ N)):V3 Δ N:=match g,xs with
 | false,[x]=>.one x
 | _,xs=>.agg xs
def q1j (e:E) (base:Nat):RS→Nat→Nat→List (V3 Δ N)×Ups Δ N R M×Nat
 | [],_,n=>([],[],n)
 | (g,cs)::r,j,n=>(one3 g (q2e pr e base cs j n).1::(q1j e base r (j+cs.length) (q2e pr e base cs j n).2.2).1,(q2e pr e base cs j n).2.1++(q1j e base r (j+cs.length) (q2e pr e base cs j n).2.2).2.1,(q1j e base r (j+cs.length) (q2e pr e base cs j n).2.2).2.2)
def q2S:List (V3 Δ N)→V3 Δ N
 | [x]=>x
 | xs=>.tup xs
def q7E (ob:Ups Δ N R M):Ups Δ N R M→Bool
 | []=>true
 | (k,_)::r=>(match q0z ob k with | none=>true | some _=>false)&&q7E ob r
def q9a:List Sh→List Δ→Option (List (V3 Δ N))
 | [],[]=>some []
 | .one::r,x::xs=>match q9a r xs with
  | some vs=>some (.one (.d x)::vs)
  | none=>none
 | .agg n::r,xs=>if (xs.take n).length=n then (match q9a r (xs.drop n) with
  | some vs=>some (.agg ((xs.take n).map .d)::vs)
  | none=>none) else none
 | .ptr n::r,xs=>if (xs.take n).length=n then (match q9a r (xs.drop n) with
  | some vs=>some (.one (.dp (xs.take n) 0)::vs)
  | none=>none) else none
 | _,_=>none
def q5a (ob:Ups Δ N R M):List Sh→List (V3 Δ N)→(List Δ→List Nat→Ω)→Ω
 | [],[],k=>k [] []
 | .one::r,.one x::vs,k=>q3S pr ob 4 x fun d rd=>q5a ob r vs fun ds rd'=>k (d::ds) (rd++rd')
 | .agg n::r,.agg xs::vs,k=>if xs.length=n then q9l (q3S pr ob 4) xs fun d rd=>q5a ob r vs fun ds rd'=>k (d++ds) (rd++rd') else pr.fail
 | .ptr n::r,.one (.dp row o)::vs,k=>if row.length=n∧o=0 then q5a ob r vs fun ds rd'=>k (row++ds) rd' else pr.fail
 | .ptr n::r,.one (.d x)::vs,k=>pr.ptrW n x fun w=>q5a ob r vs fun ds rd'=>k (cellsOf pr n w++ds) rd'
 | .ptr n::r,.one (.ptr key o)::vs,k=>match q0z ob key with
  | some (.box cells _)=>if cells.length=n∧o=0 then q9l (q3S pr ob 3) cells fun d rd=>q5a ob r vs fun ds rd'=>k (d++ds) (key::rd++rd') else pr.fail
  | _=>pr.fail
 | .ptr n::r,.one (.pa key i o c)::vs,k=>match q0z ob key with
  | some (.arr rows size _ _)=>if size=n∧o=0 then pr.eqN c (pr.len rows) (pr.rowAt size rows i fun w=>q5a ob r vs fun ds rd'=>k (cellsOf pr size w++ds) (key::rd')) else pr.fail
  | _=>pr.fail
 | _,_,_=>pr.fail
def L3.isD:L3 Δ N→Bool
 | .d _ | .b _ | .i _ _ | .nil | .dp _ _=>true
 | _=>false
def L3.isF:L3 Δ N→Bool
 | .fn _ caps=>caps.all L3.isD
 | x=>x.isD
def V3.isD:V3 Δ N→Bool
 | .one l=>l.isF
 | .agg ls=>ls.all L3.isD
 | .tup _=>false
structure Ms where
 args:List (V3 Unit Unit)
 obs:List (Nat×O3 Unit Unit Unit Unit)
 res:Option (Bool×Nat)
 ref:Option Nat
 wn:Bool
structure Cf3 where
 inl:Nat→Option Bd
 draw:Nat→Nat→Array Oper→List (Nat×Nat)
 lp:Nat→Nat→Nat→List (Sk×List Sk×List (Ex×Sk))
 jn:Nat→Nat→Nat→Option (List (Sk×List (Ex×Sk)))
 gj:Nat→Nat→Nat→Option (Nat×List (Sk×List (Ex×Sk)))
 ash:Nat→Option (List Sh)
 rsk:Nat→List RS
 iv:String→Nat
 ms:Nat→Option Ms
 sp:Nat→Option (Nat×Nat×Nat)
 cb:Nat→Nat→Bool
 fz:Nat→Nat→Nat→List (Option Nat×Nat)
 ar:Nat→Nat→Option Nat
 nz:Nat→Nat→Nat→List ((Option Nat×Nat)×(Nat×Nat×Nat))
def fn3:V3 Δ N→Option (Nat×List (L3 Δ N))
 | .one (.fn f caps)=>if f < 2000000 then some (f,caps) else none
 | _=>none
def qeD (e:E) (p:RK×Nat):Y Δ N R M:=match p.1 with
 | .d=>.d (pr.ld e p.2)
 | .own _ _=>.r (pr.lr e p.2)
 | .om _=>.m (pr.lm e p.2)
def qhD (cfg:Cf3) (ob:Ups Δ N R M) (dst:Option Nat) (f:Nat) (args:List (V3 Δ N)) (caps:List (L3 Δ N)) (k:K3 Δ N R M Ω):Ω:=match cfg.ash f with
 | none=>pr.fail
 | some sh=>q5a pr ob sh (args++caps.map .one) fun ds rd=>pr.bnd (pr.call f ds) ((cfg.rsk f).map fun rs=>fun e =>
   let vs:=(q1j pr e (q2l dst) rs 0 0).1
   let us:=(q1j pr e (q2l dst) rs 0 0).2.1
   if q4s (us.map (·.1))=true∧q7E ob us=true then
    (if (args.all V3.isD&&caps.all L3.isD)=true then k (q2S vs) us (rd++us.map (·.1)) else pr.lits ((rs.flatMap (·.2)).zipIdx.map (qeD pr e)) (k (q2S vs) us (rd++us.map (·.1))))
   else pr.fail)
def shs3:List (V3 Δ N)→Option (List Sh)
 | []=>some []
 | .one (.dp _ _)::_=>none
 | .one (.ptr _ _)::_=>none
 | .one (.pa _ _ _ _)::_=>none
 | .one _::r=>match shs3 r with
  | some s=>some (.one::s)
  | none=>none
 | .agg xs::r=>match shs3 r with
  | some s=>some (.agg xs.length::s)
  | none=>none
 | .tup _::_=>none
def opC3 (cfg:Cf3) (P:Program) (ob:Ups Δ N R M) (dst:Option Nat) (ρ:Operand→V3 Δ N) (op:Op) (k:K3 Δ N R M Ω):Ω:=match q3u op with
 | some (fo,args)=>match ρ fo with
  | .one (.fn f caps)=>if f < 2000000 then qhD pr cfg ob dst f (args.map ρ) caps k else qhD pr cfg ob dst (f - 2000000) (caps.map .one++args.map ρ) [] k
  | .one (.d x)=>match shs3 (args.map ρ) with
   | some sh=>q5a pr ob sh (args.map ρ) fun ds rd=>pr.bnd (pr.callD x sh ds) [fun e=>if (args.map ρ).all V3.isD=true then k (.one (.d (pr.ld e 0))) [] rd else pr.lits [.d (pr.ld e 0)] (k (.one (.d (pr.ld e 0))) [] rd)]
   | none=>pr.fail
  | _=>pr.fail
 | none=>match qaY op with
  | some (recv,name)=>match ρ recv with
   | .one (.d x)=>pr.bnd (pr.callD x [.met name (cfg.iv name)] []) [fun e =>
    let vs:=(q1j pr e (q2l dst) (List.replicate (cfg.iv name) (false,[.d])) 0 0).1
    let us:=(q1j pr e (q2l dst) (List.replicate (cfg.iv name) (false,[.d])) 0 0).2.1
    if q4s (us.map (·.1))=true∧q7E ob us=true then k (q2S vs) us (us.map (·.1)) else pr.fail]
   | _=>pr.fail
  | none=>op3 pr P ob dst ρ op k
mutual
def q1r (ρ:Nat→Nat):L3 Unit Unit→L3 Δ N→Option (List Δ)
 | .d _,x=>match q3T pr x with
  | some y=>some [y]
  | none=>none
 | .fn f cs,.fn f' cs'=>if f=f' then q3q ρ cs cs' else none
 | .mk c,.mk k=>if ρ c=k then some [] else none
 | .ptr c o,.ptr k o'=>if ρ c=k∧o=o' then some [] else none
 | .dp r o,.dp row o'=>if r.length=row.length∧o=o' then some row else none
 | .mq c,.mq k=>if ρ c=k then some [] else none
 | .slk c none _ _,.slk k none n c'=>if ρ c=k then some [pr.natD n,pr.natD c'] else none
 | _,_=>none
def q3q (ρ:Nat→Nat):List (L3 Unit Unit)→List (L3 Δ N)→Option (List Δ)
 | [],[]=>some []
 | s::ss,x::xs=>match q1r ρ s x,q3q ρ ss xs with
  | some a,some b=>some (a++b)
  | _,_=>none
 | _,_=>none
end
def q6t (ρ:Nat→Nat):V3 Unit Unit→V3 Δ N→Option (List Δ)
 | .one (.slk c none _ _),.one (.slk k none _ _)=>if ρ c=k then some [] else none
 | .one s,.one x=>q1r pr ρ s x
 | .agg ss,.agg xs=>q3q pr ρ ss xs
 | _,_=>none
def q4S (ρ:Nat→Nat):List (V3 Unit Unit)→List (V3 Δ N)→Option (List Δ)
 | [],[]=>some []
 | s::ss,x::xs=>match q6t pr ρ s x,q4S ρ ss xs with
  | some a,some b=>some (a++b)
  | _,_=>none
 | _,_=>none
def q1E (ρ:Nat→Nat) (ob:Ups Δ N R M) (wn:Bool):List (Nat×O3 Unit Unit Unit Unit)→Option (List Δ)
 | []=>some []
 | (c,.box cells e)::r=>match q0z ob (ρ c) with
  | some (.box cells' e')=>if e=e' then (match q3q pr ρ cells cells',q1E ρ ob wn r with
   | some a,some b=>some (a++b)
   | _,_=>none) else none
  | _=>none
 | (c,.mp g _ true)::r=>match q0z ob (ρ c) with
  | some (.mp g' m true)=>if g=g' then (match q1E ρ ob wn r with
   | some b=>some (pr.mpD g m::b)
   | none=>none) else none
  | _=>none
 | (c,.am _ size elem)::r=>match q0z ob (ρ c) with
  | some (.am m size' elem')=>if size=size'∧elem=elem' then (match q1E ρ ob wn r with
   | some b=>some (pr.mpD true m::b)
   | none=>none) else none
  | _=>none
 | (c,.arr _ size elem _)::r=>match q0z ob (ρ c) with
  | some (.arr rows size' elem' own)=>if size=size'∧elem=elem'∧own=wn then (match q1E ρ ob wn r with
   | some b=>some (pr.slD size rows::b)
   | none=>none) else none
  | _=>none
 | _=>none
mutual
def q3N (dn:Δ→N) (ρ:Nat→Nat):L3 Unit Unit→List Δ→Option (L3 Δ N×List Δ)
 | .d _,x::xs=>some (.d x,xs)
 | .fn f cs,xs=>match q4d dn ρ cs xs with
  | some (ys,r)=>some (.fn f ys,r)
  | none=>none
 | .mk c,xs=>some (.mk (ρ c),xs)
 | .mq c,xs=>some (.mq (ρ c),xs)
 | .slk c none _ _,x::y::xs=>some (.slk (ρ c) none (dn x) (dn y),xs)
 | .ptr c o,xs=>some (.ptr (ρ c) o,xs)
 | .dp r o,xs=>if (xs.take r.length).length=r.length then some (.dp (xs.take r.length) o,xs.drop r.length) else none
 | _,_=>none
def q4d (dn:Δ→N) (ρ:Nat→Nat):List (L3 Unit Unit)→List Δ→Option (List (L3 Δ N)×List Δ)
 | [],xs=>some ([],xs)
 | s::ss,xs=>match q3N dn ρ s xs with
  | some (y,r)=>match q4d dn ρ ss r with
   | some (ys,r')=>some (y::ys,r')
   | none=>none
  | none=>none
end
def q4V (ρ:Nat→Nat) (us:Ups Δ N R M):V3 Unit Unit→List Δ→Option (V3 Δ N×List Δ)
 | .one (.slk c none _ _),xs=>match q0z us (ρ c) with
  | some (.arr rows _ _ _)=>some (.one (.slk (ρ c) none (pr.len rows) (pr.len rows)),xs)
  | _=>none
 | .one s,xs=>match q3N pr.dN ρ s xs with
  | some (y,r)=>some (.one y,r)
  | none=>none
 | .agg ss,xs=>match q4d pr.dN ρ ss xs with
  | some (ys,r)=>some (.agg ys,r)
  | none=>none
 | _,_=>none
def q4A (ρ:Nat→Nat) (us:Ups Δ N R M):List (V3 Unit Unit)→List Δ→Option (List (V3 Δ N)×List Δ)
 | [],xs=>some ([],xs)
 | s::ss,xs=>match q4V pr ρ us s xs with
  | some (y,r)=>match q4A ρ us ss r with
   | some (ys,r')=>some (y::ys,r')
   | none=>none
  | none=>none
def q3M (ρ:Nat→Nat) (wn:Bool):List (Nat×O3 Unit Unit Unit Unit)→List Δ→(Ups Δ N R M→List Δ→Ω)→Ω
 | [],xs,k=>k [] xs
 | (c,.box cells e)::r,xs,k=>match q4d pr.dN ρ cells xs with
  | some (ys,xs')=>q3M ρ wn r xs' fun us zs=>k ((ρ c,.box ys e)::us) zs
  | none=>pr.fail
 | (c,.mp g _ true)::r,x::xs,k=>pr.asM g x fun m=>q3M ρ wn r xs fun us zs=>k ((ρ c,.mp g m true)::us) zs
 | (c,.am _ size elem)::r,x::xs,k=>pr.asM true x fun m=>q3M ρ wn r xs fun us zs=>k ((ρ c,.am m size elem)::us) zs
 | (c,.arr _ size elem _)::r,x::xs,k=>pr.rowsD size x fun rows=>q3M ρ wn r xs fun us zs=>k ((ρ c,.arr rows size elem wn)::us) zs
 | _,_,_=>pr.fail
def q7s:List (V3 Unit Unit)→List (V3 Δ N)→List (Nat×N×N)
 | .one (.slk _ none _ _)::ss,.one (.slk k none n c)::xs=>(k,n,c)::q7s ss xs
 | _::ss,_::xs=>q7s ss xs
 | _,_=>[]
def chkK (ob:Ups Δ N R M):List (Nat×N×N)→Ω→Ω
 | [],k=>k
 | (key,n,c)::r,k=>match q0z ob key with
  | some (.arr rows _ _ _)=>pr.eqN n (pr.len rows) (pr.eqN c (pr.len rows) (chkK ob r k))
  | _=>pr.fail
mutual
def qiq:L3 Unit Unit→L3 Δ N→List (Nat×Nat)
 | .mk c,.mk k=>[(c,k)]
 | .mq c,.mq k=>[(c,k)]
 | .ptr c _,.ptr k _=>[(c,k)]
 | .slk c _ _ _,.slk k _ _ _=>[(c,k)]
 | .fn _ cs,.fn _ cs'=>q92 cs cs'
 | _,_=>[]
def q92:List (L3 Unit Unit)→List (L3 Δ N)→List (Nat×Nat)
 | s::ss,x::xs=>qiq s x++q92 ss xs
 | _,_=>[]
end
def q63:List (V3 Unit Unit)→List (V3 Δ N)→List (Nat×Nat)
 | .one s::ss,.one x::xs=>qiq s x++q63 ss xs
 | .agg s::ss,.agg x::xs=>q92 s x++q63 ss xs
 | _::ss,_::xs=>q63 ss xs
 | _,_=>[]
def qc4 (ob:Ups Δ N R M) (al:List (Nat×Nat)):List (Nat×O3 Unit Unit Unit Unit)→List (Nat×Nat)
 | []=>[]
 | (c,.box cells _)::r=>(match al.find? (fun p=>p.1==c) with
  | some (_,k)=>match q0z ob k with
   | some (.box cells' _)=>q92 cells cells'
   | _=>[]
  | none=>[])++qc4 ob al r
 | _::r=>qc4 ob al r
def qgz (al:List (Nat×Nat)) (c:Nat):Nat:=match al.find? (fun p=>p.1==c) with
 | some (_,k)=>k
 | none=>c
mutual
def cntL:L3 Unit Unit→Nat
 | .d _=>1
 | .fn _ cs=>qfj cs
 | .dp r _=>r.length
 | .slk _ none _ _=>2
 | _=>0
def qfj:List (L3 Unit Unit)→Nat
 | []=>0
 | x::xs=>cntL x+qfj xs
end
def qch:List (Nat×O3 Unit Unit Unit Unit)→Nat
 | []=>0
 | (_,.box cells _)::r=>qfj cells+qch r
 | (_,_)::r=>1+qch r
def okMs (ms:Ms):Bool :=
 let C:=ms.obs.map (·.1)
 q4s C&&(V3.keysF ms.args).all C.contains&&(ms.obs.all fun p=>p.2.keysOf.all C.contains)&&(match ms.ref with | none=>true | some c=>C.contains c)
def qiR:Option (Bool×Nat)→Nat
 | none=>0
 | some (_,n)=>n
def q6W (e:Nat→Δ):Option (Bool×Nat)→V3 Δ N
 | none=>.tup []
 | some (false,_)=>.one (.d (e 0))
 | some (true,n)=>.agg ((List.range n).map fun i=>.d (e i))
def qgK:List (V3 Unit Unit)→List (V3 Δ N)→List (V3 Δ N)
 | .one (.d _)::ss,.one (.fn f cs)::xs=>(match q4m pr cs with
  | some ds=>.one (.d (pr.fnD f ds))
  | none=>.one (.fn f cs))::qgK ss xs
 | _::ss,x::xs=>x::qgK ss xs
 | _,xs=>xs
def qeN:V3 Δ N→Bool
 | .one (.slk ..)=>true
 | _=>false
def qis (ms:Ms) (args:List (V3 Δ N)):Bool:=if ms.args.isEmpty then args.any qeN else (ms.args.map qeN==args.map qeN)
def qaA (f:Nat):Nat:=if f < 300000 then f else if f < 600000 then f - 300000 else f - 600000
def slkL {Δ N:Type}:L3 Δ N→Bool
 | .slk ..=>true
 | _=>false
def qax:List (L3 Unit Unit)→List (L3 Δ N)→Bool
 | [],[]=>true
 | x::xs,y::ys=>match slkL x,slkL y with
  | true,true=>qax xs ys
  | false,false=>qax xs ys
  | _,_=>false
 | _,_=>false
def fitMs (ms:Ms) (args:List (V3 Δ N)) (ob:Ups Δ N R M):Bool:=match ms.args,args with
 | .one (.ptr _ _)::_,.one (.ptr k _)::_=>match ms.obs,q0z ob k with
  | (_,.box cells _)::_,some (.box cells' _)=>qax cells cells'
  | _,_=>false
 | _,_=>false
def formOf (cfg:Cf3) (f:Nat) (args:List (V3 Δ N)) (ob:Ups Δ N R M):Nat:=match cfg.ms f with
 | some ms=>if qis ms args=true then 0 else match cfg.ms (f+300000) with
  | some ms2=>if (ms2.args.isEmpty||fitMs ms2 args ob)=true then 1 else 2
  | none=>0
 | none=>0
def qaj (cfg:Cf3) (f:Nat) (args:List (V3 Δ N)) (ob:Ups Δ N R M) (kk:V3 Δ N→Ups Δ N R M→List Nat→Ω):Ω:=match cfg.ms f with
 | none=>pr.fail
 | some ms =>
  let args0:=args
  let args:=qgK pr ms.args args
  let al:=q63 ms.args args
  let al:=al++qc4 ob al ms.obs
  if (okMs ms&&q4s ((ms.obs.map (·.1)).map (qgz al)))=true then
   match q4S pr (qgz al) ms.args args,q1E pr (qgz al) ob true ms.obs with
   | some xs,some ys=>chkK pr ob (q7s ms.args args) (pr.bnd (pr.call (f+1000000) (ys++xs)) [fun e=>q3M pr (qgz al) ms.wn ms.obs ((List.range (qch ms.obs)).map fun i=>pr.ld e (qiR ms.res+i)) fun us _=>match ms.ref with
     | none=>kk (q6W (pr.ld e) ms.res) us (al.map (·.2)++ms.obs.map fun p=>qgz al p.1)
     | some c=>match q0z us (qgz al c) with
      | some (.arr rows _ _ _)=>kk (.one (.slk (qgz al c) none (pr.len rows) (pr.len rows))) us (al.map (·.2)++ms.obs.map fun p=>qgz al p.1)
      | _=>pr.fail])
   | _,_=>pr.miss 8 f 0 0 [] .normal ⟨args0.zipIdx.map fun p=>(p.2,p.1),ob,[],none⟩ []
  else pr.miss 8 f 0 0 [] .normal ⟨args0.zipIdx.map fun p=>(p.2,p.1),ob,[],none⟩ []
def qck (cfg:Cf3) (f:Nat) (args:List (V3 Δ N)) (ob:Ups Δ N R M) (kk:V3 Δ N→Ups Δ N R M→List Nat→Ω):Ω:=if f < 300000 then (match formOf cfg f args ob with
  | 0=>qaj pr cfg f args ob kk
  | 1=>qaj pr cfg (f+300000) args ob kk
  | _=>qaj pr cfg (f+600000) args ob kk) else pr.fail
def qjJ (cfg:Cf3) (f:Nat) (args:List (V3 Δ N)) (ob:Ups Δ N R M) (kk:V3 Δ N→Ups Δ N R M→Ω):Ω:=qck pr cfg f args ob fun v us _=>kk v (q1N us ob)
def qiS:Option (Bool×Nat)→V3 Δ N→Option (List (L3 Δ N))
 | none,.tup []=>some []
 | some (false,1),.one x=>some [x]
 | some (true,n),.agg xs=>if xs.length=n then some xs else none
 | _,_=>none
def qix (ms:Ms) (v:V3 Δ N) (ob:Ups Δ N R M) (k:List (L3 Δ N)→Ω):Ω:=match ms.ref with
 | none=>match qiS ms.res v with
  | none=>pr.fail
  | some cs=>k cs
 | some c=>match v with
  | .one (.slk key none n m)=>if key=c∧ms.res=none∧(ms.obs.map (·.1)).contains c=true then (match q0z ob c with
   | some (.arr rows _ _ _)=>pr.eqN n (pr.len rows) (pr.eqN m (pr.len rows) (k []))
   | _=>pr.fail) else pr.fail
  | _=>pr.fail
def finK (ms:Ms) (ob:Ups Δ N R M) (cs:List (L3 Δ N)):Ω:=qa5 pr ob cs fun ds us _=>match q1E pr id (q1N us ob) ms.wn ms.obs with
  | some ys=>pr.out 0 ((ds++ys).map .d)
  | none=>pr.fail
def finM (ms:Ms) (v:V3 Δ N) (ob:Ups Δ N R M):Ω:=qix pr ms v ob (finK pr ms ob)
def q8j (ob:Ups Δ N R M):Nat→Nat→Nat
 | 0,k=>k
 | n+1,k=>if ob.all fun p=>p.1 != k&&(Nat.blt p.1 (1000*(k+1))||Nat.ble (1000*(k+2)) p.1) then k else q8j ob n (k+1000000000)
def qfs (cfg:Cf3) (f:Nat) (args:List (V3 Δ N)) (b:Nat) (ob:Ups Δ N R M) (kk:V3 Δ N→Ups Δ N R M→Ω):Ω:=match cfg.sp f with
 | none=>pr.fail
 | some (size,elem,bs)=>match args with
  | [s,.one i,.one (.slk key2 none n2 c2)]=>match q3T pr i,q0z ob key2 with
   | some y,some (.arr rows2 size2 _ true)=>if size2=size then pr.eqN c2 (pr.len rows2) (pr.isNil (pr.seg rows2 none n2) pr.fail (
     let nilc:=pr.fits bs (pr.len (pr.seg rows2 none n2)) (pr.ins y (pr.rows []) (pr.seg rows2 none n2) fun r =>
      q2G pr ob (some (q8j ob 8 b)) (.arr r size elem true) (fun key=>.one (.slk key none (pr.len (pr.seg rows2 none n2)) (pr.len (pr.seg rows2 none n2)))) fun v us _=>kk v (q1N us ob))
     match s with
     | .one .nil=>nilc
     | .one (.d x)=>pr.nilD x nilc
     | .one (.slk key none n c)=>if key=key2 then pr.fail else match q0z ob key with
      | some (.arr rows size' elem' true)=>if size'=size∧elem'=elem then pr.eqN c (pr.len rows) (pr.eqN n (pr.len rows) (pr.fits bs (pr.addN n (pr.len (pr.seg rows2 none n2))) (pr.ins y rows (pr.seg rows2 none n2) fun r =>
        kk (.one (.slk key none (pr.addN n (pr.len (pr.seg rows2 none n2))) (pr.addN n (pr.len (pr.seg rows2 none n2))))) (q1N [(key,.arr r size elem true)] ob)))) else pr.fail
      | _=>pr.fail
     | _=>pr.fail)) else pr.fail
   | _,_=>pr.fail
  | _=>pr.fail
abbrev Hd3 (Δ N R M Ω:Type):=List (V3 Δ N)→Ups Δ N R M→(Option Ex→Ups Δ N R M→Ω)→Ω
abbrev Rn3 (Δ N R M Ω:Type):=Nat→List (V3 Δ N)→Nat→Ups Δ N R M→(V3 Δ N→Ups Δ N R M→Ω)→Ω
def kd3 (ob:Ups Δ N R M) (b:Nat) (dst:Option Nat):Option Nat:=match dst with
 | some d=>some (q8j ob 8 (b*1000+d))
 | none=>none
def q6r (dst:Option Nat) (v:V3 Δ N) (ob:Ups Δ N R M) (st:S3 Δ N R M):S3 Δ N R M:=⟨match dst with | some d=>(d,v)::st.env | none=>st.env,ob,q7L st.ys dst,st.pend⟩
def q6w:List (V3 Δ N)→Nat→List (Nat×V3 Δ N)
 | [],_=>[]
 | x::xs,i=>(i,x)::q6w xs (i+1)
def qbh (v:V3 Δ N) (args:List (V3 Δ N)):Option (Nat×List (V3 Δ N)×List (L3 Δ N)):=match v with
 | .one (.fn f caps)=>if f < 2000000 then some (f,args++caps.map .one,caps) else some (f - 2000000,caps.map .one++args,caps)
 | _=>none
inductive Kind3 (Δ N:Type) where
 | copy (d:Nat)
 | yld (args:List Operand)
 | inl (f:Nat) (args:List (V3 Δ N))
 | op
def q44 (cfg:Cf3) (ys:List Nat) (ρ:Operand→V3 Δ N) (o:Oper):Kind3 Δ N:=match o.op with
 | .move x=>match yOf ys x,o.dst with
  | true,some d=>.copy d
  | _,_=>.op
 | .assign x=>match yOf ys x,o.dst with
  | true,some d=>.copy d
  | _,_=>.op
 | op=>match q3u op with
  | none=>.op
  | some (fo,args)=>if yOf ys fo=true then .yld args else match qbh (ρ fo) (args.map ρ) with
   | some (f,as,caps)=>match cfg.inl f with
    | some _=>.inl f as
    | none=>match (match ((args.map ρ).all V3.isD&&caps.all L3.isD) with | true=>none | false=>cfg.ms f) with
     | some _=>.inl f as
     | none=>match cfg.sp f with
      | some _=>.inl f as
      | none=>.op
   | none=>.op
def keyOf3 (cfg:Cf3) (f:Nat) (ob:Ups Δ N R M) (b:Nat) (dst:Option Nat):Option Nat:=match dst with
 | some d=>match cfg.ar f d with
  | some t=>some (b*1000+t)
  | none=>match cfg.cb f d with
   | true=>none
   | false=>kd3 ob b (some d)
 | none=>none
def qiP (cfg:Cf3) (P:Program) (fr:Fr) (hd:Option (Hd3 Δ N R M Ω)) (rn:Rn3 Δ N R M Ω) (o:Oper) (st:S3 Δ N R M) (k:S3 Δ N R M→Ω):Ω :=
 if q57 fr.nt o.dst=true then
  match q44 cfg st.ys (ev3 pr st.env) o with
  | .copy d=>k ⟨(d,.one .undef)::st.env,st.ob,d::st.ys,st.pend⟩
  | .yld args=>match hd,st.pend with
   | some h,none=>h (args.map (ev3 pr st.env)) st.ob fun p ob=>k { q6r o.dst (.one (.b p.isNone)) ob st with pend:=p }
   | _,_=>pr.fail
  | .inl f args=>rn f args (fr.b*1000+o.dst.getD 998+1) st.ob fun v ob=>k (q6r o.dst v ob st)
  | .op=>opC3 pr cfg P st.ob (keyOf3 cfg fr.f st.ob fr.b o.dst) (ev3 pr st.env) o.op fun v us _=>k (q6r o.dst v (q1N us st.ob) st)
 else pr.fail
def qa4 (v:V3 Δ N):Option (Option Bool)×Option Δ:=match v with
 | .one (.b b)=>(some (some b),none)
 | .one (.d x)=>(none,some x)
 | .tup []=>(some none,none)
 | _=>(none,none)
def qg6 (kind f b p:Nat) (pk:List Nat) (js:List (Ex×Sk)) (e:Ex) (st:S3 Δ N R M):Ω:=match qd3 pr pk e st js 0 with
 | some (j,ys)=>pr.out j ys
 | none=>pr.miss kind f b p pk e st []
def ctx {α:Type} (pk:List Nat) (st:S3 Δ N R M):List (Sk×α)→Nat→Option (Nat×α)
 | [],_=>none
 | (sk,x)::r,j=>match qhl pr pk sk st with
  | some _=>some (j,x)
  | none=>ctx pk st r (j+1)
def okPk (pk:List Nat) (sk:Sk):Bool:=pk.all (sk.ob.map (·.1)).contains
def q6V (pk:List Nat) (js:List (Ex×Sk)) (k:Ex→S3 Δ N R M→Ω):List (E→Ω):=js.map fun x=>match okPk pk x.2 with
 | true=>fun e=>k x.1 (q3i pr e x.2)
 | false=>fun _=>pr.fail
def qgj (cfg:Cf3) (P:Program) (fr:Fr) (hd:Option (Hd3 Δ N R M Ω)) (rn:Rn3 Δ N R M Ω) (ops:Array Oper) (o:Oper) (st:S3 Δ N R M) (k:S3 Δ N R M→Ω):Ω :=
 match o.guard with
  | none=>qiP pr cfg P fr hd rn o st k
  | some (j,want)=>match q3y ops j with
   | none=>pr.fail
   | some gt =>
    let skip:=fun (st:S3 Δ N R M)=>if q57 fr.nt o.dst=true then k (q6r o.dst (.tup []) st.ob st) else pr.fail
    let st1:=fun (b:Bool)=>({ st with env:=(gt,.one (.b b))::st.env }:S3 Δ N R M)
    match qa4 (q2f st.env gt),want with
    | (some none,_),_=>skip st
    | (some (some true),_),true=>qiP pr cfg P fr hd rn o st k
    | (some (some false),_),false=>qiP pr cfg P fr hd rn o st k
    | (some (some _),_),_=>skip st
    | (none,some x),true=>pr.cond x (qiP pr cfg P fr hd rn o (st1 true) k) (skip (st1 false))
    | (none,some x),false=>pr.cond x (skip (st1 true)) (qiP pr cfg P fr hd rn o (st1 false) k)
    | (none,none),_=>pr.fail
def qjF (ops:Array Oper) (env:List (Nat×V3 Δ N)) (o:Oper):Bool:=match o.guard with
 | none=>false
 | some (j,_)=>match q3y ops j with
  | none=>false
  | some gt=>match q2f env gt with
   | .one (.d _)=>true
   | _=>false
def qgP (cfg:Cf3) (P:Program) (fr:Fr) (hd:Option (Hd3 Δ N R M Ω)) (rn:Rn3 Δ N R M Ω) (ops:Array Oper) (id:Nat):Nat→Nat→List Oper→S3 Δ N R M→(S3 Δ N R M→Ω)→Ω
 | _,_,[],st,k=>k st
 | 0,_,_::_,_,_=>pr.fail
 | n+1,i,o::rest,st,k=>match (match qjF ops st.env o with | true=>cfg.gj fr.f fr.b (id*1000+i) | false=>none) with
  | none=>qgj pr cfg P fr hd rn ops o st fun st'=>qgP cfg P fr hd rn ops id n (i+1) rest st' k
  | some (len,cs)=>match ctx pr fr.pr st cs 0 with
   | none=>pr.miss 6 fr.f fr.b (id*1000+i) fr.pr .normal st []
   | some (c,js)=>pr.bnd (qgj pr cfg P fr hd rn ops o st fun st'=>qgP cfg P fr hd rn ops id n (i+1) (rest.take len) st' (qg6 pr (4+10*c) fr.f fr.b (id*1000+i) fr.pr js .normal))
    (q6V pr fr.pr js fun _ st'=>qgP cfg P fr hd rn ops id n (i+1+len) (rest.drop len) st' k)
abbrev Log:=List (List Nat×List Nat)
def qae (pairs:List (Nat×Nat)) (i:Nat) (log:Log) (rd wr:List Nat):Bool :=
 pairs.all fun p=>if p.2=i then (match log[p.1]? with
  | some (rj,wj)=>(wj.all fun x=>!(rd.contains x)&&!(wr.contains x))&&(rj.all fun x=>!(wr.contains x))
  | none=>false) else true
def qaW (cfg:Cf3) (fr:Fr) (o:Oper):Option Nat:=match o.dst with
 | some d=>match cfg.ar fr.f d with
  | some t=>some (fr.b*1000+t)
  | none=>match cfg.cb fr.f d with
   | true=>none
   | false=>some d
 | none=>none
def qes (cfg:Cf3) (ρ:Operand→V3 Δ N) (o:Oper):Option (Nat×List (V3 Δ N)):=match q44 cfg [] ρ o with
 | .inl f args=>match cfg.inl f,cfg.ms f with
  | none,some _=>some (f,args)
  | _,_=>none
 | _=>none
def qgN:O3 Δ N R M→Bool
 | .box ..=>true
 | .arr _ _ _ own=>own
 | .mp _ _ own=>own
 | .ml ..=>true
 | .am ..=>true
 | .arn ..=>false
def qjs (cfg:Cf3) (fr:Fr) (rn:Rn3 Δ N R M Ω) (q:Nat) (o:Oper) (f:Nat) (args:List (V3 Δ N)) (ob:Ups Δ N R M) (k:V3 Δ N→Ups Δ N R M→List Nat→Ω):Ω:=match qhf [] args ob with
 | none=>pr.fail
 | some kept =>
  let ks:=kept.map (·.1)
  if (q4s ks&&(kept.all fun p=>qgN p.2&&p.2.keysOf.all ks.contains)&&args.all fun v=>v.keysOf.all ks.contains)=true then
   match cfg.gj fr.f fr.b q with
   | none=>pr.fail
   | some (_,cs)=>match ctx pr ks ⟨[],kept,[],none⟩ cs 0 with
    | none=>pr.miss 6 fr.f fr.b q ks .normal ⟨[],kept,[],none⟩ []
    | some (c,js)=>pr.bnd (rn f args (fr.b*1000+o.dst.getD 998+1) kept fun v ob'=>qg6 pr (4+10*c) fr.f fr.b q ks js .normal ⟨[(0,v)],ob',[],none⟩)
     (q6V pr ks js fun _ st' =>
      let us:=st'.ob.map (·.1)
      if (q4s us&&((us.filter fun q=>!ks.contains q).all fun q=>(q0z ob q).isNone)&&ks.all us.contains&&(st'.ob.all fun p=>p.2.keysOf.all us.contains)&&(q2f st'.env 0).keysOf.all us.contains)=true then k (q2f st'.env 0) st'.ob (ks++us.filter fun q=>!ks.contains q) else pr.fail)
  else pr.fail
def qaZ (cfg:Cf3) (ρ:Operand→V3 Δ N) (o:Oper):Option (Nat×List (V3 Δ N)):=match q44 cfg [] ρ o with
 | .inl f args=>match cfg.inl f with
  | some _=>some (f,args)
  | none=>none
 | _=>none
def goDr (cfg:Cf3) (P:Program) (fr:Fr) (rn:Rn3 Δ N R M Ω) (q:Nat) (o:Oper) (st:S3 Δ N R M) (k:V3 Δ N→Ups Δ N R M→List Nat→Ω):Ω:=match qes cfg (ev3 pr st.env) o with
 | some (f,as)=>qck pr cfg f as st.ob k
 | none=>match qaZ cfg (ev3 pr st.env) o with
  | some p=>qjs pr cfg fr rn q o p.1 p.2 st.ob k
  | none=>opC3 pr cfg P st.ob (qaW cfg fr o) (ev3 pr st.env) o.op k
def dr3 (cfg:Cf3) (P:Program) (fr:Fr) (rn:Rn3 Δ N R M Ω) (id:Nat) (ops:Array Oper) (pairs:List (Nat×Nat)):List Oper→Nat→Log→S3 Δ N R M→(S3 Δ N R M→Ω)→Ω
 | [],_,_,st,k=>k st
 | o::rest,i,log,st,k =>
  let next:=fun (st:S3 Δ N R M) (v:V3 Δ N) (us:Ups Δ N R M) (rd:List Nat) =>
   if (q57 fr.nt o.dst&&qae pairs i log rd (us.map (·.1)))=true then dr3 cfg P fr rn id ops pairs rest (i+1) (log++[(rd,us.map (·.1))]) (q6r o.dst v (q1N us st.ob) st) k else pr.fail
  let go:=fun (st:S3 Δ N R M)=>goDr pr cfg P fr rn (id*1000+i) o st (next st)
  let skip:=fun (st:S3 Δ N R M)=>dr3 cfg P fr rn id ops pairs rest (i+1) (log++[([],[])]) (q6r o.dst (.tup []) st.ob st) k
  match o.guard with
  | none=>go st
  | some (j,want)=>match q3y ops j with
   | none=>pr.fail
   | some gt =>
    let st1:=fun (b:Bool)=>({ st with env:=(gt,.one (.b b))::st.env }:S3 Δ N R M)
    match qa4 (q2f st.env gt),want with
    | (some none,_),_=>skip st
    | (some (some true),_),true=>go st
    | (some (some false),_),false=>go st
    | (some (some _),_),_=>skip st
    | (none,some x),true=>pr.cond x (go (st1 true)) (skip (st1 false))
    | (none,some x),false=>pr.cond x (skip (st1 true)) (go (st1 false))
    | (none,none),_=>pr.fail
abbrev Ev3 (Δ N R M Ω:Type):=Fr→Option (Hd3 Δ N R M Ω)→Nat→Nat→Code→S3 Δ N R M→(Ex→S3 Δ N R M→Ω)→Ω
def q2o (ob:Ups Δ N R M):List Nat:=q4B (ob.map (·.1)) []
def q4u (P:Program) (bd:Bd) (ob:Ups Δ N R M) (kk:V3 Δ N→Ups Δ N R M→Ω) (st':S3 Δ N R M):Ω :=
 q9w pr P st'.ob st'.env bd.res fun vs=>match qhf (q2o ob) vs st'.ob with
  | some ob'=>kk (q2S vs) ob'
  | none=>pr.fail
def byForm (cfg:Cf3) (f:Nat) (args:List (V3 Δ N)):Bool:=match cfg.ms f with
 | some ms=>qis ms args
 | none=>false
def qgv (cfg:Cf3) (P:Program) (ex:Ev3 Δ N R M Ω):Rn3 Δ N R M Ω:=fun f args b ob kk=>if byForm cfg f args=true then qjJ pr cfg f args ob kk else match cfg.inl f with
 | none=>match cfg.ms f with
  | some _=>qjJ pr cfg f args ob kk
  | none=>qfs pr cfg f args b ob kk
 | some bd=>if args.length≤bd.nt then ex ⟨f,b,bd.nt,true,q2o ob,false⟩ none 0 1 bd.code ⟨q6w args 0,ob,[],none⟩ (fun e st=>match e with
   | .exit _=>pr.fail
   | .normal=>q4u pr P bd ob kk st
   | .ret=>q4u pr P bd ob kk st) else pr.fail
def bdy3 (ob:Ups Δ N R M) (kk:Option Ex→Ups Δ N R M→Ω) (e2:Ex) (st2:S3 Δ N R M):Ω:=match qhf (q2o ob) [] st2.ob with
 | some ob'=>kk (match e2 with | .normal=>none | .exit i=>some (.exit i) | .ret=>some .ret) ob'
 | none=>pr.fail
def rngH3 (ex:Ev3 Δ N R M Ω) (fr:Fr) (cur p:Nat) (ps:Array Tmp) (assign body:Code) (env:List (Nat×V3 Δ N)):Hd3 Δ N R M Ω:=fun vals ob kk=>if vals.length=ps.size then
  ex ⟨fr.f,fr.b,fr.nt,false,q2o ob,false⟩ none cur (2*p) assign ⟨((ps.toList.zip vals).reverse++env),ob,[],none⟩ (fun e st1=>match e with
   | .normal=>ex ⟨fr.f,fr.b,fr.nt,false,q2o st1.ob,false⟩ none cur (2*p+1) body st1 (bdy3 pr ob kk)
   | .exit _=>pr.fail
   | .ret=>pr.fail)
 else pr.fail
def qc0 (st:S3 Δ N R M) (k:Ex→S3 Δ N R M→Ω) (st':S3 Δ N R M):Ω:=match qhf (q2o st.ob) [] st'.ob with
 | some ob'=>k (match st'.pend with | none=>.normal | some e=>e) ⟨st.env,ob',[],st.pend⟩
 | none=>pr.fail
def exIn (id:Nat):Ex→Ex
 | .exit i=>if i=id then .normal else .exit i
 | .normal=>.normal
 | .ret=>.ret
def q67:List (Option Nat×Nat)→S3 Δ N R M→(S3 Δ N R M→Ω)→Ω
 | [],st,kk=>kk st
 | (none,t)::r,st,kk=>match q2f st.env t with
  | .one (.slk key off n c)=>qhj pr st.ob (.slk key off n c) fun d us _=>q67 r { st with env:=(t,.one (.d d))::st.env,ob:=q1N us st.ob } kk
  | .one (.sln key n)=>qhj pr st.ob (.sln key n) fun d us _=>q67 r { st with env:=(t,.one (.d d))::st.env,ob:=q1N us st.ob } kk
  | .one .nil=>q67 r { st with env:=(t,.one (.d (pr.lit (.slice none 0 0))))::st.env } kk
  | _=>q67 r st kk
 | (some b,i)::r,st,kk=>match q0z st.ob b with
  | some (.box cells e)=>match cells[i]? with
   | some (.slk key off n c)=>qhj pr st.ob (.slk key off n c) fun d us _=>q67 r { st with ob:=(b,.box (cells.set i (.d d)) e)::q1N us st.ob } kk
   | some .nil=>q67 r { st with ob:=(b,.box (cells.set i (.d (pr.lit (.slice none 0 0)))) e)::st.ob } kk
   | some (.mk key)=>qhj pr st.ob (.mk key) fun d us _=>q67 r { st with ob:=(b,.box (cells.set i (.d d)) e)::q1N us st.ob } kk
   | _=>q67 r st kk
  | _=>q67 r st kk
def q72:List ((Option Nat×Nat)×(Nat×Nat×Nat))→S3 Δ N R M→S3 Δ N R M
 | [],st=>st
 | ((none,t),key,size,elem)::r,st=>match q2f st.env t with
  | .one .nil=>match q0z st.ob key with
   | none=>q72 r { st with env:=(t,.one (.sln key (pr.natN 0)))::st.env,ob:=(key,.arn (pr.rows []) size elem true)::st.ob }
   | some _=>q72 r st
  | _=>q72 r st
 | ((some b,i),key,size,elem)::r,st=>match q0z st.ob key with
  | none=>match q0z st.ob b with
   | some (.box cells e)=>match cells[i]? with
    | some .nil=>q72 r { st with ob:=(b,.box (cells.set i (.sln key (pr.natN 0))) e)::(key,.arn (pr.rows []) size elem true)::st.ob }
    | _=>q72 r st
   | _=>q72 r st
  | some _=>q72 r st
def frzE (l:List (Option Nat×Nat)) (l2:List ((Option Nat×Nat)×(Nat×Nat×Nat))) (k:Ex→S3 Δ N R M→Ω) (e:Ex) (st:S3 Δ N R M):Ω:=match e with
 | .normal=>q67 pr l st fun st=>k .normal (q72 pr l2 st)
 | .exit i=>k (.exit i) st
 | .ret=>k .ret st
def q1x (cfg:Cf3) (P:Program):Nat→Ev3 Δ N R M Ω
 | 0,_,_,_,_,_,_,_=>pr.fail
 | n+1,fr,hd,cur,p,c,st,k=>match c with
  | .skip=>k .normal st
  | .label _=>k .normal st
  | .ret=>k .ret st
  | .exit id=>k (.exit id) st
  | .region id ops draw=>match draw with
   | false=>qgP pr cfg P fr hd (qgv pr cfg P (q1x cfg P n)) ops id ops.size 0 ops.toList st (k .normal)
   | true=>match st.ys with
    | []=>dr3 pr cfg P fr (qgv pr cfg P (q1x cfg P n)) id ops (cfg.draw fr.f id ops) ops.toList 0 [] st (k .normal)
    | _=>pr.fail
  | .seq a b =>
   let kk:=fun (e:Ex) (st':S3 Δ N R M)=>match e with
    | .normal=>q1x cfg P n fr hd cur (2*p+1) b st' k
    | .exit i=>k (.exit i) st'
    | .ret=>k .ret st'
   match cfg.jn fr.f fr.b p with
    | none=>q1x cfg P n fr hd cur (2*p) a st (frzE pr (cfg.fz fr.f fr.b p) (cfg.nz fr.f fr.b p) kk)
    | some cs=>match ctx pr fr.pr st cs 0 with
     | none=>pr.miss 5 fr.f fr.b p fr.pr .normal st []
     | some (c,js)=>pr.bnd (q1x cfg P n fr hd cur (2*p) a st (frzE pr (cfg.fz fr.f fr.b p) (cfg.nz fr.f fr.b p) (qg6 pr (10*c) fr.f fr.b p fr.pr js))) (q6V pr fr.pr js kk)
  | .cond c a b=>match c with
   | .tmp t=>match q2f st.env t with
    | .one (.b true)=>q1x cfg P n fr hd cur (2*p) a st k
    | .one (.b false)=>q1x cfg P n fr hd cur (2*p+1) b st k
    | .one (.d x)=>pr.cond x (q1x cfg P n fr hd cur (2*p) a { st with env:=(t,.one (.b true))::st.env } k) (q1x cfg P n fr hd cur (2*p+1) b { st with env:=(t,.one (.b false))::st.env } k)
    | _=>pr.fail
   | .const (.bool true)=>q1x cfg P n fr hd cur (2*p) a st k
   | .const (.bool false)=>q1x cfg P n fr hd cur (2*p+1) b st k
   | _=>pr.fail
  | .block id c=>match c with
   | .loop body=>match ctx pr fr.pr st (cfg.lp fr.f fr.b id) 0 with
    | none=>pr.miss 7 fr.f fr.b id fr.pr .normal st []
    | some (c,sks,outs)=>match q7l pr fr.pr st sks 0 with
     | none=>pr.miss (1+10*c) fr.f fr.b id fr.pr .normal st []
     | some (i0,ys0)=>pr.bnd (pr.loop (sks.map fun sk=>fun J e=>if okPk fr.pr sk=false then pr.fail else q1x cfg P n fr hd id (2*p) body (q3i pr e sk) fun e' st'=>match e' with
       | .normal=>(match q7l pr fr.pr st' sks 0 with
        | some (j,ys)=>J j ys
        | none=>pr.miss (1+10*c) fr.f fr.b id fr.pr .normal st' [])
       | .exit i=>qg6 pr (2+10*c) fr.f fr.b id fr.pr outs (exIn id (.exit i)) st'
       | .ret=>qg6 pr (2+10*c) fr.f fr.b id fr.pr outs .ret st') i0 ys0) (q6V pr fr.pr outs k)
   | c=>q1x cfg P n fr hd id (2*p) c st fun e st'=>match e with
    | .normal=>k .normal st'
    | .ret=>k .ret st'
    | .exit i=>if i=id then k .normal st' else k (.exit i) st'
  | .rangeFunc g ps assign body=>if fr.rng=true then
    match st.ys with
    | []=>match fn3 (ev3 pr st.env g) with
     | none=>pr.fail
     | some (f,caps)=>match cfg.inl f with
      | none=>pr.fail
      | some bd=>if caps.length+1≤bd.nt∧bd.res=[]∧ps.toList.all (fun p=>decide (p < fr.nt))=true then
        q1x cfg P n ⟨f,(fr.b+1)*1000,bd.nt,false,q2o st.ob,false⟩ (some (rngH3 pr (q1x cfg P n) fr cur p ps assign body st.env)) 0 1 bd.code ⟨q6w (.one .undef::caps.map .one) 0,st.ob,[0],none⟩ (fun e st'=>match e with
         | .exit _=>pr.fail
         | .normal=>qc0 pr st k st'
         | .ret=>qc0 pr st k st')
       else pr.fail
    | _=>pr.fail
   else pr.fail
  | _=>pr.fail
def fin3 (cfg:Cf3) (P:Program) (f:Nat) (res:List ResultVar) (e:Ex) (st:S3 Δ N R M):Ω :=
 let go:=q9w pr P st.ob st.env res fun vs=>match q9t st.ob vs (cfg.rsk f) 0 with
  | none=>pr.miss 3 f 0 0 [] e st (vs.map (formV st.ob))
  | some (j,rs)=>match allD rs with
   | true=>qi6 pr st.ob vs fun ys=>pr.out j ys
   | false=>q7I pr st.ob rs vs fun ys ks=>if q4s ks=true then pr.out j ys else pr.fail
 match e with
 | .exit _=>pr.fail
 | .normal=>go
 | .ret=>go
end
end
section
abbrev Rr:=List (List D)
abbrev Mr:=List Value×List (List D)
abbrev Yr:=Y D Nat Rr Mr
abbrev Out:=Option (Nat×List Yr)
abbrev L3r:=L3 D Nat
abbrev V3r:=V3 D Nat
abbrev O3r:=O3 D Nat Rr Mr
abbrev S3r:=S3 D Nat Rr Mr
abbrev Ur:=Ups D Nat Rr Mr
def q1b (bs:List ((Nat→List Yr→Out)→List Yr→Out)):Nat→Nat→List Yr→Out
 | 0,_,_=>none
 | m+1,j,ys=>match bs[j]? with
  | some b=>b (q1b bs m) ys
  | none=>none
def q7w (op:BinOp) (bl:Bool):D→D→Option D
 | .lit (.int k a),.lit (.int k' b)=>(aBin op k a k' b).map .lit
 | .lit (.bool a),.lit (.bool b)=>if bl=true then (match op with
   | .eql=>some (.lit (.bool (a==b)))
   | .neq=>some (.lit (.bool (a != b)))
   | _=>none) else none
 | .lit (.string a),.lit (.string b)=>(aStr op a b).map .lit
 | _,_=>none
def unD (op:UnOp):D→Option D
 | .lit (.bool b)=>match op with | .not=>some (.lit (.bool !b)) | _=>none
 | .lit (.int k n)=>match op with | .neg=>some (.lit (.int k (k.wrap (0 - n)))) | _=>none
 | _=>none
def mmD (mx:Bool):D→D→Option D
 | .lit (.int k a),.lit (.int k' b)=>if k=k' then some (.lit (.int k (if mx then max a b else min a b))) else none
 | _,_=>none
def intD:D→Option Int
 | .lit (.int _ n)=>some n
 | _=>none
def q4g:Option D→Option (Option Int)
 | none=>some none
 | some x=>(intD x).map some
def qgZ:D→Option Nat
 | .sl _ rows=>some rows.length
 | .lit (.slice none 0 0)=>some 0
 | _=>none
def q5j (es:Nat):D→Option Rr
 | .lit (.slice none 0 0)=>some []
 | .sl size rows=>if size=es then some rows else none
 | _=>none
def qhB (es:Nat) (l h:Option Int):D→Option D
 | .sl size rows=>if size=es then (if 0≤l.getD 0∧l.getD 0≤h.getD rows.length∧h.getD rows.length≤rows.length then some (.sl size ((rows.drop (l.getD 0).toNat).take (h.getD rows.length - l.getD 0).toNat)) else none) else none
 | .lit (.slice none 0 0)=>if l.getD 0=0∧h.getD 0=0 then some (.lit (.slice none 0 0)) else none
 | _=>none
def qgW:D→Option Value
 | .lit v=>some v
 | _=>none
def qga (agg:Bool):D→Option Mr
 | .mp agg' keys vals=>if agg=agg' then some (keys,vals) else none
 | .lit (.map none)=>some ([],[])
 | _=>none
def qey (kd:Nat) (zs:List Value) (m:Mr) (key:D):Option (List D×D):=match qgW key with
 | some v=>if q45 kd v=true then (match q2d kd v m.1 0 with
  | some (some j)=>match m.2[j]? with
   | some r=>if r.length=zs.length then some (r,.lit (.bool true)) else none
   | none=>none
  | some none=>some (zs.map .lit,.lit (.bool false))
  | none=>none) else none
 | none=>none
def updD (kd:Nat) (m:Mr) (key:D) (ds:List D):Option Mr:=match qgW key with
 | some v=>if q45 kd v=true then (match q2d kd v m.1 0 with
  | some (some j)=>some (m.1,m.2.set j ds)
  | some none=>some (m.1++[v],m.2++[ds])
  | none=>none) else none
 | none=>none
def qdm {α:Type} (o:Option α) (k:α→Out):Out:=match o with
 | some a=>k a
 | none=>none
def q9k:Yr→Bool
 | .d x=>x.isLit
 | .r rows=>rows.all fun r=>r.all D.isLit
 | .m m=>m.2.all fun r=>r.all D.isLit
 | .n _=>true
def selR (ks:List Out) (j:Nat):Out:=match ks[j]? with
 | some k=>k
 | none=>none
def q7m (kd:Nat) (m:Mr) (key:D):Option (Option Nat):=match qgW key with
 | some v=>if q45 kd v=true then q2d kd v m.1 0 else none
 | none=>none
def qfA (kd:Nat) (m:Mr) (key:D) (j:Nat):Option Mr:=match qgW key with
 | some v=>if q45 kd v=true∧j=m.1.length∧j < m.2.length then (match q2d kd v m.1 0 with
  | some none=>some (m.1++[v],m.2)
  | _=>none) else none
 | none=>none
def q4R (r:Rr) (j off:Nat) (ds:List D):Rr:=r.set j ((r.getD j []).take off++ds++(r.getD j []).drop (off+ds.length))
def qiL (kd:Nat) (keys:List Value) (key:D) (ks:List Out):Out:=match qgW key with
 | some v=>if q45 kd v=true then (match q2d kd v keys 0 with
  | some (some j)=>selR ks j
  | _=>none) else none
 | none=>none
def dNr:D→Nat
 | .lit (.int _ n)=>n.toNat
 | _=>0
def q01 (Fn:Nat→List D→Out) (FnD:D→List Sh→List D→Out) (m:Nat):Pr D Nat Rr (List D) Mr (List Yr) Out where
 fail:=none
 out j ys:=some (j,ys)
 bnd o ks:=match o with
  | some (j,ys)=>(match ks[j]? with | some k=>k ys | none=>none)
  | none=>none
 loop bs j ys:=q1b bs m j ys
 call:=Fn
 callD:=FnD
 miss _ _ _ _ _ _ _ _:=none
 cond x a b:=match x with | .lit (.bool true)=>a | .lit (.bool false)=>b | _=>none
 ld e j:=match e[j]? with | some (.d x)=>x | _=>default
 ln e j:=match e[j]? with | some (.n x)=>x | _=>0
 lr e j:=match e[j]? with | some (.r x)=>x | _=>[]
 lm e j:=match e[j]? with | some (.m x)=>x | _=>([],[])
 lit v:=.lit v
 natD n:=.lit (.int .i64 n)
 dN x:=dNr x
 natN n:=n
 addN a b:=a+b
 slD s r:=.sl s r
 slN s r:=match r with
  | []=>.lit (.slice none 0 0)
  | a::t=>.sl s (a::t)
 dpD r o:=.dp r o
 fnD f l:=.fn f l
 mpD g m:=.mp g m.1 m.2
 ifD t g l:=.ifc t g l
 len r:=r.length
 rows l:=l
 repl n z:=List.replicate n z
 app a b:=a++b
 seg r o n:=(r.drop (o.getD 0)).take n
 setR r i l:=r.set i l
 emp:=([],[])
 cell w j:=w.getD j default
 eqN a b k:=if a=b then k else none
 leN a b k:=if a≤b then k else none
 ptrW n x k:=match x with | .dp row 0=>if row.length=n then k row else none | _=>none
 isPtr x k:=match x with | .dp _ _=>k | _=>none
 nilD x k:=match x with | .lit (.slice none 0 0)=>k | _=>none
 rowAt s r i k:=match r[i]? with
  | some w=>if w.length=s then k w else none
  | none=>none
 bin op b x y k:=qdm (q7w op b x y) k
 un op x k:=qdm (unD op x) k
 eqs ks ng x y k:=match q1n ks (x.map .d) (y.map .d) with
  | some b=>k (.lit (.bool (if ng then !b else b)))
  | none=>none
 mm mx x y k:=qdm (mmD mx x y) k
 mkN bs x y k:=match x,y with
  | .lit (.int a n),.lit (.int b n')=>if a=b∧n=n'∧0≤n∧bs*n≤140737488355328∧n≤9223372036854775807 then k n.toNat else none
  | _,_=>none
 gap bs x k:=match x with
  | .lit (.int _ n)=>if 0 < n∧bs*n≤140737488355328∧n≤9223372036854775807 then k n.toNat else none
  | _=>none
 cut l h n k e:=match q4g l,q4g h with
  | some l,some h=>if 0≤l.getD 0∧l.getD 0≤h.getD n∧h.getD n≤n then (if l.getD 0=0∨l.getD 0 < h.getD n then k (l.getD 0).toNat (h.getD n - l.getD 0).toNat else e) else none
  | _,_=>none
 cutD es x l h k:=match q4g l,q4g h with
  | some l,some h=>qdm (qhB es l h x) k
  | _,_=>none
 cutNil l h k:=match q4g l,q4g h with
  | some l,some h=>if l.getD 0=0∧h.getD 0=0 then k else none
  | _,_=>none
 selI n x ks:=match x with
  | .lit (.int _ z)=>if 0≤z∧z < n then selR ks z.toNat else none
  | _=>none
 inx x n k:=match x with
  | .lit (.int _ z)=>if 0≤z∧z < n then k z.toNat else none
  | _=>none
 rowD es x i k:=match x,i with
  | .sl size rows,.lit (.int _ z)=>if size=es∧0≤z then (match rows[z.toNat]? with
   | some r=>if r.length=es then k r else none
   | none=>none) else none
  | _,_=>none
 lenD x k:=match qgZ x with
  | some n=>k (.lit (.int .i64 n))
  | none=>none
 lenS x k:=match x with
  | .lit (.string s)=>k (.lit (.int .i64 s.size))
  | _=>none
 rowsD es x k:=match q5j es x with
  | some r=>k r
  | none=>none
 isNil r a b:=match r with | []=>a | _::_=>b
 fits bs n k:=if n*bs≤140737488355328∧n≤maxLen then k else none
 asM agg x k:=match qga agg x with
  | some m=>k m
  | none=>none
 look kd zs m key k:=match qey kd zs m key with
  | some p=>k p.1 p.2
  | none=>none
 upd kd m key ds k:=match updD kd m key ds with
  | some m'=>k m'
  | none=>none
 lits ys k:=if ys.all q9k=true then k else none
 nilE x a b:=match x with
  | .lit (.slice none 0 0)=>a
  | .sl _ _=>b
  | _=>none
 cvI kd y k:=match y with | .lit (.int _ n)=>k (.lit (.int kd (kd.wrap n))) | _=>none
 ins y rows new k:=match y with | .lit (.int .i64 z)=>if 0≤z∧z.toNat≤rows.length then k (rows.take z.toNat++new++rows.drop z.toNat) else none | _=>none
 mulN s i:=s*i
 minN a b:=min a b
 cellN w off i:=w.getD (off+i) default
 selN i ds:=ds.getD i default
 updN i q new old:=if i=q then new else old
 mrows m:=m.2
 mset m r:=(m.1,r)
 setRC:=q4R
 find kd m key k e:=match q7m kd m key with
  | some (some j)=>k j
  | some none=>e
  | none=>none
 addK kd m key j k:=match qfA kd m key j with
  | some m'=>k m'
  | none=>none
 selK:=qiL
mutual
def eL:L3r→L
 | .d x=>.d x
 | .b v=>.d (.lit (.bool v))
 | .i k n=>.d (.lit (.int k n))
 | .nil=>.d (.lit (.slice none 0 0))
 | .dp r o=>.d (.dp r o)
 | .fn f cs=>.fn f (eLs cs)
 | .slk k o n c=>.slk k (o.getD 0) n c
 | .pa k i o c=>.pa k i o c
 | .ptr k o=>.ptr k o
 | .mk k=>.mk k
 | .mq k=>.mq k
 | .pb k j o=>.pb k j o
 | .px k b _ es i o=>.ptr k (b+es*i+o)
 | .np=>.d (.lit (.pointer none))
 | .sln k n=>.sln k n
 | .undef=>.undef
def eLs:List L3r→List L
 | []=>[]
 | x::xs=>eL x::eLs xs
end
mutual
def eV:V3r→V
 | .one x=>.one (eL x)
 | .agg xs=>.agg (eLs xs)
 | .tup xs=>.tup (eVs xs)
def eVs:List V3r→List V
 | []=>[]
 | x::xs=>eV x::eVs xs
end
def eO:O3r→O
 | .box cs e=>.box (eLs cs) e
 | .arr rows s e o=>.arr rows s e o
 | .mp g m o=>.mp g m.1 m.2 o
 | .ml ks cs=>.ml ks (eLs cs)
 | .am m s e=>.am m.1 m.2 s e
 | .arn rows s e o=>match rows with
  | []=>.nul
  | a::t=>.arr (a::t) s e o
def q1o (env:List (Nat×V3r)):List (Nat×V):=env.map fun p=>(p.1,eV p.2)
def eOb (ob:Ur):List (Nat×O):=ob.map fun p=>(p.1,eO p.2)
def eS (st:S3r):S2:=⟨q1o st.env,eOb st.ob,st.ys,st.pend⟩
theorem q0A:∀ xs:List L3r,eLs xs=xs.map eL
 | []=>rfl
 | x::xs=>by simp [eLs,q0A xs]
theorem q1S:∀ xs:List V3r,eVs xs=xs.map eV
 | []=>rfl
 | x::xs=>by simp [eVs,q1S xs]
theorem q2V (t:Nat):∀ env:List (Nat×V3r),q0Y (q1o env) t=eV (q2f env t)
 | []=>rfl
 | (k,v)::r=>by
  simp only [q1o,List.map_cons,q0Y,q2f]
  split
  ·rfl
  ·exact q2V t r
theorem qdZ (k:Nat):∀ ob:Ur,qaE (eOb ob) k=(q0z ob k).map eO
 | []=>rfl
 | (j,o)::r=>by
  simp only [eOb,List.map_cons,qaE,q0z]
  split
  ·rfl
  ·exact qdZ k r
theorem q0b (k:Nat):∀ ob:Ur,q08 (eOb ob) k=(q0z ob k).bind fun o=>(eO o).val
 | []=>rfl
 | (j,o)::r=>by
  simp only [eOb,List.map_cons,q08,q0z]
  split
  ·rfl
  ·exact q0b k r
theorem eO_arn {rows:Rr} {s e:Nat} {o:Bool} (h:rows≠[]):eO (.arn rows s e o)=.arr rows s e o:=by
 cases rows with
 | nil=>exact absurd rfl h
 | cons a t=>rfl
theorem q1F {ob:Ur} {k:Nat} {rows:Rr} {s e:Nat} {o:Bool} (hk:q0z ob k=some (.arn rows s e o)) (h:rows≠[]):q08 (eOb ob) k=some (.arr rows s e o):=by
 rw [q0b,hk,Option.bind_some,eO_arn h];rfl
theorem q4w {ob:Ur} {k:Nat} {s e:Nat} {o:Bool} (hk:q0z ob k=some (.arn [] s e o)):q08 (eOb ob) k=none:=by
 rw [q0b,hk];rfl
theorem q3R:∀ us ob:Ur,eOb (q1N us ob)=addO (eOb us) (eOb ob)
 | [],ob=>rfl
 | (k,o)::r,ob=>by
  show eOb (q1N r ((k,o)::ob))=addO (eOb r) ((k,eO o)::eOb ob)
  rw [q3R r];rfl
variable {Fn:Nat→List D→Out} {FnD:D→List Sh→List D→Out} {m:Nat}
theorem qeC (v:Value):eL (qgX (q01 Fn FnD m) v)=.d (.lit v):=by
 unfold qgX;split<;>simp [eL,q01]
theorem qaT (vs:List Value):eLs (vs.map (qgX (q01 Fn FnD m)))=q4P vs:=by
 rw [q0A,List.map_map];unfold q4P;congr 1;funext v;exact qeC v
theorem qhC (v:Value):eV (qbg (q01 Fn FnD m) v)=q8m v:=by
 unfold qbg q8m
 split
 ·split<;>rename_i h<;>simp [eV,qaT,eL,h]
 ·split<;>rename_i h<;>simp [eV,qeC,eL,h]
theorem qjE (env:List (Nat×V3r)) (x:Operand):eV (ev3 (q01 Fn FnD m) env x)=ev (q0Y (q1o env)) x:=by
 cases x with
 | tmp t=>exact (q2V t env).symm
 | const v=>exact qhC v
 | global g=>rfl
 | func f=>simp only [ev3,ev];split<;>simp [eV,eL,eLs]
theorem qiv (env:List (Nat×V3r)):(fun x=>eV (ev3 (q01 Fn FnD m) env x))=ev (q0Y (q1o env)):=funext (qjE env)
theorem q1J {x:L3r} {y:D} (h:q3T (q01 Fn FnD m) x=some y):eL x=.d y:=by
 unfold q3T at h;split at h<;>first | (cases h;simp [eL,q01]) | cases h
theorem q2M {x:V3r} {y:D} (h:q5h (q01 Fn FnD m) x=some y):eV x=.one (.d y):=by
 unfold q5h at h;split at h
 ·simp only [eV,q1J h]
 ·cases h
theorem q7d (x:L3r):(eL x).isDef=x.isDef:=by cases x<;>simp [eL,L.isDef,L3.isDef]
theorem q7t (v:V3r):(eV v).cells=v.cells.map eLs:=by
 cases v with
 | one x=>simp only [eV,V.cells,V3.cells,q7d];split<;>simp [eLs]
 | agg xs =>
  simp only [eV,V.cells,V3.cells,q0A,List.all_map]
  have:(L.isDef ∘ eL)=(L3.isDef:L3r→Bool):=funext q7d
  rw [this];split<;>simp [q0A]
 | tup xs=>simp [eV,V.cells,V3.cells]
theorem q15 (xs:List L3r):(eLs xs).length=xs.length:=by rw [q0A,List.length_map]
theorem q2t (g:Bool) (s off:Nat) (cs:List L3r):q0J g s off (eLs cs)=(q2g g s off cs).map eV:=by
 unfold q0J q2g
 cases g with
 | true=>simp only [q15,if_true];split<;>simp [eV,q0A,List.map_drop,List.map_take]
 | false =>
  simp only [Bool.false_eq_true,if_false,q0A,List.getElem?_map]
  cases cs[off]?<;>simp [eV]
theorem qgS (g:Bool) (xs:List L3r):mkV g (eLs xs)=(qik g xs).map eV:=by
 cases g with
 | true=>simp [mkV,qik,eV]
 | false =>
  match xs with
  | []=>rfl
  | [x]=>simp [mkV,qik,eV,eLs]
  | x::y::r=>rfl
theorem q7D {n:Nat} {v u:V3r} (h:q5L (q01 Fn FnD m) n v=some u):q1X n (eV v)=some (eV u):=by
 unfold q5L at h
 split at h<;>first | (cases h;simp [q1X,eV,eL,q01,Nat.add_assoc]) | cases h
theorem qit (pl:Nat→Option (Nat×Nat)):∀ (ps:List (Nat×V3r)) (cs:List L3r),q6d pl (eLs cs) (ps.map fun p=>(p.1,eV p.2))=(qho pl cs ps).map eLs
 | [],cs=>rfl
 | (i,v)::r,cs=>by
  simp only [List.map_cons,q6d,qho,q7t]
  cases pl i with
  | none=>rfl
  | some q =>
   obtain ⟨off,size⟩:=q
   cases hv:v.cells with
   | none=>rfl
   | some vs =>
    simp only [Option.map_some,q15]
    split
    ·rw [←qit pl r]
     congr 1
     simp only [q0A,List.map_append,List.map_take,List.map_drop]
    ·rfl
theorem q3I:∀ vs:List V3r,q1D (vs.map eV)=(q3J vs).map eLs
 | []=>rfl
 | .one x::r=>by
  simp only [List.map_cons,eV,q1D,q3J,q7d,q3I r]
  split
  ·cases q3J r<;>simp [eLs]
  ·rfl
 | .agg xs::r=>rfl
 | .tup xs::r=>rfl
theorem q1v {w:List D} {s:Nat} (h:w.length=s):cellsOf (q01 Fn FnD m) s w=w:=by
 subst h
 unfold cellsOf
 apply List.ext_getElem?
 intro i
 simp only [List.getElem?_map,q01,List.getD_eq_getElem?_getD]
 by_cases hi:i < w.length
 ·rw [List.getElem?_range hi];simp [hi]
 ·rw [List.getElem?_eq_none (by simpa using hi)];simp;omega
theorem qhs (w:List D):eLs (w.map .d)=w.map .d:=by rw [q0A,List.map_map];rfl
theorem qjq (v:V3r):q3e (eV v)=qip v:=by cases v<;>rfl
theorem q0d:eOb []=[]:=rfl
theorem q0m (k:Nat) (o:O3r) (r:Ur):eOb ((k,o)::r)=(k,eO o)::eOb r:=rfl
theorem q3O (a b:Ur):eOb (a++b)=eOb a++eOb b:=by simp [eOb]
end
section
variable {P:Program} {Fn:Nat→List D→Out} {FnD:D→List Sh→List D→Out} {m:Nat} {r:Nat×List Yr} {ob:Ur}
theorem Q.reads_bind {α β:Type} (o:Ob) (q:Q α) (f:α→Q β):(q.bind f).reads o=q.reads o++(match q.run o with | some a=>(f a).reads o | none=>[]):=by
 induction q with
 | ret a=>rfl
 | get k g ih=>simp only [Q.bind,Q.reads,Q.run,ih,List.cons_append]
 | fail=>rfl
def OKQ (ob:Ur) (q:Q Res) (k:K3 D Nat Rr Mr Out) (r:Nat×List Yr):Prop :=
 ∃ v us rd,q.run (q08 (eOb ob))=some (eV v,eOb us)∧(∀ x∈q.reads (q08 (eOb ob)),x∈rd)∧k v us rd=some r
theorem OKQ.ret {v:V3r} {us:Ur} {rd:List Nat} {k:K3 D Nat Rr Mr Out} (h:k v us rd=some r):OKQ ob (.ret (eV v,eOb us)) k r:=⟨v,us,rd,rfl,by simp [Q.reads],h⟩
theorem OKQ.ret0 {v:V3r} {rd:List Nat} {k:K3 D Nat Rr Mr Out} (h:k v [] rd=some r):OKQ ob (.ret (eV v,[])) k r:=OKQ.ret (us:=[]) h
theorem OKQ.get {key:Nat} {f:Option O→Q Res} {k:K3 D Nat Rr Mr Out} {rd0:List Nat} (h:OKQ ob (f (q08 (eOb ob) key)) (fun v us rd=>k v us (rd0++rd)) r) (hk:key∈rd0):OKQ ob (.get key f) k r:=by
 obtain ⟨v,us,rd,h1,h2,h3⟩:=h
 refine ⟨v,us,rd0++rd,h1,?_,h3⟩
 intro x hx
 simp only [Q.reads,List.mem_cons] at hx
 rcases hx with rfl | hx
 ·exact List.mem_append_left _ hk
 ·exact List.mem_append_right _ (h2 x hx)
theorem q2c {o:Option V3r} {o':Option V} {rd:List Nat} {k:K3 D Nat Rr Mr Out} (h:qas (q01 Fn FnD m) o rd k=some r) (ho:∀ v,o=some v→o'=some (eV v)):∃ v,o'=some (eV v)∧k v [] rd=some r:=by
 unfold qas at h
 split at h
 ·rename_i v;exact ⟨v,ho v rfl,h⟩
 ·cases h
theorem OKQ.mk {q:Q Res} {k:K3 D Nat Rr Mr Out} {v:V3r} {us:Ur} {rd:List Nat} (h1:q.run (q08 (eOb ob))=some (eV v,eOb us)) (h2:∀ x∈q.reads (q08 (eOb ob)),x∈rd) (h3:k v us rd=some r):OKQ ob q k r:=⟨v,us,rd,h1,h2,h3⟩
theorem q0r {a b:Nat} {k:Out} (h:(q01 Fn FnD m).eqN a b k=some r):a=b∧k=some r:=by
 simp only [q01] at h;split at h
 ·exact ⟨‹_›,h⟩
 ·cases h
theorem q4I {a b:Nat} {k:Out} (h:(q01 Fn FnD m).leN a b k=some r):a≤b∧k=some r:=by
 simp only [q01] at h;split at h
 ·exact ⟨‹_›,h⟩
 ·cases h
theorem q4n {x:D} {k:Out} (h:(q01 Fn FnD m).nilD x k=some r):x=.lit (.slice none 0 0)∧k=some r:=by
 simp only [q01] at h;split at h
 ·exact ⟨rfl,h⟩
 ·cases h
theorem q9y {n:Nat} {x:D} {k:List D→Out} (h:(q01 Fn FnD m).ptrW n x k=some r):∃ row,x=.dp row 0∧row.length=n∧k row=some r:=by
 simp only [q01] at h;split at h
 ·split at h
  ·exact ⟨_,rfl,‹_›,h⟩
  ·cases h
 ·cases h
theorem qcH {x:D} {k:Out} (h:(q01 Fn FnD m).isPtr x k=some r):(∃ row o,x=.dp row o)∧k=some r:=by
 simp only [q01] at h;split at h
 ·exact ⟨⟨_,_,rfl⟩,h⟩
 ·cases h
theorem q1w {s i:Nat} {rows:Rr} {k:List D→Out} (h:(q01 Fn FnD m).rowAt s rows i k=some r):∃ w,rows[i]?=some w∧w.length=s∧k w=some r:=by
 simp only [q01] at h;split at h
 ·split at h
  ·exact ⟨_,‹_›,‹_›,h⟩
  ·cases h
 ·cases h
theorem q5q {α:Type} {o:Option α} {k:α→Out} (h:qdm o k=some r):∃ a,o=some a∧k a=some r:=by
 unfold qdm at h;split at h
 ·exact ⟨_,rfl,h⟩
 ·cases h
theorem q5k {x:D} {n:Nat} {k:Nat→Out} (h:(q01 Fn FnD m).inx x n k=some r):∃ kk z,x=.lit (.int kk z)∧(0≤z∧z < (n:Int))∧k z.toNat=some r:=by
 simp only [q01] at h;split at h
 ·split at h
  ·exact ⟨_,_,rfl,‹_›,h⟩
  ·cases h
 ·cases h
theorem q9x {x:D} {n:Nat} {ks:List Out} (h:(q01 Fn FnD m).selI n x ks=some r):∃ kk z,x=.lit (.int kk z)∧(0≤z∧z < (n:Int))∧selR ks z.toNat=some r:=by
 simp only [q01] at h;split at h
 ·split at h
  ·exact ⟨_,_,rfl,‹_›,h⟩
  ·cases h
 ·cases h
theorem qdQ {es:Nat} {x i:D} {k:List D→Out} (h:(q01 Fn FnD m).rowD es x i k=some r):∃ rows kk z w,x=.sl es rows∧i=.lit (.int kk z)∧0≤z∧rows[z.toNat]?=some w∧w.length=es∧k w=some r:=by
 simp only [q01] at h;split at h
 ·split at h
  ·rename_i hz
   obtain ⟨rfl,hz⟩:=hz
   split at h
   ·split at h
    ·exact ⟨_,_,_,_,rfl,rfl,hz,‹_›,‹_›,h⟩
    ·cases h
   ·cases h
  ·cases h
 ·cases h
theorem qbI {l h':Option D} {n:Nat} {k:Nat→Nat→Out} {e:Out} (h:(q01 Fn FnD m).cut l h' n k e=some r):∃ zl zh,q4g l=some zl∧q4g h'=some zh∧(0≤zl.getD 0∧zl.getD 0≤zh.getD n∧zh.getD n≤n) ∧
  (((zl.getD 0=0∨zl.getD 0 < zh.getD n)∧k (zl.getD 0).toNat (zh.getD n - zl.getD 0).toNat=some r)∨(¬ (zl.getD 0=0∨zl.getD 0 < zh.getD n)∧e=some r)):=by
 simp only [q01] at h;split at h
 ·rename_i zl zh h1 h2
  split at h
  ·split at h
   ·exact ⟨zl,zh,h1,h2,‹_›,.inl ⟨‹_›,h⟩⟩
   ·exact ⟨zl,zh,h1,h2,‹_›,.inr ⟨‹_›,h⟩⟩
  ·cases h
 ·cases h
theorem qdV {es:Nat} {x:D} {l h':Option D} {k:D→Out} (h:(q01 Fn FnD m).cutD es x l h' k=some r):∃ zl zh z,q4g l=some zl∧q4g h'=some zh∧qhB es zl zh x=some z∧k z=some r:=by
 simp only [q01] at h;split at h
 ·obtain ⟨z,h1,h2⟩:=q5q h;exact ⟨_,_,z,‹_›,‹_›,h1,h2⟩
 ·cases h
theorem qaz {l h':Option D} {k:Out} (h:(q01 Fn FnD m).cutNil l h' k=some r):∃ zl zh,q4g l=some zl∧q4g h'=some zh∧(zl.getD 0=0∧zh.getD 0=0)∧k=some r:=by
 simp only [q01] at h;split at h
 ·split at h
  ·exact ⟨_,_,‹_›,‹_›,‹_›,h⟩
  ·cases h
 ·cases h
theorem q3F {x:D} {a b:Out} (h:(q01 Fn FnD m).cond x a b=some r):(x=.lit (.bool true)∧a=some r)∨(x=.lit (.bool false)∧b=some r):=by
 simp only [q01] at h;split at h
 ·exact .inl ⟨rfl,h⟩
 ·exact .inr ⟨rfl,h⟩
 ·cases h
theorem q3m {o:Out} {ks:List (List Yr→Out)} (h:(q01 Fn FnD m).bnd o ks=some r):∃ j ys k,o=some (j,ys)∧ks[j]?=some k∧k ys=some r:=by
 simp only [q01] at h;split at h
 ·split at h
  ·exact ⟨_,_,_,rfl,‹_›,h⟩
  ·cases h
 ·cases h
theorem qgE {op:BinOp} {bl:Bool} {x y:D} {k:D→Out} (h:(q01 Fn FnD m).bin op bl x y k=some r):∃ z,q7w op bl x y=some z∧k z=some r:=q5q h
theorem qdP {op:UnOp} {x:D} {k:D→Out} (h:(q01 Fn FnD m).un op x k=some r):∃ z,unD op x=some z∧k z=some r:=q5q h
theorem qiV {mx:Bool} {x y:D} {k:D→Out} (h:(q01 Fn FnD m).mm mx x y k=some r):∃ z,mmD mx x y=some z∧k z=some r:=q5q h
theorem qbH {ks:List Bool} {ng:Bool} {x y:List D} {k:D→Out} (h:(q01 Fn FnD m).eqs ks ng x y k=some r):∃ b,q1n ks (x.map .d) (y.map .d)=some b∧k (.lit (.bool (if ng then !b else b)))=some r:=by
 simp only [q01] at h;split at h
 ·exact ⟨_,‹_›,h⟩
 ·cases h
theorem qgB {bs:Nat} {x y:D} {k:Nat→Out} (h:(q01 Fn FnD m).mkN bs x y k=some r):∃ a n,x=.lit (.int a n)∧y=.lit (.int a n)∧(0≤n∧bs*n≤140737488355328∧n≤9223372036854775807)∧k n.toNat=some r:=by
 simp only [q01] at h;split at h
 ·split at h
  ·rename_i hc;obtain ⟨rfl,rfl,hc⟩:=hc;exact ⟨_,_,rfl,rfl,hc,h⟩
  ·cases h
 ·cases h
theorem qgC {bs:Nat} {x:D} {k:Nat→Out} (h:(q01 Fn FnD m).gap bs x k=some r):∃ a n,x=.lit (.int a n)∧(0 < n∧bs*n≤140737488355328∧n≤9223372036854775807)∧k n.toNat=some r:=by
 simp only [q01] at h;split at h
 ·split at h
  ·exact ⟨_,_,rfl,‹_›,h⟩
  ·cases h
 ·cases h
theorem qdT {x:D} {k:D→Out} (h:(q01 Fn FnD m).lenD x k=some r):∃ n,qgZ x=some n∧k (.lit (.int .i64 n))=some r:=by
 simp only [q01] at h;split at h
 ·exact ⟨_,‹_›,h⟩
 ·cases h
theorem qdS {x:D} {k:D→Out} (h:(q01 Fn FnD m).lenS x k=some r):∃ s,x=.lit (.string s)∧k (.lit (.int .i64 s.size))=some r:=by
 simp only [q01] at h;split at h
 ·exact ⟨_,rfl,h⟩
 ·cases h
theorem q83 {es:Nat} {x:D} {k:Rr→Out} (h:(q01 Fn FnD m).rowsD es x k=some r):∃ rows,q5j es x=some rows∧k rows=some r:=by
 simp only [q01] at h;split at h
 ·exact ⟨_,‹_›,h⟩
 ·cases h
theorem q84 {rows:Rr} {a b:Out} (h:(q01 Fn FnD m).isNil rows a b=some r):(rows=[]∧a=some r)∨(rows≠[]∧b=some r):=by
 cases rows with
 | nil=>exact .inl ⟨rfl,h⟩
 | cons x xs=>exact .inr ⟨by simp,h⟩
theorem q4o {bs n:Nat} {k:Out} (h:(q01 Fn FnD m).fits bs n k=some r):n*bs≤140737488355328∧n≤maxLen∧k=some r:=by
 simp only [q01] at h;split at h
 ·rename_i hc;exact ⟨hc.1,hc.2,h⟩
 ·cases h
theorem q8P {agg:Bool} {x:D} {k:Mr→Out} (h:(q01 Fn FnD m).asM agg x k=some r):∃ mm,qga agg x=some mm∧k mm=some r:=by
 simp only [q01] at h;split at h
 ·exact ⟨_,‹_›,h⟩
 ·cases h
theorem qdR {kd:Nat} {zs:List Value} {mm:Mr} {key:D} {k:List D→D→Out} (h:(q01 Fn FnD m).look kd zs mm key k=some r):∃ p,qey kd zs mm key=some p∧k p.1 p.2=some r:=by
 simp only [q01] at h;split at h
 ·exact ⟨_,‹_›,h⟩
 ·cases h
theorem qgA {kd:Nat} {mm:Mr} {key:D} {ds:List D} {k:Mr→Out} (h:(q01 Fn FnD m).upd kd mm key ds k=some r):∃ m',updD kd mm key ds=some m'∧k m'=some r:=by
 simp only [q01] at h;split at h
 ·exact ⟨_,‹_›,h⟩
 ·cases h
theorem q9z {x:D} {a b:Out} (h:(q01 Fn FnD m).nilE x a b=some r):(x=.lit (.slice none 0 0)∧a=some r)∨∃ s rows,x=.sl s rows∧b=some r:=by
 simp only [q01] at h
 split at h
 ·exact .inl ⟨rfl,h⟩
 ·exact .inr ⟨_,_,rfl,h⟩
 ·cases h
theorem qgD {kd:IntKind} {y:D} {k:D→Out} (h:(q01 Fn FnD m).cvI kd y k=some r):∃ a n,y=.lit (.int a n)∧k (.lit (.int kd (kd.wrap n)))=some r:=by
 simp only [q01] at h;split at h
 ·exact ⟨_,_,rfl,h⟩
 ·cases h
theorem qbG {y:D} {rows new:Rr} {k:Rr→Out} (h:(q01 Fn FnD m).ins y rows new k=some r):∃ z,y=.lit (.int .i64 z)∧(0≤z∧z.toNat≤rows.length)∧k (rows.take z.toNat++new++rows.drop z.toNat)=some r:=by
 simp only [q01] at h;split at h
 ·split at h
  ·exact ⟨_,rfl,‹_›,h⟩
  ·cases h
 ·cases h
theorem q9A {ys:List Yr} {k:Out} (h:(q01 Fn FnD m).lits ys k=some r):ys.all q9k=true∧k=some r:=by
 simp only [q01] at h;split at h
 ·exact ⟨‹_›,h⟩
 ·cases h
theorem qdU {kd:Nat} {mm:Mr} {key:D} {k:Nat→Out} {e:Out} (h:(q01 Fn FnD m).find kd mm key k e=some r):(∃ j,q7m kd mm key=some (some j)∧k j=some r)∨(q7m kd mm key=some none∧e=some r):=by
 simp only [q01] at h;split at h
 ·exact .inl ⟨_,‹_›,h⟩
 ·exact .inr ⟨‹_›,h⟩
 ·cases h
theorem qdW {kd:Nat} {mm:Mr} {key:D} {j:Nat} {k:Mr→Out} (h:(q01 Fn FnD m).addK kd mm key j k=some r):∃ m',qfA kd mm key j=some m'∧k m'=some r:=by
 simp only [q01] at h;split at h
 ·exact ⟨_,‹_›,h⟩
 ·cases h
theorem q3k:∀ {xs:List L3r} {ds:List D},q4m (q01 Fn FnD m) xs=some ds→eLs xs=ds.map .d
 | [],ds,h=>by simp [q4m] at h;subst h;rfl
 | x::xs,ds,h=>by
  simp only [q4m] at h
  split at h
  ·rename_i y ys hy hys
   cases h
   simp [eLs,q1J hy,q3k hys]
  ·cases h
theorem qir (ds:List D) (o:Ob):(q4h (ds.map .d)).run o=some (ds,[])∧(q4h (ds.map .d)).reads o=[]:=by
 induction ds with
 | nil=>exact ⟨rfl,rfl⟩
 | cons d ds ih=>exact ⟨by simp [q4h,frz,Q.bind,Q.run_bind,ih.1,Q.run],by simp [q4h,frz,Q.bind,Q.reads_bind,ih.1,ih.2,Q.reads]⟩
theorem q56 {g:Bool} {s off:Nat} {cells:List L} {v:V} (hl:off+s≤cells.length) (h:mkV g ((cells.drop off).take s)=some v):q0J g s off cells=some v:=by
 cases g with
 | true=>simp only [mkV] at h;simp [q0J,hl,← h]
 | false =>
  simp only [q0J,Bool.false_eq_true,if_false]
  unfold mkV at h
  split at h
  ·contradiction
  ·rename_i x hx
   cases h
   have h0:=congrArg (·[0]?) hx
   simp only [List.getElem?_take,List.getElem?_drop,List.getElem?_cons_zero,Nat.add_zero] at h0
   split at h0
   ·rw [h0];rfl
   ·cases h0
  ·cases h
theorem qaF (w:List D) (off s:Nat) (h:off+s≤w.length):(List.range s).map (fun i=>w.getD (off+i) default)=(w.drop off).take s:=by
 apply List.ext_getElem?
 intro i
 simp only [List.getElem?_map,List.getElem?_take,List.getElem?_drop]
 by_cases hi:i < s
 ·rw [List.getElem?_range hi,if_pos hi,Option.map_some,List.getElem?_eq_getElem (by omega)]
  simp [List.getD_eq_getElem?_getD,List.getElem?_eq_getElem (show off+i < w.length by omega)]
 ·rw [List.getElem?_eq_none (by simpa using hi),if_neg hi];rfl
theorem qcf {cells:List L3r} {b n es i:Nat} (hi:i < n):∀ {s o:Nat} {xs:List L3r},qfh (q01 Fn FnD m) cells b n es i o s=some xs→b+es*i+o+s≤cells.length→eLs xs=((eLs cells).drop (b+es*i+o)).take s
 | 0,o,xs,h,_=>by simp [qfh] at h;subst h;simp [eLs]
 | s+1,o,xs,h,hl=>by
  simp only [qfh] at h
  split at h
  ·rename_i ds ys hds hys
   cases h
   have ih:=qcf hi hys (by omega)
   have h1:=q3k hds
   have h2:=congrArg (·[i]?) h1
   have hlt:b+es*i+o < cells.length:=by omega
   have hd:(eLs cells).drop (b+es*i+o)=eL cells[b+es*i+o]::(eLs cells).drop (b+es*i+o+1):=by
    rw [q0A,List.drop_eq_getElem_cons (by simpa using hlt)];simp
   simp only [q0A,List.map_map,List.getElem?_map,List.getElem?_range hi,Option.map_some,Function.comp] at h2
   rw [hd,List.take_succ_cons]
   simp only [eLs]
   rw [show b+es*i+o+1=b+es*i+(o+1) by omega,← ih]
   congr 1
   rw [List.getD_eq_getElem?_getD,show b+i*es+o=b+es*i+o by rw [Nat.mul_comm],List.getElem?_eq_getElem hlt,Option.getD_some] at h2
   simp only [q01,eL,List.getD_eq_getElem?_getD]
   cases hq:ds[i]? with
   | none=>rw [hq] at h2;simp at h2
   | some z=>rw [hq] at h2;simp at h2;rw [h2];rfl
  ·cases h
theorem qj5 {i b n es off:Nat} {ds:List D} {cells:List L3r} (hi:i < n) (hes:0 < es) (hb:b+n*es≤cells.length) (ho:off+ds.length≤es) (hd:(qic (q01 Fn FnD m) i b n es off ds cells).all L3.isDef=true) :
  eLs (qic (q01 Fn FnD m) i b n es off ds cells)=(eLs cells).take (b+es*i+off)++ds.map .d++(eLs cells).drop (b+es*i+off+(ds.map L.d).length):=by
 have hin:es*i+es≤n*es:=by rw [Nat.mul_comm es i,← Nat.succ_mul];exact Nat.mul_le_mul_right _ hi
 have hlen:b+es*i+off+(ds.map L.d).length≤(eLs cells).length:=by rw [q15,List.length_map];omega
 apply List.ext_getElem?
 intro p
 rw [q3D _ _ _ hlen,List.length_map]
 by_cases hp:p < cells.length
 ·have hx:(qic (q01 Fn FnD m) i b n es off ds cells)[p]?=some (if b≤p∧p < b+n*es∧off≤(p - b) % es∧(p - b) % es < off+ds.length then putC (q01 Fn FnD m) i ((p - b) / es) cells[p] ds[(p - b) % es - off]? else cells[p]):=by
   simp only [qic,List.getElem?_map,List.getElem?_zipIdx,List.getElem?_eq_getElem hp,Option.map_some,Nat.zero_add]
  have hdef:=List.all_eq_true.1 hd _ (List.mem_of_getElem? hx)
  rw [q0A,List.getElem?_map,hx,Option.map_some]
  have hcp:(eLs cells)[p]?=some (eL cells[p]):=by rw [q0A,List.getElem?_map,List.getElem?_eq_getElem hp];rfl
  have hmod:=Nat.div_add_mod (p - b) es
  by_cases hc:b≤p∧p < b+n*es∧off≤(p - b) % es∧(p - b) % es < off+ds.length
  ·rw [if_pos hc] at hdef ⊢
   obtain ⟨c1,c2,c3,c4⟩:=hc
   unfold putC at hdef ⊢
   split at hdef
   ·rename_i old new h1 h2
    simp only [q01,eL]
    by_cases hq:i=(p - b) / es
    ·rw [if_pos hq,if_neg (by rw [←hq] at hmod;omega),if_pos (by rw [←hq] at hmod;omega)]
     rw [List.getElem?_map,show p - (b+es*i+off)=(p - b) % es - off by rw [←hq] at hmod;omega,h2];rfl
    ·rw [if_neg hq]
     have hnot:¬ (b+es*i+off≤p∧p < b+es*i+off+ds.length):=by
      rintro ⟨h3,h4⟩
      refine hq ?_
      have:p - b=es*i+(p - b - es*i):=by omega
      rw [this,Nat.mul_add_div hes,Nat.div_eq_of_lt (by omega)];rfl
     have:some (L.d old)=(eLs cells)[p]?:=by rw [hcp,q1J h1]
     split
     ·exact this
     ·rw [if_neg (by omega)];exact this
   ·simp [L3.isDef] at hdef
  ·rw [if_neg hc]
   have hnot:¬ (b+es*i+off≤p∧p < b+es*i+off+ds.length):=by
    rintro ⟨h3,h4⟩
    refine hc ?_
    have e1:(p - b) % es=p - b - es*i:=by
     have:p - b=es*i+(p - b - es*i):=by omega
     rw [this,Nat.mul_add_mod,Nat.mod_eq_of_lt (by omega)];omega
    rw [e1]
    omega
   split
   ·exact hcp.symm
   ·rw [if_neg (by omega)];exact hcp.symm
 ·have h1:(eLs (qic (q01 Fn FnD m) i b n es off ds cells))[p]?=none:=List.getElem?_eq_none (by rw [q15];simp [qic];omega)
  rw [h1]
  rw [q15,List.length_map] at hlen
  rw [if_neg (by omega),if_neg (by omega),List.getElem?_eq_none (by rw [q15];omega)]
theorem qbX {g:Bool} {s:Nat} {x:V3r} {k:K3 D Nat Rr Mr Out} (h:qgV (q01 Fn FnD m) g s ob x k=some r):OKQ ob (q43 g s (eV x)) k r:=by
 unfold qgV at h
 split at h
 ·rename_i key off
  split at h
  ·rename_i cells elem hk
   obtain ⟨v,h1,h2⟩:=q2c (o':=q0J g s off (eLs cells)) h fun v hv=>by rw [q2t,hv];rfl
   refine OKQ.mk (v:=v) (us:=[]) (rd:=[key]) ?_ ?_ h2
   ·simp [q43,eV,eL,Q.run,q0b,hk,eO,q0y,h1,Q.opt,Q.bind,q0d]
   ·simp [q43,eV,eL,Q.reads,q0b,hk,eO,q0y,h1,Q.opt,Q.bind]
  ·cases h
 ·rename_i key i off c
  split at h
  ·rename_i rows size elem own hk
   obtain ⟨hc,h⟩:=q0r h
   obtain ⟨w,h1,h2,h⟩:=q1w h
   rw [q1v h2] at h
   obtain ⟨v,h3,h4⟩:=q2c (o':=q0J g s off (w.map .d)) h fun v hv=>by rw [←qhs,q2t,hv];rfl
   have hc':c=rows.length:=hc
   refine OKQ.mk (v:=v) (us:=[]) (rd:=[key]) ?_ ?_ h4
   ·simp [q43,eV,eL,Q.run,q0b,hk,eO,q0y,h1,h3,Q.opt,Q.bind,q0d,Q.guard,hc']
   ·simp [q43,eV,eL,Q.reads,q0b,hk,eO,q0y,h1,h3,Q.opt,Q.bind,Q.guard,hc']
  ·rename_i rows size elem own hk
   obtain ⟨hc,h⟩:=q0r h
   obtain ⟨w,h1,h2,h⟩:=q1w h
   rw [q1v h2] at h
   obtain ⟨v,h3,h4⟩:=q2c (o':=q0J g s off (w.map .d)) h fun v hv=>by rw [←qhs,q2t,hv];rfl
   have hc':c=rows.length:=hc
   have hg:=q1F hk (by rintro rfl;simp at h1)
   refine OKQ.mk (v:=v) (us:=[]) (rd:=[key]) ?_ ?_ h4
   ·simp [q43,eV,eL,Q.run,hg,q0y,h1,h3,Q.opt,Q.bind,q0d,Q.guard,hc']
   ·simp [q43,eV,eL,Q.reads,hg,q0y,h1,h3,Q.opt,Q.bind,Q.guard,hc']
  ·cases h
 ·rename_i row off
  obtain ⟨v,h1,h2⟩:=q2c (o':=q0J g s off (row.map .d)) h fun v hv=>by rw [←qhs,q2t,hv];rfl
  refine OKQ.mk (v:=v) (us:=[]) (rd:=[]) ?_ ?_ h2
  ·simp [q43,eV,eL,Q.run,q0y,h1,Q.opt,Q.bind,q0d]
  ·simp [q43,eV,eL,Q.reads,q0y,h1,Q.opt,Q.bind]
 ·rename_i key j off
  split at h
  ·rename_i mm size elem hk
   obtain ⟨w,h1,h2,h⟩:=q1w h
   obtain ⟨h3,h⟩:=q4I h
   have h3':off+s≤w.length:=by rw [h2];exact h3
   have h1':mm.2[j]?=some w:=h1
   obtain ⟨v,h4,h5⟩:=q2c (o':=q0J g s off (w.map .d)) h fun v hv=>by
    refine q56 (by simpa using h3') ?_
    have e:eLs ((List.range s).map fun i=>.d ((q01 Fn FnD m).cellN w off i))=((w.map L.d).drop off).take s:=by
     rw [←List.map_drop,← List.map_take,← qaF w off s h3',q0A,List.map_map,List.map_map]
     rfl
    rw [←e,qgS,hv];rfl
   refine OKQ.mk (v:=v) (us:=[]) (rd:=[key]) ?_ ?_ h5
   ·simp [q43,eV,eL,Q.run,q0b,hk,eO,q0y,h1',h4,Q.opt,Q.bind,q0d]
   ·simp [q43,eV,eL,Q.reads,q0b,hk,eO,q0y,h1',h4,Q.opt,Q.bind]
  ·cases h
 ·rename_i key b n es i off
  split at h
  ·rename_i cells elem hk
   split at h
   ·rename_i hle
    split at h
    ·rename_i xs hxs
     obtain ⟨h3,h⟩:=q4I h
     have h3':i+1≤n:=h3
     have hin:es*i+es≤n*es:=by rw [Nat.mul_comm es i,← Nat.succ_mul];exact Nat.mul_le_mul_right _ h3'
     obtain ⟨v,h4,h5⟩:=q2c (o':=q0J g s (b+es*i+off) (eLs cells)) h fun v hv=>by
      refine q56 (by rw [q15];omega) ?_
      rw [←qcf h3' hxs (by omega),qgS,hv];rfl
     refine OKQ.mk (v:=v) (us:=[]) (rd:=[key]) ?_ ?_ h5
     ·simp [q43,eV,eL,Q.run,q0b,hk,eO,q0y,h4,Q.opt,Q.bind,q0d]
     ·simp [q43,eV,eL,Q.reads,q0b,hk,eO,q0y,h4,Q.opt,Q.bind]
    ·cases h
   ·cases h
  ·cases h
 ·cases h
theorem qb9 {x:L3r} {k:D→Ur→List Nat→Out} (h:qhj (q01 Fn FnD m) ob x k=some r):∃ d us rd,(frz (eL x)).run (q08 (eOb ob))=some (d,eOb us)∧(∀ q∈(frz (eL x)).reads (q08 (eOb ob)),q∈rd)∧k d us rd=some r:=by
 unfold qhj at h
 split at h
 ·rename_i key off n c
  split at h
  ·rename_i rows size elem own hk
   obtain ⟨hc,h⟩:=q0r h
   have hc':c=rows.length:=hc
   refine ⟨_,_,_,?_,?_,h⟩
   ·simp [frz,eL,Q.run,q0b,hk,eO,Q.guard,hc',q01,q0d,q0m]
   ·simp [frz,eL,Q.reads,q0b,hk,eO,Q.guard,hc']
  ·cases h
 ·rename_i key
  split at h
  ·rename_i agg mm own hk
   refine ⟨_,_,_,?_,?_,h⟩
   ·simp [frz,eL,Q.run,q0b,hk,eO,q01,q0d,q0m]
   ·simp [frz,eL,Q.reads,q0b,hk,eO]
  ·cases h
 ·rename_i key n
  split at h
  ·rename_i rows size elem own hk
   obtain ⟨hc,h⟩:=q0r h
   have hc':n=rows.length:=hc
   refine ⟨_,_,_,?_,?_,h⟩
   ·cases rows with
    | nil=>simp [frz,eL,Q.run,q4w hk,eO,Q.guard,hc',q01,q0d,q0m]
    | cons a t=>simp [frz,eL,Q.run,q1F hk,eO,Q.guard,hc',q01,q0d,q0m]
   ·cases rows with
    | nil=>simp [frz,eL,Q.reads,q4w hk,Q.guard,hc']
    | cons a t=>simp [frz,eL,Q.reads,q1F hk,Q.guard,hc']
  ·cases h
 ·split at h
  ·rename_i y hy
   refine ⟨_,_,_,?_,?_,h⟩
   ·rw [q1J hy];simp [frz,Q.run,q0d]
   ·rw [q1J hy];simp [frz,Q.reads]
  ·cases h
theorem q4M:∀ {xs:List L3r} {k:List D→Ur→List Nat→Out},qa5 (q01 Fn FnD m) ob xs k=some r→∃ ds us rd,(q4h (eLs xs)).run (q08 (eOb ob))=some (ds,eOb us)∧(∀ q∈(q4h (eLs xs)).reads (q08 (eOb ob)),q∈rd)∧k ds us rd=some r
 | [],k,h=>⟨[],[],[],by simp [eLs,q4h,Q.run,q0d],by simp [eLs,q4h,Q.reads],h⟩
 | x::xs,k,h=>by
  simp only [qa5] at h
  obtain ⟨d,us,rd,h1,h2,h⟩:=qb9 h
  obtain ⟨ds,us',rd',h3,h4,h⟩:=q4M h
  refine ⟨_,_,_,?_,?_,h⟩
  ·simp [eLs,q4h,Q.run_bind,h1,h3,Q.run,q3O]
  ·intro q hq
   simp only [eLs,q4h,Q.reads_bind,h1,h3,List.mem_append,Q.reads,List.not_mem_nil,or_false] at hq
   rcases hq with hq | hq
   ·exact List.mem_append_left _ (h2 q hq)
   ·exact List.mem_append_right _ (h4 q hq)
theorem q2F {dst:Option Nat} {o:O3r} {v:Nat→V3r} {v':Nat→V} {k:K3 D Nat Rr Mr Out} (h:q2G (q01 Fn FnD m) ob dst o v k=some r) (hv:∀ q,eV (v q)=v' q):OKQ ob (fresh dst (eO o) v') k r:=by
 unfold q2G at h
 split at h
 ·rename_i key
  split at h
  ·rename_i hk
   refine OKQ.mk ?_ ?_ h
   ·simp [fresh,Q.run,q0b,hk,hv,q0d,q0m]
   ·simp [fresh,Q.reads,q0b,hk]
  ·cases h
 ·cases h
theorem qdA {x:V3r} {cs:List L3r} {k:K3 D Nat Rr Mr Out} (h:qdB (q01 Fn FnD m) ob x cs k=some r):OKQ ob (q4a (eV x) (eLs cs)) k r:=by
 unfold qdB at h
 split at h
 ·rename_i key off
  split at h
  ·rename_i cells elem hk
   split at h
   ·rename_i hle
    refine OKQ.mk ?_ ?_ h
    ·simp [q4a,eV,eL,Q.run,q0b,hk,eO,Q.guard,hle,q0d,q0m,q0A,List.map_take,List.map_drop]
    ·simp [q4a,eV,eL,Q.reads,q0b,hk,eO,Q.guard,q15,hle]
   ·cases h
  ·cases h
 ·rename_i key i off c
  split at h
  ·rename_i rows size elem own hk
   split at h
   ·obtain ⟨hc,h⟩:=q0r h
    have hc':c=rows.length:=hc
    obtain ⟨w,h1,h2,h⟩:=q1w h
    obtain ⟨ds,us,rd,h3,h4,h⟩:=q4M h
    rw [q1v h2] at h
    split at h
    ·split at h
     ·rename_i hle
      refine OKQ.mk ?_ ?_ h
      ·simp only [q4a,eV,eL,Q.run,q0b,hk,Option.bind_some,eO,q36,Q.guard,hc',decide_true,Bool.and_true,h1,Q.opt,Q.bind,Q.run_bind,h3,Option.bind_some,h2,hle,q0d,q0m,List.isEmpty_nil]
       simp [q01]
      ·intro q hq
       simp only [q4a,eV,eL,Q.reads,q0b,hk,Option.bind_some,eO,q36,Q.guard,hc',decide_true,Bool.and_true,h1,Q.opt,Q.bind,Q.reads_bind,h3,h2,hle,q0d,List.isEmpty_nil,List.mem_cons,List.mem_append,List.not_mem_nil,or_false] at hq
       rcases hq with rfl | hq
       ·simp
       ·exact List.mem_cons_of_mem _ (h4 q hq)
     ·cases h
    ·cases h
   ·cases h
  ·cases h
 ·rename_i key j off
  split at h
  ·rename_i mm size elem hk
   split at h
   ·rename_i ds hds
    obtain ⟨w,h1,h2,h⟩:=q1w h
    obtain ⟨h3,h⟩:=q4I h
    have h3':off+ds.length≤w.length:=by rw [h2];exact h3
    have h1':mm.2[j]?=some w:=h1
    have hf:=qir ds (q08 (eOb ob))
    have hgd:mm.2.getD j []=w:=by rw [List.getD_eq_getElem?_getD,h1'];rfl
    refine OKQ.mk ?_ ?_ h
    ·simp only [q4a,eV,eL,q3k hds,Q.run,q0b,hk,Option.bind_some,eO,val_am,h1',Q.opt,Q.bind,Q.run_bind,hf.1,Option.bind_some,Q.guard,h3',decide_true,List.isEmpty_nil,Bool.and_true,q0d,q0m]
     simp only [q01,q4R,hgd]
    ·intro q hq
     simpa [q4a,eV,eL,q3k hds,Q.reads,q0b,hk,eO,h1',Q.opt,Q.bind,Q.reads_bind,hf.1,hf.2,Q.guard,h3'] using hq
   ·cases h
  ·cases h
 ·rename_i key b n es i off
  split at h
  ·rename_i cells elem hk
   split at h
   ·rename_i ds hds
    split at h
    ·rename_i hle
     obtain ⟨g1,g2,g3,g4⟩:=hle
     obtain ⟨h3,h⟩:=q4I h
     have h3':i+1≤n:=h3
     have hin:es*i+es≤n*es:=by rw [Nat.mul_comm es i,← Nat.succ_mul];exact Nat.mul_le_mul_right _ h3'
     have hp:=qj5 h3' g4 g1 g2 g3
     have hle':b+es*i+off+(ds.map L.d).length≤(eLs cells).length:=by rw [q15,List.length_map];omega
     have hle2:b+es*i+off+ds.length≤(eLs cells).length:=by simpa using hle'
     refine OKQ.mk ?_ ?_ h
     ·simp only [q4a,eV,eL,q3k hds,Q.run,q0b,hk,Option.bind_some,eO,q8D,Q.guard,hle',decide_true,q0d,q0m,hp]
     ·simp [hle2,q4a,eV,eL,q3k hds,Q.reads,q0b,hk,eO,Q.guard]
    ·cases h
   ·cases h
  ·cases h
 ·cases h
end
section
variable {P:Program} {Fn:Nat→List D→Out} {FnD:D→List Sh→List D→Out} {m:Nat} {r:Nat×List Yr} {ob:Ur}
theorem q4F {rec:L3r→(D→List Nat→Out)→Out} {f:L→Q D} (hrec:∀ x k,rec x k=some r→∃ d rd,(f (eL x)).run (q08 (eOb ob))=some d∧(∀ q∈(f (eL x)).reads (q08 (eOb ob)),q∈rd)∧k d rd=some r) :
  ∀ {xs:List L3r} {k:List D→List Nat→Out},q9l rec xs k=some r→∃ ds rd,(Q.mapM f (eLs xs)).run (q08 (eOb ob))=some ds∧(∀ q∈(Q.mapM f (eLs xs)).reads (q08 (eOb ob)),q∈rd)∧ds.length=xs.length∧k ds rd=some r
 | [],k,h=>⟨[],[],by simp [eLs,Q.mapM,Q.run],by simp [eLs,Q.mapM,Q.reads],rfl,h⟩
 | x::xs,k,h=>by
  simp only [q9l] at h
  obtain ⟨d,rd,h1,h2,h⟩:=hrec _ _ h
  obtain ⟨ds,rd',h3,h4,h5,h⟩:=q4F hrec h
  refine ⟨_,_,?_,?_,?_,h⟩
  ·simp [eLs,Q.mapM,Q.run_bind,h1,h3,Q.run]
  ·intro q hq
   simp only [eLs,Q.mapM,Q.reads_bind,h1,h3,List.mem_append,Q.reads,List.not_mem_nil,or_false] at hq
   rcases hq with hq | hq
   ·exact List.mem_append_left _ (h2 q hq)
   ·exact List.mem_append_right _ (h4 q hq)
  ·simp [h5]
theorem q6O:∀ (n:Nat) (x:L3r) (k:D→List Nat→Out),q3S (q01 Fn FnD m) ob n x k=some r→∃ d rd,(toD n (eL x)).run (q08 (eOb ob))=some d∧(∀ q∈(toD n (eL x)).reads (q08 (eOb ob)),q∈rd)∧k d rd=some r:=by
 intro n
 induction n with
 | zero =>
  intro x k h
  cases x with
  | slk key off n' c =>
   simp only [q3S] at h
   split at h
   ·rename_i rows size elem own hk
    obtain ⟨hc,h⟩:=q0r h
    have hc':c=rows.length:=hc
    refine ⟨_,_,?_,?_,h⟩
    ·simp [toD,eL,Q.run,q0b,hk,eO,Q.guard,hc',q01]
    ·simp [toD,eL,Q.reads,q0b,hk,eO,Q.guard,hc']
   ·cases h
  | pa key i off c =>
   simp only [q3S] at h
   split at h
   ·rename_i rows size elem own hk
    obtain ⟨hc,h⟩:=q0r h
    have hc':c=rows.length:=hc
    obtain ⟨w,h1,h2,h⟩:=q1w h
    rw [q1v h2] at h
    refine ⟨_,_,?_,?_,h⟩
    ·simp [toD,eL,Q.run,q0b,hk,eO,Q.guard,hc',h1,Q.opt,Q.bind,q01]
    ·simp [toD,eL,Q.reads,q0b,hk,eO,Q.guard,hc',h1,Q.opt,Q.bind]
   ·rename_i rows size elem own hk
    obtain ⟨hc,h⟩:=q0r h
    have hc':c=rows.length:=hc
    obtain ⟨w,h1,h2,h⟩:=q1w h
    rw [q1v h2] at h
    have hg:=q1F hk (by rintro rfl;simp at h1)
    refine ⟨_,_,?_,?_,h⟩
    ·simp [toD,eL,Q.run,hg,Q.guard,hc',h1,Q.opt,Q.bind,q01]
    ·simp [toD,eL,Q.reads,hg,Q.guard,hc',h1,Q.opt,Q.bind]
   ·cases h
  | sln key n' =>
   simp only [q3S] at h
   split at h
   ·rename_i rows size elem own hk
    obtain ⟨hc,h⟩:=q0r h
    have hc':n'=rows.length:=hc
    refine ⟨_,_,?_,?_,h⟩
    ·cases rows with
     | nil=>simp [toD,eL,Q.run,hc',q01]
     | cons a t=>simp [toD,eL,Q.run,q1F hk,Q.guard,hc',q01]
    ·cases rows with
     | nil=>simp [toD,eL,Q.reads,hc']
     | cons a t=>simp [toD,eL,Q.reads,q1F hk,Q.guard,hc']
   ·cases h
  | mk key =>
   simp only [q3S] at h
   split at h
   ·rename_i agg mm own hk
    refine ⟨_,_,?_,?_,h⟩
    ·simp [toD,eL,Q.run,q0b,hk,eO,q01]
    ·simp [toD,eL,Q.reads,q0b,hk,eO]
   ·cases h
  | ptr _ _=>simp [q3S,q3T,q01] at h
  | fn _ _=>simp [q3S,q3T,q01] at h
  | undef=>simp [q3S,q3T,q01] at h
  | mq k0=>simp [q3S,q3T,q01] at h
  | pb k0 j0 o0=>simp [q3S,q3T,q01] at h
  | px k0 b0 n0 e0 i0 o0=>simp [q3S,q3T,q01] at h
  | np=>simp only [q3S,q3T] at h;exact ⟨_,_,by simp [eL,toD,Q.run,q01],by simp [eL,toD,Q.reads],h⟩
  | d x=>simp only [q3S,q3T] at h;exact ⟨_,_,by simp [eL,toD,Q.run],by simp [eL,toD,Q.reads],h⟩
  | b x=>simp only [q3S,q3T] at h;exact ⟨_,_,by simp [eL,toD,Q.run,q01],by simp [eL,toD,Q.reads],h⟩
  | i x y=>simp only [q3S,q3T] at h;exact ⟨_,_,by simp [eL,toD,Q.run,q01],by simp [eL,toD,Q.reads],h⟩
  | nil=>simp only [q3S,q3T] at h;exact ⟨_,_,by simp [eL,toD,Q.run,q01],by simp [eL,toD,Q.reads],h⟩
  | dp x y=>simp only [q3S,q3T] at h;exact ⟨_,_,by simp [eL,toD,Q.run,q01],by simp [eL,toD,Q.reads],h⟩
 | succ n ih =>
  intro x k h
  cases x with
  | slk key off n' c =>
   simp only [q3S] at h
   split at h
   ·rename_i rows size elem own hk
    obtain ⟨hc,h⟩:=q0r h
    have hc':c=rows.length:=hc
    refine ⟨_,_,?_,?_,h⟩
    ·simp [toD,eL,Q.run,q0b,hk,eO,Q.guard,hc',q01]
    ·simp [toD,eL,Q.reads,q0b,hk,eO,Q.guard,hc']
   ·cases h
  | pa key i off c =>
   simp only [q3S] at h
   split at h
   ·rename_i rows size elem own hk
    obtain ⟨hc,h⟩:=q0r h
    have hc':c=rows.length:=hc
    obtain ⟨w,h1,h2,h⟩:=q1w h
    rw [q1v h2] at h
    refine ⟨_,_,?_,?_,h⟩
    ·simp [toD,eL,Q.run,q0b,hk,eO,Q.guard,hc',h1,Q.opt,Q.bind,q01]
    ·simp [toD,eL,Q.reads,q0b,hk,eO,Q.guard,hc',h1,Q.opt,Q.bind]
   ·rename_i rows size elem own hk
    obtain ⟨hc,h⟩:=q0r h
    have hc':c=rows.length:=hc
    obtain ⟨w,h1,h2,h⟩:=q1w h
    rw [q1v h2] at h
    have hg:=q1F hk (by rintro rfl;simp at h1)
    refine ⟨_,_,?_,?_,h⟩
    ·simp [toD,eL,Q.run,hg,Q.guard,hc',h1,Q.opt,Q.bind,q01]
    ·simp [toD,eL,Q.reads,hg,Q.guard,hc',h1,Q.opt,Q.bind]
   ·cases h
  | sln key n' =>
   simp only [q3S] at h
   split at h
   ·rename_i rows size elem own hk
    obtain ⟨hc,h⟩:=q0r h
    have hc':n'=rows.length:=hc
    refine ⟨_,_,?_,?_,h⟩
    ·cases rows with
     | nil=>simp [toD,eL,Q.run,hc',q01]
     | cons a t=>simp [toD,eL,Q.run,q1F hk,Q.guard,hc',q01]
    ·cases rows with
     | nil=>simp [toD,eL,Q.reads,hc']
     | cons a t=>simp [toD,eL,Q.reads,q1F hk,Q.guard,hc']
   ·cases h
  | mk key =>
   simp only [q3S] at h
   split at h
   ·rename_i agg mm own hk
    refine ⟨_,_,?_,?_,h⟩
    ·simp [toD,eL,Q.run,q0b,hk,eO,q01]
    ·simp [toD,eL,Q.reads,q0b,hk,eO]
   ·cases h
  | ptr key off =>
   simp only [q3S] at h
   split at h
   ·rename_i cells elem hk
    obtain ⟨ds,rd,h1,h2,_,h⟩:=q4F (f:=toD n) ih h
    refine ⟨_,_,?_,?_,h⟩
    ·simp [toD,eL,Q.run,q0b,hk,eO,Q.run_bind,h1,q01]
    ·intro q hq
     simp only [toD,eL,Q.reads,q0b,hk,Option.bind_some,eO,q8D,Q.reads_bind,h1,List.mem_cons,List.mem_append,List.not_mem_nil,or_false] at hq
     rcases hq with rfl | hq
     ·simp
     ·exact List.mem_cons_of_mem _ (h2 q hq)
   ·cases h
  | fn f cs =>
   simp only [q3S] at h
   obtain ⟨ds,rd,h1,h2,_,h⟩:=q4F (f:=toD n) ih h
   refine ⟨_,_,?_,?_,h⟩
   ·simp [toD,eL,Q.run_bind,h1,Q.run,q01]
   ·intro q hq
    simp only [toD,eL,Q.reads_bind,h1,Q.reads,List.mem_append,List.not_mem_nil,or_false] at hq
    exact h2 q hq
  | undef=>simp [q3S,q3T,q01] at h
  | mq k0=>simp [q3S,q3T,q01] at h
  | pb k0 j0 o0=>simp [q3S,q3T,q01] at h
  | px k0 b0 n0 e0 i0 o0=>simp [q3S,q3T,q01] at h
  | np=>simp only [q3S,q3T] at h;exact ⟨_,_,by simp [eL,toD,Q.run,q01],by simp [eL,toD,Q.reads],h⟩
  | d x=>simp only [q3S,q3T] at h;exact ⟨_,_,by simp [eL,toD,Q.run],by simp [eL,toD,Q.reads],h⟩
  | b x=>simp only [q3S,q3T] at h;exact ⟨_,_,by simp [eL,toD,Q.run,q01],by simp [eL,toD,Q.reads],h⟩
  | i x y=>simp only [q3S,q3T] at h;exact ⟨_,_,by simp [eL,toD,Q.run,q01],by simp [eL,toD,Q.reads],h⟩
  | nil=>simp only [q3S,q3T] at h;exact ⟨_,_,by simp [eL,toD,Q.run,q01],by simp [eL,toD,Q.reads],h⟩
  | dp x y=>simp only [q3S,q3T] at h;exact ⟨_,_,by simp [eL,toD,Q.run,q01],by simp [eL,toD,Q.reads],h⟩
theorem q8K {x:L3r} {k:IntKind} {z:Int} (h:q3T (q01 Fn FnD m) x=some (.lit (.int k z))):vInt? (.one (eL x))=some (k,z):=by rw [q1J h];rfl
theorem qeS {es:Nat} {x:V3r} {k:K3 D Nat Rr Mr Out} {j:Nat} (h:idxC (q01 Fn FnD m) es x k j=some r):∃ v,q1X (j*es) (eV x)=some (eV v)∧k v [] []=some r:=by
 unfold idxC at h
 exact q2c (o':=q1X (j*es) (eV x)) h fun v hv=>q7D hv
theorem q9Z {arr:Option Nat} {e:Nat} {es:Nat} {x:V3r} {i:L3r} {k:K3 D Nat Rr Mr Out} (h:qc2 (q01 Fn FnD m) arr es ob x i k=some r):∃ kk z,vInt? (.one (eL i))=some (kk,z)∧OKQ ob (q1L (arr.map fun n=>(n,e)) es (eV x) z) k r:=by
 unfold qc2 at h
 cases arr with
 | some n =>
  simp only at h
  split at h
  ·rename_i kk z
   split at h
   ·rename_i hz
    obtain ⟨v,h1,h2⟩:=qeS h
    refine ⟨kk,z,rfl,OKQ.mk (v:=v) (us:=[]) (rd:=[]) ?_ ?_ h2⟩
    ·simp [q1L,q0y,hz,h1,Q.opt,Q.bind,Q.run,q0d]
    ·simp [q1L,q0y,hz,h1,Q.opt,Q.bind,Q.reads]
   ·cases h
  ·rename_i y
   have sel:(q01 Fn FnD m).selI n y ((List.range n).map (idxC (q01 Fn FnD m) es x k))=some r→∃ kk z,vInt? (.one (eL (.d y)))=some (kk,z)∧OKQ ob (q1L ((some n).map fun n=>(n,e)) es (eV x) z) k r:=by
    intro h
    obtain ⟨kk,z,rfl,hz,h⟩:=q9x h
    simp only [selR,List.getElem?_map] at h
    rw [List.getElem?_range (by omega)] at h
    obtain ⟨v,h1,h2⟩:=qeS (Fn:=Fn) (FnD:=FnD) (m:=m) h
    refine ⟨kk,z,rfl,OKQ.mk (v:=v) (us:=[]) (rd:=[]) ?_ ?_ h2⟩
    ·simp [q1L,q0y,hz,h1,Q.opt,Q.bind,Q.run,q0d]
    ·simp [q1L,q0y,hz,h1,Q.opt,Q.bind,Q.reads]
   split at h
   ·rename_i key j off
    obtain ⟨kk,z,rfl,hz,h⟩:=q5k h
    have hz':0≤z∧z < (n:Int):=hz
    refine ⟨kk,z,rfl,OKQ.mk (us:=[]) (rd:=[]) ?_ ?_ h⟩
    ·simp [q1L,q0y,hz',q1X,eV,eL,Q.opt,Q.bind,Q.run,q0d,q01,Nat.mul_comm]
    ·simp [q1L,q0y,hz',q1X,eV,eL,Q.opt,Q.bind,Q.reads]
   ·rename_i key off
    split at h
    ·split at h
     ·obtain ⟨kk,z,rfl,hz,h⟩:=q5k h
      have hz':0≤z∧z < (n:Int):=hz
      refine ⟨kk,z,rfl,OKQ.mk (us:=[]) (rd:=[]) ?_ ?_ h⟩
      ·simp [q1L,q0y,hz',q1X,eV,eL,Q.opt,Q.bind,Q.run,q0d,Nat.mul_comm]
      ·simp [q1L,q0y,hz',q1X,eV,eL,Q.opt,Q.bind,Q.reads]
     ·exact sel h
    ·cases h
   ·exact sel h
  ·cases h
 | none =>
  simp only at h
  split at h
  ·cases h
  ·rename_i y hy
   split at h
   ·rename_i key off n c
    split at h
    ·rename_i rows size elem own hk
     split at h
     ·rename_i hs
      subst hs
      obtain ⟨hc,h⟩:=q0r h
      have hc':c=rows.length:=hc
      obtain ⟨kk,z,rfl,hz,h⟩:=q5k h
      refine ⟨kk,z,q8K hy,OKQ.mk ?_ ?_ h⟩
      ·simp only [q1L,eV,eL,Q.run,q0b,hk,Option.bind_some,Option.map_none,eO,q36,Q.guard,hc',and_self,decide_true,q0y,Q.opt,q0d]
       rw [if_pos hz]
       cases off<;>simp [Q.run,Q.bind,q01]
      ·simp only [q1L,eV,eL,Q.reads,q0b,hk,Option.bind_some,Option.map_none,eO,q36,Q.guard,hc',and_self,decide_true,q0y,Q.opt]
       rw [if_pos hz]
       simp [Q.reads,Q.bind]
     ·cases h
    ·cases h
   ·rename_i key n
    split at h
    ·rename_i rows size elem own hk
     split at h
     ·rename_i hs
      subst hs
      obtain ⟨hc,h⟩:=q0r h
      have hc':n=rows.length:=hc
      obtain ⟨kk,z,rfl,hz,h⟩:=q5k h
      have hg:=q1F hk (by rintro rfl;simp at hc';omega)
      refine ⟨kk,z,q8K hy,OKQ.mk ?_ ?_ h⟩
      ·simp only [q1L,eV,eL,Q.run,hg,Option.map_none,Q.guard,hc',and_self,decide_true,q0y,Q.opt,q0d]
       rw [if_pos (by rw [←hc'];exact hz)]
       simp [Q.run,Q.bind]
      ·simp only [q1L,eV,eL,Q.reads,hg,Option.map_none,Q.guard,hc',and_self,decide_true,q0y,Q.opt]
       rw [if_pos (by rw [←hc'];exact hz)]
       simp [Q.reads,Q.bind]
     ·cases h
    ·cases h
   ·rename_i z0
    obtain ⟨rows,kk,z,w,rfl,rfl,hz,hw,hl,h⟩:=qdQ h
    rw [q1v hl] at h
    refine ⟨kk,z,q8K hy,OKQ.mk ?_ ?_ h⟩
    ·simp [q1L,eV,eL,Q.guard,hz,hw,q0y,Q.opt,Q.bind,Q.run,q0d]
    ·simp [q1L,eV,eL,Q.guard,hz,hw,q0y,Q.opt,Q.bind,Q.reads]
   ·cases h
theorem q2B {ρ:Operand→V3r} {o:Option Operand} {d:Option D} {z:Option Int} (h:qcD (q01 Fn FnD m) ρ o=some d) (hz:q4g d=some z):qdn (fun x=>eV (ρ x)) o=some z:=by
 unfold qcD at h
 split at h
 ·cases h;simp only [q4g] at hz;cases hz;rfl
 ·split at h
  ·rename_i y hy
   cases h
   simp only [q4g,Option.map_eq_some_iff] at hz
   obtain ⟨n,hn,rfl⟩:=hz
   unfold intD at hn
   split at hn
   ·cases hn;simp [qdn,q2M hy,vInt?]
   ·cases hn
  ·cases h
theorem qjH {es:Nat} {x:V3r} {ρ:Operand→V3r} {lo hi:Option Operand} {l h':Option D} {k:K3 D Nat Rr Mr Out} (hl:qcD (q01 Fn FnD m) ρ lo=some l) (hh:qcD (q01 Fn FnD m) ρ hi=some h') (h:cutK (q01 Fn FnD m) es ob x l h' k=some r) :
  ∃ zl zh,qdn (fun x=>eV (ρ x)) lo=some zl∧qdn (fun x=>eV (ρ x)) hi=some zh∧OKQ ob (qag es (eV x) zl zh) k r:=by
 unfold cutK at h
 split at h
 ·rename_i key off n c
  split at h
  ·rename_i rows size elem own hk
   split at h
   case isFalse=>cases h
   rename_i hs
   subst hs
   obtain ⟨hc,h⟩:=q0r h
   have hc':c=rows.length:=hc
   cases l with
   | none =>
    obtain ⟨zl,zh,hzl,hzh,hb,h | ⟨_,h⟩⟩:=qbI h
    ·obtain ⟨hb2,h⟩:=h
     simp only [q4g,Option.some.injEq] at hzl
     subst hzl
     refine ⟨none,zh,q2B hl rfl,q2B hh hzh,OKQ.mk ?_ ?_ h⟩
     ·simp only [qag,eV,eL,Q.run,q0b,hk,Option.bind_some,eO,q36,Q.guard,hc',and_self,decide_true,q0y,Q.opt,q0d]
      rw [if_pos hb,if_pos hb2]
      simp [Q.run,Q.bind]
     ·simp only [qag,eV,eL,Q.reads,q0b,hk,Option.bind_some,eO,q36,Q.guard,hc',and_self,decide_true,q0y,Q.opt]
      rw [if_pos hb,if_pos hb2]
      simp [Q.reads,Q.bind]
    ·cases h
   | some y =>
    obtain ⟨zl,zh,hzl,hzh,hb,⟨hb2,h⟩ | ⟨hb2,h⟩⟩:=qbI h
    ·refine ⟨zl,zh,q2B hl hzl,q2B hh hzh,OKQ.mk ?_ ?_ h⟩
     ·simp only [qag,eV,eL,Q.run,q0b,hk,Option.bind_some,eO,q36,Q.guard,hc',and_self,decide_true,q0y,Q.opt,q0d]
      rw [if_pos hb,if_pos hb2]
      cases off<;>simp [Q.run,Q.bind,q01]
     ·simp only [qag,eV,eL,Q.reads,q0b,hk,Option.bind_some,eO,q36,Q.guard,hc',and_self,decide_true,q0y,Q.opt]
      rw [if_pos hb,if_pos hb2]
      simp [Q.reads,Q.bind]
    ·refine ⟨zl,zh,q2B hl hzl,q2B hh hzh,OKQ.mk ?_ ?_ h⟩
     ·simp only [qag,eV,eL,Q.run,q0b,hk,Option.bind_some,eO,q36,Q.guard,hc',and_self,decide_true,q0y,Q.opt,q0d]
      rw [if_pos hb,if_neg hb2]
      simp [Q.run,Q.bind,q01]
     ·simp only [qag,eV,eL,Q.reads,q0b,hk,Option.bind_some,eO,q36,Q.guard,hc',and_self,decide_true,q0y,Q.opt]
      rw [if_pos hb,if_neg hb2]
      simp [Q.reads,Q.bind]
  ·cases h
 ·rename_i y
  obtain ⟨zl,zh,z,hzl,hzh,hz,h⟩:=qdV h
  refine ⟨zl,zh,q2B hl hzl,q2B hh hzh,?_⟩
  unfold qhB at hz
  split at hz
  ·rename_i size rows
   split at hz
   case isFalse=>cases hz
   rename_i hs
   subst hs
   split at hz
   ·rename_i hb
    cases hz
    refine OKQ.mk ?_ ?_ h
    ·simp only [qag,eV,eL,Q.guard,decide_true,q0y,q0d]
     rw [if_pos hb]
     simp [Q.opt,Q.bind,Q.run]
    ·simp only [qag,eV,eL,Q.guard,decide_true,q0y]
     rw [if_pos hb]
     simp [Q.opt,Q.bind,Q.reads]
   ·cases hz
  ·split at hz
   ·rename_i hb
    cases hz
    refine OKQ.mk ?_ ?_ h
    ·simp [qag,eV,eL,q0y,hb,Q.opt,Q.bind,Q.run,q0d]
    ·simp [qag,eV,eL,q0y,hb,Q.opt,Q.bind,Q.reads]
   ·cases hz
  ·cases hz
 ·obtain ⟨zl,zh,hzl,hzh,hb,h⟩:=qaz h
  refine ⟨zl,zh,q2B hl hzl,q2B hh hzh,OKQ.mk ?_ ?_ h⟩
  ·simp [qag,eV,eL,q0y,hb,Q.opt,Q.bind,Q.run,q0d]
  ·simp [qag,eV,eL,q0y,hb,Q.opt,Q.bind,Q.reads]
 ·cases h
end
section
variable {P:Program} {Fn:Nat→List D→Out} {FnD:D→List Sh→List D→Out} {m:Nat} {r:Nat×List Yr} {ob:Ur}
theorem qbA {ρ:Operand→V3r} {size n:Nat}:∀ {parts:List (Nat×Operand)} {rows:Rr} {k:List (List D)→Ur→List Nat→Out},rows.length=n→qgt (q01 Fn FnD m) ob size n rows (parts.map fun p=>(p.1,ρ p.2)) k=some r →
  ∃ rows' us rd,(q27 (fun x=>eV (ρ x)) size rows parts).run (q08 (eOb ob))=some (rows',eOb us)∧(∀ q∈(q27 (fun x=>eV (ρ x)) size rows parts).reads (q08 (eOb ob)),q∈rd)∧k rows' us rd=some r
 | [],rows,k,hn,h=>⟨rows,[],[],by simp [q27,Q.run,q0d],by simp [q27,Q.reads],h⟩
 | (i,x)::rest,rows,k,hn,h=>by
  simp only [List.map_cons,qgt] at h
  split at h
  ·cases h
  ·rename_i cs hcs
   split at h
   ·rename_i hc
    obtain ⟨ds,us,rd,h1,h2,h⟩:=q4M h
    obtain ⟨rows',us',rd',h3,h4,h⟩:=qbA (rows:=rows.set i ds) (by simp [hn]) h
    have hce:(eV (ρ x)).cells=some (eLs cs):=by rw [q7t,hcs];rfl
    have hgd:(decide ((eLs cs).length=size∧i < rows.length))=true:=by simp [q15,hc,hn]
    refine ⟨_,_,_,?_,?_,h⟩
    ·simp only [q27,hce,Q.opt,Q.bind,hgd,Q.guard,Q.run_bind,h1,h3,Option.bind_some,Q.run,q3O]
    ·intro q hq
     simp only [q27,hce,Q.opt,Q.bind,hgd,Q.guard,Q.reads_bind,h1,h3,Q.reads,List.append_nil,List.mem_append] at hq
     rcases hq with hq | hq
     ·exact List.mem_append_left _ (h2 q hq)
     ·exact List.mem_append_right _ (h4 q hq)
   ·cases h
theorem qdE {es:Nat} {x:V3r} {k:Rr→List Nat→Out} (h:srcK (q01 Fn FnD m) es ob x k=some r):∃ rows rd,(q1f es (eV x)).run (q08 (eOb ob))=some rows∧(∀ q∈(q1f es (eV x)).reads (q08 (eOb ob)),q∈rd)∧k rows rd=some r:=by
 unfold srcK at h
 split at h
 ·exact ⟨[],[],by simp [q1f,q1z,eV,eL,Q.run],by simp [q1f,q1z,eV,eL,Q.reads],h⟩
 ·obtain ⟨rows,hr,h⟩:=q83 h
  refine ⟨rows,[],?_,?_,h⟩
  ·unfold q5j at hr
   split at hr
   ·cases hr;simp [q1f,q1z,eV,eL,Q.run]
   ·split at hr
    ·rename_i hs;cases hr;simp [q1f,q1z,eV,eL,Q.run,Q.guard,hs]
    ·cases hr
   ·cases hr
  ·unfold q5j at hr
   split at hr
   ·simp [q1f,q1z,eV,eL,Q.reads]
   ·split at hr
    ·rename_i hs;simp [q1f,q1z,eV,eL,Q.reads,Q.guard,hs]
    ·cases hr
   ·cases hr
 ·rename_i key off n c
  split at h
  ·rename_i rows size elem own hk
   split at h
   ·rename_i hs
    subst hs
    obtain ⟨hc,h⟩:=q0r h
    have hc':c=rows.length:=hc
    refine ⟨_,_,?_,?_,h⟩
    ·simp [q1f,q1z,eV,eL,Q.run,q0b,hk,eO,Q.guard,hc',q01]
    ·simp [q1f,q1z,eV,eL,Q.reads,q0b,hk,eO,Q.guard,hc']
   ·cases h
  ·cases h
 ·rename_i key n
  split at h
  ·rename_i rows size elem own hk
   split at h
   ·rename_i hs
    subst hs
    obtain ⟨hc,h⟩:=q0r h
    have hc':n=rows.length:=hc
    refine ⟨_,_,?_,?_,h⟩
    ·cases rows with
     | nil=>simp [q1f,eV,eL,Q.run,hc']
     | cons a t=>simp [q1f,q1z,eV,eL,Q.run,q1F hk,Q.guard,hc']
    ·cases rows with
     | nil=>simp [q1f,eV,eL,Q.reads,hc']
     | cons a t=>simp [q1f,q1z,eV,eL,Q.reads,q1F hk,Q.guard,hc']
   ·cases h
  ·cases h
 ·cases h
theorem qdb {dst:Option Nat} {elem size bytes:Nat} {s:V3r} {new:Rr} {rd:List Nat} {k:K3 D Nat Rr Mr Out} (h:qbl (q01 Fn FnD m) ob dst elem size bytes s new rd k=some r) :
  ∃ v us rd',(q1y dst elem size bytes (eV s) new).run (q08 (eOb ob))=some (eV v,eOb us)∧(∀ q∈(q1y dst elem size bytes (eV s) new).reads (q08 (eOb ob)),q∈rd')∧k v us (rd++rd')=some r:=by
 unfold qbl at h
 have nilc:q9b (q01 Fn FnD m) ob dst elem size bytes (.one .nil) new rd k=some r→∃ v us rd',(q1y dst elem size bytes (.one (.d (.lit (.slice none 0 0)))) new).run (q08 (eOb ob))=some (eV v,eOb us)∧(∀ q∈(q1y dst elem size bytes (.one (.d (.lit (.slice none 0 0)))) new).reads (q08 (eOb ob)),q∈rd')∧k v us (rd++rd')=some r:=by
  intro h
  unfold q9b at h
  rcases q84 h with ⟨hn0,h9⟩ | ⟨hne,h⟩
  ·subst hn0
   refine ⟨.one .nil,[],[],?_,?_,by simpa using h9⟩
   ·simp [q1y,q2m,eV,eL,Q.run,q0d]
   ·simp [q1y,q2m,Q.reads]
  ·obtain ⟨h1,h2,h⟩:=q4o h
   have h1':new.length*bytes≤140737488355328:=h1
   have h2':new.length≤maxLen:=h2
   obtain ⟨v,us,rd',h3,h4,h⟩:=q2F (v':=fun key=>.one (.slk key 0 new.length new.length)) h (fun q=>by simp [eV,eL,q01])
   refine ⟨v,us,rd',?_,?_,h⟩
   ·simp only [q1y,q2m]
    rw [if_neg hne,show decide (new.length*bytes≤140737488355328∧new.length≤maxLen)=true from by simp [h1',h2']]
    exact h3
   ·intro q hq
    simp only [q1y,q2m] at hq
    rw [if_neg hne,show decide (new.length*bytes≤140737488355328∧new.length≤maxLen)=true from by simp [h1',h2']] at hq
    exact h4 q hq
 split at h
 ·exact nilc h
 ·obtain ⟨rfl,h⟩:=q4n h
  exact nilc h
 ·rename_i key n c
  split at h
  ·rename_i rows size' elem' own hk
   split at h
   ·split at h
    ·rename_i hse
     obtain ⟨rfl,rfl⟩:=hse
     obtain ⟨hc,h⟩:=q0r h
     have hc':c=rows.length:=hc
     obtain ⟨hn,h⟩:=q0r h
     have hn':n=rows.length:=hn
     obtain ⟨h1,h2,h9⟩:=q4o h
     have h1':(n+new.length)*bytes≤140737488355328:=h1
     have h2':n+new.length≤maxLen:=h2
     subst hn' hc'
     refine ⟨_,_,[key],?_,?_,h9⟩
     ·simp [q1y,q2m,eV,eL,Q.run,q0b,hk,eO,Q.guard,h1',h2',q01,q0d,q0m]
     ·simp [q1y,q2m,eV,eL,Q.reads,q0b,hk,eO,Q.guard,h1',h2']
    ·cases h
   ·cases h
  ·cases h
 ·rename_i key n
  split at h
  ·rename_i rows size' elem' own hk
   split at h
   ·split at h
    ·rename_i hse
     obtain ⟨rfl,rfl⟩:=hse
     obtain ⟨hc,h⟩:=q0r h
     have hc':n=rows.length:=hc
     obtain ⟨h1,h2,h9⟩:=q4o h
     have h1':(n+new.length)*bytes≤140737488355328:=h1
     have h2':n+new.length≤maxLen:=h2
     subst hc'
     refine ⟨_,_,[key],?_,?_,h9⟩
     ·cases rows with
      | nil =>
       have h1'':new.length*bytes≤140737488355328:=by simpa using h1'
       have h2'':new.length≤maxLen:=by simpa using h2'
       cases new with
       | nil=>simp [q1y,eV,eL,Q.run,q4w hk,eO,Q.guard,q01,q0d,q0m]
       | cons x y =>
        simp only [List.length_cons] at h1'' h2''
        simp [q1y,eV,eL,Q.run,q4w hk,eO,Q.guard,h1'',h2'',q01,q0d,q0m]
      | cons a t =>
       simp only [List.length_cons] at h1' h2'
       simp [q1y,eV,eL,Q.run,q1F hk,eO,Q.guard,h1',h2',q01,q0d,q0m]
     ·cases rows with
      | nil =>
       have h1'':new.length*bytes≤140737488355328:=by simpa using h1'
       have h2'':new.length≤maxLen:=by simpa using h2'
       simp [q1y,eV,eL,Q.reads,q4w hk,Q.guard,h1'',h2'']
      | cons a t =>
       simp only [List.length_cons] at h1' h2'
       simp [q1y,eV,eL,Q.reads,q1F hk,Q.guard,h1',h2']
    ·cases h
   ·cases h
  ·cases h
 ·cases h
theorem q78 {x:D} {v:Value} (h:qgW x=some v):x=.lit v:=by
 unfold qgW at h;split at h<;>cases h;rfl
theorem qgU {kd:Nat} {agg:Bool} {zs:List Value} {mm:Mr} {key:D} {p:List D×D} (h:qey kd zs mm key=some p):∃ v b,key=.lit v∧q45 kd v=true∧p.2=.lit (.bool b)∧p.1.length=zs.length∧(q2d kd v mm.1 0).bind (qcN agg zs mm.2)=(mkV agg (p.1.map .d)).map fun u=>(u,b):=by
 unfold qey at h
 split at h
 ·rename_i v hv
  have:=q78 hv
  subst this
  split at h
  ·rename_i hk
   split at h
   ·rename_i j hf
    split at h
    ·rename_i w hw
     split at h
     ·rename_i hl
      cases h
      exact ⟨v,true,rfl,hk,rfl,hl,by simp [hf,qcN,hw]⟩
     ·cases h
    ·cases h
   ·rename_i hf
    cases h
    refine ⟨v,false,rfl,hk,rfl,by simp,?_⟩
    simp [hf,qcN,q4P,Function.comp_def]
   ·cases h
  ·cases h
 ·cases h
theorem qgT {kd:Nat} {agg ok:Bool} {zs:List Value} {x:V3r} {key:D} {k:K3 D Nat Rr Mr Out} (h:qji (q01 Fn FnD m) kd agg ok zs ob x key k=some r):∃ v,key=.lit v∧q45 kd v=true∧OKQ ob (q6s kd agg ok zs (eV x) v) k r:=by
 have fin:∀ (mm:Mr) (rd:List Nat) (F:List D→D→Out),(q01 Fn FnD m).look kd zs mm key F=some r→(∀ w f,F w f=some r→∃ v,qik agg ((cellsOf (q01 Fn FnD m) zs.length w).map .d)=some v∧k (if ok then .tup [v,.one (.d f)] else v) [] rd=some r)→∃ v u b,key=.lit v∧q45 kd v=true∧(q2d kd v mm.1 0).bind (qcN agg zs mm.2)=some (eV u,b)∧k (if ok then .tup [u,.one (.d (.lit (.bool b)))] else u) [] rd=some r:=by
  intro mm rd F h hF
  obtain ⟨p,hp,h⟩:=qdR h
  obtain ⟨v,b,h1,h2,h3,h4,h5⟩:=qgU (agg:=agg) hp
  obtain ⟨u,hu,h⟩:=hF _ _ h
  rw [q1v h4] at hu
  refine ⟨v,u,b,h1,h2,?_,by rw [←h3];exact h⟩
  rw [h5,← qhs,qgS,hu];rfl
 have tupe:∀ (u:V3r) (b:Bool),eV (if ok then .tup [u,.one (.d (.lit (.bool b)))] else u)=if ok then .tup [eV u,q25 (.bool b)] else eV u:=by
  intro u b;cases ok<;>simp [eV,eVs,eL,q25]
 unfold qji at h
 simp only at h
 split at h
 ·rename_i y
  obtain ⟨mm,hm,h⟩:=q8P h
  obtain ⟨v,u,b,h1,h2,h3,h4⟩:=fin mm [] _ h (fun w f hw=>by split at hw;exact ⟨_,‹_›,hw⟩;cases hw)
  refine ⟨v,h1,h2,OKQ.mk ?_ ?_ h4⟩
  ·rw [tupe,q0d]
   unfold qga at hm
   split at hm
   ·split at hm
    ·rename_i hg
     cases hm
     subst hg
     simp only at h3
     simp [q6s,eV,eL,Q.guard,h3,Q.opt,Q.bind,Q.run]
    ·cases hm
   ·cases hm
    have h3':qcN agg zs [] none=some (eV u,b):=by simpa [q2d] using h3
    simp [q6s,eV,eL,h3',Q.opt,Q.bind,Q.run]
   ·cases hm
  ·unfold qga at hm
   split at hm
   ·split at hm
    ·rename_i hg
     cases hm
     subst hg
     simp only at h3
     simp [q6s,eV,eL,Q.guard,h3,Q.opt,Q.bind,Q.reads]
    ·cases hm
   ·cases hm
    have h3':qcN agg zs [] none=some (eV u,b):=by simpa [q2d] using h3
    simp [q6s,eV,eL,h3',Q.opt,Q.bind,Q.reads]
   ·cases hm
 ·rename_i q
  split at h
  ·rename_i agg' mm own hk
   split at h
   ·rename_i hg
    have hg':agg=agg':=by simpa using hg
    subst hg'
    obtain ⟨v,u,b,h1,h2,h3,h4⟩:=fin mm [q] _ h (fun w f hw=>by split at hw;exact ⟨_,‹_›,hw⟩;cases hw)
    refine ⟨v,h1,h2,OKQ.mk ?_ ?_ h4⟩
    ·rw [tupe,q0d]
     simp [q6s,eV,eL,Q.run,Q.bind,q0b,hk,eO,Q.guard,h3,Q.opt]
    ·simp [q6s,eV,eL,Q.reads,Q.bind,q0b,hk,eO,Q.guard,h3,Q.opt]
   ·cases h
  ·cases h
 ·cases h
theorem qds {kd:Nat} {agg:Bool} {x v:V3r} {key:D} {k:K3 D Nat Rr Mr Out} (h:updK (q01 Fn FnD m) kd agg ob x key v k=some r):∃ kv,key=.lit kv∧OKQ ob (qar kd agg (eV x) kv (eV v)) k r:=by
 unfold updK at h
 split at h
 ·rename_i q
  split at h
  ·rename_i agg' mm own hk
   split at h
   ·rename_i hc
    simp only [Bool.and_eq_true,beq_iff_eq] at hc
    obtain ⟨⟨rfl,rfl⟩,ha⟩:=hc
    split at h
    ·cases h
    ·rename_i cs hcs
     obtain ⟨ds,us,rd,h1,h2,h⟩:=q4M h
     split at h
     ·obtain ⟨m',hm,h⟩:=qgA h
      unfold updD at hm
      split at hm
      ·rename_i kv hkv
       have:=q78 hkv
       subst this
       split at hm
       ·rename_i hkey
        have hce:(eV v).cells=some (eLs cs):=by rw [q7t,hcs];rfl
        have hag:(q3e (eV v)==agg)=true:=by rw [qjq];simpa using ha
        refine ⟨kv,rfl,?_⟩
        split at hm
        ·rename_i j hf
         cases hm
         refine OKQ.mk ?_ ?_ h
         ·simp only [qar,eV,eL,Q.run,q0b,hk,Option.bind_some,eO,qbv,hag,hkey,beq_self_eq_true,Bool.and_self,Q.guard,hce,Q.opt,Q.bind,Q.run_bind,h1,Option.bind_some,q0d,List.isEmpty_nil,hf,q0m]
         ·intro y hy
          simp only [qar,eV,eL,Q.reads,q0b,hk,Option.bind_some,eO,qbv,hag,hkey,beq_self_eq_true,Bool.and_self,Q.guard,hce,Q.opt,Q.bind,Q.reads_bind,h1,q0d,List.isEmpty_nil,hf,List.append_nil,List.mem_cons] at hy
          rcases hy with rfl | hy
          ·simp
          ·exact List.mem_cons_of_mem _ (h2 y hy)
        ·rename_i hf
         cases hm
         refine OKQ.mk ?_ ?_ h
         ·simp only [qar,eV,eL,Q.run,q0b,hk,Option.bind_some,eO,qbv,hag,hkey,beq_self_eq_true,Bool.and_self,Q.guard,hce,Q.opt,Q.bind,Q.run_bind,h1,Option.bind_some,q0d,List.isEmpty_nil,hf,q0m]
         ·intro y hy
          simp only [qar,eV,eL,Q.reads,q0b,hk,Option.bind_some,eO,qbv,hag,hkey,beq_self_eq_true,Bool.and_self,Q.guard,hce,Q.opt,Q.bind,Q.reads_bind,h1,q0d,List.isEmpty_nil,hf,List.append_nil,List.mem_cons] at hy
          rcases hy with rfl | hy
          ·simp
          ·exact List.mem_cons_of_mem _ (h2 y hy)
        ·cases hm
       ·cases hm
      ·cases hm
     ·cases h
   ·cases h
  ·cases h
 ·cases h
theorem qew {kd:Nat} {zs:List Value} {q:Nat} {key:D} {k:K3 D Nat Rr Mr Out} (h:qex (q01 Fn FnD m) kd zs ob q key k=some r):∃ kv,key=.lit kv∧q45 kd kv=true∧OKQ ob (q77 kd q kv zs) k r:=by
 unfold qex at h
 split at h
 ·rename_i keys vals hk
  have h':qiL kd keys key (vals.map fun x=>k (.one x) [] [q])=some r:=h
  unfold qiL at h'
  split at h'
  ·rename_i kv hkv
   have:=q78 hkv
   subst this
   split at h'
   ·rename_i hkey
    split at h'
    ·rename_i j hf
     simp only [selR,List.getElem?_map] at h'
     cases hx:vals[j]? with
     | none=>rw [hx] at h';cases h'
     | some x =>
      rw [hx] at h'
      simp only [Option.map_some] at h'
      refine ⟨kv,rfl,hkey,OKQ.mk ?_ ?_ h'⟩
      ·simp [q77,Q.run,q0b,hk,eO,hf,q0A,hx,Q.opt,Q.bind,eV,q0d]
      ·simp [q77,Q.reads,q0b,hk,eO,hf,q0A,hx,Q.opt,Q.bind]
    ·cases h'
   ·cases h'
  ·cases h'
 ·rename_i mm size elem hk
  have fin:∀ {o:Option Nat},q7m kd mm key=some o→∃ kv,key=.lit kv∧q45 kd kv=true∧q2d kd kv mm.1 0=some o:=by
   intro o ho
   unfold q7m at ho
   split at ho
   ·rename_i kv hkv
    split at ho
    ·exact ⟨kv,q78 hkv,‹_›,ho⟩
    ·cases ho
   ·cases ho
  rcases qdU h with ⟨j,hj,h9⟩ | ⟨hj,h9⟩
  ·obtain ⟨kv,rfl,hkey,hf⟩:=fin hj
   refine ⟨kv,rfl,hkey,OKQ.mk ?_ ?_ h9⟩
   ·simp [q77,Q.run,q0b,hk,eO,hf,Q.opt,Q.bind,eV,eL,q0d,q01]
   ·simp [q77,Q.reads,q0b,hk,eO,hf,Q.opt,Q.bind]
  ·obtain ⟨kv,rfl,hkey,hf⟩:=fin hj
   clear h
   split at h9
   ·refine ⟨kv,rfl,hkey,OKQ.mk ?_ ?_ h9⟩
    ·simp [q77,Q.run,q0b,hk,eO,hf,Q.opt,Q.bind,eV,qeC,q0d,q25]
    ·simp [q77,Q.reads,q0b,hk,eO,hf,Q.opt,Q.bind]
   ·cases h9
 ·cases h
theorem qjn {x:L3r} {v:Value} (h:keyV x=some v):eL x=.d (.lit v):=by
 unfold keyV at h;split at h<;>cases h<;>rfl
theorem qbw {kd:Nat} {g:Bool} {q:Nat} {key:L3r} {v:V3r} {k:K3 D Nat Rr Mr Out} (h:qgh (q01 Fn FnD m) kd ob q key v k=some r):∃ kv,eL key=.d (.lit kv)∧OKQ ob (qar kd g (.one (.mq q)) kv (eV v)) k r:=by
 unfold qgh at h
 split at h
 ·rename_i keys vals hk
  split at h
  ·rename_i kv x hkv
   split at h
   ·rename_i hc
    simp only [Bool.and_eq_true] at hc
    split at h
    ·rename_i hf
     refine ⟨kv,qjn hkv,OKQ.mk ?_ ?_ h⟩
     ·simp [qar,Q.run,q0b,hk,eO,Q.guard,hc.1,eV,q7d,hc.2,hf,Q.opt,Q.bind,q0d,q0m,q0A,eL]
     ·simp [qar,Q.reads,q0b,hk,eO,Q.guard,hc.1,eV,q7d,hc.2,hf,Q.opt,Q.bind]
    ·cases h
   ·cases h
  ·cases h
 ·rename_i mm size elem hk
  split at h
  ·rename_i y q' j off hy
   split at h
   ·rename_i hq
    subst hq
    obtain ⟨ho,h8⟩:=q0r h
    have ho':off=0:=ho
    clear h
    obtain ⟨m',hm,h9⟩:=qdW h8
    clear h8
    clear ho
    subst ho'
    unfold qfA at hm
    split at hm
    ·rename_i kv hkv
     have:=q78 hkv
     subst this
     split at hm
     ·rename_i hc
      obtain ⟨c1,c2,c3⟩:=hc
      split at hm
      ·rename_i hf
       cases hm
       refine ⟨kv,q1J hy,OKQ.mk ?_ ?_ h9⟩
       ·simp [qar,Q.run,q0b,hk,eO,Q.guard,c1,eV,eL,c2,hf,Q.opt,Q.bind,q0d,q0m,show mm.1.length < mm.2.length by omega]
       ·simp [qar,Q.reads,q0b,hk,eO,Q.guard,c1,eV,eL,c2,hf,Q.opt,Q.bind,show mm.1.length < mm.2.length by omega]
      ·cases hm
     ·cases hm
    ·cases hm
   ·cases h
  ·cases h
 ·cases h
theorem qja {mx:Bool} {a b z:D} (h:mmD mx a b=some z):mm2 mx (.one (.d a)) (.one (.d b))=some (.one (.d z)):=by
 unfold mmD at h
 split at h
 ·split at h
  ·rename_i hk;cases h;simp [mm2,vInt?,hk,q25]
  ·cases h
 ·cases h
theorem qet {mx:Bool}:∀ {l:List D} {a:D} {k:D→Out},mmK (q01 Fn FnD m) mx a l k=some r→∃ z,mmF mx (.one (.d a)) (l.map fun x=>.one (.d x))=some (.one (.d z))∧k z=some r
 | [],a,k,h=>⟨a,rfl,h⟩
 | y::l,a,k,h=>by
  simp only [mmK] at h
  obtain ⟨z,hz,h⟩:=qiV h
  obtain ⟨z',h1,h2⟩:=qet h
  exact ⟨z',by simp only [List.map_cons,mmF,qja hz,Option.bind_some];exact h1,h2⟩
theorem q8L {ρ:Operand→V3r}:∀ {xs:List Operand} {ys:List D},qcE (q01 Fn FnD m) ρ xs=some ys→xs.map (fun x=>eV (ρ x))=ys.map fun y=>.one (.d y)
 | [],ys,h=>by simp only [qcE,Option.some.injEq] at h;subst h;rfl
 | x::xs,ys,h=>by
  simp only [qcE] at h
  split at h
  ·rename_i y ys' h1 h2
   cases h
   simp only [List.map_cons,q2M h1,q8L h2]
  ·cases h
theorem q26:∀ {xs:List L3r} {ys:List D},q4m (q01 Fn FnD m) xs=some ys→eLs xs=ys.map .d
 | [],ys,h=>by simp only [q4m,Option.some.injEq] at h;subst h;rfl
 | x::xs,ys,h=>by
  simp only [q4m] at h
  split at h
  ·rename_i y ys' h1 h2
   cases h
   simp only [eLs,q1J h1,q26 h2,List.map_cons]
  ·cases h
theorem qfv {op:BinOp} {t:Nat} {a b z:D} (h:q7w op (qhE P t) a b=some z):q7T P op t (.one (.d a)) (.one (.d b))=some (.one (.d z)):=by
 unfold q7w at h
 split at h
 ·simp only [Option.map_eq_some_iff] at h
  obtain ⟨v,hv,rfl⟩:=h
  simp [q7T,hv,q25]
 ·split at h
  ·rename_i hb
   split at h
   ·cases h;simp [q7T,hb,q25]
   ·cases h;simp [q7T,hb,q25]
   ·cases h
  ·cases h
 ·simp only [Option.map_eq_some_iff] at h
  obtain ⟨v,hv,rfl⟩:=h
  simp [q7T,hv,q25]
 ·cases h
theorem qjM {op:BinOp} {t:Nat} {x y:V3r} {k:K3 D Nat Rr Mr Out} (h:binK (q01 Fn FnD m) P op t x y k=some r):OKQ ob (q0y (q7T P op t (eV x) (eV y))) k r:=by
 unfold binK at h
 split at h
 ·split at h
  ·rename_i hel
   split at h
   ·rename_i a ha
    rcases q9z h with ⟨rfl,h⟩ | ⟨s,rows,rfl,h⟩
    ·refine OKQ.mk ?_ ?_ h<;>simp [eV,q1J ha,q7T,nilQ,hel,q0y,Q.opt,Q.bind,Q.run,Q.reads,eL,q0d,q25]
    ·refine OKQ.mk ?_ ?_ h<;>simp [eV,q1J ha,q7T,nilQ,hel,q0y,Q.opt,Q.bind,Q.run,Q.reads,eL,q0d,q25]
   ·rename_i a ha
    rcases q9z h with ⟨rfl,h⟩ | ⟨s,rows,rfl,h⟩
    ·refine OKQ.mk ?_ ?_ h<;>simp [eV,q1J ha,q7T,nilQ,hel,q0y,Q.opt,Q.bind,Q.run,Q.reads,eL,q0d,q25]
    ·refine OKQ.mk ?_ ?_ h<;>simp [eV,q1J ha,q7T,nilQ,hel,q0y,Q.opt,Q.bind,Q.run,Q.reads,eL,q0d,q25]
   ·cases h
  rename_i hel
  split at h
  ·rename_i hp
   split at h
   ·refine OKQ.mk ?_ ?_ h<;>simp [eV,q7T,nilP,hel,hp,q0y,Q.opt,Q.bind,Q.run,Q.reads,eL,q0d,q25]
   ·refine OKQ.mk ?_ ?_ h<;>simp [eV,q7T,nilP,hel,hp,q0y,Q.opt,Q.bind,Q.run,Q.reads,eL,q0d,q25]
   ·refine OKQ.mk ?_ ?_ h<;>simp [eV,q7T,nilP,hel,hp,q0y,Q.opt,Q.bind,Q.run,Q.reads,eL,q0d,q25]
   ·refine OKQ.mk ?_ ?_ h<;>simp [eV,q7T,nilP,hel,hp,q0y,Q.opt,Q.bind,Q.run,Q.reads,eL,q0d,q25]
   ·cases h
  split at h
  ·rename_i a b ha hb
   obtain ⟨z,hz,h⟩:=qgE h
   refine OKQ.mk ?_ ?_ h
   ·simp [eV,q1J ha,q1J hb,qfv hz,q0y,Q.opt,Q.bind,Q.run,eL,q0d]
   ·simp [eV,q1J ha,q1J hb,qfv hz,q0y,Q.opt,Q.bind,Q.reads]
  ·cases h
 ·rename_i xs ys
  split at h
  ·rename_i ks xs' ys' hks hxs hys
   split at h
   ·rename_i hag
    split at h
    ·obtain ⟨b,hb,h⟩:=qbH h
     refine OKQ.mk ?_ ?_ h
     ·simp [eV,q26 hxs,q26 hys,q7T,hks,hag,hb,q0y,Q.opt,Q.bind,Q.run,eL,q0d,q25]
     ·simp [eV,q26 hxs,q26 hys,q7T,hks,hag,hb,q0y,Q.opt,Q.bind,Q.reads]
    ·obtain ⟨b,hb,h⟩:=qbH h
     refine OKQ.mk ?_ ?_ h
     ·simp [eV,q26 hxs,q26 hys,q7T,hks,hag,hb,q0y,Q.opt,Q.bind,Q.run,eL,q0d,q25]
     ·simp [eV,q26 hxs,q26 hys,q7T,hks,hag,hb,q0y,Q.opt,Q.bind,Q.reads]
    ·cases h
   ·cases h
  ·cases h
 ·cases h
theorem qgY {x:D} {n:Nat} (h:qgZ x=some n):qjj (.one (.d x))=some n:=by
 unfold qgZ at h;split at h<;>cases h<;>rfl
end
section
variable {P:Program} {Fn:Nat→List D→Out} {FnD:D→List Sh→List D→Out} {m:Nat} {r:Nat×List Yr} {ob:Ur}
theorem OKQ.pure {o:Option V} {v:V3r} {k:K3 D Nat Rr Mr Out} (ho:o=some (eV v)) (h:k v [] []=some r):OKQ ob (q0y o) k r:=by
 subst ho;exact OKQ.mk (us:=[]) (by simp [q0y,Q.opt,Q.bind,Q.run,q0d]) (by simp [q0y,Q.opt,Q.bind,Q.reads]) h
theorem OKQ.cond {q:Q Res} {k:K3 D Nat Rr Mr Out} (b:Bool) (hb:b=true) (h:OKQ ob q k r):OKQ ob (Q.guard b q) k r:=by subst hb;exact h
theorem OKQ.some {α:Type} {o:Option α} {a:α} {f:α→Q Res} {k:K3 D Nat Rr Mr Out} (ho:o=.some a) (h:OKQ ob (f a) k r):OKQ ob ((Q.opt o).bind f) k r:=by subst ho;exact h
theorem OKQ.bind {α:Type} {q:Q α} {a:α} {f:α→Q Res} {k:K3 D Nat Rr Mr Out} {v:V3r} {us:Ur} {rd rd':List Nat} (h1:q.run (q08 (eOb ob))=.some a) (h2:∀ x∈q.reads (q08 (eOb ob)),x∈rd) (h3:(f a).run (q08 (eOb ob))=.some (eV v,eOb us)) (h4:∀ x∈(f a).reads (q08 (eOb ob)),x∈rd') (h:k v us (rd++rd')=.some r):OKQ ob (q.bind f) k r:=by
 refine ⟨v,us,rd++rd',by rw [Q.run_bind,h1];exact h3,fun x hx=>?_,h⟩
 rw [Q.reads_bind,h1] at hx
 rcases List.mem_append.1 hx with hx | hx
 ·exact List.mem_append_left _ (h2 x hx)
 ·exact List.mem_append_right _ (h4 x hx)
theorem qd7 {dst:Option Nat} {ρ:Operand→V3r} {c:Call} {k:K3 D Nat Rr Mr Out} (h:qbi (q01 Fn FnD m) P ob dst ρ c k=some r):OKQ ob (aop P dst (fun x=>eV (ρ x)) (.call c)) k r:=by
 unfold qbi at h
 simp only [aop]
 split at h
 ·
  rename_i hc
  simp only [hc]
  split at h
  ·rename_i x hx
   simp only [hx]
   split at h
   ·rename_i t ht
    simp only [ht]
    split at h
    ·rename_i e he
     simp only [he]
     split at h
     ·rename_i q o n c' hρ
      refine OKQ.pure (v:=.one (.d (.lit (.int .i64 n)))) ?_ h
      simp [hρ,eV,eL,qjj,q25]
     ·rename_i q n hρ
      refine OKQ.pure (v:=.one (.d (.lit (.int .i64 n)))) ?_ h
      simp [hρ,eV,eL,qjj,q25]
     ·rename_i hρ
      refine OKQ.pure (v:=.one (.i .i64 0)) ?_ h
      simp [hρ,eV,eL,qjj,q25]
     ·rename_i y hρ
      obtain ⟨n,hn,h⟩:=qdT h
      refine OKQ.pure (v:=.one (.d (.lit (.int .i64 n)))) ?_ h
      simp [hρ,eV,eL,qgY hn,q25]
     ·cases h
    ·rename_i he
     simp only [he]
     split at h
     ·rename_i hs
      simp only [hs,Q.guard]
      split at h
      ·rename_i y hy
       obtain ⟨s,rfl,h⟩:=qdS h
       refine OKQ.pure (v:=.one (.d (.lit (.int .i64 s.size)))) ?_ h
       simp [q2M hy,qdz,eV,eL,q25]
      ·cases h
     ·cases h
   ·cases h
  ·cases h
 ·
  rename_i hc
  simp only [hc]
  split at h
  ·rename_i x t hx ht
   simp only [hx,ht]
   split at h
   ·rename_i hρ
    split at h
    ·rename_i he
     have hρ':eV (ρ x)=.one (.d (.lit (.slice none 0 0))):=by rw [hρ];rfl
     simp only [hρ',he,Q.guard]
     exact OKQ.mk (v:=.one (.i .i64 0)) (us:=[]) (by simp [Q.run,eV,eL,q25,q0d]) (by simp [Q.reads]) h
    ·cases h
   ·rename_i y hρ
    split at h
    ·rename_i he
     obtain ⟨rfl,h⟩:=q4n h
     have hρ':eV (ρ x)=.one (.d (.lit (.slice none 0 0))):=by rw [hρ];rfl
     simp only [hρ',he,Q.guard]
     exact OKQ.mk (v:=.one (.i .i64 0)) (us:=[]) (by simp [Q.run,eV,eL,q25,q0d]) (by simp [Q.reads]) h
    ·cases h
   ·cases h
  ·cases h
 ·
  rename_i hc
  simp only [hc]
  split at h
  ·rename_i x t hx ht
   simp only [hx,ht]
   split at h
   ·rename_i zs hz
    obtain ⟨e,he,hze⟩:=Option.bind_eq_some_iff.1 hz
    split at h
    ·rename_i hpos
     have body:OKQ ob (q2j zs (eV (ρ x))) k r→OKQ ob ((Q.opt (q1t P t)).bind fun e=>(Q.opt (q1I P e)).bind fun zs=>Q.guard (decide (0 < zs.length)) (q2j zs (eV (ρ x)))) k r:=fun hb=>by
      exact OKQ.some he (OKQ.some hze (OKQ.cond _ (by simp [hpos]) hb))
     refine body ?_
     split at h
     ·rename_i hρ
      rw [hρ]
      exact OKQ.mk (v:=.tup []) (us:=[]) (by simp [q2j,Q.run,eV,eL,eVs,q0d]) (by simp [q2j,eV,eL,Q.reads]) h
     ·rename_i y hρ
      obtain ⟨rfl,h⟩:=q4n h
      rw [hρ]
      exact OKQ.mk (v:=.tup []) (us:=[]) (by simp [q2j,Q.run,eV,eL,eVs,q0d]) (by simp [q2j,eV,eL,Q.reads]) h
     ·rename_i key off n c hρ
      split at h
      ·rename_i rows size elem hk
       split at h
       ·rename_i hsz
        obtain ⟨hcc,h⟩:=q0r h
        obtain ⟨hoff,h⟩:=q0r h
        rw [hρ]
        have hl:(zs.map (q01 Fn FnD m).lit)=zs.map D.lit:=rfl
        have hob:q08 (eOb ob) key=some (.arr rows size elem true):=by rw [q0b,hk];rfl
        have hlen:c=rows.length:=hcc
        cases off with
        | none =>
         have hoff':n=rows.length:=hoff
         have h1:(q2j zs (.one (.slk key 0 n c))).run (q08 (eOb ob))=some (.tup [],[(key,.arr (List.replicate n (zs.map D.lit)) size elem true)]):=by
          simp [q2j,Q.run,hob,hlen,hsz,hoff',Q.guard]
         have h2:(q2j zs (.one (.slk key 0 n c))).reads (q08 (eOb ob))=[key]:=by
          simp [q2j,Q.reads,hob,hlen,hsz,hoff',Q.guard]
         exact OKQ.mk (v:=.tup []) (us:=[(key,.arr (List.replicate n (zs.map D.lit)) size elem true)]) (rd:=[key]) h1 (fun q hq=>by
          have hq':q∈(q2j zs (.one (.slk key 0 n c))).reads (q08 (eOb ob)):=hq
          rw [h2] at hq';exact hq') h
        | some o =>
         have hoff':o+n=rows.length:=hoff
         have h1:(q2j zs (.one (.slk key o n c))).run (q08 (eOb ob))=some (.tup [],[(key,.arr (rows.take o++List.replicate n (zs.map D.lit)) size elem true)]):=by
          simp [q2j,Q.run,hob,hlen,hsz,hoff',Q.guard]
         have h2:(q2j zs (.one (.slk key o n c))).reads (q08 (eOb ob))=[key]:=by
          simp [q2j,Q.reads,hob,hlen,hsz,hoff',Q.guard]
         exact OKQ.mk (v:=.tup []) (us:=[(key,.arr (rows.take o++List.replicate n (zs.map D.lit)) size elem true)]) (rd:=[key]) h1 (fun q hq=>by
          have hq':q∈(q2j zs (.one (.slk key o n c))).reads (q08 (eOb ob)):=hq
          rw [h2] at hq';exact hq') h
       ·cases h
      ·cases h
     ·cases h
    ·cases h
   ·cases h
  ·cases h
 ·
  rename_i hc
  simp only [hc]
  split at h
  ·rename_i x y t t' hx ht
   simp only [hx,ht]
   split at h
   ·rename_i e he
    split at h
    ·rename_i sz hs
     split at h
     ·rename_i htt
      refine OKQ.some he (OKQ.some hs (OKQ.cond _ (by simpa using htt) ?_))
      obtain ⟨new,rd,h1,h2,h⟩:=qdE h
      split at h
      ·rename_i key n c hρ
       split at h
       ·rename_i rows size elem hk
        split at h
        ·rename_i hsz
         obtain ⟨hcc,h⟩:=q0r h
         obtain ⟨hn,h⟩:=q0r h
         have hcc':c=rows.length:=hcc
         have hn':n=rows.length:=hn
         have hob:q08 (eOb ob) key=some (.arr rows size elem true):=by rw [q0b,hk];rfl
         have hx':eV (ρ x)=.one (.slk key 0 n c):=by rw [hρ];rfl
         have htk:(rows.drop new.length).take n=rows.drop new.length:=List.take_of_length_le (by simp;omega)
         refine OKQ.mk ?_ ?_ h
         ·rw [Q.run_bind,h1,hx']
          simp only [Option.bind_some,qff,Q.run,hob,Q.guard,hcc',hn',hsz,Bool.true_and,and_self,decide_true]
          simp only [q01,Option.getD_none,Option.getD_some,List.drop_zero,eV,eL,q25,q0m,q0d,eO]
          rw [←hn',htk]
         ·intro q hq
          rw [Q.reads_bind,h1,hx'] at hq
          simp only [qff,Q.reads,hob,Q.guard,hcc',hn',hsz,Bool.true_and,and_self,decide_true,List.mem_append,List.mem_cons,List.not_mem_nil,or_false] at hq
          rcases hq with hq | rfl
          ·exact List.mem_append_left _ (h2 q hq)
          ·simp
        ·cases h
       ·cases h
      ·cases h
     ·cases h
    ·cases h
   ·cases h
  ·cases h
 ·
  rename_i hc
  simp only [hc]
  split at h
  ·rename_i a l hl
   obtain ⟨z,h1,h2⟩:=qet h
   refine OKQ.pure (v:=.one (.d z)) ?_ h2
   rw [q8L hl,List.map_cons]
   simp only [q73,h1,eV,eL]
  ·cases h
 ·
  rename_i hc
  simp only [hc]
  split at h
  ·rename_i a l hl
   obtain ⟨z,h1,h2⟩:=qet h
   refine OKQ.pure (v:=.one (.d z)) ?_ h2
   rw [q8L hl,List.map_cons]
   simp only [q73,h1,eV,eL]
  ·cases h
 ·
  rename_i hc
  simp only [hc]
  split at h
  ·rename_i s x t t' hs ht
   simp only [hs,ht]
   split at h
   ·cases h
   ·rename_i e he
    split at h
    ·rename_i sz bs zs h1 h2 h3
     split at h
     ·rename_i ik hik
      simp only [hik]
      have gapc:∀ y,q5h (q01 Fn FnD m) (ρ x)=some y→0 < sz∧zs.length=sz→eV (ρ s)=.one (.d (.lit (.slice none 0 0)))→((q01 Fn FnD m).gap bs y fun n=>q2G (q01 Fn FnD m) ob dst (.arr ((q01 Fn FnD m).repl n (zs.map (q01 Fn FnD m).lit)) sz e true) (fun key=>.one (.slk key none n n)) k)=some r→OKQ ob (match eV (ρ s) with
        | .one (.d (.lit (.slice none 0 0)))=>(Q.opt (q1t P t)).bind fun e=>(Q.opt (q0S P e)).bind fun sz=>(Q.opt (q4f P e)).bind fun bs=>(Q.opt (q1I P e)).bind fun zs=>(Q.opt (vInt? (eV (ρ x)))).bind fun n =>
         Q.guard (decide (0 < sz∧zs.length=sz∧0 < n.2∧bs*n.2≤140737488355328∧n.2≤9223372036854775807)) (fresh dst (.arr (List.replicate n.2.toNat (zs.map .lit)) sz e true) fun k=>.one (.slk k 0 n.2.toNat n.2.toNat))
        | _=>.fail) k r:=by
       intro y hy hcond hρ' h
       obtain ⟨a,n,rfl,hn,h⟩:=qgC h
       simp only [hρ',he,h1,h2,h3,Q.opt,Q.bind,q2M hy,vInt?]
       have hn1:0 < n:=hn.1
       have hn2:(bs:Int)*n≤140737488355328:=hn.2.1
       have hn3:n≤9223372036854775807:=hn.2.2
       refine OKQ.cond _ (by simp [hcond,hn1,hn2,hn3]) ?_
       have:=q2F (v':=fun key=>.one (.slk key 0 n.toNat n.toNat)) h (fun q=>by simp [eV,eL])
       simpa [eO,q01] using this
      split at h
      ·rename_i y hρ hy
       split at h
       ·rename_i hcond
        exact gapc y hy hcond (by rw [hρ];rfl) h
       ·cases h
      ·rename_i x0 y hρ hy
       split at h
       ·rename_i hcond
        obtain ⟨rfl,h⟩:=q4n h
        exact gapc y hy hcond (by rw [hρ];rfl) h
       ·cases h
      ·cases h
     ·rename_i hik
      simp only [hik]
      split at h
      ·rename_i hcond
       simp only [he,h1,h2,h3,Q.opt,Q.bind]
       refine OKQ.cond _ (by simp [hcond]) ?_
       obtain ⟨rows,rd,g1,g2,h⟩:=qdE h
       obtain ⟨v,us,rd',g3,g4,h⟩:=qdb h
       exact OKQ.bind g1 g2 g3 g4 h
      ·cases h
    ·cases h
  ·cases h
 ·cases h
theorem eV_mq {v:V3r} {k:Nat} (h:eV v=.one (.mq k)):v=.one (.mq k):=by
 cases v with
 | one x=>cases x<;>simp_all [eV,eL]
 | agg xs=>simp [eV] at h
 | tup xs=>simp [eV] at h
theorem op3_ok {dst:Option Nat} {ρ:Operand→V3r} {op:Op} {k:K3 D Nat Rr Mr Out} (h:op3 (q01 Fn FnD m) P ob dst ρ op k=some r):OKQ ob (aop P dst (fun x=>eV (ρ x)) op) k r:=by
 cases op with
 | move x=>exact OKQ.ret0 h
 | assign x=>exact OKQ.ret0 h
 | pick c a b =>
  simp only [op3] at h
  simp only [aop]
  split at h
  ·rename_i hc
   exact OKQ.pure (v:=ρ a) (by simp [hc,eV,eL,vBool?]) h
  ·rename_i hc
   exact OKQ.pure (v:=ρ b) (by simp [hc,eV,eL,vBool?]) h
  ·rename_i y hc
   rcases q3F h with ⟨rfl,h⟩ | ⟨rfl,h⟩
   ·exact OKQ.pure (v:=ρ a) (by simp [hc,eV,eL,vBool?]) h
   ·exact OKQ.pure (v:=ρ b) (by simp [hc,eV,eL,vBool?]) h
  ·cases h
 | box elem x =>
  simp only [op3] at h
  simp only [aop]
  split at h
  ·rename_i cs hcs
   refine OKQ.some (a:=eLs cs) (by rw [q7t,hcs];rfl) ?_
   cases dst with
   | some q =>
    simp only at h
    split at h
    ·rename_i mm size elem' hk
     split at h
     ·rename_i ds hds
      split at h
      ·rename_i hc
       obtain ⟨rfl,hl⟩:=hc
       have hf:=qir ds (q08 (eOb ob))
       have hce:=q3k hds
       have hln:ds.length=size:=by rw [←hl,← q15 cs,hce,List.length_map]
       refine OKQ.mk ?_ ?_ h
       ·simp [qjK,hce,hln,Q.run,q0b,hk,eO,Q.guard,Q.run_bind,hf.1,eV,eL,q0d,q0m,q01]
       ·intro q' hq
        simpa [qjK,hce,hln,Q.reads,q0b,hk,eO,Q.guard,Q.reads_bind,hf.1,hf.2] using hq
      ·cases h
     ·cases h
    ·unfold q2G at h
     simp only at h
     split at h
     ·rename_i hk
      refine OKQ.mk ?_ ?_ h
      ·simp [qjK,Q.run,q0b,hk,eV,eL,eO,q0d,q0m]
      ·simp [qjK,Q.reads,q0b,hk]
     ·cases h
   | none =>
    obtain ⟨ds,us,rd,h1,h2,h⟩:=q4M h
    refine OKQ.mk (v:=.one (.dp ds 0)) (us:=us) (rd:=rd) ?_ ?_ h
    ·rw [Q.run_bind,h1];rfl
    ·intro q hq
     rw [Q.reads_bind,h1] at hq
     simp only [Q.reads,List.append_nil] at hq
     exact h2 q hq
  ·cases h
 | alloc elem =>
  simp only [op3] at h
  simp only [aop]
  split at h
  ·rename_i zs hz
   refine OKQ.some hz ?_
   have:=q2F (v':=fun key=>.one (.ptr key 0)) h (fun q=>by simp [eV,eL])
   rwa [eO,qaT] at this
  ·cases h
 | build t parts =>
  simp only [op3] at h
  simp only [aop]
  split at h
  ·rename_i zs hz
   split at h
   ·rename_i hc
    refine OKQ.some hz (OKQ.cond _ hc ?_)
    split at h
    ·rename_i cs hcs
     refine OKQ.pure (v:=.agg cs) ?_ h
     have:=qit (q6l P t) (parts.toList.map fun p=>(p.1,ρ p.2)) (zs.map (qgX (q01 Fn FnD m)))
     rw [qaT,hcs,List.map_map] at this
     rw [show (parts.toList.map fun p=>(p.1,eV (ρ p.2)))=(parts.toList.map ((fun p=>(p.1,eV p.2)) ∘ fun p=>(p.1,ρ p.2))) from rfl,this]
     simp [eV]
    ·cases h
   ·cases h
  ·cases h
 | buildSlice t len parts =>
  simp only [op3] at h
  simp only [aop]
  split at h
  ·cases h
  ·rename_i e he
   split at h
   ·rename_i s zs hs hz
    split at h
    ·rename_i hc
     obtain ⟨rows,us,rd,h1,h2,h⟩:=qbA (n:=len) (ρ:=ρ) (by simp) h
     cases dst with
     | none =>
      refine OKQ.some he (OKQ.some hs (OKQ.some hz (OKQ.cond _ (by simp [hc]) ?_)))
      have hl:(List.replicate len (zs.map (q01 Fn FnD m).lit))=List.replicate len (zs.map .lit):=rfl
      rw [hl] at h1 h2
      refine OKQ.bind (v:=.one (.d (.sl s rows))) (us:=us) (rd':=[]) h1 h2 ?_ ?_ (by rw [List.append_nil];exact h)
      ·simp [q79,Q.bind,Q.run,eV,eL]
      ·intro x hx;simp [q79,Q.bind,Q.reads] at hx
     | some q0 =>
     obtain ⟨v,u,rd',h3,h4,h⟩:=q2F (v':=fun key=>.one (.slk key 0 len len)) h (fun q=>by simp [eV,eL,q01])
     refine OKQ.some he (OKQ.some hs (OKQ.some hz (OKQ.cond _ (by simp [hc]) ?_)))
     have hl:(List.replicate len (zs.map (q01 Fn FnD m).lit))=List.replicate len (zs.map .lit):=rfl
     rw [hl] at h1 h2
     refine OKQ.bind (v:=v) (us:=us++u) (rd':=rd') h1 h2 ?_ ?_ h
     ·rw [Q.run_bind,show (q79 (some q0) rows s e len).run (q08 (eOb ob))=some (eV v,eOb u) from h3]
      simp [Q.run,q3O]
     ·intro x hx
      rw [Q.reads_bind,show (q79 (some q0) rows s e len).run (q08 (eOb ob))=some (eV v,eOb u) from h3] at hx
      simp only [Q.reads,List.append_nil] at hx
      exact h4 x hx
    ·cases h
   ·cases h
 | load t a =>
  simp only [op3] at h
  simp only [aop]
  split at h
  ·rename_i g s hg hs
   exact OKQ.some hg (OKQ.some hs (qbX h))
  ·cases h
 | store t a x =>
  simp only [op3] at h
  simp only [aop]
  split at h
  ·rename_i cs hcs
   split at h
   ·rename_i hs
    exact OKQ.some (a:=eLs cs) (by rw [q7t,hcs];rfl) (OKQ.cond _ (by rw [q15];exact hs) (qdA h))
   ·cases h
  ·cases h
 | nilCheck x =>
  simp only [op3] at h
  simp only [aop]
  split at h
  ·rename_i hρ;rw [hρ] at h ⊢;exact OKQ.ret0 (v:=.one (.ptr _ _)) h
  ·rename_i hρ;rw [hρ] at h ⊢;exact OKQ.ret0 (v:=.one (.pa _ _ _ _)) h
  ·rename_i hρ;rw [hρ] at h ⊢;exact OKQ.ret0 (v:=.one (.dp _ _)) h
  ·rename_i hρ;rw [hρ] at h ⊢;exact OKQ.ret0 (v:=.one (.pb _ _ _)) h
  ·rename_i hρ;rw [hρ] at h ⊢;exact OKQ.ret0 (v:=.one (.px _ _ _ _ _ _)) h
  ·rename_i y hρ
   obtain ⟨⟨row,o,rfl⟩,h⟩:=qcH h
   rw [hρ] at h ⊢
   exact OKQ.ret0 (v:=.one (.d (.dp row o))) h
  ·cases h
 | binOp op t x y z=>exact qjM h
 | unOp op t x =>
  simp only [op3] at h
  simp only [aop]
  split at h
  ·rename_i v hv
   exact OKQ.pure (v:=.one (.b !v)) (by simp [hv,eV,eL,V.lit?,q25]) h
  ·rename_i y hv
   obtain ⟨z,hz,h⟩:=qdP h
   unfold unD at hz
   split at hz
   ·cases hz
    exact OKQ.pure (by simp [hv,eV,eL,V.lit?,q25]) h
   ·cases hz
   ·cases hz
  ·split at h
   ·rename_i y hy
    obtain ⟨z,hz,h⟩:=qdP h
    unfold unD at hz
    split at hz
    ·cases hz
    ·cases hz
     refine OKQ.pure (v:=.one (.d _)) ?_ h
     simp [q2M hy,V.lit?,q25,eV,eL]
    ·cases hz
   ·cases h
  ·cases h
 | makeFunc fn first captured =>
  simp only [op3] at h
  simp only [aop]
  split at h
  ·rename_i f caps h2 h3
   have e1:q1D (first.toList.map fun x=>eV (ρ x))=some []:=by
    have:=q3I (first.toList.map ρ)
    rw [h2,List.map_map] at this
    exact this
   have e2:q1D (captured.toList.map fun x=>eV (ρ x))=some (eLs caps):=by
    have:=q3I (captured.toList.map ρ)
    rw [h3,List.map_map] at this
    exact this
   split at h
   ·rename_i hlt
    simp only [e1,e2,if_pos hlt]
    exact OKQ.ret0 (v:=.one (.fn f caps)) h
   ·cases h
  ·rename_i f c cs h2 h3
   have e1:q1D (first.toList.map fun x=>eV (ρ x))=some (eL c::eLs cs):=by
    have:=q3I (first.toList.map ρ)
    rw [h2,List.map_map] at this
    exact this
   have e2:q1D (captured.toList.map fun x=>eV (ρ x))=some []:=by
    have:=q3I (captured.toList.map ρ)
    rw [h3,List.map_map] at this
    exact this
   simp only [e1,e2]
   exact OKQ.ret0 (v:=.one (.fn (f+2000000) (c::cs))) h
  ·cases h
 | index t x ix =>
  simp only [op3] at h
  simp only [aop]
  split at h
  ·rename_i p hp
   split at h
   ·rename_i s g cs hs hg hx
    split at h
    ·rename_i kk z hix
     split at h
     ·rename_i hz
      obtain ⟨v,hv,h⟩:=q2c h (fun v hv=>by
       have:=q2t g s (z.toNat*s) cs
       rw [hv] at this
       exact this)
      refine OKQ.some (a:=(kk,z)) (by simp [hix,eV,eL,vInt?]) (OKQ.some hp (OKQ.some hs (OKQ.some hg ?_)))
      simp only [hx,eV]
      exact OKQ.cond _ (by simp [hz]) (OKQ.pure hv h)
     ·cases h
    ·rename_i y hix
     split at h
     ·rename_i ds hds
      split at h
      ·rename_i hln
       obtain ⟨kk,z,rfl,hz,h⟩:=q5k h
       have hz':0≤z∧z < (p.1:Int):=hz
       have hzn:z.toNat < p.1:=by omega
       have hmul:z.toNat*s+s≤p.1*s:=by rw [←Nat.succ_mul];exact Nat.mul_le_mul_right _ hzn
       have hce:=q3k hds
       obtain ⟨v,hv,h⟩:=q2c (o':=q0J g s (z.toNat*s) (eLs cs)) h (fun v hv=>by
        refine q56 (by rw [hce,List.length_map];omega) ?_
        have e:eLs ((List.range s).map fun q=>L3.d ((q01 Fn FnD m).selN z.toNat ((List.range p.1).map fun j=>ds.getD (j*s+q) ((q01 Fn FnD m).lit .nilFunc))))=((eLs cs).drop (z.toNat*s)).take s:=by
         rw [hce,q0A]
         apply List.ext_getElem?
         intro q
         simp only [List.getElem?_map,List.getElem?_take,List.getElem?_drop]
         by_cases hq:q < s
         ·rw [List.getElem?_range hq,if_pos hq,List.getElem?_eq_getElem (show z.toNat*s+q < ds.length by omega)]
          simp [eL,q01,List.getD_eq_getElem?_getD,List.getElem?_range hzn,List.getElem?_eq_getElem (show z.toNat*s+q < ds.length by omega)]
         ·rw [List.getElem?_eq_none (by simpa using hq),if_neg hq];rfl
        rw [←e,qgS,hv];rfl)
       refine OKQ.some (a:=(kk,z)) (by simp [hix,eV,eL,vInt?]) (OKQ.some hp (OKQ.some hs (OKQ.some hg ?_)))
       simp only [hx,eV]
       exact OKQ.cond _ (by simp [hz']) (OKQ.pure hv h)
      ·cases h
     obtain ⟨kk,z,rfl,hz,h⟩:=q9x h
     unfold selR at h
     split at h
     ·rename_i kont hk
      rw [List.getElem?_map] at hk
      obtain ⟨j,hj,rfl⟩:=Option.map_eq_some_iff.1 hk
      have hjz:j=z.toNat:=by
       have:=(List.getElem?_eq_some_iff.1 hj).2
       simpa using this.symm
      subst hjz
      obtain ⟨v,hv,h⟩:=q2c h (fun v hv=>by
       have:=q2t g s (z.toNat*s) cs
       rw [hv] at this
       exact this)
      refine OKQ.some (a:=(kk,z)) (by simp [hix,eV,eL,vInt?]) (OKQ.some hp (OKQ.some hs (OKQ.some hg ?_)))
      simp only [hx,eV]
      exact OKQ.cond _ (by simp [hz]) (OKQ.pure hv h)
     ·cases h
    ·cases h
   ·cases h
  ·cases h
 | convert src dst x =>
  simp only [op3] at h
  simp only [aop]
  split at h
  ·rename_i k0 kd y h1 h2 h3
   obtain ⟨a,n,rfl,h⟩:=qgD h
   refine OKQ.some h1 (OKQ.some h2 (OKQ.some (a:=(a,n)) (by simp [q2M h3,vInt?]) ?_))
   exact OKQ.ret0 (v:=.one (.d (.lit (.int kd (kd.wrap n))))) h
  ·cases h
 | makeInterface t x =>
  simp only [op3] at h
  simp only [aop]
  have fz:∀ zs:List D,(q4h (zs.map L.d)).run (q08 (eOb ob))=some (zs,[])∧(q4h (zs.map L.d)).reads (q08 (eOb ob))=[]:=by
   intro zs
   induction zs with
   | nil=>exact ⟨rfl,rfl⟩
   | cons c cs ih=>simp [q4h,frz,Q.bind,Q.run_bind,Q.reads_bind,Q.run,Q.reads,ih.1,ih.2]
  split at h
  ·rename_i hc
   split at h
   ·rename_i y hg hy
    split at h
    ·rename_i z hz
     refine OKQ.cond _ (by simp [hc,hg,hy,eV,q3e]) ?_
     have hz':=q1J hz
     refine OKQ.some (a:=[z].map L.d) (by simp [hy,eV,hz',V.cells,L.isDef]) ?_
     refine OKQ.mk (v:=.one (.d (.ifc t false [z]))) (us:=[]) (rd:=[]) ?_ ?_ h
     ·rw [Q.run_bind,(fz [z]).1];simp [Q.run,hy,eV,eL,q3e,q0d]
     ·intro q hq;rw [Q.reads_bind,(fz [z]).1,(fz [z]).2] at hq;simp [Q.reads] at hq
    ·cases h
   ·rename_i ys hg hy
    split at h
    ·rename_i zs hz
     refine OKQ.cond _ (by simp [hc,hg,hy,eV,q3e]) ?_
     have hz':=q26 hz
     refine OKQ.some (a:=zs.map L.d) (by simp [hy,eV,hz',V.cells,L.isDef,Function.comp_def]) ?_
     refine OKQ.mk (v:=.one (.d (.ifc t true zs))) (us:=[]) (rd:=[]) ?_ ?_ h
     ·rw [Q.run_bind,(fz zs).1];simp [Q.run,hy,eV,eL,q3e,q0d]
     ·intro q hq;rw [Q.reads_bind,(fz zs).1,(fz zs).2] at hq;simp [Q.reads] at hq
    ·cases h
   ·cases h
  ·cases h
 | makeSlice t l c =>
  simp only [op3] at h
  simp only [aop]
  split at h
  ·cases h
  ·rename_i e he
   split at h
   ·rename_i s zs bs hs hz hb
    split at h
    ·rename_i n n' hn hn'
     split at h
     ·rename_i hc
      obtain ⟨a,z,rfl,rfl,hz2,h⟩:=qgB h
      refine OKQ.some he (OKQ.some hs (OKQ.some hz (OKQ.some hb (OKQ.some (a:=(a,z)) (by simp [q2M hn,vInt?]) (OKQ.some (a:=(a,z)) (by simp [q2M hn',vInt?]) (OKQ.cond _ (by simp [hc,hz2]) ?_))))))
      have:=q2F (v':=fun key=>.one (.slk key 0 z.toNat z.toNat)) h (fun q=>by simp [eV,eL])
      simpa [eO,q01] using this
     ·cases h
    ·cases h
   ·cases h
 | slice t x lo hi mx =>
  simp only [op3] at h
  simp only [aop]
  split at h
  ·rename_i e he
   split at h
   ·rename_i l h' s hl hh hs
    obtain ⟨zl,zh,h1,h2,h3⟩:=qjH hl hh h
    exact OKQ.cond _ (by simp [he]) (OKQ.some h1 (OKQ.some h2 (OKQ.some he (OKQ.some hs h3))))
   ·cases h
  ·cases h
 | fieldAddr s x f =>
  simp only [op3] at h
  simp only [aop]
  split at h
  ·rename_i p hp
   split at h
   ·rename_i y hρ
    split at h
    ·rename_i n _
     obtain ⟨row,rfl,hl,h⟩:=q9y h
     rw [q1v hl] at h
     obtain ⟨v,h1,h2⟩:=q2c (o':=q1X p.1 (eV (.one (.dp row 0)))) h fun v hv=>q7D hv
     refine OKQ.some hp (OKQ.pure ?_ h2)
     rw [hρ];exact h1
    ·cases h
   ·obtain ⟨v,h1,h2⟩:=q2c (o':=q1X p.1 (eV (ρ x))) h fun v hv=>q7D hv
    exact OKQ.some hp (OKQ.pure h1 h2)
  ·cases h
 | field s x f =>
  simp only [op3] at h
  simp only [aop]
  split at h
  ·rename_i p cs hp hx
   obtain ⟨v,h1,h2⟩:=q2c (o':=q0J p.2.2 p.2.1 p.1 (eLs cs)) h fun v hv=>by rw [q2t,hv];rfl
   refine OKQ.some hp ?_
   have:eV (ρ x)=.agg (eLs cs):=by rw [hx];simp [eV]
   simp only [this]
   exact OKQ.pure h1 h2
  ·cases h
 | indexAddr t x ix =>
  simp only [op3] at h
  simp only [aop]
  split at h
  ·rename_i i hi
   have hi':eV (ρ ix)=.one (eL i):=by rw [hi];simp [eV]
   split at h
   ·rename_i p hp
    split at h
    ·rename_i s hs
     obtain ⟨kk,z,h1,h2⟩:=q9Z (e:=p.2) h
     refine OKQ.some (a:=(kk,z)) (by rw [hi'];exact h1) ?_
     simp only [hp]
     exact OKQ.some hs h2
    ·cases h
   ·rename_i hp
    split at h
    ·rename_i e he
     split at h
     ·rename_i s hs
      obtain ⟨kk,z,h1,h2⟩:=q9Z (e:=0) h
      refine OKQ.some (a:=(kk,z)) (by rw [hi'];exact h1) ?_
      simp only [hp,he]
      exact OKQ.some hs h2
     ·cases h
    ·cases h
  ·cases h
 | makeMap t rr =>
  cases rr with
  | some _=>simp [op3,q01] at h
  | none =>
   simp only [op3] at h
   simp only [aop]
   split at h
   ·rename_i kd g hk hg
    refine OKQ.cond _ (by simp [hk]) (OKQ.some hg ?_)
    split at h
    ·rename_i a b c d ho
     have ho2:(.mp a b c d:O)=.mp g [] [] true:=by
      obtain ⟨e,_,h3⟩:=Option.bind_eq_some_iff.1 ho
      unfold qjh at h3
      split at h3
      ·obtain ⟨_,_,h4⟩:=Option.map_eq_some_iff.1 h3;cases h4
      ·cases h3
      ·exact (Option.some.inj h3).symm
     rw [ho2] at ho
     refine OKQ.some ho ?_
     have:=q2F (v':=fun key=>.one (.mk key)) h (fun q=>by simp [eV,eL])
     simpa [eO,q01,show qil (O.mp g [] [] true)=fun key=>V.one (L.mk key) from rfl] using this
    ·rename_i a b ho
     have ho2:(.ml a b:O)=.ml [] []:=by
      obtain ⟨e,_,h3⟩:=Option.bind_eq_some_iff.1 ho
      unfold qjh at h3
      split at h3
      ·obtain ⟨_,_,h4⟩:=Option.map_eq_some_iff.1 h3;cases h4
      ·exact (Option.some.inj h3).symm
      ·cases h3
     rw [ho2] at ho
     refine OKQ.some ho ?_
     have:=q2F (v':=fun key=>.one (.mq key)) h (fun q=>by simp [eV,eL])
     simpa [eO,eLs,show qil (O.ml [] [])=fun key=>V.one (L.mq key) from rfl] using this
    ·rename_i a b s t' ho
     have ho2:(.am a b s t':O)=.am [] [] s t':=by
      obtain ⟨e,_,h3⟩:=Option.bind_eq_some_iff.1 ho
      unfold qjh at h3
      split at h3
      ·obtain ⟨_,_,h4⟩:=Option.map_eq_some_iff.1 h3;cases h4;rfl
      ·cases h3
      ·cases h3
     rw [ho2] at ho
     refine OKQ.some ho ?_
     have:=q2F (v':=fun key=>.one (.mq key)) h (fun q=>by simp [eV,eL])
     simpa [eO,q01,show qil (O.am [] [] s t')=fun key=>V.one (L.mq key) from rfl] using this
    ·cases h
   ·cases h
 | lookup t x ix ok =>
  simp only [op3] at h
  simp only [aop]
  split at h
  ·rename_i kd e hk he
   split at h
   ·rename_i g zs key hg hz hkey
    split at h
    ·rename_i hzs
     split at h
     ·rename_i q hq
      split at h
      ·rename_i hok
       obtain ⟨v,h1,h2,h3⟩:=qew h
       subst h1
       have hx':eV (ρ x)=.one (.mq q):=by rw [hq];rfl
       refine OKQ.some hk (OKQ.some he (OKQ.some hg (OKQ.some hz (OKQ.some (a:=v) (by simp [q2M hkey,V.lit?]) ?_))))
       simp only [hx']
       exact OKQ.cond _ (by simp only [Bool.and_eq_true] at hok;simp [h2,hzs,hok.1,hok.2]) h3
      ·cases h
     ·rename_i hnq
      obtain ⟨v,h1,h2,h3⟩:=qgT h
      subst h1
      refine OKQ.some hk (OKQ.some he (OKQ.some hg (OKQ.some hz (OKQ.some (a:=v) (by simp [q2M hkey,V.lit?]) ?_))))
      split
      ·rename_i q hq;exact absurd (eV_mq hq) (hnq q)
      ·exact OKQ.cond _ (by simp [h2,hzs]) h3
    ·cases h
   ·cases h
  ·cases h
 | mapUpdate t q kk v =>
  simp only [op3] at h
  simp only [aop]
  split at h
  ·rename_i kd g hk hg
   rcases hme:q2T P t with _ | e
   ·rw [hme] at hg;cases hg
   rw [hme] at hg
   split at h
   ·rename_i r0 hq
    split at h
    ·rename_i x hx
     obtain ⟨kv,h1,h2⟩:=qbw (g:=g) h
     have hq':eV (ρ q)=.one (.mq r0):=by rw [hq];rfl
     refine OKQ.some hk (OKQ.some rfl (OKQ.some hg (OKQ.some (a:=kv) (by rw [hx];simp [eV,h1,V.lit?]) ?_)))
     rw [hq'];exact h2
    ·cases h
   ·split at h
    ·rename_i key hkey
     obtain ⟨kv,h1,h2⟩:=qds h
     subst h1
     exact OKQ.some hk (OKQ.some rfl (OKQ.some hg (OKQ.some (a:=kv) (by simp [q2M hkey,V.lit?]) h2)))
    ·cases h
  ·cases h
 | insert t q kk v =>
  simp only [op3] at h
  simp only [aop]
  split at h
  ·rename_i kd g hk hg
   rcases hme:q2T P t with _ | e
   ·rw [hme] at hg;cases hg
   rw [hme] at hg
   split at h
   ·rename_i r0 hq
    split at h
    ·rename_i x hx
     obtain ⟨kv,h1,h2⟩:=qbw (g:=g) h
     have hq':eV (ρ q)=.one (.mq r0):=by rw [hq];rfl
     refine OKQ.some hk (OKQ.some rfl (OKQ.some hg (OKQ.some (a:=kv) (by rw [hx];simp [eV,h1,V.lit?]) ?_)))
     rw [hq'];exact h2
    ·cases h
   ·split at h
    ·rename_i key hkey
     obtain ⟨kv,h1,h2⟩:=qds h
     subst h1
     exact OKQ.some hk (OKQ.some rfl (OKQ.some hg (OKQ.some (a:=kv) (by simp [q2M hkey,V.lit?]) h2)))
    ·cases h
  ·cases h
 | extract t i =>
  simp only [op3] at h
  simp only [aop]
  split at h
  ·rename_i vs hρ
   obtain ⟨v,h1,h2⟩:=q2c (o':=(eVs vs)[i]?) h fun v hv=>by rw [q1S,List.getElem?_map,hv];rfl
   have:eV (ρ t)=.tup (eVs vs):=by rw [hρ];simp [eV]
   simp only [this]
   exact OKQ.pure h1 h2
  ·cases h
 | call c=>exact qd7 h
 | _=>simp [op3,q01] at h
end
end Go.VE
