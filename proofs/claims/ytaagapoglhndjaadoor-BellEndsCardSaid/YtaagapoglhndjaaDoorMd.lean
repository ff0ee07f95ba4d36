/- An evaluator whose data are abstract: what is known before the data is worked out, the rest is handed to a record of operations. -/
import Derived.Test.YtaagapoglhndjaaDoorMc
namespace Go.VE
open Go.RowKit
section
inductive L3 (Δ N:Type) where
 | d (x:Δ)
 | b (v:Bool)
 | i (k:IntKind) (n:Int)
 | nil
 | dp (row:List Δ) (off:Nat)
 | fn (f:Nat) (caps:List (L3 Δ N))
 | slk (k:Nat) (off:Option N) (n c:N)
 | pa (k:Nat) (i:N) (off:Nat) (c:N)
 | ptr (k off:Nat)
 | mk (k:Nat)
 | mq (k:Nat)
 | pb (k:Nat) (j off:N)
 | px (k base n es:Nat) (i:N) (off:Nat)
 | np
 | sln (k:Nat) (n:N)
 | undef
inductive V3 (Δ N:Type) where
 | one (x:L3 Δ N)
 | agg (xs:List (L3 Δ N))
 | tup (xs:List (V3 Δ N))
inductive O3 (Δ N R M:Type) where
 | box (cells:List (L3 Δ N)) (elem:Nat)
 | arr (rows:R) (size elem:Nat) (own:Bool)
 | mp (agg:Bool) (m:M) (own:Bool)
 | ml (keys:List Value) (vals:List (L3 Δ N))
 | am (m:M) (size elem:Nat)
 | arn (rows:R) (size elem:Nat) (own:Bool)
structure S3 (Δ N R M:Type) where
 env:List (Nat×V3 Δ N)
 ob:List (Nat×O3 Δ N R M)
 ys:List Nat
 pend:Option Ex
instance {Δ N:Type}:Inhabited (L3 Δ N):=⟨.undef⟩
instance {Δ N:Type}:Inhabited (V3 Δ N):=⟨.one .undef⟩
inductive Y (Δ N R M:Type) where
 | d (x:Δ)
 | n (x:N)
 | r (x:R)
 | m (x:M)
abbrev Sk:=S3 Unit Unit Unit Unit
inductive Sh where
 | one
 | agg (n:Nat)
 | ptr (n:Nat)
 | met (name:String) (n:Nat)
inductive RK where
 | d
 | own (size elem:Nat)
 | om (agg:Bool)
abbrev RS:=List (Bool×List RK)
structure Pr (Δ N R W M E Ω:Type) where
 fail:Ω
 out:Nat→List (Y Δ N R M)→Ω
 bnd:Ω→List (E→Ω)→Ω
 loop:List ((Nat→List (Y Δ N R M)→Ω)→E→Ω)→Nat→List (Y Δ N R M)→Ω
 call:Nat→List Δ→Ω
 callD:Δ→List Sh→List Δ→Ω
 miss:Nat→Nat→Nat→Nat→List Nat→Ex→S3 Δ N R M→RS→Ω
 cond:Δ→Ω→Ω→Ω
 ld:E→Nat→Δ
 ln:E→Nat→N
 lr:E→Nat→R
 lm:E→Nat→M
 lit:Value→Δ
 natD:N→Δ
 dN:Δ→N
 natN:Nat→N
 addN:N→N→N
 slD:Nat→R→Δ
 slN:Nat→R→Δ
 dpD:List Δ→Nat→Δ
 fnD:Nat→List Δ→Δ
 mpD:Bool→M→Δ
 ifD:Nat→Bool→List Δ→Δ
 len:R→N
 rows:List (List Δ)→R
 repl:N→List Δ→R
 app:R→R→R
 seg:R→Option N→N→R
 setR:R→N→List Δ→R
 emp:M
 cell:W→Nat→Δ
 eqN:N→N→Ω→Ω
 leN:N→N→Ω→Ω
 nilD:Δ→Ω→Ω
 ptrW:Nat→Δ→(W→Ω)→Ω
 isPtr:Δ→Ω→Ω
 rowAt:Nat→R→N→(W→Ω)→Ω
 bin:BinOp→Bool→Δ→Δ→(Δ→Ω)→Ω
 un:UnOp→Δ→(Δ→Ω)→Ω
 eqs:List Bool→Bool→List Δ→List Δ→(Δ→Ω)→Ω
 mm:Bool→Δ→Δ→(Δ→Ω)→Ω
 mkN:Nat→Δ→Δ→(N→Ω)→Ω
 gap:Nat→Δ→(N→Ω)→Ω
 cut:Option Δ→Option Δ→N→(N→N→Ω)→Ω→Ω
 cutD:Nat→Δ→Option Δ→Option Δ→(Δ→Ω)→Ω
 cutNil:Option Δ→Option Δ→Ω→Ω
 selI:Nat→Δ→List Ω→Ω
 inx:Δ→N→(N→Ω)→Ω
 rowD:Nat→Δ→Δ→(W→Ω)→Ω
 lenD:Δ→(Δ→Ω)→Ω
 lenS:Δ→(Δ→Ω)→Ω
 rowsD:Nat→Δ→(R→Ω)→Ω
 isNil:R→Ω→Ω→Ω
 fits:Nat→N→Ω→Ω
 asM:Bool→Δ→(M→Ω)→Ω
 look:Nat→List Value→M→Δ→(W→Δ→Ω)→Ω
 upd:Nat→M→Δ→List Δ→(M→Ω)→Ω
 lits:List (Y Δ N R M)→Ω→Ω
 cvI:IntKind→Δ→(Δ→Ω)→Ω
 nilE:Δ→Ω→Ω→Ω
 ins:Δ→R→R→(R→Ω)→Ω
 mulN:Nat→N→N
 minN:N→N→N
 cellN:W→N→Nat→Δ
 selN:N→List Δ→Δ
 updN:N→Nat→Δ→Δ→Δ
 mrows:M→R
 mset:M→R→M
 setRC:R→N→N→List Δ→R
 find:Nat→M→Δ→(N→Ω)→Ω→Ω
 addK:Nat→M→Δ→N→(M→Ω)→Ω
 selK:Nat→List Value→Δ→List Ω→Ω
section
variable {Δ N R W M E Ω:Type} (pr:Pr Δ N R W M E Ω)
def cZ:List (Nat×V3 Δ N)→Nat→V3 Δ N
 | [],_=>.one .undef
 | (k,v)::r,t=>if t=k then v else cZ r t
def aQ:List (Nat×O3 Δ N R M)→Nat→Option (O3 Δ N R M)
 | [],_=>none
 | (k,o)::r,j=>if j=k then some o else aQ r j
def cv:List (Nat×O3 Δ N R M)→List (Nat×O3 Δ N R M)→List (Nat×O3 Δ N R M)
 | [],ob=>ob
 | (k,o)::r,ob=>cv r ((k,o)::ob)
mutual
def L3.keysOf:L3 Δ N→List Nat
 | .slk k _ _ _=>[k]
 | .pa k _ _ _=>[k]
 | .ptr k _=>[k]
 | .mk k=>[k]
 | .mq k=>[k]
 | .pb k _ _=>[k]
 | .px k _ _ _ _ _=>[k]
 | .sln k _=>[k]
 | .fn _ caps=>L3.keysF caps
 | _=>[]
def L3.keysF:List (L3 Δ N)→List Nat
 | []=>[]
 | x::xs=>x.keysOf++L3.keysF xs
end
mutual
def V3.keysOf:V3 Δ N→List Nat
 | .one x=>x.keysOf
 | .agg xs=>L3.keysF xs
 | .tup xs=>V3.keysF xs
def V3.keysF:List (V3 Δ N)→List Nat
 | []=>[]
 | x::xs=>x.keysOf++V3.keysF xs
end
def O3.keysOf:O3 Δ N R M→List Nat
 | .box cells _=>L3.keysF cells
 | .ml _ vals=>L3.keysF vals
 | _=>[]
def qn (ob:List (Nat×O3 Δ N R M)):List Nat→List (Nat×O3 Δ N R M)
 | []=>[]
 | k::ks=>match aQ ob k with
  | some o=>(k,o)::qn ob ks
  | none=>qn ob ks
def jV (ob:List (Nat×O3 Δ N R M)):List Nat→List Nat
 | []=>[]
 | k::ks=>match aQ ob k with
  | some o=>o.keysOf++jV ob ks
  | none=>jV ob ks
def tm (ob:List (Nat×O3 Δ N R M)):Nat→List Nat→List Nat
 | 0,ks=>ks
 | n+1,ks=>tm ob n (ge (jV ob ks) ks)
def tT (pk:List Nat) (vs:List (V3 Δ N)) (ob:List (Nat×O3 Δ N R M)):Option (List (Nat×O3 Δ N R M)) :=
 let ks:=tm ob 6 (ge (V3.keysF vs) pk)
 let ob':=qn ob ks
 if (vs.all fun v=>v.keysOf.all fun k=>ks.contains k)&&(ob'.all fun p=>p.2.keysOf.all fun k=>ks.contains k) then some ob' else none
def tH:Value→L3 Δ N
 | .bool v=>.b v
 | .int k n=>.i k n
 | .slice none 0 0=>.nil
 | .pointer none=>.np
 | v=>.d (pr.lit v)
def u9:Value→V3 Δ N
 | .agg cs=>if cs.toList.all plain then .agg (cs.toList.map (tH pr)) else .one .undef
 | v=>if plain v then .one (tH pr v) else .one .undef
def wT (env:List (Nat×V3 Δ N)):Operand→V3 Δ N
 | .tmp t=>cZ env t
 | .const v=>u9 pr v
 | .global _=>.one .undef
 | .func f=>if f < 2000000 then .one (.fn f []) else .one .undef
def du:L3 Δ N→Option Δ
 | .d x=>some x
 | .b v=>some (pr.lit (.bool v))
 | .i k n=>some (pr.lit (.int k n))
 | .nil=>some (pr.lit (.slice none 0 0))
 | .np=>some (pr.lit (.pointer none))
 | .dp row off=>some (pr.dpD row off)
 | _=>none
def io:V3 Δ N→Option Δ
 | .one x=>du pr x
 | _=>none
def fW:List (L3 Δ N)→Option (List Δ)
 | []=>some []
 | x::xs=>match du pr x,fW xs with
  | some y,some ys=>some (y::ys)
  | _,_=>none
def rx (ρ:Operand→V3 Δ N):Option Operand→Option (Option Δ)
 | none=>some none
 | some x=>match io pr (ρ x) with
  | some y=>some (some y)
  | none=>none
def ry (ρ:Operand→V3 Δ N):List Operand→Option (List Δ)
 | []=>some []
 | x::xs=>match io pr (ρ x),ry ρ xs with
  | some y,some ys=>some (y::ys)
  | _,_=>none
def L3.isDef:L3 Δ N→Bool | .undef=>false | _=>true
def V3.cells:V3 Δ N→Option (List (L3 Δ N))
 | .one x=>if x.isDef then some [x] else none
 | .agg xs=>if xs.all L3.isDef then some xs else none
 | .tup _=>none
def vg (agg:Bool) (xs:List (L3 Δ N)):Option (V3 Δ N):=match agg,xs with
 | true,xs=>some (.agg xs)
 | false,[x]=>some (.one x)
 | false,_=>none
def ef (agg:Bool) (s off:Nat) (cells:List (L3 Δ N)):Option (V3 Δ N) :=
 if agg then (if off+s≤cells.length then some (.agg ((cells.drop off).take s)) else none)
 else match cells[off]? with
  | some x=>some (.one x)
  | none=>none
def A1 (place:Nat→Option (Nat×Nat)) (cells:List (L3 Δ N)):List (Nat×V3 Δ N)→Option (List (L3 Δ N))
 | []=>some cells
 | (i,v)::rest=>match place i,v.cells with
  | some (off,size),some cs=>if cs.length=size∧off+size≤cells.length then A1 place (cells.take off++cs++cells.drop (off+size)) rest else none
  | _,_=>none
def kq (n:Nat):V3 Δ N→Option (V3 Δ N)
 | .one (.ptr k off)=>some (.one (.ptr k (off+n)))
 | .one (.pa k i off c)=>some (.one (.pa k i (off+n) c))
 | .one (.dp r off)=>some (.one (.dp r (off+n)))
 | .one (.pb k j off)=>some (.one (.pb k j (pr.addN off (pr.natN n))))
 | .one (.px k b m es i off)=>some (.one (.px k b m es i (off+n)))
 | _=>none
def gK:List (V3 Δ N)→Option (List (L3 Δ N))
 | []=>some []
 | .one x::r=>if x.isDef then (match gK r with
  | some xs=>some (x::xs)
  | none=>none) else none
 | _::_=>none
def cellsOf (size:Nat) (r:W):List Δ:=(List.range size).map (pr.cell r)
abbrev di (Δ N R M:Type):=List (Nat×O3 Δ N R M)
abbrev K3 (Δ N R M Ω:Type):=V3 Δ N→di Δ N R M→List Nat→Ω
def l7 (o:Option (V3 Δ N)) (rd:List Nat) (k:K3 Δ N R M Ω):Ω:=match o with
 | some v=>k v [] rd
 | none=>pr.fail
def e8 (ob:di Δ N R M) (dst:Option Nat) (o:O3 Δ N R M) (v:Nat→V3 Δ N) (k:K3 Δ N R M Ω):Ω:=match dst with
 | some key=>match aQ ob key with
  | none=>k (v key) [(key,o)] [key]
  | some _=>pr.fail
 | none=>pr.fail
def tW (ob:di Δ N R M) (x:L3 Δ N) (k:Δ→di Δ N R M→List Nat→Ω):Ω:=match x with
 | .slk key off n c=>match aQ ob key with
  | some (.arr rows size elem _)=>pr.eqN c (pr.len rows) (k (pr.slD size (pr.seg rows off n)) [(key,.arr rows size elem false)] [key])
  | _=>pr.fail
 | .mk key=>match aQ ob key with
  | some (.mp agg m _)=>k (pr.mpD agg m) [(key,.mp agg m false)] [key]
  | _=>pr.fail
 | .sln key n=>match aQ ob key with
  | some (.arn rows size elem _)=>pr.eqN n (pr.len rows) (k (pr.slN size rows) [(key,.arn rows size elem false)] [key])
  | _=>pr.fail
 | x=>match du pr x with
  | some y=>k y [] []
  | none=>pr.fail
def oq (ob:di Δ N R M):List (L3 Δ N)→(List Δ→di Δ N R M→List Nat→Ω)→Ω
 | [],k=>k [] [] []
 | x::xs,k=>tW pr ob x fun d u rd=>oq ob xs fun ds us rd'=>k (d::ds) (u++us) (rd++rd')
def nZ (rec:L3 Δ N→(Δ→List Nat→Ω)→Ω):List (L3 Δ N)→(List Δ→List Nat→Ω)→Ω
 | [],k=>k [] []
 | x::xs,k=>rec x fun d rd=>nZ rec xs fun ds rd'=>k (d::ds) (rd++rd')
def dt (ob:di Δ N R M):Nat→L3 Δ N→(Δ→List Nat→Ω)→Ω
 | _,.slk key off n' c,k=>match aQ ob key with
  | some (.arr rows size _ _)=>pr.eqN c (pr.len rows) (k (pr.slD size (pr.seg rows off n')) [key])
  | _=>pr.fail
 | _,.pa key i off c,k=>match aQ ob key with
  | some (.arr rows size _ _)=>pr.eqN c (pr.len rows) (pr.rowAt size rows i fun r=>k (pr.dpD (cellsOf pr size r) off) [key])
  | some (.arn rows size _ _)=>pr.eqN c (pr.len rows) (pr.rowAt size rows i fun r=>k (pr.dpD (cellsOf pr size r) off) [key])
  | _=>pr.fail
 | _,.mk key,k=>match aQ ob key with
  | some (.mp agg m _)=>k (pr.mpD agg m) [key]
  | _=>pr.fail
 | _,.sln key n',k=>match aQ ob key with
  | some (.arn rows size _ _)=>pr.eqN n' (pr.len rows) (k (pr.slN size rows) [key])
  | _=>pr.fail
 | n+1,.ptr key off,k=>match aQ ob key with
  | some (.box cells _)=>nZ (dt ob n) cells fun ds rd=>k (pr.dpD ds off) (key::rd)
  | _=>pr.fail
 | n+1,.fn f caps,k=>nZ (dt ob n) caps fun ds rd=>k (pr.fnD f ds) rd
 | _,x,k=>match du pr x with
  | some y=>k y []
  | none=>pr.fail
def colX (cells:List (L3 Δ N)) (base n es o:Nat):Option (List Δ):=fW pr ((List.range n).map fun q=>cells.getD (base+q*es+o) .undef)
def vL (cells:List (L3 Δ N)) (base n es:Nat) (i:N):Nat→Nat→Option (List (L3 Δ N))
 | _,0=>some []
 | o,s+1=>match colX pr cells base n es o,vL cells base n es i (o+1) s with
  | some ds,some xs=>some (.d (pr.selN i ds)::xs)
  | _,_=>none
def HC (i:N) (q:Nat) (x:L3 Δ N) (new:Option Δ):L3 Δ N:=match du pr x,new with
 | some old,some nw=>.d (pr.updN i q nw old)
 | _,_=>.undef
def uV (i:N) (base n es off:Nat) (ds:List Δ) (cells:List (L3 Δ N)):List (L3 Δ N):=cells.zipIdx.map fun p =>
 if base≤p.2∧p.2 < base+n*es∧off≤(p.2 - base) % es∧(p.2 - base) % es < off+ds.length then HC pr i ((p.2 - base) / es) p.1 ds[(p.2 - base) % es - off]? else p.1
def zA (agg:Bool) (s:Nat) (ob:di Δ N R M) (x:V3 Δ N) (k:K3 Δ N R M Ω):Ω:=match x with
 | .one (.ptr key off)=>match aQ ob key with
  | some (.box cells _)=>l7 pr (ef agg s off cells) [key] k
  | _=>pr.fail
 | .one (.pa key i off c)=>match aQ ob key with
  | some (.arr rows size _ _)=>pr.eqN c (pr.len rows) (pr.rowAt size rows i fun r=>l7 pr (ef agg s off ((cellsOf pr size r).map .d)) [key] k)
  | some (.arn rows size _ _)=>pr.eqN c (pr.len rows) (pr.rowAt size rows i fun r=>l7 pr (ef agg s off ((cellsOf pr size r).map .d)) [key] k)
  | _=>pr.fail
 | .one (.dp row off)=>l7 pr (ef agg s off (row.map .d)) [] k
 | .one (.pb key j off)=>match aQ ob key with
  | some (.am m size _)=>pr.rowAt size (pr.mrows m) j fun r=>pr.leN (pr.addN off (pr.natN s)) (pr.natN size) (l7 pr (vg agg ((List.range s).map fun i=>.d (pr.cellN r off i))) [key] k)
  | _=>pr.fail
 | .one (.px key b n es i off)=>match aQ ob key with
  | some (.box cells _)=>if b+n*es≤cells.length∧off+s≤es then (match vL pr cells b n es i off s with
   | some xs=>pr.leN (pr.addN i (pr.natN 1)) (pr.natN n) (l7 pr (vg agg xs) [key] k)
   | none=>pr.fail) else pr.fail
  | _=>pr.fail
 | _=>pr.fail
def xf (ob:di Δ N R M) (x:V3 Δ N) (cs:List (L3 Δ N)) (k:K3 Δ N R M Ω):Ω:=match x with
 | .one (.ptr key off)=>match aQ ob key with
  | some (.box cells elem)=>if off+cs.length≤cells.length then k (.one .undef) [(key,.box (cells.take off++cs++cells.drop (off+cs.length)) elem)] [key] else pr.fail
  | _=>pr.fail
 | .one (.pa key i off c)=>match aQ ob key with
  | some (.arr rows size elem own)=>match own with
   | true=>pr.eqN c (pr.len rows) (pr.rowAt size rows i fun r=>oq pr ob cs fun ds us rd=>match us with
    | []=>if off+ds.length≤size then k (.one .undef) [(key,.arr (pr.setR rows i ((cellsOf pr size r).take off++ds++(cellsOf pr size r).drop (off+ds.length))) size elem own)] (key::rd) else pr.fail
    | _=>pr.fail)
   | false=>pr.fail
  | _=>pr.fail
 | .one (.pb key j off)=>match aQ ob key with
  | some (.am m size elem)=>match fW pr cs with
   | some ds=>pr.rowAt size (pr.mrows m) j fun _=>pr.leN (pr.addN off (pr.natN ds.length)) (pr.natN size) (k (.one .undef) [(key,.am (pr.mset m (pr.setRC (pr.mrows m) j off ds)) size elem)] [key])
   | none=>pr.fail
  | _=>pr.fail
 | .one (.px key b n es i off)=>match aQ ob key with
  | some (.box cells elem)=>match fW pr cs with
   | some ds=>if b+n*es≤cells.length∧off+ds.length≤es∧(uV pr i b n es off ds cells).all L3.isDef=true∧0 < es then pr.leN (pr.addN i (pr.natN 1)) (pr.natN n) (k (.one .undef) [(key,.box (uV pr i b n es off ds cells) elem)] [key]) else pr.fail
   | none=>pr.fail
  | _=>pr.fail
 | _=>pr.fail
def Bm (es:Nat) (x:V3 Δ N) (k:K3 Δ N R M Ω) (j:Nat):Ω:=l7 pr (kq pr (j*es) x) [] k
def tO (arr:Option Nat) (es:Nat) (ob:di Δ N R M) (x:V3 Δ N) (i:L3 Δ N) (k:K3 Δ N R M Ω):Ω:=match arr with
 | some n=>match i with
  | .i _ z=>if 0≤z∧z < n then Bm pr es x k z.toNat else pr.fail
  | .d y=>match x with
   | .one (.pb key j off)=>pr.inx y (pr.natN n) fun i=>k (.one (.pb key j (pr.addN off (pr.mulN es i)))) [] []
   | .one (.ptr key off)=>match aQ ob key with
    | some (.box cells _)=>match fW pr ((cells.drop off).take (n*es)) with
     | some _=>pr.inx y (pr.natN n) fun i=>k (.one (.px key off n es i 0)) [] []
     | none=>pr.selI n y ((List.range n).map (Bm pr es x k))
    | _=>pr.fail
   | _=>pr.selI n y ((List.range n).map (Bm pr es x k))
  | _=>pr.fail
 | none=>match du pr i with
  | none=>pr.fail
  | some y=>match x with
   | .one (.slk key off n c)=>match aQ ob key with
    | some (.arr rows size _ _)=>if size=es then pr.eqN c (pr.len rows) (pr.inx y n fun j=>k (.one (.pa key (match off with | none=>j | some o=>pr.addN o j) 0 c)) [] [key]) else pr.fail
    | _=>pr.fail
   | .one (.sln key n)=>match aQ ob key with
    | some (.arn rows size _ _)=>if size=es then pr.eqN n (pr.len rows) (pr.inx y n fun j=>k (.one (.pa key j 0 n)) [] [key]) else pr.fail
    | _=>pr.fail
   | .one (.d z)=>pr.rowD es z y fun r=>k (.one (.dp (cellsOf pr es r) 0)) [] []
   | _=>pr.fail
def Ih (es:Nat) (ob:di Δ N R M) (x:V3 Δ N) (l h:Option Δ) (k:K3 Δ N R M Ω):Ω:=match x with
 | .one (.slk key off n c)=>match aQ ob key with
  | some (.arr rows size _ _)=>if size=es then pr.eqN c (pr.len rows) (match l with
    | none=>pr.cut l h n (fun _ m=>k (.one (.slk key off m c)) [] [key]) pr.fail
    | some _=>pr.cut l h n (fun o m=>k (.one (.slk key (some (match off with | none=>o | some o'=>pr.addN o' o)) m c)) [] [key]) (k (.one (.d (pr.slD es (pr.rows [])))) [] [key])) else pr.fail
  | _=>pr.fail
 | .one (.d y)=>pr.cutD es y l h fun z=>k (.one (.d z)) [] []
 | .one .nil=>pr.cutNil l h (k (.one .nil) [] [])
 | _=>pr.fail
def yS (ob:di Δ N R M) (size n:Nat) (rows:List (List Δ)):List (Nat×V3 Δ N)→(List (List Δ)→di Δ N R M→List Nat→Ω)→Ω
 | [],k=>k rows [] []
 | (i,v)::rest,k=>match v.cells with
  | none=>pr.fail
  | some cs=>if cs.length=size∧i < n then oq pr ob cs fun ds us rd=>yS ob size n (rows.set i ds) rest fun rows' us' rd'=>k rows' (us++us') (rd++rd') else pr.fail
def EN (es:Nat) (ob:di Δ N R M) (x:V3 Δ N) (k:R→List Nat→Ω):Ω:=match x with
 | .one .nil=>k (pr.rows []) []
 | .one (.d y)=>pr.rowsD es y fun r=>k r []
 | .one (.slk key off n c)=>match aQ ob key with
  | some (.arr rows size _ _)=>if size=es then pr.eqN c (pr.len rows) (k (pr.seg rows off n) [key]) else pr.fail
  | _=>pr.fail
 | .one (.sln key n)=>match aQ ob key with
  | some (.arn rows size _ _)=>if size=es then pr.eqN n (pr.len rows) (k rows [key]) else pr.fail
  | _=>pr.fail
 | _=>pr.fail
def pn (ob:di Δ N R M) (dst:Option Nat) (elem size bytes:Nat) (s:V3 Δ N) (new:R) (rd:List Nat) (k:K3 Δ N R M Ω):Ω :=
 pr.isNil new (k s [] rd) (pr.fits bytes (pr.len new) (e8 pr ob dst (.arr new size elem true) (fun key=>.one (.slk key none (pr.len new) (pr.len new))) fun v u rd'=>k v u (rd++rd')))
def ui (ob:di Δ N R M) (dst:Option Nat) (elem size bytes:Nat) (s:V3 Δ N) (new:R) (rd:List Nat) (k:K3 Δ N R M Ω):Ω:=match s with
 | .one .nil=>pn pr ob dst elem size bytes (.one .nil) new rd k
 | .one (.d y)=>pr.nilD y (pn pr ob dst elem size bytes (.one .nil) new rd k)
 | .one (.slk key none n c)=>match aQ ob key with
  | some (.arr rows size' elem' own)=>match own with
   | true=>if size'=size∧elem'=elem then pr.eqN c (pr.len rows) (pr.eqN n (pr.len rows) (pr.fits bytes (pr.addN n (pr.len new)) (k (.one (.slk key none (pr.addN n (pr.len new)) (pr.addN n (pr.len new)))) [(key,.arr (pr.app rows new) size elem true)] (rd++[key])))) else pr.fail
   | false=>pr.fail
  | _=>pr.fail
 | .one (.sln key n)=>match aQ ob key with
  | some (.arn rows size' elem' own)=>match own with
   | true=>if size'=size∧elem'=elem then pr.eqN n (pr.len rows) (pr.fits bytes (pr.addN n (pr.len new)) (k (.one (.sln key (pr.addN n (pr.len new)))) [(key,.arn (pr.app rows new) size elem true)] (rd++[key]))) else pr.fail
   | false=>pr.fail
  | _=>pr.fail
 | _=>pr.fail
def xJ (kd:Nat) (zs:List Value) (ob:di Δ N R M) (q:Nat) (key:Δ) (k:K3 Δ N R M Ω):Ω:=match aQ ob q with
 | some (.ml keys vals)=>pr.selK kd keys key (vals.map fun x=>k (.one x) [] [q])
 | some (.am m _ _)=>pr.find kd m key (fun j=>k (.one (.pb q j (pr.natN 0))) [] [q]) (match zs with
  | [z]=>k (.one (tH pr z)) [] [q]
  | _=>pr.fail)
 | _=>pr.fail
def D7 (kd:Nat) (agg ok:Bool) (zs:List Value) (ob:di Δ N R M) (x:V3 Δ N) (key:Δ) (k:K3 Δ N R M Ω):Ω :=
 let l9:=fun (m:M) (rd:List Nat)=>pr.look kd zs m key fun r f=>match vg agg ((cellsOf pr zs.length r).map .d) with
  | some v=>k (if ok then .tup [v,.one (.d f)] else v) [] rd
  | none=>pr.fail
 match x with
  | .one (.d y)=>pr.asM agg y fun m=>l9 m []
  | .one (.mk q)=>match aQ ob q with
   | some (.mp agg' m _)=>if agg==agg' then l9 m [q] else pr.fail
   | _=>pr.fail
  | _=>pr.fail
def Di:V3 Δ N→Bool | .agg _=>true | _=>false
def EL (kd:Nat) (agg:Bool) (ob:di Δ N R M) (x:V3 Δ N) (key:Δ) (v:V3 Δ N) (k:K3 Δ N R M Ω):Ω:=match x with
 | .one (.mk q)=>match aQ ob q with
  | some (.mp agg' m own)=>if (own&&agg==agg'&&Di v==agg)=true then (match v.cells with
   | none=>pr.fail
   | some cs=>oq pr ob cs fun ds us rd=>match us with
    | []=>pr.upd kd m key ds fun m'=>k (.one .undef) [(q,.mp agg m' true)] (q::rd)
    | _=>pr.fail) else pr.fail
  | _=>pr.fail
 | _=>pr.fail
def HS:L3 Δ N→Option Value
 | .i k n=>some (.int k n)
 | .b v=>some (.bool v)
 | _=>none
def yJ (kd:Nat) (ob:di Δ N R M) (q:Nat) (key:L3 Δ N) (v:V3 Δ N) (k:K3 Δ N R M Ω):Ω:=match aQ ob q with
 | some (.ml keys vals)=>match HS key,v with
  | some kv,.one x=>if (fu kd kv&&x.isDef)=true then (match cW kd kv keys 0 with
   | some none=>k (.one .undef) [(q,.ml (keys++[kv]) (vals++[x]))] [q]
   | _=>pr.fail) else pr.fail
  | _,_=>pr.fail
 | some (.am m size elem)=>match du pr key,v with
  | some y,.one (.pb q' j off)=>if q'=q then pr.eqN off (pr.natN 0) (pr.addK kd m y j fun m'=>k (.one .undef) [(q,.am m' size elem)] [q]) else pr.fail
  | _,_=>pr.fail
 | _=>pr.fail
def mmK (mx:Bool):Δ→List Δ→(Δ→Ω)→Ω
 | a,[],k=>k a
 | a,y::r,k=>pr.mm mx a y fun z=>mmK mx z r k
def Ik (P:Program) (op:BinOp) (t:Nat) (x y:V3 Δ N) (k:K3 Δ N R M Ω):Ω:=match x,y with
 | .one x,.one y=>if (bY P t).isSome=true then (match op,y,du pr x with
  | .eql,.nil,some a=>pr.nilE a (k (.one (.b true)) [] []) (k (.one (.b false)) [] [])
  | .neq,.nil,some a=>pr.nilE a (k (.one (.b false)) [] []) (k (.one (.b true)) [] [])
  | _,_,_=>pr.fail) else if HD P t=true then (match op,x,y with
  | .eql,.np,.np=>k (.one (.b true)) [] []
  | .neq,.np,.np=>k (.one (.b false)) [] []
  | .eql,.pb _ _ _,.np=>k (.one (.b false)) [] []
  | .neq,.pb _ _ _,.np=>k (.one (.b true)) [] []
  | _,_,_=>pr.fail) else match du pr x,du pr y with
  | some a,some b=>pr.bin op (Al P t) a b fun z=>k (.one (.d z)) [] []
  | _,_=>pr.fail
 | .agg xs,.agg ys=>match kc P 8 t,fW pr xs,fW pr ys with
  | some ks,some xs,some ys=>if dc P t=some true then (match op with
   | .eql=>pr.eqs ks false xs ys fun z=>k (.one (.d z)) [] []
   | .neq=>pr.eqs ks true xs ys fun z=>k (.one (.d z)) [] []
   | _=>pr.fail) else pr.fail
  | _,_,_=>pr.fail
 | _,_=>pr.fail
def ub (P:Program) (ob:di Δ N R M) (dst:Option Nat) (ρ:Operand→V3 Δ N) (c:Call) (k:K3 Δ N R M Ω):Ω:=match c.callee with
 | .builtin .len=>match c.args.toList with
  | [x]=>match c.argTypes.toList with
   | [t]=>match bY P t with
    | some _=>match ρ x with
     | .one (.slk _ _ n _)=>k (.one (.d (pr.natD n))) [] []
     | .one (.sln _ n)=>k (.one (.d (pr.natD n))) [] []
     | .one .nil=>k (.one (.i .i64 0)) [] []
     | .one (.d y)=>pr.lenD y fun z=>k (.one (.d z)) [] []
     | _=>pr.fail
    | none=>if Hg P t=true then (match io pr (ρ x) with
     | some y=>pr.lenS y fun z=>k (.one (.d z)) [] []
     | none=>pr.fail) else pr.fail
   | _=>pr.fail
  | _=>pr.fail
 | .builtin .cap=>match c.args.toList,c.argTypes.toList with
  | [x],[t]=>match ρ x with
   | .one .nil=>if (bY P t).isSome=true then k (.one (.i .i64 0)) [] [] else pr.fail
   | .one (.d y)=>if (bY P t).isSome=true then pr.nilD y (k (.one (.i .i64 0)) [] []) else pr.fail
   | _=>pr.fail
  | _,_=>pr.fail
 | .builtin .clear=>match c.args.toList,c.argTypes.toList with
  | [x],[t]=>match (bY P t).bind (co P) with
   | some zs=>if 0 < zs.length then (match ρ x with
    | .one .nil=>k (.tup []) [] []
    | .one (.d y)=>pr.nilD y (k (.tup []) [] [])
    | .one (.slk key off n c)=>match aQ ob key with
     | some (.arr rows size elem true)=>if size=zs.length then pr.eqN c (pr.len rows) (pr.eqN (match off with | none=>n | some o=>pr.addN o n) (pr.len rows) (k (.tup []) [(key,.arr (match off with | none=>pr.repl n (zs.map pr.lit) | some o=>pr.app (pr.seg rows none o) (pr.repl n (zs.map pr.lit))) size elem true)] [key])) else pr.fail
     | _=>pr.fail
    | _=>pr.fail) else pr.fail
   | none=>pr.fail
  | _,_=>pr.fail
 | .builtin .copy=>match c.args.toList,c.argTypes.toList with
  | [x,y],[t,t']=>match bY P t with
   | some e=>match bj P e with
    | some sz=>if t=t'∧0 < sz then EN pr sz ob (ρ y) fun new rd=>(match ρ x with
     | .one (.slk key none n c)=>match aQ ob key with
      | some (.arr rows size elem true)=>if size=sz then pr.eqN c (pr.len rows) (pr.eqN n (pr.len rows) (k (.one (.d (pr.natD (pr.minN n (pr.len new))))) [(key,.arr (pr.app (pr.seg new none n) (pr.seg rows (some (pr.len new)) n)) size elem true)] (rd++[key]))) else pr.fail
      | _=>pr.fail
     | _=>pr.fail) else pr.fail
    | none=>pr.fail
   | none=>pr.fail
  | _,_=>pr.fail
 | .builtin .min=>match ry pr ρ c.args.toList with
  | some (a::r)=>mmK pr false a r fun z=>k (.one (.d z)) [] []
  | _=>pr.fail
 | .builtin .max=>match ry pr ρ c.args.toList with
  | some (a::r)=>mmK pr true a r fun z=>k (.one (.d z)) [] []
  | _=>pr.fail
 | .builtin .append=>match c.args.toList,c.argTypes.toList with
  | [s,x],[t,t']=>match bY P t with
   | none=>pr.fail
   | some e=>match bj P e,gq P e,co P e with
    | some sz,some bs,some zs=>match re P t' with
     | some _=>match ρ s,io pr (ρ x) with
      | .one .nil,some y=>if 0 < sz∧zs.length=sz then pr.gap bs y fun n=>e8 pr ob dst (.arr (pr.repl n (zs.map pr.lit)) sz e true) (fun key=>.one (.slk key none n n)) k else pr.fail
      | .one (.d x),some y=>if 0 < sz∧zs.length=sz then pr.nilD x (pr.gap bs y fun n=>e8 pr ob dst (.arr (pr.repl n (zs.map pr.lit)) sz e true) (fun key=>.one (.slk key none n n)) k) else pr.fail
      | _,_=>pr.fail
     | none=>if t=t'∧0 < sz∧0 < bs∧zs.length=sz then EN pr sz ob (ρ x) fun new rd=>ui pr ob dst e sz bs (ρ s) new rd k else pr.fail
    | _,_,_=>pr.fail
  | _,_=>pr.fail
 | _=>pr.fail
def nr (P:Program) (ob:di Δ N R M) (dst:Option Nat) (ρ:Operand→V3 Δ N) (op:Op) (k:K3 Δ N R M Ω):Ω:=match op with
 | .move x=>k (ρ x) [] []
 | .assign x=>k (ρ x) [] []
 | .pick c a b=>match ρ c with
  | .one (.b true)=>k (ρ a) [] []
  | .one (.b false)=>k (ρ b) [] []
  | .one (.d y)=>pr.cond y (k (ρ a) [] []) (k (ρ b) [] [])
  | _=>pr.fail
 | .box elem x=>match (ρ x).cells with
  | some cs=>match dst with
   | none=>oq pr ob cs fun ds us rd=>k (.one (.dp ds 0)) us rd
   | some key=>match aQ ob key with
    | some (.am m size elem')=>match fW pr cs with
     | some ds=>if elem'=elem∧cs.length=size then k (.one (.pb key (pr.len (pr.mrows m)) (pr.natN 0))) [(key,.am (pr.mset m (pr.app (pr.mrows m) (pr.rows [ds]))) size elem)] [key] else pr.fail
     | none=>pr.fail
    | _=>e8 pr ob dst (.box cs elem) (fun key=>.one (.ptr key 0)) k
  | none=>pr.fail
 | .alloc elem=>match co P elem with
  | some zs=>e8 pr ob dst (.box (zs.map (tH pr)) elem) (fun key=>.one (.ptr key 0)) k
  | none=>pr.fail
 | .build t parts=>match co P t with
  | some zs=>if (dc P t==some true&&Dc P t)=true then (match A1 (jT P t) (zs.map (tH pr)) (parts.toList.map fun p=>(p.1,ρ p.2)) with
   | some cs=>k (.agg cs) [] []
   | none=>pr.fail) else pr.fail
  | none=>pr.fail
 | .buildSlice t len parts=>match bY P t with
  | none=>pr.fail
  | some e=>match bj P e,co P e with
   | some s,some zs=>if 0 < s∧zs.length=s∧len*s≤16777216 then yS pr ob s len (List.replicate len (zs.map pr.lit)) (parts.toList.map fun p=>(p.1,ρ p.2)) fun rows us rd =>
     match dst with
     | some _=>e8 pr ob dst (.arr (pr.rows rows) s e true) (fun key=>.one (.slk key none (pr.natN len) (pr.natN len))) fun v u rd'=>k v (us++u) (rd++rd')
     | none=>k (.one (.d (pr.slD s (pr.rows rows)))) us rd else pr.fail
   | _,_=>pr.fail
 | .load t a=>match dc P t,bj P t with
  | some g,some s=>zA pr g s ob (ρ a) k
  | _,_=>pr.fail
 | .store t a x=>match (ρ x).cells with
  | some cs=>if (bj P t==some cs.length)=true then xf pr ob (ρ a) cs k else pr.fail
  | none=>pr.fail
 | .nilCheck x=>match ρ x with
  | .one (.ptr ..)=>k (ρ x) [] []
  | .one (.pa ..)=>k (ρ x) [] []
  | .one (.dp ..)=>k (ρ x) [] []
  | .one (.pb ..)=>k (ρ x) [] []
  | .one (.px ..)=>k (ρ x) [] []
  | .one (.d y)=>pr.isPtr y (k (ρ x) [] [])
  | _=>pr.fail
 | .binOp op t x y _=>Ik pr P op t (ρ x) (ρ y) k
 | .unOp op _ x=>match op,ρ x with
  | .not,.one (.b v)=>k (.one (.b !v)) [] []
  | .not,.one (.d y)=>pr.un .not y fun z=>k (.one (.d z)) [] []
  | .neg,v=>match io pr v with
   | some y=>pr.un .neg y fun z=>k (.one (.d z)) [] []
   | none=>pr.fail
  | _,_=>pr.fail
 | .makeFunc fn first captured=>match fn,gK (first.toList.map ρ),gK (captured.toList.map ρ) with
  | .func f,some [],some caps=>if f < 2000000 then k (.one (.fn f caps)) [] [] else pr.fail
  | .func f,some (c::cs),some []=>k (.one (.fn (f+2000000) (c::cs))) [] []
  | _,_,_=>pr.fail
 | .makeInterface t x=>if FT P t=true then (match dc P t,ρ x with
  | some false,.one y=>match du pr y with
   | some z=>k (.one (.d (pr.ifD t false [z]))) [] []
   | none=>pr.fail
  | some true,.agg ys=>match fW pr ys with
   | some zs=>k (.one (.d (pr.ifD t true zs))) [] []
   | none=>pr.fail
  | _,_=>pr.fail) else pr.fail
 | .makeSlice t l c=>match bY P t with
  | none=>pr.fail
  | some e=>match bj P e,co P e,gq P e with
   | some s,some zs,some bs=>match io pr (ρ l),io pr (ρ c) with
    | some n,some m=>if 0 < s∧zs.length=s then pr.mkN bs n m fun n=>e8 pr ob dst (.arr (pr.repl n (zs.map pr.lit)) s e true) (fun key=>.one (.slk key none n n)) k else pr.fail
    | _,_=>pr.fail
   | _,_,_=>pr.fail
 | .slice t x lo hi mx=>match bY P t,mx with
  | some e,none=>match rx pr ρ lo,rx pr ρ hi,bj P e with
   | some l,some h,some s=>Ih pr s ob (ρ x) l h k
   | _,_,_=>pr.fail
  | _,_=>pr.fail
 | .fieldAddr s x f=>match jo P s f with
  | some p=>match ρ x with
   | .one (.d y)=>match bj P s with
    | some n=>pr.ptrW n y fun w=>l7 pr (kq pr p.1 (.one (.dp (cellsOf pr n w) 0))) [] k
    | none=>pr.fail
   | v=>l7 pr (kq pr p.1 v) [] k
  | none=>pr.fail
 | .field s x f=>match jo P s f,ρ x with
  | some p,.agg cs=>l7 pr (ef p.2.2 p.2.1 p.1 cs) [] k
  | _,_=>pr.fail
 | .indexAddr t x ix=>match ρ ix with
  | .one i=>match ug P t with
   | some p=>match bj P p.2 with
    | some s=>tO pr (some p.1) s ob (ρ x) i k
    | none=>pr.fail
   | none=>match bY P t with
    | some e=>match bj P e with
     | some s=>tO pr none s ob (ρ x) i k
     | none=>pr.fail
    | none=>pr.fail
  | _=>pr.fail
 | .index t x ix=>match ug P t with
  | some p=>match bj P p.2,dc P p.2,ρ x with
   | some s,some g,.agg cs=>match ρ ix with
    | .one (.i _ z)=>if 0≤z∧z < p.1 then l7 pr (ef g s (z.toNat*s) cs) [] k else pr.fail
    | .one (.d y)=>match fW pr cs with
     | some ds=>if ds.length=p.1*s then pr.inx y (pr.natN p.1) fun i=>l7 pr (vg g ((List.range s).map fun q=>.d (pr.selN i ((List.range p.1).map fun j=>ds.getD (j*s+q) (pr.lit .nilFunc))))) [] k else pr.fail
     | none=>pr.selI p.1 y ((List.range p.1).map fun j=>l7 pr (ef g s (j*s) cs) [] k)
    | _=>pr.fail
   | _,_,_=>pr.fail
  | none=>pr.fail
 | .convert src dst x=>match re P src,re P dst,io pr (ρ x) with
  | some _,some kd,some y=>pr.cvI kd y fun z=>k (.one (.d z)) [] []
  | _,_,_=>pr.fail
 | .makeMap t none=>match mE P t,(et P t).bind (dc P) with
  | some _,some g=>match (et P t).bind fun e=>xH P e g with
   | some (.mp ..)=>e8 pr ob dst (.mp g pr.emp true) (fun key=>.one (.mk key)) k
   | some (.ml ..)=>e8 pr ob dst (.ml [] []) (fun key=>.one (.mq key)) k
   | some (.am _ _ s t')=>e8 pr ob dst (.am pr.emp s t') (fun key=>.one (.mq key)) k
   | _=>pr.fail
  | _,_=>pr.fail
 | .lookup t x ix ok=>match mE P t,et P t with
  | some kd,some e=>match dc P e,co P e,io pr (ρ ix) with
   | some g,some zs,some key=>if nc P e g=true then (match ρ x with
    | .one (.mq q)=>if (!ok&&!g)=true then xJ pr kd zs ob q key k else pr.fail
    | v=>D7 pr kd g ok zs ob v key k) else pr.fail
   | _,_,_=>pr.fail
  | _,_=>pr.fail
 | .mapUpdate t m q v=>match mE P t,(et P t).bind (dc P) with
  | some kd,some g=>match ρ m with
   | .one (.mq r)=>match ρ q with
    | .one x=>yJ pr kd ob r x (ρ v) k
    | _=>pr.fail
   | u=>match io pr (ρ q) with
    | some key=>EL pr kd g ob u key (ρ v) k
    | none=>pr.fail
  | _,_=>pr.fail
 | .insert t m q v=>match mE P t,(et P t).bind (dc P) with
  | some kd,some g=>match ρ m with
   | .one (.mq r)=>match ρ q with
    | .one x=>yJ pr kd ob r x (ρ v) k
    | _=>pr.fail
   | u=>match io pr (ρ q) with
    | some key=>EL pr kd g ob u key (ρ v) k
    | none=>pr.fail
  | _,_=>pr.fail
 | .extract t i=>match ρ t with
  | .tup vs=>l7 pr vs[i]? [] k
  | _=>pr.fail
 | .call c=>ub pr P ob dst ρ c k
 | _=>pr.fail
end
end
section
section
variable {Δ N R W M E Ω:Type} (pr:Pr Δ N R W M E Ω)
def Cn (a b:Value):Bool:=BU 0 a b==some true||BU 1 a b==some true||BU 2 a b==some true
def ni:List Value→List Value→Bool
 | [],[]=>true
 | a::as,b::bs=>Cn a b&&ni as bs
 | _,_=>false
mutual
def gE:L3 Unit Unit→L3 Δ N→Option (List (Y Δ N R M))
 | .d _,x=>match du pr x with
  | some y=>some [.d y]
  | none=>none
 | .b v,.b v'=>if v=v' then some [] else none
 | .i k n,.i k' n'=>if k=k'∧n=n' then some [] else none
 | .nil,.nil=>some []
 | .dp r o,.dp r' o'=>if r.length=r'.length∧o=o' then some (r'.map .d) else none
 | .fn f cs,.fn f' cs'=>if f=f' then mM cs cs' else none
 | .slk k none _ _,.slk k' none n c=>if k=k' then some [.n n,.n c] else none
 | .slk k (some _) _ _,.slk k' (some o) n c=>if k=k' then some [.n o,.n n,.n c] else none
 | .slk k (some _) _ _,.slk k' none n c=>if k=k' then some [.n (pr.natN 0),.n n,.n c] else none
 | .pa k _ o _,.pa k' i o' c=>if k=k'∧o=o' then some [.n i,.n c] else none
 | .ptr k o,.ptr k' o'=>if k=k'∧o=o' then some [] else none
 | .mk k,.mk k'=>if k=k' then some [] else none
 | .mq k,.mq k'=>if k=k' then some [] else none
 | .pb k _ _,.pb k' j o=>if k=k' then some [.n j,.n o] else none
 | .px k b n es _ o,.px k' b' n' es' i o'=>if k=k'∧b=b'∧n=n'∧es=es'∧o=o' then some [.n i] else none
 | .np,.np=>some []
 | .sln k _,.sln k' n=>if k=k' then some [.n n] else none
 | .undef,.undef=>some []
 | _,_=>none
def mM:List (L3 Unit Unit)→List (L3 Δ N)→Option (List (Y Δ N R M))
 | [],[]=>some []
 | x::xs,y::ys=>match gE x y,mM xs ys with
  | some a,some b=>some (a++b)
  | _,_=>none
 | _,_=>none
end
mutual
def oQ:V3 Unit Unit→V3 Δ N→Option (List (Y Δ N R M))
 | .one x,.one y=>gE pr x y
 | .agg xs,.agg ys=>mM pr xs ys
 | .tup xs,.tup ys=>sv xs ys
 | _,_=>none
def sv:List (V3 Unit Unit)→List (V3 Δ N)→Option (List (Y Δ N R M))
 | [],[]=>some []
 | x::xs,y::ys=>match oQ x y,sv xs ys with
  | some a,some b=>some (a++b)
  | _,_=>none
 | _,_=>none
end
def I7:O3 Unit Unit Unit Unit→O3 Δ N R M→Option (List (Y Δ N R M))
 | .box cs e,.box cs' e'=>if e=e' then mM pr cs cs' else none
 | .arr _ s e o,.arr rows s' e' o'=>if s=s'∧e=e'∧o=o' then some [.r rows] else none
 | .mp g _ o,.mp g' m o'=>if g=g'∧o=o' then some [.m m] else none
 | .ml ks cs,.ml ks' cs'=>if ni ks ks'=true then mM pr cs cs' else none
 | .am _ s e,.am m s' e'=>if s=s'∧e=e' then some [.m m] else none
 | .arn _ s e o,.arn rows s' e' o'=>if s=s'∧e=e'∧o=o' then some [.r rows] else none
 | _,_=>none
def I6 (s:V3 Unit Unit) (x:V3 Δ N):Option (List (Y Δ N R M)):=match s with
 | .one .undef=>some []
 | s=>oQ pr s x
def qz (env:List (Nat×V3 Δ N)):List (Nat×V3 Unit Unit)→Option (List (Y Δ N R M))
 | []=>some []
 | (t,v)::r=>match I6 pr v (cZ env t),qz env r with
  | some a,some b=>some (a++b)
  | _,_=>none
def zY (ob:di Δ N R M):di Unit Unit Unit Unit→Option (List (Y Δ N R M))
 | []=>some []
 | (k,o)::r=>match aQ ob k with
  | some o'=>match I7 pr o o',zY ob r with
   | some a,some b=>some (a++b)
   | _,_=>none
  | none=>none
def Ci (sk:Sk):Bool:=(sk.env.all fun p=>p.2.keysOf.all fun k=>(sk.ob.map (·.1)).contains k)&&(sk.ob.all fun p=>p.2.keysOf.all fun k=>(sk.ob.map (·.1)).contains k)
def FE:Ex→Ex→Bool
 | .normal,.normal=>true
 | .ret,.ret=>true
 | .exit i,.exit j=>i==j
 | _,_=>false
def xz:Option Ex→Option Ex→Bool
 | none,none=>true
 | some a,some b=>FE a b
 | _,_=>false
def u5 (pk:List Nat) (sk:Sk) (st:S3 Δ N R M):Option (List (Y Δ N R M)) :=
 if (Ci sk&&pk.all (sk.ob.map (·.1)).contains&&xz sk.pend st.pend&&sk.ys.all st.ys.contains)=true then
  match qz pr st.env sk.env,zY pr st.ob sk.ob with
  | some a,some b=>some (a++b)
  | _,_=>none
 else none
def lL (pk:List Nat) (st:S3 Δ N R M):List Sk→Nat→Option (Nat×List (Y Δ N R M))
 | [],_=>none
 | sk::r,j=>match u5 pr pk sk st with
  | some ys=>some (j,ys)
  | none=>lL pk st r (j+1)
def sw (pk:List Nat) (e:Ex) (st:S3 Δ N R M):List (Ex×Sk)→Nat→Option (Nat×List (Y Δ N R M))
 | [],_=>none
 | (x,sk)::r,j=>if FE x e=true then (match u5 pr pk sk st with
  | some ys=>some (j,ys)
  | none=>sw pk e st r (j+1)) else sw pk e st r (j+1)
mutual
def bu (e:E):L3 Unit Unit→Nat→L3 Δ N×Nat
 | .d _,j=>(.d (pr.ld e j),j+1)
 | .b v,j=>(.b v,j)
 | .i k n,j=>(.i k n,j)
 | .nil,j=>(.nil,j)
 | .dp r o,j=>(.dp ((List.range r.length).map fun i=>pr.ld e (j+i)) o,j+r.length)
 | .fn f cs,j=>(.fn f (dg e cs j).1,(dg e cs j).2)
 | .slk k none _ _,j=>(.slk k none (pr.ln e j) (pr.ln e (j+1)),j+2)
 | .slk k (some _) _ _,j=>(.slk k (some (pr.ln e j)) (pr.ln e (j+1)) (pr.ln e (j+2)),j+3)
 | .pa k _ o _,j=>(.pa k (pr.ln e j) o (pr.ln e (j+1)),j+2)
 | .ptr k o,j=>(.ptr k o,j)
 | .mk k,j=>(.mk k,j)
 | .mq k,j=>(.mq k,j)
 | .pb k _ _,j=>(.pb k (pr.ln e j) (pr.ln e (j+1)),j+2)
 | .px k b n es _ o,j=>(.px k b n es (pr.ln e j) o,j+1)
 | .np,j=>(.np,j)
 | .sln k _,j=>(.sln k (pr.ln e j),j+1)
 | .undef,j=>(.undef,j)
def dg (e:E):List (L3 Unit Unit)→Nat→List (L3 Δ N)×Nat
 | [],j=>([],j)
 | x::xs,j=>((bu e x j).1::(dg e xs (bu e x j).2).1,(dg e xs (bu e x j).2).2)
end
mutual
def d9 (e:E):V3 Unit Unit→Nat→V3 Δ N×Nat
 | .one x,j=>(.one (bu pr e x j).1,(bu pr e x j).2)
 | .agg xs,j=>(.agg (dg pr e xs j).1,(dg pr e xs j).2)
 | .tup xs,j=>(.tup (fQ e xs j).1,(fQ e xs j).2)
def fQ (e:E):List (V3 Unit Unit)→Nat→List (V3 Δ N)×Nat
 | [],j=>([],j)
 | x::xs,j=>((d9 e x j).1::(fQ e xs (d9 e x j).2).1,(fQ e xs (d9 e x j).2).2)
end
def e9 (e:E):O3 Unit Unit Unit Unit→Nat→O3 Δ N R M×Nat
 | .box cs el,j=>(.box (dg pr e cs j).1 el,(dg pr e cs j).2)
 | .arr _ s el o,j=>(.arr (pr.lr e j) s el o,j+1)
 | .mp g _ o,j=>(.mp g (pr.lm e j) o,j+1)
 | .ml ks cs,j=>(.ml ks (dg pr e cs j).1,(dg pr e cs j).2)
 | .am _ s el,j=>(.am (pr.lm e j) s el,j+1)
 | .arn _ s el o,j=>(.arn (pr.lr e j) s el o,j+1)
def dU (e:E):List (Nat×V3 Unit Unit)→Nat→List (Nat×V3 Δ N)×Nat
 | [],j=>([],j)
 | (t,v)::r,j=>((t,(d9 pr e v j).1)::(dU e r (d9 pr e v j).2).1,(dU e r (d9 pr e v j).2).2)
def i5 (e:E):di Unit Unit Unit Unit→Nat→di Δ N R M×Nat
 | [],j=>([],j)
 | (k,o)::r,j=>((k,(e9 pr e o j).1)::(i5 e r (e9 pr e o j).2).1,(i5 e r (e9 pr e o j).2).2)
def ej (e:E) (sk:Sk):S3 Δ N R M :=
 ⟨(dU pr e sk.env 0).1,(i5 pr e sk.ob (dU pr e sk.env 0).2).1,sk.ys,sk.pend⟩
def o7 (P:Program) (ob:di Δ N R M) (env:List (Nat×V3 Δ N)):List ResultVar→(List (V3 Δ N)→Ω)→Ω
 | [],k=>k []
 | .tmp t::r,k=>o7 P ob env r fun vs=>k (cZ env t::vs)
 | .cell a T::r,k=>match dc P T,bj P T with
  | some g,some s=>zA pr g s ob (cZ env a) fun v _ _=>o7 P ob env r fun vs=>k (v::vs)
  | _,_=>pr.fail
def rcK (ob:di Δ N R M):RK→L3 Δ N→(Y Δ N R M→List Nat→Ω)→Ω
 | .d,.slk key none n c,k=>match aQ ob key with
  | some (.arr rows size _ _)=>pr.eqN c (pr.len rows) (pr.leN n (pr.len rows) (k (.d (pr.slD size (pr.seg rows none n))) [key]))
  | _=>pr.fail
 | .own s e,.slk key none n c,k=>match aQ ob key with
  | some (.arr rows size elem true)=>if s=size∧e=elem then pr.eqN c (pr.len rows) (pr.leN n (pr.len rows) (k (.r (pr.seg rows none n)) [key])) else pr.fail
  | _=>pr.fail
 | .d,.mk key,k=>match aQ ob key with
  | some (.mp agg m _)=>k (.d (pr.mpD agg m)) [key]
  | _=>pr.fail
 | .om g,.mk key,k=>match aQ ob key with
  | some (.mp agg m true)=>if g=agg then k (.m m) [key] else pr.fail
  | _=>pr.fail
 | .d,x,k=>match du pr x with
  | some y=>k (.d y) []
  | none=>pr.fail
 | _,_,_=>pr.fail
def CE (ob:di Δ N R M):List RK→List (L3 Δ N)→(List (Y Δ N R M)→List Nat→Ω)→Ω
 | [],[],k=>k [] []
 | r::rs,x::xs,k=>rcK pr ob r x fun y u=>CE ob rs xs fun ys us=>k (y::ys) (u++us)
 | _,_,_=>pr.fail
def ii (ob:di Δ N R M):RS→List (V3 Δ N)→(List (Y Δ N R M)→List Nat→Ω)→Ω
 | [],[],k=>k [] []
 | (false,[r])::rs,.one x::vs,k=>rcK pr ob r x fun y u=>ii ob rs vs fun ys us=>k (y::ys) (u++us)
 | (true,r)::rs,.agg xs::vs,k=>CE pr ob r xs fun y u=>ii ob rs vs fun ys us=>k (y++ys) (u++us)
 | _,_,_=>pr.fail
def Gu (ob:di Δ N R M):RK→L3 Δ N→Bool
 | .d,.undef=>false
 | .d,_=>true
 | .own s e,.slk key none _ _=>match aQ ob key with
  | some (.arr _ size elem own)=>own&&s==size&&e==elem
  | _=>false
 | .om g,.mk key=>match aQ ob key with
  | some (.mp agg _ own)=>own&&g==agg
  | _=>false
 | _,_=>false
def tp (ob:di Δ N R M):List RK→List (L3 Δ N)→Bool
 | [],[]=>true
 | r::rs,x::xs=>Gu ob r x&&tp ob rs xs
 | _,_=>false
def lx (ob:di Δ N R M):RS→List (V3 Δ N)→Bool
 | [],[]=>true
 | (false,[r])::rs,.one x::vs=>Gu ob r x&&lx ob rs vs
 | (true,r)::rs,.agg xs::vs=>tp ob r xs&&lx ob rs vs
 | _,_=>false
def RK.isD:RK→Bool | .d=>true | _=>false
def G5 (rs:RS):Bool:=rs.all fun p=>p.2.all RK.isD
def pI (ob:di Δ N R M) (vs:List (V3 Δ N)):List RS→Nat→Option (Nat×RS)
 | [],_=>none
 | x::r,j=>if lx ob x vs=true then some (j,x) else pI ob vs r (j+1)
def GF (ob:di Δ N R M):L3 Δ N→RK
 | .slk key none _ _=>match aQ ob key with
  | some (.arr _ size elem true)=>.own size elem
  | _=>.d
 | .mk key=>match aQ ob key with
  | some (.mp agg _ true)=>.om agg
  | _=>.d
 | _=>.d
def GE (ob:di Δ N R M):V3 Δ N→Bool×List RK
 | .one x=>(false,[GF ob x])
 | .agg xs=>(true,xs.map (GF ob))
 | .tup _=>(false,[])
def uK (ob:di Δ N R M):List (V3 Δ N)→(List (Y Δ N R M)→Ω)→Ω
 | [],k=>k []
 | .one x::vs,k=>dt pr ob 4 x fun y _=>uK ob vs fun ys=>k (.d y::ys)
 | .agg xs::vs,k=>nZ (dt pr ob 4) xs fun y _=>uK ob vs fun ys=>k (y.map .d++ys)
 | .tup _::_,_=>pr.fail
def gX:List Nat→Bool
 | []=>true
 | x::xs=>!xs.contains x&&gX xs
def mA (e:E) (base:Nat):RK→Nat→Nat→L3 Δ N×di Δ N R M×Nat
 | .d,j,n=>(.d (pr.ld e j),[],n)
 | .own size elem,j,n=>(.slk (base+n) none (pr.len (pr.lr e j)) (pr.len (pr.lr e j)),[(base+n,.arr (pr.lr e j) size elem true)],n+1)
 | .om agg,j,n=>(.mk (base+n),[(base+n,.mp agg (pr.lm e j) true)],n+1)
def dD (e:E) (base:Nat):List RK→Nat→Nat→List (L3 Δ N)×di Δ N R M×Nat
 | [],_,n=>([],[],n)
 | x::xs,j,n=>((mA pr e base x j n).1::(dD e base xs (j+1) (mA pr e base x j n).2.2).1,(mA pr e base x j n).2.1++(dD e base xs (j+1) (mA pr e base x j n).2.2).2.1,(dD e base xs (j+1) (mA pr e base x j n).2.2).2.2)
def B8 (g:Bool) (xs:List (L3 Δ N)):V3 Δ N:=match g,xs with
 | false,[x]=>.one x
 | _,xs=>.agg xs
def cd (e:E) (base:Nat):RS→Nat→Nat→List (V3 Δ N)×di Δ N R M×Nat
 | [],_,n=>([],[],n)
 | (g,cs)::r,j,n=>(B8 g (dD pr e base cs j n).1::(cd e base r (j+cs.length) (dD pr e base cs j n).2.2).1,(dD pr e base cs j n).2.1++(cd e base r (j+cs.length) (dD pr e base cs j n).2.2).2.1,(cd e base r (j+cs.length) (dD pr e base cs j n).2.2).2.2)
def er:List (V3 Δ N)→V3 Δ N
 | [x]=>x
 | xs=>.tup xs
def mX (ob:di Δ N R M):di Δ N R M→Bool
 | []=>true
 | (k,_)::r=>(match aQ ob k with | none=>true | some _=>false)&&mX ob r
def mT:List Sh→List Δ→Option (List (V3 Δ N))
 | [],[]=>some []
 | .one::r,x::xs=>match mT r xs with
  | some vs=>some (.one (.d x)::vs)
  | none=>none
 | .agg n::r,xs=>if (xs.take n).length=n then (match mT r (xs.drop n) with
  | some vs=>some (.agg ((xs.take n).map .d)::vs)
  | none=>none) else none
 | .ptr n::r,xs=>if (xs.take n).length=n then (match mT r (xs.drop n) with
  | some vs=>some (.one (.dp (xs.take n) 0)::vs)
  | none=>none) else none
 | _,_=>none
def ic (ob:di Δ N R M):List Sh→List (V3 Δ N)→(List Δ→List Nat→Ω)→Ω
 | [],[],k=>k [] []
 | .one::r,.one x::vs,k=>dt pr ob 4 x fun d rd=>ic ob r vs fun ds rd'=>k (d::ds) (rd++rd')
 | .agg n::r,.agg xs::vs,k=>if xs.length=n then nZ (dt pr ob 4) xs fun d rd=>ic ob r vs fun ds rd'=>k (d++ds) (rd++rd') else pr.fail
 | .ptr n::r,.one (.dp row o)::vs,k=>if row.length=n∧o=0 then ic ob r vs fun ds rd'=>k (row++ds) rd' else pr.fail
 | .ptr n::r,.one (.d x)::vs,k=>pr.ptrW n x fun w=>ic ob r vs fun ds rd'=>k (cellsOf pr n w++ds) rd'
 | .ptr n::r,.one (.ptr key o)::vs,k=>match aQ ob key with
  | some (.box cells _)=>if cells.length=n∧o=0 then nZ (dt pr ob 3) cells fun d rd=>ic ob r vs fun ds rd'=>k (d++ds) (key::rd++rd') else pr.fail
  | _=>pr.fail
 | .ptr n::r,.one (.pa key i o c)::vs,k=>match aQ ob key with
  | some (.arr rows size _ _)=>if size=n∧o=0 then pr.eqN c (pr.len rows) (pr.rowAt size rows i fun w=>ic ob r vs fun ds rd'=>k (cellsOf pr size w++ds) (key::rd')) else pr.fail
  | _=>pr.fail
 | _,_,_=>pr.fail
def L3.isD:L3 Δ N→Bool
 | .d _ | .b _ | .i _ _ | .nil | .dp _ _=>true
 | _=>false
def L3.isF:L3 Δ N→Bool
 | .fn _ caps=>caps.all L3.isD
 | x=>x.isD
def V3.isD:V3 Δ N→Bool
 | .one l=>l.isF
 | .agg ls=>ls.all L3.isD
 | .tup _=>false
structure Ms where
 args:List (V3 Unit Unit)
 obs:List (Nat×O3 Unit Unit Unit Unit)
 res:Option (Bool×Nat)
 ref:Option Nat
 wn:Bool
structure Cf3 where
 inl:Nat→Option Bd
 draw:Nat→Nat→Array Oper→List (Nat×Nat)
 lp:Nat→Nat→Nat→List (Sk×List Sk×List (Ex×Sk))
 jn:Nat→Nat→Nat→Option (List (Sk×List (Ex×Sk)))
 gj:Nat→Nat→Nat→Option (Nat×List (Sk×List (Ex×Sk)))
 ash:Nat→Option (List Sh)
 rsk:Nat→List RS
 iv:String→Nat
 ms:Nat→Option Ms
 sp:Nat→Option (Nat×Nat×Nat)
 cb:Nat→Nat→Bool
 fz:Nat→Nat→Nat→List (Option Nat×Nat)
 ar:Nat→Nat→Option Nat
 nz:Nat→Nat→Nat→List ((Option Nat×Nat)×(Nat×Nat×Nat))
def fn3:V3 Δ N→Option (Nat×List (L3 Δ N))
 | .one (.fn f caps)=>if f < 2000000 then some (f,caps) else none
 | _=>none
def xN (e:E) (p:RK×Nat):Y Δ N R M:=match p.1 with
 | .d=>.d (pr.ld e p.2)
 | .own _ _=>.r (pr.lr e p.2)
 | .om _=>.m (pr.lm e p.2)
def Aj (cfg:Cf3) (ob:di Δ N R M) (dst:Option Nat) (f:Nat) (args:List (V3 Δ N)) (caps:List (L3 Δ N)) (k:K3 Δ N R M Ω):Ω:=match cfg.ash f with
 | none=>pr.fail
 | some sh=>ic pr ob sh (args++caps.map .one) fun ds rd=>pr.bnd (pr.call f ds) ((cfg.rsk f).map fun rs=>fun e =>
   let vs:=(cd pr e (dF dst) rs 0 0).1
   let us:=(cd pr e (dF dst) rs 0 0).2.1
   if gX (us.map (·.1))=true∧mX ob us=true then
    (if (args.all V3.isD&&caps.all L3.isD)=true then k (er vs) us (rd++us.map (·.1)) else pr.lits ((rs.flatMap (·.2)).zipIdx.map (xN pr e)) (k (er vs) us (rd++us.map (·.1))))
   else pr.fail)
def Hh:List (V3 Δ N)→Option (List Sh)
 | []=>some []
 | .one (.dp _ _)::_=>none
 | .one (.ptr _ _)::_=>none
 | .one (.pa _ _ _ _)::_=>none
 | .one _::r=>match Hh r with
  | some s=>some (.one::s)
  | none=>none
 | .agg xs::r=>match Hh r with
  | some s=>some (.agg xs.length::s)
  | none=>none
 | .tup _::_=>none
def Fa (cfg:Cf3) (P:Program) (ob:di Δ N R M) (dst:Option Nat) (ρ:Operand→V3 Δ N) (op:Op) (k:K3 Δ N R M Ω):Ω:=match gf op with
 | some (fo,args)=>match ρ fo with
  | .one (.fn f caps)=>if f < 2000000 then Aj pr cfg ob dst f (args.map ρ) caps k else Aj pr cfg ob dst (f - 2000000) (caps.map .one++args.map ρ) [] k
  | .one (.d x)=>match Hh (args.map ρ) with
   | some sh=>ic pr ob sh (args.map ρ) fun ds rd=>pr.bnd (pr.callD x sh ds) [fun e=>if (args.map ρ).all V3.isD=true then k (.one (.d (pr.ld e 0))) [] rd else pr.lits [.d (pr.ld e 0)] (k (.one (.d (pr.ld e 0))) [] rd)]
   | none=>pr.fail
  | _=>pr.fail
 | none=>match qp op with
  | some (recv,name)=>match ρ recv with
   | .one (.d x)=>pr.bnd (pr.callD x [.met name (cfg.iv name)] []) [fun e =>
    let vs:=(cd pr e (dF dst) (List.replicate (cfg.iv name) (false,[.d])) 0 0).1
    let us:=(cd pr e (dF dst) (List.replicate (cfg.iv name) (false,[.d])) 0 0).2.1
    if gX (us.map (·.1))=true∧mX ob us=true then k (er vs) us (us.map (·.1)) else pr.fail]
   | _=>pr.fail
  | none=>nr pr P ob dst ρ op k
mutual
def bW (ρ:Nat→Nat):L3 Unit Unit→L3 Δ N→Option (List Δ)
 | .d _,x=>match du pr x with
  | some y=>some [y]
  | none=>none
 | .fn f cs,.fn f' cs'=>if f=f' then fp ρ cs cs' else none
 | .mk c,.mk k=>if ρ c=k then some [] else none
 | .ptr c o,.ptr k o'=>if ρ c=k∧o=o' then some [] else none
 | .dp r o,.dp row o'=>if r.length=row.length∧o=o' then some row else none
 | .mq c,.mq k=>if ρ c=k then some [] else none
 | .slk c none _ _,.slk k none n c'=>if ρ c=k then some [pr.natD n,pr.natD c'] else none
 | _,_=>none
def fp (ρ:Nat→Nat):List (L3 Unit Unit)→List (L3 Δ N)→Option (List Δ)
 | [],[]=>some []
 | s::ss,x::xs=>match bW ρ s x,fp ρ ss xs with
  | some a,some b=>some (a++b)
  | _,_=>none
 | _,_=>none
end
def jz (ρ:Nat→Nat):V3 Unit Unit→V3 Δ N→Option (List Δ)
 | .one (.slk c none _ _),.one (.slk k none _ _)=>if ρ c=k then some [] else none
 | .one s,.one x=>bW pr ρ s x
 | .agg ss,.agg xs=>fp pr ρ ss xs
 | _,_=>none
def iD (ρ:Nat→Nat):List (V3 Unit Unit)→List (V3 Δ N)→Option (List Δ)
 | [],[]=>some []
 | s::ss,x::xs=>match jz pr ρ s x,iD ρ ss xs with
  | some a,some b=>some (a++b)
  | _,_=>none
 | _,_=>none
def cD (ρ:Nat→Nat) (ob:di Δ N R M) (wn:Bool):List (Nat×O3 Unit Unit Unit Unit)→Option (List Δ)
 | []=>some []
 | (c,.box cells e)::r=>match aQ ob (ρ c) with
  | some (.box cells' e')=>if e=e' then (match fp pr ρ cells cells',cD ρ ob wn r with
   | some a,some b=>some (a++b)
   | _,_=>none) else none
  | _=>none
 | (c,.mp g _ true)::r=>match aQ ob (ρ c) with
  | some (.mp g' m true)=>if g=g' then (match cD ρ ob wn r with
   | some b=>some (pr.mpD g m::b)
   | none=>none) else none
  | _=>none
 | (c,.am _ size elem)::r=>match aQ ob (ρ c) with
  | some (.am m size' elem')=>if size=size'∧elem=elem' then (match cD ρ ob wn r with
   | some b=>some (pr.mpD true m::b)
   | none=>none) else none
  | _=>none
 | (c,.arr _ size elem _)::r=>match aQ ob (ρ c) with
  | some (.arr rows size' elem' own)=>if size=size'∧elem=elem'∧own=wn then (match cD ρ ob wn r with
   | some b=>some (pr.slD size rows::b)
   | none=>none) else none
  | _=>none
 | _=>none
mutual
def fc (dn:Δ→N) (ρ:Nat→Nat):L3 Unit Unit→List Δ→Option (L3 Δ N×List Δ)
 | .d _,x::xs=>some (.d x,xs)
 | .fn f cs,xs=>match gp dn ρ cs xs with
  | some (ys,r)=>some (.fn f ys,r)
  | none=>none
 | .mk c,xs=>some (.mk (ρ c),xs)
 | .mq c,xs=>some (.mq (ρ c),xs)
 | .slk c none _ _,x::y::xs=>some (.slk (ρ c) none (dn x) (dn y),xs)
 | .ptr c o,xs=>some (.ptr (ρ c) o,xs)
 | .dp r o,xs=>if (xs.take r.length).length=r.length then some (.dp (xs.take r.length) o,xs.drop r.length) else none
 | _,_=>none
def gp (dn:Δ→N) (ρ:Nat→Nat):List (L3 Unit Unit)→List Δ→Option (List (L3 Δ N)×List Δ)
 | [],xs=>some ([],xs)
 | s::ss,xs=>match fc dn ρ s xs with
  | some (y,r)=>match gp dn ρ ss r with
   | some (ys,r')=>some (y::ys,r')
   | none=>none
  | none=>none
end
def iG (ρ:Nat→Nat) (us:di Δ N R M):V3 Unit Unit→List Δ→Option (V3 Δ N×List Δ)
 | .one (.slk c none _ _),xs=>match aQ us (ρ c) with
  | some (.arr rows _ _ _)=>some (.one (.slk (ρ c) none (pr.len rows) (pr.len rows)),xs)
  | _=>none
 | .one s,xs=>match fc pr.dN ρ s xs with
  | some (y,r)=>some (.one y,r)
  | none=>none
 | .agg ss,xs=>match gp pr.dN ρ ss xs with
  | some (ys,r)=>some (.agg ys,r)
  | none=>none
 | _,_=>none
def iz (ρ:Nat→Nat) (us:di Δ N R M):List (V3 Unit Unit)→List Δ→Option (List (V3 Δ N)×List Δ)
 | [],xs=>some ([],xs)
 | s::ss,xs=>match iG pr ρ us s xs with
  | some (y,r)=>match iz ρ us ss r with
   | some (ys,r')=>some (y::ys,r')
   | none=>none
  | none=>none
def fI (ρ:Nat→Nat) (wn:Bool):List (Nat×O3 Unit Unit Unit Unit)→List Δ→(di Δ N R M→List Δ→Ω)→Ω
 | [],xs,k=>k [] xs
 | (c,.box cells e)::r,xs,k=>match gp pr.dN ρ cells xs with
  | some (ys,xs')=>fI ρ wn r xs' fun us zs=>k ((ρ c,.box ys e)::us) zs
  | none=>pr.fail
 | (c,.mp g _ true)::r,x::xs,k=>pr.asM g x fun m=>fI ρ wn r xs fun us zs=>k ((ρ c,.mp g m true)::us) zs
 | (c,.am _ size elem)::r,x::xs,k=>pr.asM true x fun m=>fI ρ wn r xs fun us zs=>k ((ρ c,.am m size elem)::us) zs
 | (c,.arr _ size elem _)::r,x::xs,k=>pr.rowsD size x fun rows=>fI ρ wn r xs fun us zs=>k ((ρ c,.arr rows size elem wn)::us) zs
 | _,_,_=>pr.fail
def kg:List (V3 Unit Unit)→List (V3 Δ N)→List (Nat×N×N)
 | .one (.slk _ none _ _)::ss,.one (.slk k none n c)::xs=>(k,n,c)::kg ss xs
 | _::ss,_::xs=>kg ss xs
 | _,_=>[]
def FU (ob:di Δ N R M):List (Nat×N×N)→Ω→Ω
 | [],k=>k
 | (key,n,c)::r,k=>match aQ ob key with
  | some (.arr rows _ _ _)=>pr.eqN n (pr.len rows) (pr.eqN c (pr.len rows) (FU ob r k))
  | _=>pr.fail
mutual
def Do:L3 Unit Unit→L3 Δ N→List (Nat×Nat)
 | .mk c,.mk k=>[(c,k)]
 | .mq c,.mq k=>[(c,k)]
 | .ptr c _,.ptr k _=>[(c,k)]
 | .slk c _ _ _,.slk k _ _ _=>[(c,k)]
 | .fn _ cs,.fn _ cs'=>ph cs cs'
 | _,_=>[]
def ph:List (L3 Unit Unit)→List (L3 Δ N)→List (Nat×Nat)
 | s::ss,x::xs=>Do s x++ph ss xs
 | _,_=>[]
end
def kP:List (V3 Unit Unit)→List (V3 Δ N)→List (Nat×Nat)
 | .one s::ss,.one x::xs=>Do s x++kP ss xs
 | .agg s::ss,.agg x::xs=>ph s x++kP ss xs
 | _::ss,_::xs=>kP ss xs
 | _,_=>[]
def tQ (ob:di Δ N R M) (al:List (Nat×Nat)):List (Nat×O3 Unit Unit Unit Unit)→List (Nat×Nat)
 | []=>[]
 | (c,.box cells _)::r=>(match al.find? (fun p=>p.1==c) with
  | some (_,k)=>match aQ ob k with
   | some (.box cells' _)=>ph cells cells'
   | _=>[]
  | none=>[])++tQ ob al r
 | _::r=>tQ ob al r
def ti (al:List (Nat×Nat)) (c:Nat):Nat:=match al.find? (fun p=>p.1==c) with
 | some (_,k)=>k
 | none=>c
mutual
def Ii:L3 Unit Unit→Nat
 | .d _=>1
 | .fn _ cs=>vN cs
 | .dp r _=>r.length
 | .slk _ none _ _=>2
 | _=>0
def vN:List (L3 Unit Unit)→Nat
 | []=>0
 | x::xs=>Ii x+vN xs
end
def mO:List (Nat×O3 Unit Unit Unit Unit)→Nat
 | []=>0
 | (_,.box cells _)::r=>vN cells+mO r
 | (_,_)::r=>1+mO r
def B9 (ms:Ms):Bool :=
 let C:=ms.obs.map (·.1)
 gX C&&(V3.keysF ms.args).all C.contains&&(ms.obs.all fun p=>p.2.keysOf.all C.contains)&&(match ms.ref with | none=>true | some c=>C.contains c)
def xu:Option (Bool×Nat)→Nat
 | none=>0
 | some (_,n)=>n
def jL (e:Nat→Δ):Option (Bool×Nat)→V3 Δ N
 | none=>.tup []
 | some (false,_)=>.one (.d (e 0))
 | some (true,n)=>.agg ((List.range n).map fun i=>.d (e i))
def tx:List (V3 Unit Unit)→List (V3 Δ N)→List (V3 Δ N)
 | .one (.d _)::ss,.one (.fn f cs)::xs=>(match fW pr cs with
  | some ds=>.one (.d (pr.fnD f ds))
  | none=>.one (.fn f cs))::tx ss xs
 | _::ss,x::xs=>x::tx ss xs
 | _,xs=>xs
def xS:V3 Δ N→Bool
 | .one (.slk ..)=>true
 | _=>false
def DB (ms:Ms) (args:List (V3 Δ N)):Bool:=if ms.args.isEmpty then args.any xS else (ms.args.map xS==args.map xS)
def pT (f:Nat):Nat:=if f < 300000 then f else if f < 600000 then f - 300000 else f - 600000
def slkL {Δ N:Type}:L3 Δ N→Bool
 | .slk ..=>true
 | _=>false
def tf:List (L3 Unit Unit)→List (L3 Δ N)→Bool
 | [],[]=>true
 | x::xs,y::ys=>match slkL x,slkL y with
  | true,true=>tf xs ys
  | false,false=>tf xs ys
  | _,_=>false
 | _,_=>false
def fitMs (ms:Ms) (args:List (V3 Δ N)) (ob:di Δ N R M):Bool:=match ms.args,args with
 | .one (.ptr _ _)::_,.one (.ptr k _)::_=>match ms.obs,aQ ob k with
  | (_,.box cells _)::_,some (.box cells' _)=>tf cells cells'
  | _,_=>false
 | _,_=>false
def I4 (cfg:Cf3) (f:Nat) (args:List (V3 Δ N)) (ob:di Δ N R M):Nat:=match cfg.ms f with
 | some ms=>if DB ms args=true then 0 else match cfg.ms (f+300000) with
  | some ms2=>if (ms2.args.isEmpty||fitMs ms2 args ob)=true then 1 else 2
  | none=>0
 | none=>0
def qD (cfg:Cf3) (f:Nat) (args:List (V3 Δ N)) (ob:di Δ N R M) (kk:V3 Δ N→di Δ N R M→List Nat→Ω):Ω:=match cfg.ms f with
 | none=>pr.fail
 | some ms =>
  let args0:=args
  let args:=tx pr ms.args args
  let al:=kP ms.args args
  let al:=al++tQ ob al ms.obs
  if (B9 ms&&gX ((ms.obs.map (·.1)).map (ti al)))=true then
   match iD pr (ti al) ms.args args,cD pr (ti al) ob true ms.obs with
   | some xs,some ys=>FU pr ob (kg ms.args args) (pr.bnd (pr.call (f+1000000) (ys++xs)) [fun e=>fI pr (ti al) ms.wn ms.obs ((List.range (mO ms.obs)).map fun i=>pr.ld e (xu ms.res+i)) fun us _=>match ms.ref with
     | none=>kk (jL (pr.ld e) ms.res) us (al.map (·.2)++ms.obs.map fun p=>ti al p.1)
     | some c=>match aQ us (ti al c) with
      | some (.arr rows _ _ _)=>kk (.one (.slk (ti al c) none (pr.len rows) (pr.len rows))) us (al.map (·.2)++ms.obs.map fun p=>ti al p.1)
      | _=>pr.fail])
   | _,_=>pr.miss 8 f 0 0 [] .normal ⟨args0.zipIdx.map fun p=>(p.2,p.1),ob,[],none⟩ []
  else pr.miss 8 f 0 0 [] .normal ⟨args0.zipIdx.map fun p=>(p.2,p.1),ob,[],none⟩ []
def uc (cfg:Cf3) (f:Nat) (args:List (V3 Δ N)) (ob:di Δ N R M) (kk:V3 Δ N→di Δ N R M→List Nat→Ω):Ω:=if f < 300000 then (match I4 cfg f args ob with
  | 0=>qD pr cfg f args ob kk
  | 1=>qD pr cfg (f+300000) args ob kk
  | _=>qD pr cfg (f+600000) args ob kk) else pr.fail
def DT (cfg:Cf3) (f:Nat) (args:List (V3 Δ N)) (ob:di Δ N R M) (kk:V3 Δ N→di Δ N R M→Ω):Ω:=uc pr cfg f args ob fun v us _=>kk v (cv us ob)
def Cx:Option (Bool×Nat)→V3 Δ N→Option (List (L3 Δ N))
 | none,.tup []=>some []
 | some (false,1),.one x=>some [x]
 | some (true,n),.agg xs=>if xs.length=n then some xs else none
 | _,_=>none
def DQ (ms:Ms) (v:V3 Δ N) (ob:di Δ N R M) (k:List (L3 Δ N)→Ω):Ω:=match ms.ref with
 | none=>match Cx ms.res v with
  | none=>pr.fail
  | some cs=>k cs
 | some c=>match v with
  | .one (.slk key none n m)=>if key=c∧ms.res=none∧(ms.obs.map (·.1)).contains c=true then (match aQ ob c with
   | some (.arr rows _ _ _)=>pr.eqN n (pr.len rows) (pr.eqN m (pr.len rows) (k []))
   | _=>pr.fail) else pr.fail
  | _=>pr.fail
def I8 (ms:Ms) (ob:di Δ N R M) (cs:List (L3 Δ N)):Ω:=oq pr ob cs fun ds us _=>match cD pr id (cv us ob) ms.wn ms.obs with
  | some ys=>pr.out 0 ((ds++ys).map .d)
  | none=>pr.fail
def Fz (ms:Ms) (v:V3 Δ N) (ob:di Δ N R M):Ω:=DQ pr ms v ob (I8 pr ms ob)
def nH (ob:di Δ N R M):Nat→Nat→Nat
 | 0,k=>k
 | n+1,k=>if ob.all fun p=>p.1 != k&&(Nat.blt p.1 (1000*(k+1))||Nat.ble (1000*(k+2)) p.1) then k else nH ob n (k+1000000000)
def yq (cfg:Cf3) (f:Nat) (args:List (V3 Δ N)) (b:Nat) (ob:di Δ N R M) (kk:V3 Δ N→di Δ N R M→Ω):Ω:=match cfg.sp f with
 | none=>pr.fail
 | some (size,elem,bs)=>match args with
  | [s,.one i,.one (.slk key2 none n2 c2)]=>match du pr i,aQ ob key2 with
   | some y,some (.arr rows2 size2 _ true)=>if size2=size then pr.eqN c2 (pr.len rows2) (pr.isNil (pr.seg rows2 none n2) pr.fail (
     let nilc:=pr.fits bs (pr.len (pr.seg rows2 none n2)) (pr.ins y (pr.rows []) (pr.seg rows2 none n2) fun r =>
      e8 pr ob (some (nH ob 8 b)) (.arr r size elem true) (fun key=>.one (.slk key none (pr.len (pr.seg rows2 none n2)) (pr.len (pr.seg rows2 none n2)))) fun v us _=>kk v (cv us ob))
     match s with
     | .one .nil=>nilc
     | .one (.d x)=>pr.nilD x nilc
     | .one (.slk key none n c)=>if key=key2 then pr.fail else match aQ ob key with
      | some (.arr rows size' elem' true)=>if size'=size∧elem'=elem then pr.eqN c (pr.len rows) (pr.eqN n (pr.len rows) (pr.fits bs (pr.addN n (pr.len (pr.seg rows2 none n2))) (pr.ins y rows (pr.seg rows2 none n2) fun r =>
        kk (.one (.slk key none (pr.addN n (pr.len (pr.seg rows2 none n2))) (pr.addN n (pr.len (pr.seg rows2 none n2))))) (cv [(key,.arr r size elem true)] ob)))) else pr.fail
      | _=>pr.fail
     | _=>pr.fail)) else pr.fail
   | _,_=>pr.fail
  | _=>pr.fail
abbrev Hd3 (Δ N R M Ω:Type):=List (V3 Δ N)→di Δ N R M→(Option Ex→di Δ N R M→Ω)→Ω
abbrev GL (Δ N R M Ω:Type):=Nat→List (V3 Δ N)→Nat→di Δ N R M→(V3 Δ N→di Δ N R M→Ω)→Ω
def kd3 (ob:di Δ N R M) (b:Nat) (dst:Option Nat):Option Nat:=match dst with
 | some d=>some (nH ob 8 (b*1000+d))
 | none=>none
def gi (dst:Option Nat) (v:V3 Δ N) (ob:di Δ N R M) (st:S3 Δ N R M):S3 Δ N R M:=⟨match dst with | some d=>(d,v)::st.env | none=>st.env,ob,le st.ys dst,st.pend⟩
def jB:List (V3 Δ N)→Nat→List (Nat×V3 Δ N)
 | [],_=>[]
 | x::xs,i=>(i,x)::jB xs (i+1)
def ua (v:V3 Δ N) (args:List (V3 Δ N)):Option (Nat×List (V3 Δ N)×List (L3 Δ N)):=match v with
 | .one (.fn f caps)=>if f < 2000000 then some (f,args++caps.map .one,caps) else some (f - 2000000,caps.map .one++args,caps)
 | _=>none
inductive Kind3 (Δ N:Type) where
 | copy (d:Nat)
 | yld (args:List Operand)
 | inl (f:Nat) (args:List (V3 Δ N))
 | op
def gD (cfg:Cf3) (ys:List Nat) (ρ:Operand→V3 Δ N) (o:Oper):Kind3 Δ N:=match o.op with
 | .move x=>match yOf ys x,o.dst with
  | true,some d=>.copy d
  | _,_=>.op
 | .assign x=>match yOf ys x,o.dst with
  | true,some d=>.copy d
  | _,_=>.op
 | op=>match gf op with
  | none=>.op
  | some (fo,args)=>if yOf ys fo=true then .yld args else match ua (ρ fo) (args.map ρ) with
   | some (f,as,caps)=>match cfg.inl f with
    | some _=>.inl f as
    | none=>match (match ((args.map ρ).all V3.isD&&caps.all L3.isD) with | true=>none | false=>cfg.ms f) with
     | some _=>.inl f as
     | none=>match cfg.sp f with
      | some _=>.inl f as
      | none=>.op
   | none=>.op
def HT (cfg:Cf3) (f:Nat) (ob:di Δ N R M) (b:Nat) (dst:Option Nat):Option Nat:=match dst with
 | some d=>match cfg.ar f d with
  | some t=>some (b*1000+t)
  | none=>match cfg.cb f d with
   | true=>none
   | false=>kd3 ob b (some d)
 | none=>none
def xr (cfg:Cf3) (P:Program) (fr:Fr) (hd:Option (Hd3 Δ N R M Ω)) (rn:GL Δ N R M Ω) (o:Oper) (st:S3 Δ N R M) (k:S3 Δ N R M→Ω):Ω :=
 if i8 fr.nt o.dst=true then
  match gD cfg st.ys (wT pr st.env) o with
  | .copy d=>k ⟨(d,.one .undef)::st.env,st.ob,d::st.ys,st.pend⟩
  | .yld args=>match hd,st.pend with
   | some h,none=>h (args.map (wT pr st.env)) st.ob fun p ob=>k { gi o.dst (.one (.b p.isNone)) ob st with pend:=p }
   | _,_=>pr.fail
  | .inl f args=>rn f args (fr.b*1000+o.dst.getD 998+1) st.ob fun v ob=>k (gi o.dst v ob st)
  | .op=>Fa pr cfg P st.ob (HT cfg fr.f st.ob fr.b o.dst) (wT pr st.env) o.op fun v us _=>k (gi o.dst v (cv us st.ob) st)
 else pr.fail
def oo (v:V3 Δ N):Option (Option Bool)×Option Δ:=match v with
 | .one (.b b)=>(some (some b),none)
 | .one (.d x)=>(none,some x)
 | .tup []=>(some none,none)
 | _=>(none,none)
def ra (kind f b p:Nat) (pk:List Nat) (js:List (Ex×Sk)) (e:Ex) (st:S3 Δ N R M):Ω:=match sw pr pk e st js 0 with
 | some (j,ys)=>pr.out j ys
 | none=>pr.miss kind f b p pk e st []
def ctx {α:Type} (pk:List Nat) (st:S3 Δ N R M):List (Sk×α)→Nat→Option (Nat×α)
 | [],_=>none
 | (sk,x)::r,j=>match u5 pr pk sk st with
  | some _=>some (j,x)
  | none=>ctx pk st r (j+1)
def HM (pk:List Nat) (sk:Sk):Bool:=pk.all (sk.ob.map (·.1)).contains
def ly (pk:List Nat) (js:List (Ex×Sk)) (k:Ex→S3 Δ N R M→Ω):List (E→Ω):=js.map fun x=>match HM pk x.2 with
 | true=>fun e=>k x.1 (ej pr e x.2)
 | false=>fun _=>pr.fail
def yO (cfg:Cf3) (P:Program) (fr:Fr) (hd:Option (Hd3 Δ N R M Ω)) (rn:GL Δ N R M Ω) (ops:Array Oper) (o:Oper) (st:S3 Δ N R M) (k:S3 Δ N R M→Ω):Ω :=
 match o.guard with
  | none=>xr pr cfg P fr hd rn o st k
  | some (j,want)=>match fP ops j with
   | none=>pr.fail
   | some gt =>
    let skip:=fun (st:S3 Δ N R M)=>if i8 fr.nt o.dst=true then k (gi o.dst (.tup []) st.ob st) else pr.fail
    let st1:=fun (b:Bool)=>({ st with env:=(gt,.one (.b b))::st.env }:S3 Δ N R M)
    match oo (cZ st.env gt),want with
    | (some none,_),_=>skip st
    | (some (some true),_),true=>xr pr cfg P fr hd rn o st k
    | (some (some false),_),false=>xr pr cfg P fr hd rn o st k
    | (some (some _),_),_=>skip st
    | (none,some x),true=>pr.cond x (xr pr cfg P fr hd rn o (st1 true) k) (skip (st1 false))
    | (none,some x),false=>pr.cond x (skip (st1 true)) (xr pr cfg P fr hd rn o (st1 false) k)
    | (none,none),_=>pr.fail
def FO (ops:Array Oper) (env:List (Nat×V3 Δ N)) (o:Oper):Bool:=match o.guard with
 | none=>false
 | some (j,_)=>match fP ops j with
  | none=>false
  | some gt=>match cZ env gt with
   | .one (.d _)=>true
   | _=>false
def tz (cfg:Cf3) (P:Program) (fr:Fr) (hd:Option (Hd3 Δ N R M Ω)) (rn:GL Δ N R M Ω) (ops:Array Oper) (id:Nat):Nat→Nat→List Oper→S3 Δ N R M→(S3 Δ N R M→Ω)→Ω
 | _,_,[],st,k=>k st
 | 0,_,_::_,_,_=>pr.fail
 | n+1,i,o::rest,st,k=>match (match FO ops st.env o with | true=>cfg.gj fr.f fr.b (id*1000+i) | false=>none) with
  | none=>yO pr cfg P fr hd rn ops o st fun st'=>tz cfg P fr hd rn ops id n (i+1) rest st' k
  | some (len,cs)=>match ctx pr fr.pr st cs 0 with
   | none=>pr.miss 6 fr.f fr.b (id*1000+i) fr.pr .normal st []
   | some (c,js)=>pr.bnd (yO pr cfg P fr hd rn ops o st fun st'=>tz cfg P fr hd rn ops id n (i+1) (rest.take len) st' (ra pr (4+10*c) fr.f fr.b (id*1000+i) fr.pr js .normal))
    (ly pr fr.pr js fun _ st'=>tz cfg P fr hd rn ops id n (i+1+len) (rest.drop len) st' k)
abbrev Ir:=List (List Nat×List Nat)
def oz (pairs:List (Nat×Nat)) (i:Nat) (log:Ir) (rd wr:List Nat):Bool :=
 pairs.all fun p=>if p.2=i then (match log[p.1]? with
  | some (rj,wj)=>(wj.all fun x=>!(rd.contains x)&&!(wr.contains x))&&(rj.all fun x=>!(wr.contains x))
  | none=>false) else true
def qm (cfg:Cf3) (fr:Fr) (o:Oper):Option Nat:=match o.dst with
 | some d=>match cfg.ar fr.f d with
  | some t=>some (fr.b*1000+t)
  | none=>match cfg.cb fr.f d with
   | true=>none
   | false=>some d
 | none=>none
def xD (cfg:Cf3) (ρ:Operand→V3 Δ N) (o:Oper):Option (Nat×List (V3 Δ N)):=match gD cfg [] ρ o with
 | .inl f args=>match cfg.inl f,cfg.ms f with
  | none,some _=>some (f,args)
  | _,_=>none
 | _=>none
def zi:O3 Δ N R M→Bool
 | .box ..=>true
 | .arr _ _ _ own=>own
 | .mp _ _ own=>own
 | .ml ..=>true
 | .am ..=>true
 | .arn ..=>false
def Dl (cfg:Cf3) (fr:Fr) (rn:GL Δ N R M Ω) (q:Nat) (o:Oper) (f:Nat) (args:List (V3 Δ N)) (ob:di Δ N R M) (k:V3 Δ N→di Δ N R M→List Nat→Ω):Ω:=match tT [] args ob with
 | none=>pr.fail
 | some kept =>
  let ks:=kept.map (·.1)
  if (gX ks&&(kept.all fun p=>zi p.2&&p.2.keysOf.all ks.contains)&&args.all fun v=>v.keysOf.all ks.contains)=true then
   match cfg.gj fr.f fr.b q with
   | none=>pr.fail
   | some (_,cs)=>match ctx pr ks ⟨[],kept,[],none⟩ cs 0 with
    | none=>pr.miss 6 fr.f fr.b q ks .normal ⟨[],kept,[],none⟩ []
    | some (c,js)=>pr.bnd (rn f args (fr.b*1000+o.dst.getD 998+1) kept fun v ob'=>ra pr (4+10*c) fr.f fr.b q ks js .normal ⟨[(0,v)],ob',[],none⟩)
     (ly pr ks js fun _ st' =>
      let us:=st'.ob.map (·.1)
      if (gX us&&((us.filter fun q=>!ks.contains q).all fun q=>(aQ ob q).isNone)&&ks.all us.contains&&(st'.ob.all fun p=>p.2.keysOf.all us.contains)&&(cZ st'.env 0).keysOf.all us.contains)=true then k (cZ st'.env 0) st'.ob (ks++us.filter fun q=>!ks.contains q) else pr.fail)
  else pr.fail
def tN (cfg:Cf3) (ρ:Operand→V3 Δ N) (o:Oper):Option (Nat×List (V3 Δ N)):=match gD cfg [] ρ o with
 | .inl f args=>match cfg.inl f with
  | some _=>some (f,args)
  | none=>none
 | _=>none
def I1 (cfg:Cf3) (P:Program) (fr:Fr) (rn:GL Δ N R M Ω) (q:Nat) (o:Oper) (st:S3 Δ N R M) (k:V3 Δ N→di Δ N R M→List Nat→Ω):Ω:=match xD cfg (wT pr st.env) o with
 | some (f,as)=>uc pr cfg f as st.ob k
 | none=>match tN cfg (wT pr st.env) o with
  | some p=>Dl pr cfg fr rn q o p.1 p.2 st.ob k
  | none=>Fa pr cfg P st.ob (qm cfg fr o) (wT pr st.env) o.op k
def El (cfg:Cf3) (P:Program) (fr:Fr) (rn:GL Δ N R M Ω) (id:Nat) (ops:Array Oper) (pairs:List (Nat×Nat)):List Oper→Nat→Ir→S3 Δ N R M→(S3 Δ N R M→Ω)→Ω
 | [],_,_,st,k=>k st
 | o::rest,i,log,st,k =>
  let next:=fun (st:S3 Δ N R M) (v:V3 Δ N) (us:di Δ N R M) (rd:List Nat) =>
   if (i8 fr.nt o.dst&&oz pairs i log rd (us.map (·.1)))=true then El cfg P fr rn id ops pairs rest (i+1) (log++[(rd,us.map (·.1))]) (gi o.dst v (cv us st.ob) st) k else pr.fail
  let go:=fun (st:S3 Δ N R M)=>I1 pr cfg P fr rn (id*1000+i) o st (next st)
  let skip:=fun (st:S3 Δ N R M)=>El cfg P fr rn id ops pairs rest (i+1) (log++[([],[])]) (gi o.dst (.tup []) st.ob st) k
  match o.guard with
  | none=>go st
  | some (j,want)=>match fP ops j with
   | none=>pr.fail
   | some gt =>
    let st1:=fun (b:Bool)=>({ st with env:=(gt,.one (.b b))::st.env }:S3 Δ N R M)
    match oo (cZ st.env gt),want with
    | (some none,_),_=>skip st
    | (some (some true),_),true=>go st
    | (some (some false),_),false=>go st
    | (some (some _),_),_=>skip st
    | (none,some x),true=>pr.cond x (go (st1 true)) (skip (st1 false))
    | (none,some x),false=>pr.cond x (skip (st1 true)) (go (st1 false))
    | (none,none),_=>pr.fail
abbrev Ev3 (Δ N R M Ω:Type):=Fr→Option (Hd3 Δ N R M Ω)→Nat→Nat→Code→S3 Δ N R M→(Ex→S3 Δ N R M→Ω)→Ω
def dH (ob:di Δ N R M):List Nat:=ge (ob.map (·.1)) []
def ir (P:Program) (bd:Bd) (ob:di Δ N R M) (kk:V3 Δ N→di Δ N R M→Ω) (st':S3 Δ N R M):Ω :=
 o7 pr P st'.ob st'.env bd.res fun vs=>match tT (dH ob) vs st'.ob with
  | some ob'=>kk (er vs) ob'
  | none=>pr.fail
def Ij (cfg:Cf3) (f:Nat) (args:List (V3 Δ N)):Bool:=match cfg.ms f with
 | some ms=>DB ms args
 | none=>false
def yU (cfg:Cf3) (P:Program) (ex:Ev3 Δ N R M Ω):GL Δ N R M Ω:=fun f args b ob kk=>if Ij cfg f args=true then DT pr cfg f args ob kk else match cfg.inl f with
 | none=>match cfg.ms f with
  | some _=>DT pr cfg f args ob kk
  | none=>yq pr cfg f args b ob kk
 | some bd=>if args.length≤bd.nt then ex ⟨f,b,bd.nt,true,dH ob,false⟩ none 0 1 bd.code ⟨jB args 0,ob,[],none⟩ (fun e st=>match e with
   | .exit _=>pr.fail
   | .normal=>ir pr P bd ob kk st
   | .ret=>ir pr P bd ob kk st) else pr.fail
def bdy3 (ob:di Δ N R M) (kk:Option Ex→di Δ N R M→Ω) (e2:Ex) (st2:S3 Δ N R M):Ω:=match tT (dH ob) [] st2.ob with
 | some ob'=>kk (match e2 with | .normal=>none | .exit i=>some (.exit i) | .ret=>some .ret) ob'
 | none=>pr.fail
def Gs (ex:Ev3 Δ N R M Ω) (fr:Fr) (cur p:Nat) (ps:Array Tmp) (assign body:Code) (env:List (Nat×V3 Δ N)):Hd3 Δ N R M Ω:=fun vals ob kk=>if vals.length=ps.size then
  ex ⟨fr.f,fr.b,fr.nt,false,dH ob,false⟩ none cur (2*p) assign ⟨((ps.toList.zip vals).reverse++env),ob,[],none⟩ (fun e st1=>match e with
   | .normal=>ex ⟨fr.f,fr.b,fr.nt,false,dH st1.ob,false⟩ none cur (2*p+1) body st1 (bdy3 pr ob kk)
   | .exit _=>pr.fail
   | .ret=>pr.fail)
 else pr.fail
def tL (st:S3 Δ N R M) (k:Ex→S3 Δ N R M→Ω) (st':S3 Δ N R M):Ω:=match tT (dH st.ob) [] st'.ob with
 | some ob'=>k (match st'.pend with | none=>.normal | some e=>e) ⟨st.env,ob',[],st.pend⟩
 | none=>pr.fail
def FC (id:Nat):Ex→Ex
 | .exit i=>if i=id then .normal else .exit i
 | .normal=>.normal
 | .ret=>.ret
def iZ:List (Option Nat×Nat)→S3 Δ N R M→(S3 Δ N R M→Ω)→Ω
 | [],st,kk=>kk st
 | (none,t)::r,st,kk=>match cZ st.env t with
  | .one (.slk key off n c)=>tW pr st.ob (.slk key off n c) fun d us _=>iZ r { st with env:=(t,.one (.d d))::st.env,ob:=cv us st.ob } kk
  | .one (.sln key n)=>tW pr st.ob (.sln key n) fun d us _=>iZ r { st with env:=(t,.one (.d d))::st.env,ob:=cv us st.ob } kk
  | .one .nil=>iZ r { st with env:=(t,.one (.d (pr.lit (.slice none 0 0))))::st.env } kk
  | _=>iZ r st kk
 | (some b,i)::r,st,kk=>match aQ st.ob b with
  | some (.box cells e)=>match cells[i]? with
   | some (.slk key off n c)=>tW pr st.ob (.slk key off n c) fun d us _=>iZ r { st with ob:=(b,.box (cells.set i (.d d)) e)::cv us st.ob } kk
   | some .nil=>iZ r { st with ob:=(b,.box (cells.set i (.d (pr.lit (.slice none 0 0)))) e)::st.ob } kk
   | some (.mk key)=>tW pr st.ob (.mk key) fun d us _=>iZ r { st with ob:=(b,.box (cells.set i (.d d)) e)::cv us st.ob } kk
   | _=>iZ r st kk
  | _=>iZ r st kk
def jW:List ((Option Nat×Nat)×(Nat×Nat×Nat))→S3 Δ N R M→S3 Δ N R M
 | [],st=>st
 | ((none,t),key,size,elem)::r,st=>match cZ st.env t with
  | .one .nil=>match aQ st.ob key with
   | none=>jW r { st with env:=(t,.one (.sln key (pr.natN 0)))::st.env,ob:=(key,.arn (pr.rows []) size elem true)::st.ob }
   | some _=>jW r st
  | _=>jW r st
 | ((some b,i),key,size,elem)::r,st=>match aQ st.ob key with
  | none=>match aQ st.ob b with
   | some (.box cells e)=>match cells[i]? with
    | some .nil=>jW r { st with ob:=(b,.box (cells.set i (.sln key (pr.natN 0))) e)::(key,.arn (pr.rows []) size elem true)::st.ob }
    | _=>jW r st
   | _=>jW r st
  | some _=>jW r st
def I3 (l:List (Option Nat×Nat)) (l2:List ((Option Nat×Nat)×(Nat×Nat×Nat))) (k:Ex→S3 Δ N R M→Ω) (e:Ex) (st:S3 Δ N R M):Ω:=match e with
 | .normal=>iZ pr l st fun st=>k .normal (jW pr l2 st)
 | .exit i=>k (.exit i) st
 | .ret=>k .ret st
def ce (cfg:Cf3) (P:Program):Nat→Ev3 Δ N R M Ω
 | 0,_,_,_,_,_,_,_=>pr.fail
 | n+1,fr,hd,cur,p,c,st,k=>match c with
  | .skip=>k .normal st
  | .label _=>k .normal st
  | .ret=>k .ret st
  | .exit id=>k (.exit id) st
  | .region id ops draw=>match draw with
   | false=>tz pr cfg P fr hd (yU pr cfg P (ce cfg P n)) ops id ops.size 0 ops.toList st (k .normal)
   | true=>match st.ys with
    | []=>El pr cfg P fr (yU pr cfg P (ce cfg P n)) id ops (cfg.draw fr.f id ops) ops.toList 0 [] st (k .normal)
    | _=>pr.fail
  | .seq a b =>
   let kk:=fun (e:Ex) (st':S3 Δ N R M)=>match e with
    | .normal=>ce cfg P n fr hd cur (2*p+1) b st' k
    | .exit i=>k (.exit i) st'
    | .ret=>k .ret st'
   match cfg.jn fr.f fr.b p with
    | none=>ce cfg P n fr hd cur (2*p) a st (I3 pr (cfg.fz fr.f fr.b p) (cfg.nz fr.f fr.b p) kk)
    | some cs=>match ctx pr fr.pr st cs 0 with
     | none=>pr.miss 5 fr.f fr.b p fr.pr .normal st []
     | some (c,js)=>pr.bnd (ce cfg P n fr hd cur (2*p) a st (I3 pr (cfg.fz fr.f fr.b p) (cfg.nz fr.f fr.b p) (ra pr (10*c) fr.f fr.b p fr.pr js))) (ly pr fr.pr js kk)
  | .cond c a b=>match c with
   | .tmp t=>match cZ st.env t with
    | .one (.b true)=>ce cfg P n fr hd cur (2*p) a st k
    | .one (.b false)=>ce cfg P n fr hd cur (2*p+1) b st k
    | .one (.d x)=>pr.cond x (ce cfg P n fr hd cur (2*p) a { st with env:=(t,.one (.b true))::st.env } k) (ce cfg P n fr hd cur (2*p+1) b { st with env:=(t,.one (.b false))::st.env } k)
    | _=>pr.fail
   | .const (.bool true)=>ce cfg P n fr hd cur (2*p) a st k
   | .const (.bool false)=>ce cfg P n fr hd cur (2*p+1) b st k
   | _=>pr.fail
  | .block id c=>match c with
   | .loop body=>match ctx pr fr.pr st (cfg.lp fr.f fr.b id) 0 with
    | none=>pr.miss 7 fr.f fr.b id fr.pr .normal st []
    | some (c,sks,outs)=>match lL pr fr.pr st sks 0 with
     | none=>pr.miss (1+10*c) fr.f fr.b id fr.pr .normal st []
     | some (i0,ys0)=>pr.bnd (pr.loop (sks.map fun sk=>fun J e=>if HM fr.pr sk=false then pr.fail else ce cfg P n fr hd id (2*p) body (ej pr e sk) fun e' st'=>match e' with
       | .normal=>(match lL pr fr.pr st' sks 0 with
        | some (j,ys)=>J j ys
        | none=>pr.miss (1+10*c) fr.f fr.b id fr.pr .normal st' [])
       | .exit i=>ra pr (2+10*c) fr.f fr.b id fr.pr outs (FC id (.exit i)) st'
       | .ret=>ra pr (2+10*c) fr.f fr.b id fr.pr outs .ret st') i0 ys0) (ly pr fr.pr outs k)
   | c=>ce cfg P n fr hd id (2*p) c st fun e st'=>match e with
    | .normal=>k .normal st'
    | .ret=>k .ret st'
    | .exit i=>if i=id then k .normal st' else k (.exit i) st'
  | .rangeFunc g ps assign body=>if fr.rng=true then
    match st.ys with
    | []=>match fn3 (wT pr st.env g) with
     | none=>pr.fail
     | some (f,caps)=>match cfg.inl f with
      | none=>pr.fail
      | some bd=>if caps.length+1≤bd.nt∧bd.res=[]∧ps.toList.all (fun p=>decide (p < fr.nt))=true then
        ce cfg P n ⟨f,(fr.b+1)*1000,bd.nt,false,dH st.ob,false⟩ (some (Gs pr (ce cfg P n) fr cur p ps assign body st.env)) 0 1 bd.code ⟨jB (.one .undef::caps.map .one) 0,st.ob,[0],none⟩ (fun e st'=>match e with
         | .exit _=>pr.fail
         | .normal=>tL pr st k st'
         | .ret=>tL pr st k st')
       else pr.fail
    | _=>pr.fail
   else pr.fail
  | _=>pr.fail
def fin3 (cfg:Cf3) (P:Program) (f:Nat) (res:List ResultVar) (e:Ex) (st:S3 Δ N R M):Ω :=
 let go:=o7 pr P st.ob st.env res fun vs=>match pI st.ob vs (cfg.rsk f) 0 with
  | none=>pr.miss 3 f 0 0 [] e st (vs.map (GE st.ob))
  | some (j,rs)=>match G5 rs with
   | true=>uK pr st.ob vs fun ys=>pr.out j ys
   | false=>ii pr st.ob rs vs fun ys ks=>if gX ks=true then pr.out j ys else pr.fail
 match e with
 | .exit _=>pr.fail
 | .normal=>go
 | .ret=>go
end
end
section
abbrev Rr:=List (List D)
abbrev Mr:=List Value×List (List D)
abbrev Yr:=Y D Nat Rr Mr
abbrev az:=Option (Nat×List Yr)
abbrev gg:=L3 D Nat
abbrev cm:=V3 D Nat
abbrev BV:=O3 D Nat Rr Mr
abbrev iI:=S3 D Nat Rr Mr
abbrev Ur:=di D Nat Rr Mr
def bm (bs:List ((Nat→List Yr→az)→List Yr→az)):Nat→Nat→List Yr→az
 | 0,_,_=>none
 | m+1,j,ys=>match bs[j]? with
  | some b=>b (bm bs m) ys
  | none=>none
def ib (op:BinOp) (bl:Bool):D→D→Option D
 | .lit (.int k a),.lit (.int k' b)=>(E6 op k a k' b).map .lit
 | .lit (.bool a),.lit (.bool b)=>if bl=true then (match op with
   | .eql=>some (.lit (.bool (a==b)))
   | .neq=>some (.lit (.bool (a != b)))
   | _=>none) else none
 | .lit (.string a),.lit (.string b)=>(G7 op a b).map .lit
 | _,_=>none
def unD (op:UnOp):D→Option D
 | .lit (.bool b)=>match op with | .not=>some (.lit (.bool !b)) | _=>none
 | .lit (.int k n)=>match op with | .neg=>some (.lit (.int k (k.wrap (0 - n)))) | _=>none
 | _=>none
def mmD (mx:Bool):D→D→Option D
 | .lit (.int k a),.lit (.int k' b)=>if k=k' then some (.lit (.int k (if mx then max a b else min a b))) else none
 | _,_=>none
def intD:D→Option Int
 | .lit (.int _ n)=>some n
 | _=>none
def fC:Option D→Option (Option Int)
 | none=>some none
 | some x=>(intD x).map some
def zC:D→Option Nat
 | .sl _ rows=>some rows.length
 | .lit (.slice none 0 0)=>some 0
 | _=>none
def jc (es:Nat):D→Option Rr
 | .lit (.slice none 0 0)=>some []
 | .sl size rows=>if size=es then some rows else none
 | _=>none
def Ae (es:Nat) (l h:Option Int):D→Option D
 | .sl size rows=>if size=es then (if 0≤l.getD 0∧l.getD 0≤h.getD rows.length∧h.getD rows.length≤rows.length then some (.sl size ((rows.drop (l.getD 0).toNat).take (h.getD rows.length - l.getD 0).toNat)) else none) else none
 | .lit (.slice none 0 0)=>if l.getD 0=0∧h.getD 0=0 then some (.lit (.slice none 0 0)) else none
 | _=>none
def tG:D→Option Value
 | .lit v=>some v
 | _=>none
def rm (agg:Bool):D→Option Mr
 | .mp agg' keys vals=>if agg=agg' then some (keys,vals) else none
 | .lit (.map none)=>some ([],[])
 | _=>none
def vj (kd:Nat) (zs:List Value) (m:Mr) (key:D):Option (List D×D):=match tG key with
 | some v=>if fu kd v=true then (match cW kd v m.1 0 with
  | some (some j)=>match m.2[j]? with
   | some r=>if r.length=zs.length then some (r,.lit (.bool true)) else none
   | none=>none
  | some none=>some (zs.map .lit,.lit (.bool false))
  | none=>none) else none
 | none=>none
def Hf (kd:Nat) (m:Mr) (key:D) (ds:List D):Option Mr:=match tG key with
 | some v=>if fu kd v=true then (match cW kd v m.1 0 with
  | some (some j)=>some (m.1,m.2.set j ds)
  | some none=>some (m.1++[v],m.2++[ds])
  | none=>none) else none
 | none=>none
def oK {α:Type} (o:Option α) (k:α→az):az:=match o with
 | some a=>k a
 | none=>none
def nW:Yr→Bool
 | .d x=>x.isLit
 | .r rows=>rows.all fun r=>r.all D.isLit
 | .m m=>m.2.all fun r=>r.all D.isLit
 | .n _=>true
def AL (ks:List az) (j:Nat):az:=match ks[j]? with
 | some k=>k
 | none=>none
def lN (kd:Nat) (m:Mr) (key:D):Option (Option Nat):=match tG key with
 | some v=>if fu kd v=true then cW kd v m.1 0 else none
 | none=>none
def vZ (kd:Nat) (m:Mr) (key:D) (j:Nat):Option Mr:=match tG key with
 | some v=>if fu kd v=true∧j=m.1.length∧j < m.2.length then (match cW kd v m.1 0 with
  | some none=>some (m.1++[v],m.2)
  | _=>none) else none
 | none=>none
def iB (r:Rr) (j off:Nat) (ds:List D):Rr:=r.set j ((r.getD j []).take off++ds++(r.getD j []).drop (off+ds.length))
def Cl (kd:Nat) (keys:List Value) (key:D) (ks:List az):az:=match tG key with
 | some v=>if fu kd v=true then (match cW kd v keys 0 with
  | some (some j)=>AL ks j
  | _=>none) else none
 | none=>none
def BD:D→Nat
 | .lit (.int _ n)=>n.toNat
 | _=>0
def aa (Fn:Nat→List D→az) (FnD:D→List Sh→List D→az) (m:Nat):Pr D Nat Rr (List D) Mr (List Yr) az where
 fail:=none
 out j ys:=some (j,ys)
 bnd o ks:=match o with
  | some (j,ys)=>(match ks[j]? with | some k=>k ys | none=>none)
  | none=>none
 loop bs j ys:=bm bs m j ys
 call:=Fn
 callD:=FnD
 miss _ _ _ _ _ _ _ _:=none
 cond x a b:=match x with | .lit (.bool true)=>a | .lit (.bool false)=>b | _=>none
 ld e j:=match e[j]? with | some (.d x)=>x | _=>default
 ln e j:=match e[j]? with | some (.n x)=>x | _=>0
 lr e j:=match e[j]? with | some (.r x)=>x | _=>[]
 lm e j:=match e[j]? with | some (.m x)=>x | _=>([],[])
 lit v:=.lit v
 natD n:=.lit (.int .i64 n)
 dN x:=BD x
 natN n:=n
 addN a b:=a+b
 slD s r:=.sl s r
 slN s r:=match r with
  | []=>.lit (.slice none 0 0)
  | a::t=>.sl s (a::t)
 dpD r o:=.dp r o
 fnD f l:=.fn f l
 mpD g m:=.mp g m.1 m.2
 ifD t g l:=.ifc t g l
 len r:=r.length
 rows l:=l
 repl n z:=List.replicate n z
 app a b:=a++b
 seg r o n:=(r.drop (o.getD 0)).take n
 setR r i l:=r.set i l
 emp:=([],[])
 cell w j:=w.getD j default
 eqN a b k:=if a=b then k else none
 leN a b k:=if a≤b then k else none
 ptrW n x k:=match x with | .dp row 0=>if row.length=n then k row else none | _=>none
 isPtr x k:=match x with | .dp _ _=>k | _=>none
 nilD x k:=match x with | .lit (.slice none 0 0)=>k | _=>none
 rowAt s r i k:=match r[i]? with
  | some w=>if w.length=s then k w else none
  | none=>none
 bin op b x y k:=oK (ib op b x y) k
 un op x k:=oK (unD op x) k
 eqs ks ng x y k:=match ct ks (x.map .d) (y.map .d) with
  | some b=>k (.lit (.bool (if ng then !b else b)))
  | none=>none
 mm mx x y k:=oK (mmD mx x y) k
 mkN bs x y k:=match x,y with
  | .lit (.int a n),.lit (.int b n')=>if a=b∧n=n'∧0≤n∧bs*n≤140737488355328∧n≤9223372036854775807 then k n.toNat else none
  | _,_=>none
 gap bs x k:=match x with
  | .lit (.int _ n)=>if 0 < n∧bs*n≤140737488355328∧n≤9223372036854775807 then k n.toNat else none
  | _=>none
 cut l h n k e:=match fC l,fC h with
  | some l,some h=>if 0≤l.getD 0∧l.getD 0≤h.getD n∧h.getD n≤n then (if l.getD 0=0∨l.getD 0 < h.getD n then k (l.getD 0).toNat (h.getD n - l.getD 0).toNat else e) else none
  | _,_=>none
 cutD es x l h k:=match fC l,fC h with
  | some l,some h=>oK (Ae es l h x) k
  | _,_=>none
 cutNil l h k:=match fC l,fC h with
  | some l,some h=>if l.getD 0=0∧h.getD 0=0 then k else none
  | _,_=>none
 selI n x ks:=match x with
  | .lit (.int _ z)=>if 0≤z∧z < n then AL ks z.toNat else none
  | _=>none
 inx x n k:=match x with
  | .lit (.int _ z)=>if 0≤z∧z < n then k z.toNat else none
  | _=>none
 rowD es x i k:=match x,i with
  | .sl size rows,.lit (.int _ z)=>if size=es∧0≤z then (match rows[z.toNat]? with
   | some r=>if r.length=es then k r else none
   | none=>none) else none
  | _,_=>none
 lenD x k:=match zC x with
  | some n=>k (.lit (.int .i64 n))
  | none=>none
 lenS x k:=match x with
  | .lit (.string s)=>k (.lit (.int .i64 s.size))
  | _=>none
 rowsD es x k:=match jc es x with
  | some r=>k r
  | none=>none
 isNil r a b:=match r with | []=>a | _::_=>b
 fits bs n k:=if n*bs≤140737488355328∧n≤maxLen then k else none
 asM agg x k:=match rm agg x with
  | some m=>k m
  | none=>none
 look kd zs m key k:=match vj kd zs m key with
  | some p=>k p.1 p.2
  | none=>none
 upd kd m key ds k:=match Hf kd m key ds with
  | some m'=>k m'
  | none=>none
 lits ys k:=if ys.all nW=true then k else none
 nilE x a b:=match x with
  | .lit (.slice none 0 0)=>a
  | .sl _ _=>b
  | _=>none
 cvI kd y k:=match y with | .lit (.int _ n)=>k (.lit (.int kd (kd.wrap n))) | _=>none
 ins y rows new k:=match y with | .lit (.int .i64 z)=>if 0≤z∧z.toNat≤rows.length then k (rows.take z.toNat++new++rows.drop z.toNat) else none | _=>none
 mulN s i:=s*i
 minN a b:=min a b
 cellN w off i:=w.getD (off+i) default
 selN i ds:=ds.getD i default
 updN i q new old:=if i=q then new else old
 mrows m:=m.2
 mset m r:=(m.1,r)
 setRC:=iB
 find kd m key k e:=match lN kd m key with
  | some (some j)=>k j
  | some none=>e
  | none=>none
 addK kd m key j k:=match vZ kd m key j with
  | some m'=>k m'
  | none=>none
 selK:=Cl
mutual
def eL:gg→L
 | .d x=>.d x
 | .b v=>.d (.lit (.bool v))
 | .i k n=>.d (.lit (.int k n))
 | .nil=>.d (.lit (.slice none 0 0))
 | .dp r o=>.d (.dp r o)
 | .fn f cs=>.fn f (bL cs)
 | .slk k o n c=>.slk k (o.getD 0) n c
 | .pa k i o c=>.pa k i o c
 | .ptr k o=>.ptr k o
 | .mk k=>.mk k
 | .mq k=>.mq k
 | .pb k j o=>.pb k j o
 | .px k b _ es i o=>.ptr k (b+es*i+o)
 | .np=>.d (.lit (.pointer none))
 | .sln k n=>.sln k n
 | .undef=>.undef
def bL:List gg→List L
 | []=>[]
 | x::xs=>eL x::bL xs
end
mutual
def eV:cm→V
 | .one x=>.one (eL x)
 | .agg xs=>.agg (bL xs)
 | .tup xs=>.tup (cA xs)
def cA:List cm→List V
 | []=>[]
 | x::xs=>eV x::cA xs
end
def eO:BV→O
 | .box cs e=>.box (bL cs) e
 | .arr rows s e o=>.arr rows s e o
 | .mp g m o=>.mp g m.1 m.2 o
 | .ml ks cs=>.ml ks (bL cs)
 | .am m s e=>.am m.1 m.2 s e
 | .arn rows s e o=>match rows with
  | []=>.nul
  | a::t=>.arr (a::t) s e o
def bt (env:List (Nat×cm)):List (Nat×V):=env.map fun p=>(p.1,eV p.2)
def ax (ob:Ur):List (Nat×O):=ob.map fun p=>(p.1,eO p.2)
def eS (st:iI):S2:=⟨bt st.env,ax st.ob,st.ys,st.pend⟩
theorem bc:∀ xs:List gg,bL xs=xs.map eL
 | []=>rfl
 | x::xs=>by simp [bL,bc xs]
theorem dh:∀ xs:List cm,cA xs=xs.map eV
 | []=>rfl
 | x::xs=>by simp [cA,dh xs]
theorem ew (t:Nat):∀ env:List (Nat×cm),b9 (bt env) t=eV (cZ env t)
 | []=>rfl
 | (k,v)::r=>by
  simp only [bt,Jz,b9,cZ]
  split
  ·rfl
  ·exact ew t r
theorem xw (k:Nat):∀ ob:Ur,lB (ax ob) k=(aQ ob k).map eO
 | []=>rfl
 | (j,o)::r=>by
  simp only [ax,Jz,lB,aQ]
  split
  ·rfl
  ·exact xw k r
theorem au (k:Nat):∀ ob:Ur,ac (ax ob) k=(aQ ob k).bind fun o=>(eO o).val
 | []=>rfl
 | (j,o)::r=>by
  simp only [ax,Jz,ac,aQ]
  split
  ·rfl
  ·exact au k r
theorem Ia {rows:Rr} {s e:Nat} {o:Bool} (h:rows≠[]):eO (.arn rows s e o)=.arr rows s e o:=by
 cases rows with
 | nil=>exact absurd rfl h
 | cons a t=>rfl
theorem cY {ob:Ur} {k:Nat} {rows:Rr} {s e:Nat} {o:Bool} (hk:aQ ob k=some (.arn rows s e o)) (h:rows≠[]):ac (ax ob) k=some (.arr rows s e o):=by
 rw [au,hk,K8,Ia h];rfl
theorem iX {ob:Ur} {k:Nat} {s e:Nat} {o:Bool} (hk:aQ ob k=some (.arn [] s e o)):ac (ax ob) k=none:=by
 rw [au,hk];rfl
theorem fK:∀ us ob:Ur,ax (cv us ob)=E5 (ax us) (ax ob)
 | [],ob=>rfl
 | (k,o)::r,ob=>by
  show ax (cv r ((k,o)::ob))=E5 (ax r) ((k,eO o)::ax ob)
  rw [fK r];rfl
variable {Fn:Nat→List D→az} {FnD:D→List Sh→List D→az} {m:Nat}
theorem xL (v:Value):eL (tH (aa Fn FnD m) v)=.d (.lit v):=by
 unfold tH;split<;>simp [eL,aa]
theorem tF (vs:List Value):bL (vs.map (tH (aa Fn FnD m)))=gu vs:=by
 rw [bc,Ml];unfold gu;congr 1;funext v;exact xL v
theorem DM (v:Value):eV (u9 (aa Fn FnD m) v)=nM v:=by
 unfold u9 nM
 split
 ·split<;>rename_i h<;>simp [eV,tF,eL,h]
 ·split<;>rename_i h<;>simp [eV,xL,eL,h]
theorem yk (env:List (Nat×cm)) (x:Operand):eV (wT (aa Fn FnD m) env x)=ev (b9 (bt env)) x:=by
 cases x with
 | tmp t=>exact (ew t env).symm
 | const v=>exact DM v
 | global g=>rfl
 | func f=>simp only [wT,ev];split<;>simp [eV,eL,bL]
theorem DI (env:List (Nat×cm)):(fun x=>eV (wT (aa Fn FnD m) env x))=ev (b9 (bt env)):=funext (yk env)
theorem cI {x:gg} {y:D} (h:du (aa Fn FnD m) x=some y):eL x=.d y:=by
 unfold du at h;split at h<;>first | (cases h;simp [eL,aa]) | cases h
theorem eE {x:cm} {y:D} (h:io (aa Fn FnD m) x=some y):eV x=.one (.d y):=by
 unfold io at h;split at h
 ·simp only [eV,cI h]
 ·cases h
theorem mF (x:gg):(eL x).isDef=x.isDef:=by cases x<;>simp [eL,L.isDef,L3.isDef]
theorem mP (v:cm):(eV v).cells=v.cells.map bL:=by
 cases v with
 | one x=>simp only [eV,V.cells,V3.cells,mF];split<;>simp [bL]
 | agg xs =>
  simp only [eV,V.cells,V3.cells,bc,List.all_map]
  have:(L.isDef ∘ eL)=(L3.isDef:gg→Bool):=funext mF
  rw [this];split<;>simp [bc]
 | tup xs=>simp [eV,V.cells,V3.cells]
theorem cj (xs:List gg):(bL xs).length=xs.length:=by rw [bc,Jp]
theorem eN (g:Bool) (s off:Nat) (cs:List gg):bx g s off (bL cs)=(ef g s off cs).map eV:=by
 unfold bx ef
 cases g with
 | true=>simp only [cj,Js];split<;>simp [eV,bc,List.map_drop,V4]
 | false =>
  simp only [Jl,Ju,bc,K9]
  cases cs[off]?<;>simp [eV]
theorem zx (g:Bool) (xs:List gg):Bc g (bL xs)=(vg g xs).map eV:=by
 cases g with
 | true=>simp [Bc,vg,eV]
 | false =>
  match xs with
  | []=>rfl
  | [x]=>simp [Bc,vg,eV,bL]
  | x::y::r=>rfl
theorem nT {n:Nat} {v u:cm} (h:kq (aa Fn FnD m) n v=some u):dG n (eV v)=some (eV u):=by
 unfold kq at h
 split at h<;>first | (cases h;simp [dG,eV,eL,aa,T8]) | cases h
theorem DE (pl:Nat→Option (Nat×Nat)):∀ (ps:List (Nat×cm)) (cs:List gg),j5 pl (bL cs) (ps.map fun p=>(p.1,eV p.2))=(A1 pl cs ps).map bL
 | [],cs=>rfl
 | (i,v)::r,cs=>by
  simp only [Jz,j5,A1,mP]
  cases pl i with
  | none=>rfl
  | some q =>
   obtain ⟨off,size⟩:=q
   cases hv:v.cells with
   | none=>rfl
   | some vs =>
    simp only [Kv,cj]
    split
    ·rw [←DE pl r]
     congr 1
     simp only [bc,M6,V4,List.map_drop]
    ·rfl
theorem gW:∀ vs:List cm,cV (vs.map eV)=(gK vs).map bL
 | []=>rfl
 | .one x::r=>by
  simp only [Jz,eV,cV,gK,mF,gW r]
  split
  ·cases gK r<;>simp [bL]
  ·rfl
 | .agg xs::r=>rfl
 | .tup xs::r=>rfl
theorem cQ {w:List D} {s:Nat} (h:w.length=s):cellsOf (aa Fn FnD m) s w=w:=by
 subst h
 unfold cellsOf
 apply Mf
 intro i
 simp only [K9,aa,K6]
 by_cases hi:i < w.length
 ·rw [Mx hi];simp [hi]
 ·rw [Kr (by simpa using hi)];simp;omega
theorem A4 (w:List D):bL (w.map .d)=w.map .d:=by rw [bc,Ml];rfl
theorem Fq (v:cm):eM (eV v)=Di v:=by cases v<;>rfl
theorem aA:ax []=[]:=rfl
theorem aM (k:Nat) (o:BV) (r:Ur):ax ((k,o)::r)=(k,eO o)::ax r:=rfl
theorem i7 (a b:Ur):ax (a++b)=ax a++ax b:=by simp [ax]
end
section
variable {P:Program} {Fn:Nat→List D→az} {FnD:D→List Sh→List D→az} {m:Nat} {r:Nat×List Yr} {ob:Ur}
theorem Q.reads_bind {α β:Type} (o:Ob) (q:Q α) (f:α→Q β):(q.bind f).reads o=q.reads o++(match q.run o with | some a=>(f a).reads o | none=>[]):=by
 induction q with
 | ret a=>rfl
 | get k g ih=>simp only [Q.bind,Q.reads,Q.run,ih,Kp]
 | fail=>rfl
def OKQ (ob:Ur) (q:Q cn) (k:K3 D Nat Rr Mr az) (r:Nat×List Yr):Prop :=
 ∃ v us rd,q.run (ac (ax ob))=some (eV v,ax us)∧(∀ x∈q.reads (ac (ax ob)),x∈rd)∧k v us rd=some r
theorem OKQ.ret {v:cm} {us:Ur} {rd:List Nat} {k:K3 D Nat Rr Mr az} (h:k v us rd=some r):OKQ ob (.ret (eV v,ax us)) k r:=⟨v,us,rd,rfl,by simp [Q.reads],h⟩
theorem OKQ.ret0 {v:cm} {rd:List Nat} {k:K3 D Nat Rr Mr az} (h:k v [] rd=some r):OKQ ob (.ret (eV v,[])) k r:=OKQ.ret (us:=[]) h
theorem OKQ.get {key:Nat} {f:Option O→Q cn} {k:K3 D Nat Rr Mr az} {rd0:List Nat} (h:OKQ ob (f (ac (ax ob) key)) (fun v us rd=>k v us (rd0++rd)) r) (hk:key∈rd0):OKQ ob (.get key f) k r:=by
 obtain ⟨v,us,rd,h1,h2,h3⟩:=h
 refine ⟨v,us,rd0++rd,h1,?_,h3⟩
 intro x hx
 simp only [Q.reads,Ka] at hx
 rcases hx with rfl | hx
 ·exact Kz _ hk
 ·exact M2 _ (h2 x hx)
theorem dR {o:Option cm} {o':Option V} {rd:List Nat} {k:K3 D Nat Rr Mr az} (h:l7 (aa Fn FnD m) o rd k=some r) (ho:∀ v,o=some v→o'=some (eV v)):∃ v,o'=some (eV v)∧k v [] rd=some r:=by
 unfold l7 at h
 split at h
 ·rename_i v;exact ⟨v,ho v rfl,h⟩
 ·cases h
theorem OKQ.mk {q:Q cn} {k:K3 D Nat Rr Mr az} {v:cm} {us:Ur} {rd:List Nat} (h1:q.run (ac (ax ob))=some (eV v,ax us)) (h2:∀ x∈q.reads (ac (ax ob)),x∈rd) (h3:k v us rd=some r):OKQ ob q k r:=⟨v,us,rd,h1,h2,h3⟩
theorem aX {a b:Nat} {k:az} (h:(aa Fn FnD m).eqN a b k=some r):a=b∧k=some r:=by
 simp only [aa] at h;split at h
 ·exact ⟨‹_›,h⟩
 ·cases h
theorem iQ {a b:Nat} {k:az} (h:(aa Fn FnD m).leN a b k=some r):a≤b∧k=some r:=by
 simp only [aa] at h;split at h
 ·exact ⟨‹_›,h⟩
 ·cases h
theorem iP {x:D} {k:az} (h:(aa Fn FnD m).nilD x k=some r):x=.lit (.slice none 0 0)∧k=some r:=by
 simp only [aa] at h;split at h
 ·exact ⟨rfl,h⟩
 ·cases h
theorem rK {n:Nat} {x:D} {k:List D→az} (h:(aa Fn FnD m).ptrW n x k=some r):∃ row,x=.dp row 0∧row.length=n∧k row=some r:=by
 simp only [aa] at h;split at h
 ·split at h
  ·exact ⟨_,rfl,‹_›,h⟩
  ·cases h
 ·cases h
theorem xv {x:D} {k:az} (h:(aa Fn FnD m).isPtr x k=some r):(∃ row o,x=.dp row o)∧k=some r:=by
 simp only [aa] at h;split at h
 ·exact ⟨⟨_,_,rfl⟩,h⟩
 ·cases h
theorem d7 {s i:Nat} {rows:Rr} {k:List D→az} (h:(aa Fn FnD m).rowAt s rows i k=some r):∃ w,rows[i]?=some w∧w.length=s∧k w=some r:=by
 simp only [aa] at h;split at h
 ·split at h
  ·exact ⟨_,‹_›,‹_›,h⟩
  ·cases h
 ·cases h
theorem kH {α:Type} {o:Option α} {k:α→az} (h:oK o k=some r):∃ a,o=some a∧k a=some r:=by
 unfold oK at h;split at h
 ·exact ⟨_,rfl,h⟩
 ·cases h
theorem jM {x:D} {n:Nat} {k:Nat→az} (h:(aa Fn FnD m).inx x n k=some r):∃ kk z,x=.lit (.int kk z)∧(0≤z∧z < (n:Int))∧k z.toNat=some r:=by
 simp only [aa] at h;split at h
 ·split at h
  ·exact ⟨_,_,rfl,‹_›,h⟩
  ·cases h
 ·cases h
theorem rJ {x:D} {n:Nat} {ks:List az} (h:(aa Fn FnD m).selI n x ks=some r):∃ kk z,x=.lit (.int kk z)∧(0≤z∧z < (n:Int))∧AL ks z.toNat=some r:=by
 simp only [aa] at h;split at h
 ·split at h
  ·exact ⟨_,_,rfl,‹_›,h⟩
  ·cases h
 ·cases h
theorem AP {es:Nat} {x i:D} {k:List D→az} (h:(aa Fn FnD m).rowD es x i k=some r):∃ rows kk z w,x=.sl es rows∧i=.lit (.int kk z)∧0≤z∧rows[z.toNat]?=some w∧w.length=es∧k w=some r:=by
 simp only [aa] at h;split at h
 ·split at h
  ·rename_i hz
   obtain ⟨rfl,hz⟩:=hz
   split at h
   ·split at h
    ·exact ⟨_,_,_,_,rfl,rfl,hz,‹_›,‹_›,h⟩
    ·cases h
   ·cases h
  ·cases h
 ·cases h
theorem uJ {l h':Option D} {n:Nat} {k:Nat→Nat→az} {e:az} (h:(aa Fn FnD m).cut l h' n k e=some r):∃ zl zh,fC l=some zl∧fC h'=some zh∧(0≤zl.getD 0∧zl.getD 0≤zh.getD n∧zh.getD n≤n) ∧
  (((zl.getD 0=0∨zl.getD 0 < zh.getD n)∧k (zl.getD 0).toNat (zh.getD n - zl.getD 0).toNat=some r)∨(¬ (zl.getD 0=0∨zl.getD 0 < zh.getD n)∧e=some r)):=by
 simp only [aa] at h;split at h
 ·rename_i zl zh h1 h2
  split at h
  ·split at h
   ·exact ⟨zl,zh,h1,h2,‹_›,.inl ⟨‹_›,h⟩⟩
   ·exact ⟨zl,zh,h1,h2,‹_›,.inr ⟨‹_›,h⟩⟩
  ·cases h
 ·cases h
theorem AU {es:Nat} {x:D} {l h':Option D} {k:D→az} (h:(aa Fn FnD m).cutD es x l h' k=some r):∃ zl zh z,fC l=some zl∧fC h'=some zh∧Ae es zl zh x=some z∧k z=some r:=by
 simp only [aa] at h;split at h
 ·obtain ⟨z,h1,h2⟩:=kH h;exact ⟨_,_,z,‹_›,‹_›,h1,h2⟩
 ·cases h
theorem uI {l h':Option D} {k:az} (h:(aa Fn FnD m).cutNil l h' k=some r):∃ zl zh,fC l=some zl∧fC h'=some zh∧(zl.getD 0=0∧zh.getD 0=0)∧k=some r:=by
 simp only [aa] at h;split at h
 ·split at h
  ·exact ⟨_,_,‹_›,‹_›,‹_›,h⟩
  ·cases h
 ·cases h
theorem gI {x:D} {a b:az} (h:(aa Fn FnD m).cond x a b=some r):(x=.lit (.bool true)∧a=some r)∨(x=.lit (.bool false)∧b=some r):=by
 simp only [aa] at h;split at h
 ·exact .inl ⟨rfl,h⟩
 ·exact .inr ⟨rfl,h⟩
 ·cases h
theorem fX {o:az} {ks:List (List Yr→az)} (h:(aa Fn FnD m).bnd o ks=some r):∃ j ys k,o=some (j,ys)∧ks[j]?=some k∧k ys=some r:=by
 simp only [aa] at h;split at h
 ·split at h
  ·exact ⟨_,_,_,rfl,‹_›,h⟩
  ·cases h
 ·cases h
theorem CC {op:BinOp} {bl:Bool} {x y:D} {k:D→az} (h:(aa Fn FnD m).bin op bl x y k=some r):∃ z,ib op bl x y=some z∧k z=some r:=kH h
theorem yW {op:UnOp} {x:D} {k:D→az} (h:(aa Fn FnD m).un op x k=some r):∃ z,unD op x=some z∧k z=some r:=kH h
theorem EV {mx:Bool} {x y:D} {k:D→az} (h:(aa Fn FnD m).mm mx x y k=some r):∃ z,mmD mx x y=some z∧k z=some r:=kH h
theorem uH {ks:List Bool} {ng:Bool} {x y:List D} {k:D→az} (h:(aa Fn FnD m).eqs ks ng x y k=some r):∃ b,ct ks (x.map .d) (y.map .d)=some b∧k (.lit (.bool (if ng then !b else b)))=some r:=by
 simp only [aa] at h;split at h
 ·exact ⟨_,‹_›,h⟩
 ·cases h
theorem Cz {bs:Nat} {x y:D} {k:Nat→az} (h:(aa Fn FnD m).mkN bs x y k=some r):∃ a n,x=.lit (.int a n)∧y=.lit (.int a n)∧(0≤n∧bs*n≤140737488355328∧n≤9223372036854775807)∧k n.toNat=some r:=by
 simp only [aa] at h;split at h
 ·split at h
  ·rename_i hc;obtain ⟨rfl,rfl,hc⟩:=hc;exact ⟨_,_,rfl,rfl,hc,h⟩
  ·cases h
 ·cases h
theorem CA {bs:Nat} {x:D} {k:Nat→az} (h:(aa Fn FnD m).gap bs x k=some r):∃ a n,x=.lit (.int a n)∧(0 < n∧bs*n≤140737488355328∧n≤9223372036854775807)∧k n.toNat=some r:=by
 simp only [aa] at h;split at h
 ·split at h
  ·exact ⟨_,_,rfl,‹_›,h⟩
  ·cases h
 ·cases h
theorem AS {x:D} {k:D→az} (h:(aa Fn FnD m).lenD x k=some r):∃ n,zC x=some n∧k (.lit (.int .i64 n))=some r:=by
 simp only [aa] at h;split at h
 ·exact ⟨_,‹_›,h⟩
 ·cases h
theorem AR {x:D} {k:D→az} (h:(aa Fn FnD m).lenS x k=some r):∃ s,x=.lit (.string s)∧k (.lit (.int .i64 s.size))=some r:=by
 simp only [aa] at h;split at h
 ·exact ⟨_,rfl,h⟩
 ·cases h
theorem pO {es:Nat} {x:D} {k:Rr→az} (h:(aa Fn FnD m).rowsD es x k=some r):∃ rows,jc es x=some rows∧k rows=some r:=by
 simp only [aa] at h;split at h
 ·exact ⟨_,‹_›,h⟩
 ·cases h
theorem pQ {rows:Rr} {a b:az} (h:(aa Fn FnD m).isNil rows a b=some r):(rows=[]∧a=some r)∨(rows≠[]∧b=some r):=by
 cases rows with
 | nil=>exact .inl ⟨rfl,h⟩
 | cons x xs=>exact .inr ⟨by simp,h⟩
theorem iR {bs n:Nat} {k:az} (h:(aa Fn FnD m).fits bs n k=some r):n*bs≤140737488355328∧n≤maxLen∧k=some r:=by
 simp only [aa] at h;split at h
 ·rename_i hc;exact ⟨hc.1,hc.2,h⟩
 ·cases h
theorem pR {agg:Bool} {x:D} {k:Mr→az} (h:(aa Fn FnD m).asM agg x k=some r):∃ mm,rm agg x=some mm∧k mm=some r:=by
 simp only [aa] at h;split at h
 ·exact ⟨_,‹_›,h⟩
 ·cases h
theorem AQ {kd:Nat} {zs:List Value} {mm:Mr} {key:D} {k:List D→D→az} (h:(aa Fn FnD m).look kd zs mm key k=some r):∃ p,vj kd zs mm key=some p∧k p.1 p.2=some r:=by
 simp only [aa] at h;split at h
 ·exact ⟨_,‹_›,h⟩
 ·cases h
theorem Cy {kd:Nat} {mm:Mr} {key:D} {ds:List D} {k:Mr→az} (h:(aa Fn FnD m).upd kd mm key ds k=some r):∃ m',Hf kd mm key ds=some m'∧k m'=some r:=by
 simp only [aa] at h;split at h
 ·exact ⟨_,‹_›,h⟩
 ·cases h
theorem rL {x:D} {a b:az} (h:(aa Fn FnD m).nilE x a b=some r):(x=.lit (.slice none 0 0)∧a=some r)∨∃ s rows,x=.sl s rows∧b=some r:=by
 simp only [aa] at h
 split at h
 ·exact .inl ⟨rfl,h⟩
 ·exact .inr ⟨_,_,rfl,h⟩
 ·cases h
theorem CB {kd:IntKind} {y:D} {k:D→az} (h:(aa Fn FnD m).cvI kd y k=some r):∃ a n,y=.lit (.int a n)∧k (.lit (.int kd (kd.wrap n)))=some r:=by
 simp only [aa] at h;split at h
 ·exact ⟨_,_,rfl,h⟩
 ·cases h
theorem uG {y:D} {rows new:Rr} {k:Rr→az} (h:(aa Fn FnD m).ins y rows new k=some r):∃ z,y=.lit (.int .i64 z)∧(0≤z∧z.toNat≤rows.length)∧k (rows.take z.toNat++new++rows.drop z.toNat)=some r:=by
 simp only [aa] at h;split at h
 ·split at h
  ·exact ⟨_,rfl,‹_›,h⟩
  ·cases h
 ·cases h
theorem rO {ys:List Yr} {k:az} (h:(aa Fn FnD m).lits ys k=some r):ys.all nW=true∧k=some r:=by
 simp only [aa] at h;split at h
 ·exact ⟨‹_›,h⟩
 ·cases h
theorem AT {kd:Nat} {mm:Mr} {key:D} {k:Nat→az} {e:az} (h:(aa Fn FnD m).find kd mm key k e=some r):(∃ j,lN kd mm key=some (some j)∧k j=some r)∨(lN kd mm key=some none∧e=some r):=by
 simp only [aa] at h;split at h
 ·exact .inl ⟨_,‹_›,h⟩
 ·exact .inr ⟨‹_›,h⟩
 ·cases h
theorem AV {kd:Nat} {mm:Mr} {key:D} {j:Nat} {k:Mr→az} (h:(aa Fn FnD m).addK kd mm key j k=some r):∃ m',vZ kd mm key j=some m'∧k m'=some r:=by
 simp only [aa] at h;split at h
 ·exact ⟨_,‹_›,h⟩
 ·cases h
theorem fV:∀ {xs:List gg} {ds:List D},fW (aa Fn FnD m) xs=some ds→bL xs=ds.map .d
 | [],ds,h=>by simp [fW] at h;subst h;rfl
 | x::xs,ds,h=>by
  simp only [fW] at h
  split at h
  ·rename_i y ys hy hys
   cases h
   simp [bL,cI hy,fV hys]
  ·cases h
theorem Dy (ds:List D) (o:Ob):(dJ (ds.map .d)).run o=some (ds,[])∧(dJ (ds.map .d)).reads o=[]:=by
 induction ds with
 | nil=>exact ⟨rfl,rfl⟩
 | cons d ds ih=>exact ⟨by simp [dJ,jA,Q.bind,Q.run_bind,ih.1,Q.run],by simp [dJ,jA,Q.bind,Q.reads_bind,ih.1,ih.2,Q.reads]⟩
theorem ka {g:Bool} {s off:Nat} {cells:List L} {v:V} (hl:off+s≤cells.length) (h:Bc g ((cells.drop off).take s)=some v):bx g s off cells=some v:=by
 cases g with
 | true=>simp only [Bc] at h;simp [bx,hl,← h]
 | false =>
  simp only [bx,Jl,Ju]
  unfold Bc at h
  split at h
  ·contradiction
  ·rename_i x hx
   cases h
   have h0:=congrArg (·[0]?) hx
   simp only [M9,Mt,Kx,Kk] at h0
   split at h0
   ·rw [h0];rfl
   ·cases h0
  ·cases h
theorem uO (w:List D) (off s:Nat) (h:off+s≤w.length):(List.range s).map (fun i=>w.getD (off+i) default)=(w.drop off).take s:=by
 apply Mf
 intro i
 simp only [K9,M9,Mt]
 by_cases hi:i < s
 ·rw [Mx hi,K1 hi,Kv,Jo (by omega)]
  simp [K6,Jo (show off+i < w.length by omega)]
 ·rw [Kr (by simpa using hi),Kc hi];rfl
theorem vK {cells:List gg} {b n es i:Nat} (hi:i < n):∀ {s o:Nat} {xs:List gg},vL (aa Fn FnD m) cells b n es i o s=some xs→b+es*i+o+s≤cells.length→bL xs=((bL cells).drop (b+es*i+o)).take s
 | 0,o,xs,h,_=>by simp [vL] at h;subst h;simp [bL]
 | s+1,o,xs,h,hl=>by
  simp only [vL] at h
  split at h
  ·rename_i ds ys hds hys
   cases h
   have ih:=vK hi hys (by omega)
   have h1:=fV hds
   have h2:=congrArg (·[i]?) h1
   have hlt:b+es*i+o < cells.length:=by omega
   have hd:(bL cells).drop (b+es*i+o)=eL cells[b+es*i+o]::(bL cells).drop (b+es*i+o+1):=by
    rw [bc,T2 (by simpa using hlt)];simp
   simp only [bc,Ml,K9,Mx hi,Kv,Function.comp] at h2
   rw [hd,Mn]
   simp only [bL]
   rw [show b+es*i+o+1=b+es*i+(o+1) by omega,← ih]
   congr 1
   rw [K6,show b+i*es+o=b+es*i+o by rw [Nat.mul_comm],Jo hlt,M4] at h2
   simp only [aa,eL,K6]
   cases hq:ds[i]? with
   | none=>rw [hq] at h2;simp at h2
   | some z=>rw [hq] at h2;simp at h2;rw [h2];rfl
  ·cases h
theorem F4 {i b n es off:Nat} {ds:List D} {cells:List gg} (hi:i < n) (hes:0 < es) (hb:b+n*es≤cells.length) (ho:off+ds.length≤es) (hd:(uV (aa Fn FnD m) i b n es off ds cells).all L3.isDef=true) :
  bL (uV (aa Fn FnD m) i b n es off ds cells)=(bL cells).take (b+es*i+off)++ds.map .d++(bL cells).drop (b+es*i+off+(ds.map L.d).length):=by
 have hin:es*i+es≤n*es:=by rw [Nat.mul_comm es i,← Nat.succ_mul];exact M8 _ hi
 have hlen:b+es*i+off+(ds.map L.d).length≤(bL cells).length:=by rw [cj,Jp];omega
 apply Mf
 intro p
 rw [gL _ _ _ hlen,Jp]
 by_cases hp:p < cells.length
 ·have hx:(uV (aa Fn FnD m) i b n es off ds cells)[p]?=some (if b≤p∧p < b+n*es∧off≤(p - b) % es∧(p - b) % es < off+ds.length then HC (aa Fn FnD m) i ((p - b) / es) cells[p] ds[(p - b) % es - off]? else cells[p]):=by
   simp only [uV,K9,List.getElem?_zipIdx,Jo hp,Kv,Jv]
  have hdef:=Kq.1 hd _ (K2 hx)
  rw [bc,K9,hx,Kv]
  have hcp:(bL cells)[p]?=some (eL cells[p]):=by rw [bc,K9,Jo hp];rfl
  have hmod:=Nat.div_add_mod (p - b) es
  by_cases hc:b≤p∧p < b+n*es∧off≤(p - b) % es∧(p - b) % es < off+ds.length
  ·rw [K1 hc] at hdef ⊢
   obtain ⟨c1,c2,c3,c4⟩:=hc
   unfold HC at hdef ⊢
   split at hdef
   ·rename_i old new h1 h2
    simp only [aa,eL]
    by_cases hq:i=(p - b) / es
    ·rw [K1 hq,Kc (by rw [←hq] at hmod;omega),K1 (by rw [←hq] at hmod;omega)]
     rw [K9,show p - (b+es*i+off)=(p - b) % es - off by rw [←hq] at hmod;omega,h2];rfl
    ·rw [Kc hq]
     have hnot:¬ (b+es*i+off≤p∧p < b+es*i+off+ds.length):=by
      rintro ⟨h3,h4⟩
      refine hq ?_
      have:p - b=es*i+(p - b - es*i):=by omega
      rw [this,Nat.mul_add_div hes,Nat.div_eq_of_lt (by omega)];rfl
     have:some (L.d old)=(bL cells)[p]?:=by rw [hcp,cI h1]
     split
     ·exact this
     ·rw [Kc (by omega)];exact this
   ·simp [L3.isDef] at hdef
  ·rw [Kc hc]
   have hnot:¬ (b+es*i+off≤p∧p < b+es*i+off+ds.length):=by
    rintro ⟨h3,h4⟩
    refine hc ?_
    have e1:(p - b) % es=p - b - es*i:=by
     have:p - b=es*i+(p - b - es*i):=by omega
     rw [this,Nat.mul_add_mod,Nat.mod_eq_of_lt (by omega)];omega
    rw [e1]
    omega
   split
   ·exact hcp.symm
   ·rw [Kc (by omega)];exact hcp.symm
 ·have h1:(bL (uV (aa Fn FnD m) i b n es off ds cells))[p]?=none:=Kr (by rw [cj];simp [uV];omega)
  rw [h1]
  rw [cj,Jp] at hlen
  rw [Kc (by omega),Kc (by omega),Kr (by rw [cj];omega)]
theorem vk {g:Bool} {s:Nat} {x:cm} {k:K3 D Nat Rr Mr az} (h:zA (aa Fn FnD m) g s ob x k=some r):OKQ ob (fm g s (eV x)) k r:=by
 unfold zA at h
 split at h
 ·rename_i key off
  split at h
  ·rename_i cells elem hk
   obtain ⟨v,h1,h2⟩:=dR (o':=bx g s off (bL cells)) h fun v hv=>by rw [eN,hv];rfl
   refine OKQ.mk (v:=v) (us:=[]) (rd:=[key]) ?_ ?_ h2
   ·simp [fm,eV,eL,Q.run,au,hk,eO,aP,h1,Q.opt,Q.bind,aA]
   ·simp [fm,eV,eL,Q.reads,au,hk,eO,aP,h1,Q.opt,Q.bind]
  ·cases h
 ·rename_i key i off c
  split at h
  ·rename_i rows size elem own hk
   obtain ⟨hc,h⟩:=aX h
   obtain ⟨w,h1,h2,h⟩:=d7 h
   rw [cQ h2] at h
   obtain ⟨v,h3,h4⟩:=dR (o':=bx g s off (w.map .d)) h fun v hv=>by rw [←A4,eN,hv];rfl
   have hc':c=rows.length:=hc
   refine OKQ.mk (v:=v) (us:=[]) (rd:=[key]) ?_ ?_ h4
   ·simp [fm,eV,eL,Q.run,au,hk,eO,aP,h1,h3,Q.opt,Q.bind,aA,Q.guard,hc']
   ·simp [fm,eV,eL,Q.reads,au,hk,eO,aP,h1,h3,Q.opt,Q.bind,Q.guard,hc']
  ·rename_i rows size elem own hk
   obtain ⟨hc,h⟩:=aX h
   obtain ⟨w,h1,h2,h⟩:=d7 h
   rw [cQ h2] at h
   obtain ⟨v,h3,h4⟩:=dR (o':=bx g s off (w.map .d)) h fun v hv=>by rw [←A4,eN,hv];rfl
   have hc':c=rows.length:=hc
   have hg:=cY hk (by rintro rfl;simp at h1)
   refine OKQ.mk (v:=v) (us:=[]) (rd:=[key]) ?_ ?_ h4
   ·simp [fm,eV,eL,Q.run,hg,aP,h1,h3,Q.opt,Q.bind,aA,Q.guard,hc']
   ·simp [fm,eV,eL,Q.reads,hg,aP,h1,h3,Q.opt,Q.bind,Q.guard,hc']
  ·cases h
 ·rename_i row off
  obtain ⟨v,h1,h2⟩:=dR (o':=bx g s off (row.map .d)) h fun v hv=>by rw [←A4,eN,hv];rfl
  refine OKQ.mk (v:=v) (us:=[]) (rd:=[]) ?_ ?_ h2
  ·simp [fm,eV,eL,Q.run,aP,h1,Q.opt,Q.bind,aA]
  ·simp [fm,eV,eL,Q.reads,aP,h1,Q.opt,Q.bind]
 ·rename_i key j off
  split at h
  ·rename_i mm size elem hk
   obtain ⟨w,h1,h2,h⟩:=d7 h
   obtain ⟨h3,h⟩:=iQ h
   have h3':off+s≤w.length:=by rw [h2];exact h3
   have h1':mm.2[j]?=some w:=h1
   obtain ⟨v,h4,h5⟩:=dR (o':=bx g s off (w.map .d)) h fun v hv=>by
    refine ka (by simpa using h3') ?_
    have e:bL ((List.range s).map fun i=>.d ((aa Fn FnD m).cellN w off i))=((w.map L.d).drop off).take s:=by
     rw [←List.map_drop,← V4,← uO w off s h3',bc,Ml,Ml]
     rfl
    rw [←e,zx,hv];rfl
   refine OKQ.mk (v:=v) (us:=[]) (rd:=[key]) ?_ ?_ h5
   ·simp [fm,eV,eL,Q.run,au,hk,eO,aP,h1',h4,Q.opt,Q.bind,aA]
   ·simp [fm,eV,eL,Q.reads,au,hk,eO,aP,h1',h4,Q.opt,Q.bind]
  ·cases h
 ·rename_i key b n es i off
  split at h
  ·rename_i cells elem hk
   split at h
   ·rename_i hle
    split at h
    ·rename_i xs hxs
     obtain ⟨h3,h⟩:=iQ h
     have h3':i+1≤n:=h3
     have hin:es*i+es≤n*es:=by rw [Nat.mul_comm es i,← Nat.succ_mul];exact M8 _ h3'
     obtain ⟨v,h4,h5⟩:=dR (o':=bx g s (b+es*i+off) (bL cells)) h fun v hv=>by
      refine ka (by rw [cj];omega) ?_
      rw [←vK h3' hxs (by omega),zx,hv];rfl
     refine OKQ.mk (v:=v) (us:=[]) (rd:=[key]) ?_ ?_ h5
     ·simp [fm,eV,eL,Q.run,au,hk,eO,aP,h4,Q.opt,Q.bind,aA]
     ·simp [fm,eV,eL,Q.reads,au,hk,eO,aP,h4,Q.opt,Q.bind]
    ·cases h
   ·cases h
  ·cases h
 ·cases h
theorem tV {x:gg} {k:D→Ur→List Nat→az} (h:tW (aa Fn FnD m) ob x k=some r):∃ d us rd,(jA (eL x)).run (ac (ax ob))=some (d,ax us)∧(∀ q∈(jA (eL x)).reads (ac (ax ob)),q∈rd)∧k d us rd=some r:=by
 unfold tW at h
 split at h
 ·rename_i key off n c
  split at h
  ·rename_i rows size elem own hk
   obtain ⟨hc,h⟩:=aX h
   have hc':c=rows.length:=hc
   refine ⟨_,_,_,?_,?_,h⟩
   ·simp [jA,eL,Q.run,au,hk,eO,Q.guard,hc',aa,aA,aM]
   ·simp [jA,eL,Q.reads,au,hk,eO,Q.guard,hc']
  ·cases h
 ·rename_i key
  split at h
  ·rename_i agg mm own hk
   refine ⟨_,_,_,?_,?_,h⟩
   ·simp [jA,eL,Q.run,au,hk,eO,aa,aA,aM]
   ·simp [jA,eL,Q.reads,au,hk,eO]
  ·cases h
 ·rename_i key n
  split at h
  ·rename_i rows size elem own hk
   obtain ⟨hc,h⟩:=aX h
   have hc':n=rows.length:=hc
   refine ⟨_,_,_,?_,?_,h⟩
   ·cases rows with
    | nil=>simp [jA,eL,Q.run,iX hk,eO,Q.guard,hc',aa,aA,aM]
    | cons a t=>simp [jA,eL,Q.run,cY hk,eO,Q.guard,hc',aa,aA,aM]
   ·cases rows with
    | nil=>simp [jA,eL,Q.reads,iX hk,Q.guard,hc']
    | cons a t=>simp [jA,eL,Q.reads,cY hk,Q.guard,hc']
  ·cases h
 ·split at h
  ·rename_i y hy
   refine ⟨_,_,_,?_,?_,h⟩
   ·rw [cI hy];simp [jA,Q.run,aA]
   ·rw [cI hy];simp [jA,Q.reads]
  ·cases h
theorem iY:∀ {xs:List gg} {k:List D→Ur→List Nat→az},oq (aa Fn FnD m) ob xs k=some r→∃ ds us rd,(dJ (bL xs)).run (ac (ax ob))=some (ds,ax us)∧(∀ q∈(dJ (bL xs)).reads (ac (ax ob)),q∈rd)∧k ds us rd=some r
 | [],k,h=>⟨[],[],[],by simp [bL,dJ,Q.run,aA],by simp [bL,dJ,Q.reads],h⟩
 | x::xs,k,h=>by
  simp only [oq] at h
  obtain ⟨d,us,rd,h1,h2,h⟩:=tV h
  obtain ⟨ds,us',rd',h3,h4,h⟩:=iY h
  refine ⟨_,_,_,?_,?_,h⟩
  ·simp [bL,dJ,Q.run_bind,h1,h3,Q.run,i7]
  ·intro q hq
   simp only [bL,dJ,Q.reads_bind,h1,h3,Kf,Q.reads,M5,T1] at hq
   rcases hq with hq | hq
   ·exact Kz _ (h2 q hq)
   ·exact M2 _ (h4 q hq)
theorem f9 {dst:Option Nat} {o:BV} {v:Nat→cm} {v':Nat→V} {k:K3 D Nat Rr Mr az} (h:e8 (aa Fn FnD m) ob dst o v k=some r) (hv:∀ q,eV (v q)=v' q):OKQ ob (fresh dst (eO o) v') k r:=by
 unfold e8 at h
 split at h
 ·rename_i key
  split at h
  ·rename_i hk
   refine OKQ.mk ?_ ?_ h
   ·simp [fresh,Q.run,au,hk,hv,aA,aM]
   ·simp [fresh,Q.reads,au,hk]
  ·cases h
 ·cases h
theorem AI {x:cm} {cs:List gg} {k:K3 D Nat Rr Mr az} (h:xf (aa Fn FnD m) ob x cs k=some r):OKQ ob (gh (eV x) (bL cs)) k r:=by
 unfold xf at h
 split at h
 ·rename_i key off
  split at h
  ·rename_i cells elem hk
   split at h
   ·rename_i hle
    refine OKQ.mk ?_ ?_ h
    ·simp [gh,eV,eL,Q.run,au,hk,eO,Q.guard,hle,aA,aM,bc,V4,List.map_drop]
    ·simp [gh,eV,eL,Q.reads,au,hk,eO,Q.guard,cj,hle]
   ·cases h
  ·cases h
 ·rename_i key i off c
  split at h
  ·rename_i rows size elem own hk
   split at h
   ·obtain ⟨hc,h⟩:=aX h
    have hc':c=rows.length:=hc
    obtain ⟨w,h1,h2,h⟩:=d7 h
    obtain ⟨ds,us,rd,h3,h4,h⟩:=iY h
    rw [cQ h2] at h
    split at h
    ·split at h
     ·rename_i hle
      refine OKQ.mk ?_ ?_ h
      ·simp only [gh,eV,eL,Q.run,au,hk,K8,eO,fj,Q.guard,hc',Jr,To,h1,Q.opt,Q.bind,Q.run_bind,h3,K8,h2,hle,aA,aM,T9]
       simp [aa]
      ·intro q hq
       simp only [gh,eV,eL,Q.reads,au,hk,K8,eO,fj,Q.guard,hc',Jr,To,h1,Q.opt,Q.bind,Q.reads_bind,h3,h2,hle,aA,T9,Ka,Kf,M5,T1] at hq
       rcases hq with rfl | hq
       ·simp
       ·exact Ks _ (h4 q hq)
     ·cases h
    ·cases h
   ·cases h
  ·cases h
 ·rename_i key j off
  split at h
  ·rename_i mm size elem hk
   split at h
   ·rename_i ds hds
    obtain ⟨w,h1,h2,h⟩:=d7 h
    obtain ⟨h3,h⟩:=iQ h
    have h3':off+ds.length≤w.length:=by rw [h2];exact h3
    have h1':mm.2[j]?=some w:=h1
    have hf:=Dy ds (ac (ax ob))
    have hgd:mm.2.getD j []=w:=by rw [K6,h1'];rfl
    refine OKQ.mk ?_ ?_ h
    ·simp only [gh,eV,eL,fV hds,Q.run,au,hk,K8,eO,He,h1',Q.opt,Q.bind,Q.run_bind,hf.1,K8,Q.guard,h3',Jr,T9,To,aA,aM]
     simp only [aa,iB,hgd]
    ·intro q hq
     simpa [gh,eV,eL,fV hds,Q.reads,au,hk,eO,h1',Q.opt,Q.bind,Q.reads_bind,hf.1,hf.2,Q.guard,h3'] using hq
   ·cases h
  ·cases h
 ·rename_i key b n es i off
  split at h
  ·rename_i cells elem hk
   split at h
   ·rename_i ds hds
    split at h
    ·rename_i hle
     obtain ⟨g1,g2,g3,g4⟩:=hle
     obtain ⟨h3,h⟩:=iQ h
     have h3':i+1≤n:=h3
     have hin:es*i+es≤n*es:=by rw [Nat.mul_comm es i,← Nat.succ_mul];exact M8 _ h3'
     have hp:=F4 h3' g4 g1 g2 g3
     have hle':b+es*i+off+(ds.map L.d).length≤(bL cells).length:=by rw [cj,Jp];omega
     have hle2:b+es*i+off+ds.length≤(bL cells).length:=by simpa using hle'
     refine OKQ.mk ?_ ?_ h
     ·simp only [gh,eV,eL,fV hds,Q.run,au,hk,K8,eO,oW,Q.guard,hle',Jr,aA,aM,hp]
     ·simp [hle2,gh,eV,eL,fV hds,Q.reads,au,hk,eO,Q.guard]
    ·cases h
   ·cases h
  ·cases h
 ·cases h
end
section
variable {P:Program} {Fn:Nat→List D→az} {FnD:D→List Sh→List D→az} {m:Nat} {r:Nat×List Yr} {ob:Ur}
theorem iM {rec:gg→(D→List Nat→az)→az} {f:L→Q D} (hrec:∀ x k,rec x k=some r→∃ d rd,(f (eL x)).run (ac (ax ob))=some d∧(∀ q∈(f (eL x)).reads (ac (ax ob)),q∈rd)∧k d rd=some r) :
  ∀ {xs:List gg} {k:List D→List Nat→az},nZ rec xs k=some r→∃ ds rd,(Q.mapM f (bL xs)).run (ac (ax ob))=some ds∧(∀ q∈(Q.mapM f (bL xs)).reads (ac (ax ob)),q∈rd)∧ds.length=xs.length∧k ds rd=some r
 | [],k,h=>⟨[],[],by simp [bL,Q.mapM,Q.run],by simp [bL,Q.mapM,Q.reads],rfl,h⟩
 | x::xs,k,h=>by
  simp only [nZ] at h
  obtain ⟨d,rd,h1,h2,h⟩:=hrec _ _ h
  obtain ⟨ds,rd',h3,h4,h5,h⟩:=iM hrec h
  refine ⟨_,_,?_,?_,?_,h⟩
  ·simp [bL,Q.mapM,Q.run_bind,h1,h3,Q.run]
  ·intro q hq
   simp only [bL,Q.mapM,Q.reads_bind,h1,h3,Kf,Q.reads,M5,T1] at hq
   rcases hq with hq | hq
   ·exact Kz _ (h2 q hq)
   ·exact M2 _ (h4 q hq)
  ·simp [h5]
theorem lZ:∀ (n:Nat) (x:gg) (k:D→List Nat→az),dt (aa Fn FnD m) ob n x k=some r→∃ d rd,(bZ n (eL x)).run (ac (ax ob))=some d∧(∀ q∈(bZ n (eL x)).reads (ac (ax ob)),q∈rd)∧k d rd=some r:=by
 intro n
 induction n with
 | zero =>
  intro x k h
  cases x with
  | slk key off n' c =>
   simp only [dt] at h
   split at h
   ·rename_i rows size elem own hk
    obtain ⟨hc,h⟩:=aX h
    have hc':c=rows.length:=hc
    refine ⟨_,_,?_,?_,h⟩
    ·simp [bZ,eL,Q.run,au,hk,eO,Q.guard,hc',aa]
    ·simp [bZ,eL,Q.reads,au,hk,eO,Q.guard,hc']
   ·cases h
  | pa key i off c =>
   simp only [dt] at h
   split at h
   ·rename_i rows size elem own hk
    obtain ⟨hc,h⟩:=aX h
    have hc':c=rows.length:=hc
    obtain ⟨w,h1,h2,h⟩:=d7 h
    rw [cQ h2] at h
    refine ⟨_,_,?_,?_,h⟩
    ·simp [bZ,eL,Q.run,au,hk,eO,Q.guard,hc',h1,Q.opt,Q.bind,aa]
    ·simp [bZ,eL,Q.reads,au,hk,eO,Q.guard,hc',h1,Q.opt,Q.bind]
   ·rename_i rows size elem own hk
    obtain ⟨hc,h⟩:=aX h
    have hc':c=rows.length:=hc
    obtain ⟨w,h1,h2,h⟩:=d7 h
    rw [cQ h2] at h
    have hg:=cY hk (by rintro rfl;simp at h1)
    refine ⟨_,_,?_,?_,h⟩
    ·simp [bZ,eL,Q.run,hg,Q.guard,hc',h1,Q.opt,Q.bind,aa]
    ·simp [bZ,eL,Q.reads,hg,Q.guard,hc',h1,Q.opt,Q.bind]
   ·cases h
  | sln key n' =>
   simp only [dt] at h
   split at h
   ·rename_i rows size elem own hk
    obtain ⟨hc,h⟩:=aX h
    have hc':n'=rows.length:=hc
    refine ⟨_,_,?_,?_,h⟩
    ·cases rows with
     | nil=>simp [bZ,eL,Q.run,hc',aa]
     | cons a t=>simp [bZ,eL,Q.run,cY hk,Q.guard,hc',aa]
    ·cases rows with
     | nil=>simp [bZ,eL,Q.reads,hc']
     | cons a t=>simp [bZ,eL,Q.reads,cY hk,Q.guard,hc']
   ·cases h
  | mk key =>
   simp only [dt] at h
   split at h
   ·rename_i agg mm own hk
    refine ⟨_,_,?_,?_,h⟩
    ·simp [bZ,eL,Q.run,au,hk,eO,aa]
    ·simp [bZ,eL,Q.reads,au,hk,eO]
   ·cases h
  | ptr _ _=>simp [dt,du,aa] at h
  | fn _ _=>simp [dt,du,aa] at h
  | undef=>simp [dt,du,aa] at h
  | mq k0=>simp [dt,du,aa] at h
  | pb k0 j0 o0=>simp [dt,du,aa] at h
  | px k0 b0 n0 e0 i0 o0=>simp [dt,du,aa] at h
  | np=>simp only [dt,du] at h;exact ⟨_,_,by simp [eL,bZ,Q.run,aa],by simp [eL,bZ,Q.reads],h⟩
  | d x=>simp only [dt,du] at h;exact ⟨_,_,by simp [eL,bZ,Q.run],by simp [eL,bZ,Q.reads],h⟩
  | b x=>simp only [dt,du] at h;exact ⟨_,_,by simp [eL,bZ,Q.run,aa],by simp [eL,bZ,Q.reads],h⟩
  | i x y=>simp only [dt,du] at h;exact ⟨_,_,by simp [eL,bZ,Q.run,aa],by simp [eL,bZ,Q.reads],h⟩
  | nil=>simp only [dt,du] at h;exact ⟨_,_,by simp [eL,bZ,Q.run,aa],by simp [eL,bZ,Q.reads],h⟩
  | dp x y=>simp only [dt,du] at h;exact ⟨_,_,by simp [eL,bZ,Q.run,aa],by simp [eL,bZ,Q.reads],h⟩
 | succ n ih =>
  intro x k h
  cases x with
  | slk key off n' c =>
   simp only [dt] at h
   split at h
   ·rename_i rows size elem own hk
    obtain ⟨hc,h⟩:=aX h
    have hc':c=rows.length:=hc
    refine ⟨_,_,?_,?_,h⟩
    ·simp [bZ,eL,Q.run,au,hk,eO,Q.guard,hc',aa]
    ·simp [bZ,eL,Q.reads,au,hk,eO,Q.guard,hc']
   ·cases h
  | pa key i off c =>
   simp only [dt] at h
   split at h
   ·rename_i rows size elem own hk
    obtain ⟨hc,h⟩:=aX h
    have hc':c=rows.length:=hc
    obtain ⟨w,h1,h2,h⟩:=d7 h
    rw [cQ h2] at h
    refine ⟨_,_,?_,?_,h⟩
    ·simp [bZ,eL,Q.run,au,hk,eO,Q.guard,hc',h1,Q.opt,Q.bind,aa]
    ·simp [bZ,eL,Q.reads,au,hk,eO,Q.guard,hc',h1,Q.opt,Q.bind]
   ·rename_i rows size elem own hk
    obtain ⟨hc,h⟩:=aX h
    have hc':c=rows.length:=hc
    obtain ⟨w,h1,h2,h⟩:=d7 h
    rw [cQ h2] at h
    have hg:=cY hk (by rintro rfl;simp at h1)
    refine ⟨_,_,?_,?_,h⟩
    ·simp [bZ,eL,Q.run,hg,Q.guard,hc',h1,Q.opt,Q.bind,aa]
    ·simp [bZ,eL,Q.reads,hg,Q.guard,hc',h1,Q.opt,Q.bind]
   ·cases h
  | sln key n' =>
   simp only [dt] at h
   split at h
   ·rename_i rows size elem own hk
    obtain ⟨hc,h⟩:=aX h
    have hc':n'=rows.length:=hc
    refine ⟨_,_,?_,?_,h⟩
    ·cases rows with
     | nil=>simp [bZ,eL,Q.run,hc',aa]
     | cons a t=>simp [bZ,eL,Q.run,cY hk,Q.guard,hc',aa]
    ·cases rows with
     | nil=>simp [bZ,eL,Q.reads,hc']
     | cons a t=>simp [bZ,eL,Q.reads,cY hk,Q.guard,hc']
   ·cases h
  | mk key =>
   simp only [dt] at h
   split at h
   ·rename_i agg mm own hk
    refine ⟨_,_,?_,?_,h⟩
    ·simp [bZ,eL,Q.run,au,hk,eO,aa]
    ·simp [bZ,eL,Q.reads,au,hk,eO]
   ·cases h
  | ptr key off =>
   simp only [dt] at h
   split at h
   ·rename_i cells elem hk
    obtain ⟨ds,rd,h1,h2,_,h⟩:=iM (f:=bZ n) ih h
    refine ⟨_,_,?_,?_,h⟩
    ·simp [bZ,eL,Q.run,au,hk,eO,Q.run_bind,h1,aa]
    ·intro q hq
     simp only [bZ,eL,Q.reads,au,hk,K8,eO,oW,Q.reads_bind,h1,Ka,Kf,M5,T1] at hq
     rcases hq with rfl | hq
     ·simp
     ·exact Ks _ (h2 q hq)
   ·cases h
  | fn f cs =>
   simp only [dt] at h
   obtain ⟨ds,rd,h1,h2,_,h⟩:=iM (f:=bZ n) ih h
   refine ⟨_,_,?_,?_,h⟩
   ·simp [bZ,eL,Q.run_bind,h1,Q.run,aa]
   ·intro q hq
    simp only [bZ,eL,Q.reads_bind,h1,Q.reads,Kf,M5,T1] at hq
    exact h2 q hq
  | undef=>simp [dt,du,aa] at h
  | mq k0=>simp [dt,du,aa] at h
  | pb k0 j0 o0=>simp [dt,du,aa] at h
  | px k0 b0 n0 e0 i0 o0=>simp [dt,du,aa] at h
  | np=>simp only [dt,du] at h;exact ⟨_,_,by simp [eL,bZ,Q.run,aa],by simp [eL,bZ,Q.reads],h⟩
  | d x=>simp only [dt,du] at h;exact ⟨_,_,by simp [eL,bZ,Q.run],by simp [eL,bZ,Q.reads],h⟩
  | b x=>simp only [dt,du] at h;exact ⟨_,_,by simp [eL,bZ,Q.run,aa],by simp [eL,bZ,Q.reads],h⟩
  | i x y=>simp only [dt,du] at h;exact ⟨_,_,by simp [eL,bZ,Q.run,aa],by simp [eL,bZ,Q.reads],h⟩
  | nil=>simp only [dt,du] at h;exact ⟨_,_,by simp [eL,bZ,Q.run,aa],by simp [eL,bZ,Q.reads],h⟩
  | dp x y=>simp only [dt,du] at h;exact ⟨_,_,by simp [eL,bZ,Q.run,aa],by simp [eL,bZ,Q.reads],h⟩
theorem pG {x:gg} {k:IntKind} {z:Int} (h:du (aa Fn FnD m) x=some (.lit (.int k z))):vInt? (.one (eL x))=some (k,z):=by rw [cI h];rfl
theorem zL {es:Nat} {x:cm} {k:K3 D Nat Rr Mr az} {j:Nat} (h:Bm (aa Fn FnD m) es x k j=some r):∃ v,dG (j*es) (eV x)=some (eV v)∧k v [] []=some r:=by
 unfold Bm at h
 exact dR (o':=dG (j*es) (eV x)) h fun v hv=>nT hv
theorem si {arr:Option Nat} {e:Nat} {es:Nat} {x:cm} {i:gg} {k:K3 D Nat Rr Mr az} (h:tO (aa Fn FnD m) arr es ob x i k=some r):∃ kk z,vInt? (.one (eL i))=some (kk,z)∧OKQ ob (cJ (arr.map fun n=>(n,e)) es (eV x) z) k r:=by
 unfold tO at h
 cases arr with
 | some n =>
  simp only at h
  split at h
  ·rename_i kk z
   split at h
   ·rename_i hz
    obtain ⟨v,h1,h2⟩:=zL h
    refine ⟨kk,z,rfl,OKQ.mk (v:=v) (us:=[]) (rd:=[]) ?_ ?_ h2⟩
    ·simp [cJ,aP,hz,h1,Q.opt,Q.bind,Q.run,aA]
    ·simp [cJ,aP,hz,h1,Q.opt,Q.bind,Q.reads]
   ·cases h
  ·rename_i y
   have sel:(aa Fn FnD m).selI n y ((List.range n).map (Bm (aa Fn FnD m) es x k))=some r→∃ kk z,vInt? (.one (eL (.d y)))=some (kk,z)∧OKQ ob (cJ ((some n).map fun n=>(n,e)) es (eV x) z) k r:=by
    intro h
    obtain ⟨kk,z,rfl,hz,h⟩:=rJ h
    simp only [AL,K9] at h
    rw [Mx (by omega)] at h
    obtain ⟨v,h1,h2⟩:=zL (Fn:=Fn) (FnD:=FnD) (m:=m) h
    refine ⟨kk,z,rfl,OKQ.mk (v:=v) (us:=[]) (rd:=[]) ?_ ?_ h2⟩
    ·simp [cJ,aP,hz,h1,Q.opt,Q.bind,Q.run,aA]
    ·simp [cJ,aP,hz,h1,Q.opt,Q.bind,Q.reads]
   split at h
   ·rename_i key j off
    obtain ⟨kk,z,rfl,hz,h⟩:=jM h
    have hz':0≤z∧z < (n:Int):=hz
    refine ⟨kk,z,rfl,OKQ.mk (us:=[]) (rd:=[]) ?_ ?_ h⟩
    ·simp [cJ,aP,hz',dG,eV,eL,Q.opt,Q.bind,Q.run,aA,aa,Nat.mul_comm]
    ·simp [cJ,aP,hz',dG,eV,eL,Q.opt,Q.bind,Q.reads]
   ·rename_i key off
    split at h
    ·split at h
     ·obtain ⟨kk,z,rfl,hz,h⟩:=jM h
      have hz':0≤z∧z < (n:Int):=hz
      refine ⟨kk,z,rfl,OKQ.mk (us:=[]) (rd:=[]) ?_ ?_ h⟩
      ·simp [cJ,aP,hz',dG,eV,eL,Q.opt,Q.bind,Q.run,aA,Nat.mul_comm]
      ·simp [cJ,aP,hz',dG,eV,eL,Q.opt,Q.bind,Q.reads]
     ·exact sel h
    ·cases h
   ·exact sel h
  ·cases h
 | none =>
  simp only at h
  split at h
  ·cases h
  ·rename_i y hy
   split at h
   ·rename_i key off n c
    split at h
    ·rename_i rows size elem own hk
     split at h
     ·rename_i hs
      subst hs
      obtain ⟨hc,h⟩:=aX h
      have hc':c=rows.length:=hc
      obtain ⟨kk,z,rfl,hz,h⟩:=jM h
      refine ⟨kk,z,pG hy,OKQ.mk ?_ ?_ h⟩
      ·simp only [cJ,eV,eL,Q.run,au,hk,K8,Tt,eO,fj,Q.guard,hc',Kt,Jr,aP,Q.opt,aA]
       rw [K1 hz]
       cases off<;>simp [Q.run,Q.bind,aa]
      ·simp only [cJ,eV,eL,Q.reads,au,hk,K8,Tt,eO,fj,Q.guard,hc',Kt,Jr,aP,Q.opt]
       rw [K1 hz]
       simp [Q.reads,Q.bind]
     ·cases h
    ·cases h
   ·rename_i key n
    split at h
    ·rename_i rows size elem own hk
     split at h
     ·rename_i hs
      subst hs
      obtain ⟨hc,h⟩:=aX h
      have hc':n=rows.length:=hc
      obtain ⟨kk,z,rfl,hz,h⟩:=jM h
      have hg:=cY hk (by rintro rfl;simp at hc';omega)
      refine ⟨kk,z,pG hy,OKQ.mk ?_ ?_ h⟩
      ·simp only [cJ,eV,eL,Q.run,hg,Tt,Q.guard,hc',Kt,Jr,aP,Q.opt,aA]
       rw [K1 (by rw [←hc'];exact hz)]
       simp [Q.run,Q.bind]
      ·simp only [cJ,eV,eL,Q.reads,hg,Tt,Q.guard,hc',Kt,Jr,aP,Q.opt]
       rw [K1 (by rw [←hc'];exact hz)]
       simp [Q.reads,Q.bind]
     ·cases h
    ·cases h
   ·rename_i z0
    obtain ⟨rows,kk,z,w,rfl,rfl,hz,hw,hl,h⟩:=AP h
    rw [cQ hl] at h
    refine ⟨kk,z,pG hy,OKQ.mk ?_ ?_ h⟩
    ·simp [cJ,eV,eL,Q.guard,hz,hw,aP,Q.opt,Q.bind,Q.run,aA]
    ·simp [cJ,eV,eL,Q.guard,hz,hw,aP,Q.opt,Q.bind,Q.reads]
   ·cases h
theorem eA {ρ:Operand→cm} {o:Option Operand} {d:Option D} {z:Option Int} (h:rx (aa Fn FnD m) ρ o=some d) (hz:fC d=some z):oN (fun x=>eV (ρ x)) o=some z:=by
 unfold rx at h
 split at h
 ·cases h;simp only [fC] at hz;cases hz;rfl
 ·split at h
  ·rename_i y hy
   cases h
   simp only [fC,Jw] at hz
   obtain ⟨n,hn,rfl⟩:=hz
   unfold intD at hn
   split at hn
   ·cases hn;simp [oN,eE hy,vInt?]
   ·cases hn
  ·cases h
theorem FQ {es:Nat} {x:cm} {ρ:Operand→cm} {lo hi:Option Operand} {l h':Option D} {k:K3 D Nat Rr Mr az} (hl:rx (aa Fn FnD m) ρ lo=some l) (hh:rx (aa Fn FnD m) ρ hi=some h') (h:Ih (aa Fn FnD m) es ob x l h' k=some r) :
  ∃ zl zh,oN (fun x=>eV (ρ x)) lo=some zl∧oN (fun x=>eV (ρ x)) hi=some zh∧OKQ ob (kf es (eV x) zl zh) k r:=by
 unfold Ih at h
 split at h
 ·rename_i key off n c
  split at h
  ·rename_i rows size elem own hk
   split at h
   case isFalse=>cases h
   rename_i hs
   subst hs
   obtain ⟨hc,h⟩:=aX h
   have hc':c=rows.length:=hc
   cases l with
   | none =>
    obtain ⟨zl,zh,hzl,hzh,hb,h | ⟨_,h⟩⟩:=uJ h
    ·obtain ⟨hb2,h⟩:=h
     simp only [fC,Jm] at hzl
     subst hzl
     refine ⟨none,zh,eA hl rfl,eA hh hzh,OKQ.mk ?_ ?_ h⟩
     ·simp only [kf,eV,eL,Q.run,au,hk,K8,eO,fj,Q.guard,hc',Kt,Jr,aP,Q.opt,aA]
      rw [K1 hb,K1 hb2]
      simp [Q.run,Q.bind]
     ·simp only [kf,eV,eL,Q.reads,au,hk,K8,eO,fj,Q.guard,hc',Kt,Jr,aP,Q.opt]
      rw [K1 hb,K1 hb2]
      simp [Q.reads,Q.bind]
    ·cases h
   | some y =>
    obtain ⟨zl,zh,hzl,hzh,hb,⟨hb2,h⟩ | ⟨hb2,h⟩⟩:=uJ h
    ·refine ⟨zl,zh,eA hl hzl,eA hh hzh,OKQ.mk ?_ ?_ h⟩
     ·simp only [kf,eV,eL,Q.run,au,hk,K8,eO,fj,Q.guard,hc',Kt,Jr,aP,Q.opt,aA]
      rw [K1 hb,K1 hb2]
      cases off<;>simp [Q.run,Q.bind,aa]
     ·simp only [kf,eV,eL,Q.reads,au,hk,K8,eO,fj,Q.guard,hc',Kt,Jr,aP,Q.opt]
      rw [K1 hb,K1 hb2]
      simp [Q.reads,Q.bind]
    ·refine ⟨zl,zh,eA hl hzl,eA hh hzh,OKQ.mk ?_ ?_ h⟩
     ·simp only [kf,eV,eL,Q.run,au,hk,K8,eO,fj,Q.guard,hc',Kt,Jr,aP,Q.opt,aA]
      rw [K1 hb,Kc hb2]
      simp [Q.run,Q.bind,aa]
     ·simp only [kf,eV,eL,Q.reads,au,hk,K8,eO,fj,Q.guard,hc',Kt,Jr,aP,Q.opt]
      rw [K1 hb,Kc hb2]
      simp [Q.reads,Q.bind]
  ·cases h
 ·rename_i y
  obtain ⟨zl,zh,z,hzl,hzh,hz,h⟩:=AU h
  refine ⟨zl,zh,eA hl hzl,eA hh hzh,?_⟩
  unfold Ae at hz
  split at hz
  ·rename_i size rows
   split at hz
   case isFalse=>cases hz
   rename_i hs
   subst hs
   split at hz
   ·rename_i hb
    cases hz
    refine OKQ.mk ?_ ?_ h
    ·simp only [kf,eV,eL,Q.guard,Jr,aP,aA]
     rw [K1 hb]
     simp [Q.opt,Q.bind,Q.run]
    ·simp only [kf,eV,eL,Q.guard,Jr,aP]
     rw [K1 hb]
     simp [Q.opt,Q.bind,Q.reads]
   ·cases hz
  ·split at hz
   ·rename_i hb
    cases hz
    refine OKQ.mk ?_ ?_ h
    ·simp [kf,eV,eL,aP,hb,Q.opt,Q.bind,Q.run,aA]
    ·simp [kf,eV,eL,aP,hb,Q.opt,Q.bind,Q.reads]
   ·cases hz
  ·cases hz
 ·obtain ⟨zl,zh,hzl,hzh,hb,h⟩:=uI h
  refine ⟨zl,zh,eA hl hzl,eA hh hzh,OKQ.mk ?_ ?_ h⟩
  ·simp [kf,eV,eL,aP,hb,Q.opt,Q.bind,Q.run,aA]
  ·simp [kf,eV,eL,aP,hb,Q.opt,Q.bind,Q.reads]
 ·cases h
end
section
variable {P:Program} {Fn:Nat→List D→az} {FnD:D→List Sh→List D→az} {m:Nat} {r:Nat×List Yr} {ob:Ur}
theorem uD {ρ:Operand→cm} {size n:Nat}:∀ {parts:List (Nat×Operand)} {rows:Rr} {k:List (List D)→Ur→List Nat→az},rows.length=n→yS (aa Fn FnD m) ob size n rows (parts.map fun p=>(p.1,ρ p.2)) k=some r →
  ∃ rows' us rd,(dx (fun x=>eV (ρ x)) size rows parts).run (ac (ax ob))=some (rows',ax us)∧(∀ q∈(dx (fun x=>eV (ρ x)) size rows parts).reads (ac (ax ob)),q∈rd)∧k rows' us rd=some r
 | [],rows,k,hn,h=>⟨rows,[],[],by simp [dx,Q.run,aA],by simp [dx,Q.reads],h⟩
 | (i,x)::rest,rows,k,hn,h=>by
  simp only [Jz,yS] at h
  split at h
  ·cases h
  ·rename_i cs hcs
   split at h
   ·rename_i hc
    obtain ⟨ds,us,rd,h1,h2,h⟩:=iY h
    obtain ⟨rows',us',rd',h3,h4,h⟩:=uD (rows:=rows.set i ds) (by simp [hn]) h
    have hce:(eV (ρ x)).cells=some (bL cs):=by rw [mP,hcs];rfl
    have hgd:(decide ((bL cs).length=size∧i < rows.length))=true:=by simp [cj,hc,hn]
    refine ⟨_,_,_,?_,?_,h⟩
    ·simp only [dx,hce,Q.opt,Q.bind,hgd,Q.guard,Q.run_bind,h1,h3,K8,Q.run,i7]
    ·intro q hq
     simp only [dx,hce,Q.opt,Q.bind,hgd,Q.guard,Q.reads_bind,h1,h3,Q.reads,Kh,Kf] at hq
     rcases hq with hq | hq
     ·exact Kz _ (h2 q hq)
     ·exact M2 _ (h4 q hq)
   ·cases h
theorem yQ {es:Nat} {x:cm} {k:Rr→List Nat→az} (h:EN (aa Fn FnD m) es ob x k=some r):∃ rows rd,(cl es (eV x)).run (ac (ax ob))=some rows∧(∀ q∈(cl es (eV x)).reads (ac (ax ob)),q∈rd)∧k rows rd=some r:=by
 unfold EN at h
 split at h
 ·exact ⟨[],[],by simp [cl,cR,eV,eL,Q.run],by simp [cl,cR,eV,eL,Q.reads],h⟩
 ·obtain ⟨rows,hr,h⟩:=pO h
  refine ⟨rows,[],?_,?_,h⟩
  ·unfold jc at hr
   split at hr
   ·cases hr;simp [cl,cR,eV,eL,Q.run]
   ·split at hr
    ·rename_i hs;cases hr;simp [cl,cR,eV,eL,Q.run,Q.guard,hs]
    ·cases hr
   ·cases hr
  ·unfold jc at hr
   split at hr
   ·simp [cl,cR,eV,eL,Q.reads]
   ·split at hr
    ·rename_i hs;simp [cl,cR,eV,eL,Q.reads,Q.guard,hs]
    ·cases hr
   ·cases hr
 ·rename_i key off n c
  split at h
  ·rename_i rows size elem own hk
   split at h
   ·rename_i hs
    subst hs
    obtain ⟨hc,h⟩:=aX h
    have hc':c=rows.length:=hc
    refine ⟨_,_,?_,?_,h⟩
    ·simp [cl,cR,eV,eL,Q.run,au,hk,eO,Q.guard,hc',aa]
    ·simp [cl,cR,eV,eL,Q.reads,au,hk,eO,Q.guard,hc']
   ·cases h
  ·cases h
 ·rename_i key n
  split at h
  ·rename_i rows size elem own hk
   split at h
   ·rename_i hs
    subst hs
    obtain ⟨hc,h⟩:=aX h
    have hc':n=rows.length:=hc
    refine ⟨_,_,?_,?_,h⟩
    ·cases rows with
     | nil=>simp [cl,eV,eL,Q.run,hc']
     | cons a t=>simp [cl,cR,eV,eL,Q.run,cY hk,Q.guard,hc']
    ·cases rows with
     | nil=>simp [cl,eV,eL,Q.reads,hc']
     | cons a t=>simp [cl,cR,eV,eL,Q.reads,cY hk,Q.guard,hc']
   ·cases h
  ·cases h
 ·cases h
theorem yz {dst:Option Nat} {elem size bytes:Nat} {s:cm} {new:Rr} {rd:List Nat} {k:K3 D Nat Rr Mr az} (h:ui (aa Fn FnD m) ob dst elem size bytes s new rd k=some r) :
  ∃ v us rd',(cL dst elem size bytes (eV s) new).run (ac (ax ob))=some (eV v,ax us)∧(∀ q∈(cL dst elem size bytes (eV s) new).reads (ac (ax ob)),q∈rd')∧k v us (rd++rd')=some r:=by
 unfold ui at h
 have nilc:pn (aa Fn FnD m) ob dst elem size bytes (.one .nil) new rd k=some r→∃ v us rd',(cL dst elem size bytes (.one (.d (.lit (.slice none 0 0)))) new).run (ac (ax ob))=some (eV v,ax us)∧(∀ q∈(cL dst elem size bytes (.one (.d (.lit (.slice none 0 0)))) new).reads (ac (ax ob)),q∈rd')∧k v us (rd++rd')=some r:=by
  intro h
  unfold pn at h
  rcases pQ h with ⟨hn0,h9⟩ | ⟨hne,h⟩
  ·subst hn0
   refine ⟨.one .nil,[],[],?_,?_,by simpa using h9⟩
   ·simp [cL,eb,eV,eL,Q.run,aA]
   ·simp [cL,eb,Q.reads]
  ·obtain ⟨h1,h2,h⟩:=iR h
   have h1':new.length*bytes≤140737488355328:=h1
   have h2':new.length≤maxLen:=h2
   obtain ⟨v,us,rd',h3,h4,h⟩:=f9 (v':=fun key=>.one (.slk key 0 new.length new.length)) h (fun q=>by simp [eV,eL,aa])
   refine ⟨v,us,rd',?_,?_,h⟩
   ·simp only [cL,eb]
    rw [Kc hne,show decide (new.length*bytes≤140737488355328∧new.length≤maxLen)=true from by simp [h1',h2']]
    exact h3
   ·intro q hq
    simp only [cL,eb] at hq
    rw [Kc hne,show decide (new.length*bytes≤140737488355328∧new.length≤maxLen)=true from by simp [h1',h2']] at hq
    exact h4 q hq
 split at h
 ·exact nilc h
 ·obtain ⟨rfl,h⟩:=iP h
  exact nilc h
 ·rename_i key n c
  split at h
  ·rename_i rows size' elem' own hk
   split at h
   ·split at h
    ·rename_i hse
     obtain ⟨rfl,rfl⟩:=hse
     obtain ⟨hc,h⟩:=aX h
     have hc':c=rows.length:=hc
     obtain ⟨hn,h⟩:=aX h
     have hn':n=rows.length:=hn
     obtain ⟨h1,h2,h9⟩:=iR h
     have h1':(n+new.length)*bytes≤140737488355328:=h1
     have h2':n+new.length≤maxLen:=h2
     subst hn' hc'
     refine ⟨_,_,[key],?_,?_,h9⟩
     ·simp [cL,eb,eV,eL,Q.run,au,hk,eO,Q.guard,h1',h2',aa,aA,aM]
     ·simp [cL,eb,eV,eL,Q.reads,au,hk,eO,Q.guard,h1',h2']
    ·cases h
   ·cases h
  ·cases h
 ·rename_i key n
  split at h
  ·rename_i rows size' elem' own hk
   split at h
   ·split at h
    ·rename_i hse
     obtain ⟨rfl,rfl⟩:=hse
     obtain ⟨hc,h⟩:=aX h
     have hc':n=rows.length:=hc
     obtain ⟨h1,h2,h9⟩:=iR h
     have h1':(n+new.length)*bytes≤140737488355328:=h1
     have h2':n+new.length≤maxLen:=h2
     subst hc'
     refine ⟨_,_,[key],?_,?_,h9⟩
     ·cases rows with
      | nil =>
       have h1'':new.length*bytes≤140737488355328:=by simpa using h1'
       have h2'':new.length≤maxLen:=by simpa using h2'
       cases new with
       | nil=>simp [cL,eV,eL,Q.run,iX hk,eO,Q.guard,aa,aA,aM]
       | cons x y =>
        simp only [Jx] at h1'' h2''
        simp [cL,eV,eL,Q.run,iX hk,eO,Q.guard,h1'',h2'',aa,aA,aM]
      | cons a t =>
       simp only [Jx] at h1' h2'
       simp [cL,eV,eL,Q.run,cY hk,eO,Q.guard,h1',h2',aa,aA,aM]
     ·cases rows with
      | nil =>
       have h1'':new.length*bytes≤140737488355328:=by simpa using h1'
       have h2'':new.length≤maxLen:=by simpa using h2'
       simp [cL,eV,eL,Q.reads,iX hk,Q.guard,h1'',h2'']
      | cons a t =>
       simp only [Jx] at h1' h2'
       simp [cL,eV,eL,Q.reads,cY hk,Q.guard,h1',h2']
    ·cases h
   ·cases h
  ·cases h
 ·cases h
theorem mz {x:D} {v:Value} (h:tG x=some v):x=.lit v:=by
 unfold tG at h;split at h<;>cases h;rfl
theorem D8 {kd:Nat} {agg:Bool} {zs:List Value} {mm:Mr} {key:D} {p:List D×D} (h:vj kd zs mm key=some p):∃ v b,key=.lit v∧fu kd v=true∧p.2=.lit (.bool b)∧p.1.length=zs.length∧(cW kd v mm.1 0).bind (nC agg zs mm.2)=(Bc agg (p.1.map .d)).map fun u=>(u,b):=by
 unfold vj at h
 split at h
 ·rename_i v hv
  have:=mz hv
  subst this
  split at h
  ·rename_i hk
   split at h
   ·rename_i j hf
    split at h
    ·rename_i w hw
     split at h
     ·rename_i hl
      cases h
      exact ⟨v,true,rfl,hk,rfl,hl,by simp [hf,nC,hw]⟩
     ·cases h
    ·cases h
   ·rename_i hf
    cases h
    refine ⟨v,false,rfl,hk,rfl,by simp,?_⟩
    simp [hf,nC,gu,My]
   ·cases h
  ·cases h
 ·cases h
theorem D6 {kd:Nat} {agg ok:Bool} {zs:List Value} {x:cm} {key:D} {k:K3 D Nat Rr Mr az} (h:D7 (aa Fn FnD m) kd agg ok zs ob x key k=some r):∃ v,key=.lit v∧fu kd v=true∧OKQ ob (jy kd agg ok zs (eV x) v) k r:=by
 have l9:∀ (mm:Mr) (rd:List Nat) (F:List D→D→az),(aa Fn FnD m).look kd zs mm key F=some r→(∀ w f,F w f=some r→∃ v,vg agg ((cellsOf (aa Fn FnD m) zs.length w).map .d)=some v∧k (if ok then .tup [v,.one (.d f)] else v) [] rd=some r)→∃ v u b,key=.lit v∧fu kd v=true∧(cW kd v mm.1 0).bind (nC agg zs mm.2)=some (eV u,b)∧k (if ok then .tup [u,.one (.d (.lit (.bool b)))] else u) [] rd=some r:=by
  intro mm rd F h hF
  obtain ⟨p,hp,h⟩:=AQ h
  obtain ⟨v,b,h1,h2,h3,h4,h5⟩:=D8 (agg:=agg) hp
  obtain ⟨u,hu,h⟩:=hF _ _ h
  rw [cQ h4] at hu
  refine ⟨v,u,b,h1,h2,?_,by rw [←h3];exact h⟩
  rw [h5,← A4,zx,hu];rfl
 have tupe:∀ (u:cm) (b:Bool),eV (if ok then .tup [u,.one (.d (.lit (.bool b)))] else u)=if ok then .tup [eV u,bR (.bool b)] else eV u:=by
  intro u b;cases ok<;>simp [eV,cA,eL,bR]
 unfold D7 at h
 simp only at h
 split at h
 ·rename_i y
  obtain ⟨mm,hm,h⟩:=pR h
  obtain ⟨v,u,b,h1,h2,h3,h4⟩:=l9 mm [] _ h (fun w f hw=>by split at hw;exact ⟨_,‹_›,hw⟩;cases hw)
  refine ⟨v,h1,h2,OKQ.mk ?_ ?_ h4⟩
  ·rw [tupe,aA]
   unfold rm at hm
   split at hm
   ·split at hm
    ·rename_i hg
     cases hm
     subst hg
     simp only at h3
     simp [jy,eV,eL,Q.guard,h3,Q.opt,Q.bind,Q.run]
    ·cases hm
   ·cases hm
    have h3':nC agg zs [] none=some (eV u,b):=by simpa [cW] using h3
    simp [jy,eV,eL,h3',Q.opt,Q.bind,Q.run]
   ·cases hm
  ·unfold rm at hm
   split at hm
   ·split at hm
    ·rename_i hg
     cases hm
     subst hg
     simp only at h3
     simp [jy,eV,eL,Q.guard,h3,Q.opt,Q.bind,Q.reads]
    ·cases hm
   ·cases hm
    have h3':nC agg zs [] none=some (eV u,b):=by simpa [cW] using h3
    simp [jy,eV,eL,h3',Q.opt,Q.bind,Q.reads]
   ·cases hm
 ·rename_i q
  split at h
  ·rename_i agg' mm own hk
   split at h
   ·rename_i hg
    have hg':agg=agg':=by simpa using hg
    subst hg'
    obtain ⟨v,u,b,h1,h2,h3,h4⟩:=l9 mm [q] _ h (fun w f hw=>by split at hw;exact ⟨_,‹_›,hw⟩;cases hw)
    refine ⟨v,h1,h2,OKQ.mk ?_ ?_ h4⟩
    ·rw [tupe,aA]
     simp [jy,eV,eL,Q.run,Q.bind,au,hk,eO,Q.guard,h3,Q.opt]
    ·simp [jy,eV,eL,Q.reads,Q.bind,au,hk,eO,Q.guard,h3,Q.opt]
   ·cases h
  ·cases h
 ·cases h
theorem yK {kd:Nat} {agg:Bool} {x v:cm} {key:D} {k:K3 D Nat Rr Mr az} (h:EL (aa Fn FnD m) kd agg ob x key v k=some r):∃ kv,key=.lit kv∧OKQ ob (l3 kd agg (eV x) kv (eV v)) k r:=by
 unfold EL at h
 split at h
 ·rename_i q
  split at h
  ·rename_i agg' mm own hk
   split at h
   ·rename_i hc
    simp only [Jn,Tf] at hc
    obtain ⟨⟨rfl,rfl⟩,ha⟩:=hc
    split at h
    ·cases h
    ·rename_i cs hcs
     obtain ⟨ds,us,rd,h1,h2,h⟩:=iY h
     split at h
     ·obtain ⟨m',hm,h⟩:=Cy h
      unfold Hf at hm
      split at hm
      ·rename_i kv hkv
       have:=mz hkv
       subst this
       split at hm
       ·rename_i hkey
        have hce:(eV v).cells=some (bL cs):=by rw [mP,hcs];rfl
        have hag:(eM (eV v)==agg)=true:=by rw [Fq];simpa using ha
        refine ⟨kv,rfl,?_⟩
        split at hm
        ·rename_i j hf
         cases hm
         refine OKQ.mk ?_ ?_ h
         ·simp only [l3,eV,eL,Q.run,au,hk,K8,eO,sY,hag,hkey,Va,Vd,Q.guard,hce,Q.opt,Q.bind,Q.run_bind,h1,K8,aA,T9,hf,aM]
         ·intro y hy
          simp only [l3,eV,eL,Q.reads,au,hk,K8,eO,sY,hag,hkey,Va,Vd,Q.guard,hce,Q.opt,Q.bind,Q.reads_bind,h1,aA,T9,hf,Kh,Ka] at hy
          rcases hy with rfl | hy
          ·simp
          ·exact Ks _ (h2 y hy)
        ·rename_i hf
         cases hm
         refine OKQ.mk ?_ ?_ h
         ·simp only [l3,eV,eL,Q.run,au,hk,K8,eO,sY,hag,hkey,Va,Vd,Q.guard,hce,Q.opt,Q.bind,Q.run_bind,h1,K8,aA,T9,hf,aM]
         ·intro y hy
          simp only [l3,eV,eL,Q.reads,au,hk,K8,eO,sY,hag,hkey,Va,Vd,Q.guard,hce,Q.opt,Q.bind,Q.reads_bind,h1,aA,T9,hf,Kh,Ka] at hy
          rcases hy with rfl | hy
          ·simp
          ·exact Ks _ (h2 y hy)
        ·cases hm
       ·cases hm
      ·cases hm
     ·cases h
   ·cases h
  ·cases h
 ·cases h
theorem Bg {kd:Nat} {zs:List Value} {q:Nat} {key:D} {k:K3 D Nat Rr Mr az} (h:xJ (aa Fn FnD m) kd zs ob q key k=some r):∃ kv,key=.lit kv∧fu kd kv=true∧OKQ ob (jY kd q kv zs) k r:=by
 unfold xJ at h
 split at h
 ·rename_i keys vals hk
  have h':Cl kd keys key (vals.map fun x=>k (.one x) [] [q])=some r:=h
  unfold Cl at h'
  split at h'
  ·rename_i kv hkv
   have:=mz hkv
   subst this
   split at h'
   ·rename_i hkey
    split at h'
    ·rename_i j hf
     simp only [AL,K9] at h'
     cases hx:vals[j]? with
     | none=>rw [hx] at h';cases h'
     | some x =>
      rw [hx] at h'
      simp only [Kv] at h'
      refine ⟨kv,rfl,hkey,OKQ.mk ?_ ?_ h'⟩
      ·simp [jY,Q.run,au,hk,eO,hf,bc,hx,Q.opt,Q.bind,eV,aA]
      ·simp [jY,Q.reads,au,hk,eO,hf,bc,hx,Q.opt,Q.bind]
    ·cases h'
   ·cases h'
  ·cases h'
 ·rename_i mm size elem hk
  have l9:∀ {o:Option Nat},lN kd mm key=some o→∃ kv,key=.lit kv∧fu kd kv=true∧cW kd kv mm.1 0=some o:=by
   intro o ho
   unfold lN at ho
   split at ho
   ·rename_i kv hkv
    split at ho
    ·exact ⟨kv,mz hkv,‹_›,ho⟩
    ·cases ho
   ·cases ho
  rcases AT h with ⟨j,hj,h9⟩ | ⟨hj,h9⟩
  ·obtain ⟨kv,rfl,hkey,hf⟩:=l9 hj
   refine ⟨kv,rfl,hkey,OKQ.mk ?_ ?_ h9⟩
   ·simp [jY,Q.run,au,hk,eO,hf,Q.opt,Q.bind,eV,eL,aA,aa]
   ·simp [jY,Q.reads,au,hk,eO,hf,Q.opt,Q.bind]
  ·obtain ⟨kv,rfl,hkey,hf⟩:=l9 hj
   clear h
   split at h9
   ·refine ⟨kv,rfl,hkey,OKQ.mk ?_ ?_ h9⟩
    ·simp [jY,Q.run,au,hk,eO,hf,Q.opt,Q.bind,eV,xL,aA,bR]
    ·simp [jY,Q.reads,au,hk,eO,hf,Q.opt,Q.bind]
   ·cases h9
 ·cases h
theorem Fl {x:gg} {v:Value} (h:HS x=some v):eL x=.d (.lit v):=by
 unfold HS at h;split at h<;>cases h<;>rfl
theorem uw {kd:Nat} {g:Bool} {q:Nat} {key:gg} {v:cm} {k:K3 D Nat Rr Mr az} (h:yJ (aa Fn FnD m) kd ob q key v k=some r):∃ kv,eL key=.d (.lit kv)∧OKQ ob (l3 kd g (.one (.mq q)) kv (eV v)) k r:=by
 unfold yJ at h
 split at h
 ·rename_i keys vals hk
  split at h
  ·rename_i kv x hkv
   split at h
   ·rename_i hc
    simp only [Jn] at hc
    split at h
    ·rename_i hf
     refine ⟨kv,Fl hkv,OKQ.mk ?_ ?_ h⟩
     ·simp [l3,Q.run,au,hk,eO,Q.guard,hc.1,eV,mF,hc.2,hf,Q.opt,Q.bind,aA,aM,bc,eL]
     ·simp [l3,Q.reads,au,hk,eO,Q.guard,hc.1,eV,mF,hc.2,hf,Q.opt,Q.bind]
    ·cases h
   ·cases h
  ·cases h
 ·rename_i mm size elem hk
  split at h
  ·rename_i y q' j off hy
   split at h
   ·rename_i hq
    subst hq
    obtain ⟨ho,h8⟩:=aX h
    have ho':off=0:=ho
    clear h
    obtain ⟨m',hm,h9⟩:=AV h8
    clear h8
    clear ho
    subst ho'
    unfold vZ at hm
    split at hm
    ·rename_i kv hkv
     have:=mz hkv
     subst this
     split at hm
     ·rename_i hc
      obtain ⟨c1,c2,c3⟩:=hc
      split at hm
      ·rename_i hf
       cases hm
       refine ⟨kv,cI hy,OKQ.mk ?_ ?_ h9⟩
       ·simp [l3,Q.run,au,hk,eO,Q.guard,c1,eV,eL,c2,hf,Q.opt,Q.bind,aA,aM,show mm.1.length < mm.2.length by omega]
       ·simp [l3,Q.reads,au,hk,eO,Q.guard,c1,eV,eL,c2,hf,Q.opt,Q.bind,show mm.1.length < mm.2.length by omega]
      ·cases hm
     ·cases hm
    ·cases hm
   ·cases h
  ·cases h
 ·cases h
theorem Fc {mx:Bool} {a b z:D} (h:mmD mx a b=some z):mm2 mx (.one (.d a)) (.one (.d b))=some (.one (.d z)):=by
 unfold mmD at h
 split at h
 ·split at h
  ·rename_i hk;cases h;simp [mm2,vInt?,hk,bR]
  ·cases h
 ·cases h
theorem xE {mx:Bool}:∀ {l:List D} {a:D} {k:D→az},mmK (aa Fn FnD m) mx a l k=some r→∃ z,HO mx (.one (.d a)) (l.map fun x=>.one (.d x))=some (.one (.d z))∧k z=some r
 | [],a,k,h=>⟨a,rfl,h⟩
 | y::l,a,k,h=>by
  simp only [mmK] at h
  obtain ⟨z,hz,h⟩:=EV h
  obtain ⟨z',h1,h2⟩:=xE h
  exact ⟨z',by simp only [Jz,HO,Fc hz,K8];exact h1,h2⟩
theorem pH {ρ:Operand→cm}:∀ {xs:List Operand} {ys:List D},ry (aa Fn FnD m) ρ xs=some ys→xs.map (fun x=>eV (ρ x))=ys.map fun y=>.one (.d y)
 | [],ys,h=>by simp only [ry,Jm] at h;subst h;rfl
 | x::xs,ys,h=>by
  simp only [ry] at h
  split at h
  ·rename_i y ys' h1 h2
   cases h
   simp only [Jz,eE h1,pH h2]
  ·cases h
theorem dY:∀ {xs:List gg} {ys:List D},fW (aa Fn FnD m) xs=some ys→bL xs=ys.map .d
 | [],ys,h=>by simp only [fW,Jm] at h;subst h;rfl
 | x::xs,ys,h=>by
  simp only [fW] at h
  split at h
  ·rename_i y ys' h1 h2
   cases h
   simp only [bL,cI h1,dY h2,Jz]
  ·cases h
theorem Ap {op:BinOp} {t:Nat} {a b z:D} (h:ib op (Al P t) a b=some z):iH P op t (.one (.d a)) (.one (.d b))=some (.one (.d z)):=by
 unfold ib at h
 split at h
 ·simp only [Jw] at h
  obtain ⟨v,hv,rfl⟩:=h
  simp [iH,hv,bR]
 ·split at h
  ·rename_i hb
   split at h
   ·cases h;simp [iH,hb,bR]
   ·cases h;simp [iH,hb,bR]
   ·cases h
  ·cases h
 ·simp only [Jw] at h
  obtain ⟨v,hv,rfl⟩:=h
  simp [iH,hv,bR]
 ·cases h
theorem G3 {op:BinOp} {t:Nat} {x y:cm} {k:K3 D Nat Rr Mr az} (h:Ik (aa Fn FnD m) P op t x y k=some r):OKQ ob (aP (iH P op t (eV x) (eV y))) k r:=by
 unfold Ik at h
 split at h
 ·split at h
  ·rename_i hel
   split at h
   ·rename_i a ha
    rcases rL h with ⟨rfl,h⟩ | ⟨s,rows,rfl,h⟩
    ·refine OKQ.mk ?_ ?_ h<;>simp [eV,cI ha,iH,Ba,hel,aP,Q.opt,Q.bind,Q.run,Q.reads,eL,aA,bR]
    ·refine OKQ.mk ?_ ?_ h<;>simp [eV,cI ha,iH,Ba,hel,aP,Q.opt,Q.bind,Q.run,Q.reads,eL,aA,bR]
   ·rename_i a ha
    rcases rL h with ⟨rfl,h⟩ | ⟨s,rows,rfl,h⟩
    ·refine OKQ.mk ?_ ?_ h<;>simp [eV,cI ha,iH,Ba,hel,aP,Q.opt,Q.bind,Q.run,Q.reads,eL,aA,bR]
    ·refine OKQ.mk ?_ ?_ h<;>simp [eV,cI ha,iH,Ba,hel,aP,Q.opt,Q.bind,Q.run,Q.reads,eL,aA,bR]
   ·cases h
  rename_i hel
  split at h
  ·rename_i hp
   split at h
   ·refine OKQ.mk ?_ ?_ h<;>simp [eV,iH,Bb,hel,hp,aP,Q.opt,Q.bind,Q.run,Q.reads,eL,aA,bR]
   ·refine OKQ.mk ?_ ?_ h<;>simp [eV,iH,Bb,hel,hp,aP,Q.opt,Q.bind,Q.run,Q.reads,eL,aA,bR]
   ·refine OKQ.mk ?_ ?_ h<;>simp [eV,iH,Bb,hel,hp,aP,Q.opt,Q.bind,Q.run,Q.reads,eL,aA,bR]
   ·refine OKQ.mk ?_ ?_ h<;>simp [eV,iH,Bb,hel,hp,aP,Q.opt,Q.bind,Q.run,Q.reads,eL,aA,bR]
   ·cases h
  split at h
  ·rename_i a b ha hb
   obtain ⟨z,hz,h⟩:=CC h
   refine OKQ.mk ?_ ?_ h
   ·simp [eV,cI ha,cI hb,Ap hz,aP,Q.opt,Q.bind,Q.run,eL,aA]
   ·simp [eV,cI ha,cI hb,Ap hz,aP,Q.opt,Q.bind,Q.reads]
  ·cases h
 ·rename_i xs ys
  split at h
  ·rename_i ks xs' ys' hks hxs hys
   split at h
   ·rename_i hag
    split at h
    ·obtain ⟨b,hb,h⟩:=uH h
     refine OKQ.mk ?_ ?_ h
     ·simp [eV,dY hxs,dY hys,iH,hks,hag,hb,aP,Q.opt,Q.bind,Q.run,eL,aA,bR]
     ·simp [eV,dY hxs,dY hys,iH,hks,hag,hb,aP,Q.opt,Q.bind,Q.reads]
    ·obtain ⟨b,hb,h⟩:=uH h
     refine OKQ.mk ?_ ?_ h
     ·simp [eV,dY hxs,dY hys,iH,hks,hag,hb,aP,Q.opt,Q.bind,Q.run,eL,aA,bR]
     ·simp [eV,dY hxs,dY hys,iH,hks,hag,hb,aP,Q.opt,Q.bind,Q.reads]
    ·cases h
   ·cases h
  ·cases h
 ·cases h
theorem D9 {x:D} {n:Nat} (h:zC x=some n):xM (.one (.d x))=some n:=by
 unfold zC at h;split at h<;>cases h<;>rfl
end
section
variable {P:Program} {Fn:Nat→List D→az} {FnD:D→List Sh→List D→az} {m:Nat} {r:Nat×List Yr} {ob:Ur}
theorem OKQ.pure {o:Option V} {v:cm} {k:K3 D Nat Rr Mr az} (ho:o=some (eV v)) (h:k v [] []=some r):OKQ ob (aP o) k r:=by
 subst ho;exact OKQ.mk (us:=[]) (by simp [aP,Q.opt,Q.bind,Q.run,aA]) (by simp [aP,Q.opt,Q.bind,Q.reads]) h
theorem OKQ.cond {q:Q cn} {k:K3 D Nat Rr Mr az} (b:Bool) (hb:b=true) (h:OKQ ob q k r):OKQ ob (Q.guard b q) k r:=by subst hb;exact h
theorem OKQ.some {α:Type} {o:Option α} {a:α} {f:α→Q cn} {k:K3 D Nat Rr Mr az} (ho:o=.some a) (h:OKQ ob (f a) k r):OKQ ob ((Q.opt o).bind f) k r:=by subst ho;exact h
theorem OKQ.bind {α:Type} {q:Q α} {a:α} {f:α→Q cn} {k:K3 D Nat Rr Mr az} {v:cm} {us:Ur} {rd rd':List Nat} (h1:q.run (ac (ax ob))=.some a) (h2:∀ x∈q.reads (ac (ax ob)),x∈rd) (h3:(f a).run (ac (ax ob))=.some (eV v,ax us)) (h4:∀ x∈(f a).reads (ac (ax ob)),x∈rd') (h:k v us (rd++rd')=.some r):OKQ ob (q.bind f) k r:=by
 refine ⟨v,us,rd++rd',by rw [Q.run_bind,h1];exact h3,fun x hx=>?_,h⟩
 rw [Q.reads_bind,h1] at hx
 rcases Kf.1 hx with hx | hx
 ·exact Kz _ (h2 x hx)
 ·exact M2 _ (h4 x hx)
theorem yr {dst:Option Nat} {ρ:Operand→cm} {c:Call} {k:K3 D Nat Rr Mr az} (h:ub (aa Fn FnD m) P ob dst ρ c k=some r):OKQ ob (eP P dst (fun x=>eV (ρ x)) (.call c)) k r:=by
 unfold ub at h
 simp only [eP]
 split at h
 ·
  rename_i hc
  simp only [hc]
  split at h
  ·rename_i x hx
   simp only [hx]
   split at h
   ·rename_i t ht
    simp only [ht]
    split at h
    ·rename_i e he
     simp only [he]
     split at h
     ·rename_i q o n c' hρ
      refine OKQ.pure (v:=.one (.d (.lit (.int .i64 n)))) ?_ h
      simp [hρ,eV,eL,xM,bR]
     ·rename_i q n hρ
      refine OKQ.pure (v:=.one (.d (.lit (.int .i64 n)))) ?_ h
      simp [hρ,eV,eL,xM,bR]
     ·rename_i hρ
      refine OKQ.pure (v:=.one (.i .i64 0)) ?_ h
      simp [hρ,eV,eL,xM,bR]
     ·rename_i y hρ
      obtain ⟨n,hn,h⟩:=AS h
      refine OKQ.pure (v:=.one (.d (.lit (.int .i64 n)))) ?_ h
      simp [hρ,eV,eL,D9 hn,bR]
     ·cases h
    ·rename_i he
     simp only [he]
     split at h
     ·rename_i hs
      simp only [hs,Q.guard]
      split at h
      ·rename_i y hy
       obtain ⟨s,rfl,h⟩:=AR h
       refine OKQ.pure (v:=.one (.d (.lit (.int .i64 s.size)))) ?_ h
       simp [eE hy,xe,eV,eL,bR]
      ·cases h
     ·cases h
   ·cases h
  ·cases h
 ·
  rename_i hc
  simp only [hc]
  split at h
  ·rename_i x t hx ht
   simp only [hx,ht]
   split at h
   ·rename_i hρ
    split at h
    ·rename_i he
     have hρ':eV (ρ x)=.one (.d (.lit (.slice none 0 0))):=by rw [hρ];rfl
     simp only [hρ',he,Q.guard]
     exact OKQ.mk (v:=.one (.i .i64 0)) (us:=[]) (by simp [Q.run,eV,eL,bR,aA]) (by simp [Q.reads]) h
    ·cases h
   ·rename_i y hρ
    split at h
    ·rename_i he
     obtain ⟨rfl,h⟩:=iP h
     have hρ':eV (ρ x)=.one (.d (.lit (.slice none 0 0))):=by rw [hρ];rfl
     simp only [hρ',he,Q.guard]
     exact OKQ.mk (v:=.one (.i .i64 0)) (us:=[]) (by simp [Q.run,eV,eL,bR,aA]) (by simp [Q.reads]) h
    ·cases h
   ·cases h
  ·cases h
 ·
  rename_i hc
  simp only [hc]
  split at h
  ·rename_i x t hx ht
   simp only [hx,ht]
   split at h
   ·rename_i zs hz
    obtain ⟨e,he,hze⟩:=Km.1 hz
    split at h
    ·rename_i hpos
     have body:OKQ ob (dE zs (eV (ρ x))) k r→OKQ ob ((Q.opt (bY P t)).bind fun e=>(Q.opt (co P e)).bind fun zs=>Q.guard (decide (0 < zs.length)) (dE zs (eV (ρ x)))) k r:=fun hb=>by
      exact OKQ.some he (OKQ.some hze (OKQ.cond _ (by simp [hpos]) hb))
     refine body ?_
     split at h
     ·rename_i hρ
      rw [hρ]
      exact OKQ.mk (v:=.tup []) (us:=[]) (by simp [dE,Q.run,eV,eL,cA,aA]) (by simp [dE,eV,eL,Q.reads]) h
     ·rename_i y hρ
      obtain ⟨rfl,h⟩:=iP h
      rw [hρ]
      exact OKQ.mk (v:=.tup []) (us:=[]) (by simp [dE,Q.run,eV,eL,cA,aA]) (by simp [dE,eV,eL,Q.reads]) h
     ·rename_i key off n c hρ
      split at h
      ·rename_i rows size elem hk
       split at h
       ·rename_i hsz
        obtain ⟨hcc,h⟩:=aX h
        obtain ⟨hoff,h⟩:=aX h
        rw [hρ]
        have hl:(zs.map (aa Fn FnD m).lit)=zs.map D.lit:=rfl
        have hob:ac (ax ob) key=some (.arr rows size elem true):=by rw [au,hk];rfl
        have hlen:c=rows.length:=hcc
        cases off with
        | none =>
         have hoff':n=rows.length:=hoff
         have h1:(dE zs (.one (.slk key 0 n c))).run (ac (ax ob))=some (.tup [],[(key,.arr (List.replicate n (zs.map D.lit)) size elem true)]):=by
          simp [dE,Q.run,hob,hlen,hsz,hoff',Q.guard]
         have h2:(dE zs (.one (.slk key 0 n c))).reads (ac (ax ob))=[key]:=by
          simp [dE,Q.reads,hob,hlen,hsz,hoff',Q.guard]
         exact OKQ.mk (v:=.tup []) (us:=[(key,.arr (List.replicate n (zs.map D.lit)) size elem true)]) (rd:=[key]) h1 (fun q hq=>by
          have hq':q∈(dE zs (.one (.slk key 0 n c))).reads (ac (ax ob)):=hq
          rw [h2] at hq';exact hq') h
        | some o =>
         have hoff':o+n=rows.length:=hoff
         have h1:(dE zs (.one (.slk key o n c))).run (ac (ax ob))=some (.tup [],[(key,.arr (rows.take o++List.replicate n (zs.map D.lit)) size elem true)]):=by
          simp [dE,Q.run,hob,hlen,hsz,hoff',Q.guard]
         have h2:(dE zs (.one (.slk key o n c))).reads (ac (ax ob))=[key]:=by
          simp [dE,Q.reads,hob,hlen,hsz,hoff',Q.guard]
         exact OKQ.mk (v:=.tup []) (us:=[(key,.arr (rows.take o++List.replicate n (zs.map D.lit)) size elem true)]) (rd:=[key]) h1 (fun q hq=>by
          have hq':q∈(dE zs (.one (.slk key o n c))).reads (ac (ax ob)):=hq
          rw [h2] at hq';exact hq') h
       ·cases h
      ·cases h
     ·cases h
    ·cases h
   ·cases h
  ·cases h
 ·
  rename_i hc
  simp only [hc]
  split at h
  ·rename_i x y t t' hx ht
   simp only [hx,ht]
   split at h
   ·rename_i e he
    split at h
    ·rename_i sz hs
     split at h
     ·rename_i htt
      refine OKQ.some he (OKQ.some hs (OKQ.cond _ (by simpa using htt) ?_))
      obtain ⟨new,rd,h1,h2,h⟩:=yQ h
      split at h
      ·rename_i key n c hρ
       split at h
       ·rename_i rows size elem hk
        split at h
        ·rename_i hsz
         obtain ⟨hcc,h⟩:=aX h
         obtain ⟨hn,h⟩:=aX h
         have hcc':c=rows.length:=hcc
         have hn':n=rows.length:=hn
         have hob:ac (ax ob) key=some (.arr rows size elem true):=by rw [au,hk];rfl
         have hx':eV (ρ x)=.one (.slk key 0 n c):=by rw [hρ];rfl
         have htk:(rows.drop new.length).take n=rows.drop new.length:=Kd (by simp;omega)
         refine OKQ.mk ?_ ?_ h
         ·rw [Q.run_bind,h1,hx']
          simp only [K8,vJ,Q.run,hob,Q.guard,hcc',hn',hsz,Ki,Kt,Jr]
          simp only [aa,Tr,M4,Ts,eV,eL,bR,aM,aA,eO]
          rw [←hn',htk]
         ·intro q hq
          rw [Q.reads_bind,h1,hx'] at hq
          simp only [vJ,Q.reads,hob,Q.guard,hcc',hn',hsz,Ki,Kt,Jr,Kf,Ka,M5,T1] at hq
          rcases hq with hq | rfl
          ·exact Kz _ (h2 q hq)
          ·simp
        ·cases h
       ·cases h
      ·cases h
     ·cases h
    ·cases h
   ·cases h
  ·cases h
 ·
  rename_i hc
  simp only [hc]
  split at h
  ·rename_i a l hl
   obtain ⟨z,h1,h2⟩:=xE h
   refine OKQ.pure (v:=.one (.d z)) ?_ h2
   rw [pH hl,Jz]
   simp only [lC,h1,eV,eL]
  ·cases h
 ·
  rename_i hc
  simp only [hc]
  split at h
  ·rename_i a l hl
   obtain ⟨z,h1,h2⟩:=xE h
   refine OKQ.pure (v:=.one (.d z)) ?_ h2
   rw [pH hl,Jz]
   simp only [lC,h1,eV,eL]
  ·cases h
 ·
  rename_i hc
  simp only [hc]
  split at h
  ·rename_i s x t t' hs ht
   simp only [hs,ht]
   split at h
   ·cases h
   ·rename_i e he
    split at h
    ·rename_i sz bs zs h1 h2 h3
     split at h
     ·rename_i ik hik
      simp only [hik]
      have gapc:∀ y,io (aa Fn FnD m) (ρ x)=some y→0 < sz∧zs.length=sz→eV (ρ s)=.one (.d (.lit (.slice none 0 0)))→((aa Fn FnD m).gap bs y fun n=>e8 (aa Fn FnD m) ob dst (.arr ((aa Fn FnD m).repl n (zs.map (aa Fn FnD m).lit)) sz e true) (fun key=>.one (.slk key none n n)) k)=some r→OKQ ob (match eV (ρ s) with
        | .one (.d (.lit (.slice none 0 0)))=>(Q.opt (bY P t)).bind fun e=>(Q.opt (bj P e)).bind fun sz=>(Q.opt (gq P e)).bind fun bs=>(Q.opt (co P e)).bind fun zs=>(Q.opt (vInt? (eV (ρ x)))).bind fun n =>
         Q.guard (decide (0 < sz∧zs.length=sz∧0 < n.2∧bs*n.2≤140737488355328∧n.2≤9223372036854775807)) (fresh dst (.arr (List.replicate n.2.toNat (zs.map .lit)) sz e true) fun k=>.one (.slk k 0 n.2.toNat n.2.toNat))
        | _=>.fail) k r:=by
       intro y hy hcond hρ' h
       obtain ⟨a,n,rfl,hn,h⟩:=CA h
       simp only [hρ',he,h1,h2,h3,Q.opt,Q.bind,eE hy,vInt?]
       have hn1:0 < n:=hn.1
       have hn2:(bs:Int)*n≤140737488355328:=hn.2.1
       have hn3:n≤9223372036854775807:=hn.2.2
       refine OKQ.cond _ (by simp [hcond,hn1,hn2,hn3]) ?_
       have:=f9 (v':=fun key=>.one (.slk key 0 n.toNat n.toNat)) h (fun q=>by simp [eV,eL])
       simpa [eO,aa] using this
      split at h
      ·rename_i y hρ hy
       split at h
       ·rename_i hcond
        exact gapc y hy hcond (by rw [hρ];rfl) h
       ·cases h
      ·rename_i x0 y hρ hy
       split at h
       ·rename_i hcond
        obtain ⟨rfl,h⟩:=iP h
        exact gapc y hy hcond (by rw [hρ];rfl) h
       ·cases h
      ·cases h
     ·rename_i hik
      simp only [hik]
      split at h
      ·rename_i hcond
       simp only [he,h1,h2,h3,Q.opt,Q.bind]
       refine OKQ.cond _ (by simp [hcond]) ?_
       obtain ⟨rows,rd,g1,g2,h⟩:=yQ h
       obtain ⟨v,us,rd',g3,g4,h⟩:=yz h
       exact OKQ.bind g1 g2 g3 g4 h
      ·cases h
    ·cases h
  ·cases h
 ·cases h
theorem eV_mq {v:cm} {k:Nat} (h:eV v=.one (.mq k)):v=.one (.mq k):=by
 cases v with
 | one x=>cases x<;>simp_all [eV,eL]
 | agg xs=>simp [eV] at h
 | tup xs=>simp [eV] at h
theorem HK {dst:Option Nat} {ρ:Operand→cm} {op:Op} {k:K3 D Nat Rr Mr az} (h:nr (aa Fn FnD m) P ob dst ρ op k=some r):OKQ ob (eP P dst (fun x=>eV (ρ x)) op) k r:=by
 cases op with
 | move x=>exact OKQ.ret0 h
 | assign x=>exact OKQ.ret0 h
 | pick c a b =>
  simp only [nr] at h
  simp only [eP]
  split at h
  ·rename_i hc
   exact OKQ.pure (v:=ρ a) (by simp [hc,eV,eL,vBool?]) h
  ·rename_i hc
   exact OKQ.pure (v:=ρ b) (by simp [hc,eV,eL,vBool?]) h
  ·rename_i y hc
   rcases gI h with ⟨rfl,h⟩ | ⟨rfl,h⟩
   ·exact OKQ.pure (v:=ρ a) (by simp [hc,eV,eL,vBool?]) h
   ·exact OKQ.pure (v:=ρ b) (by simp [hc,eV,eL,vBool?]) h
  ·cases h
 | box elem x =>
  simp only [nr] at h
  simp only [eP]
  split at h
  ·rename_i cs hcs
   refine OKQ.some (a:=bL cs) (by rw [mP,hcs];rfl) ?_
   cases dst with
   | some q =>
    simp only at h
    split at h
    ·rename_i mm size elem' hk
     split at h
     ·rename_i ds hds
      split at h
      ·rename_i hc
       obtain ⟨rfl,hl⟩:=hc
       have hf:=Dy ds (ac (ax ob))
       have hce:=fV hds
       have hln:ds.length=size:=by rw [←hl,← cj cs,hce,Jp]
       refine OKQ.mk ?_ ?_ h
       ·simp [yw,hce,hln,Q.run,au,hk,eO,Q.guard,Q.run_bind,hf.1,eV,eL,aA,aM,aa]
       ·intro q' hq
        simpa [yw,hce,hln,Q.reads,au,hk,eO,Q.guard,Q.reads_bind,hf.1,hf.2] using hq
      ·cases h
     ·cases h
    ·unfold e8 at h
     simp only at h
     split at h
     ·rename_i hk
      refine OKQ.mk ?_ ?_ h
      ·simp [yw,Q.run,au,hk,eV,eL,eO,aA,aM]
      ·simp [yw,Q.reads,au,hk]
     ·cases h
   | none =>
    obtain ⟨ds,us,rd,h1,h2,h⟩:=iY h
    refine OKQ.mk (v:=.one (.dp ds 0)) (us:=us) (rd:=rd) ?_ ?_ h
    ·rw [Q.run_bind,h1];rfl
    ·intro q hq
     rw [Q.reads_bind,h1] at hq
     simp only [Q.reads,Kh] at hq
     exact h2 q hq
  ·cases h
 | alloc elem =>
  simp only [nr] at h
  simp only [eP]
  split at h
  ·rename_i zs hz
   refine OKQ.some hz ?_
   have:=f9 (v':=fun key=>.one (.ptr key 0)) h (fun q=>by simp [eV,eL])
   rwa [eO,tF] at this
  ·cases h
 | build t parts =>
  simp only [nr] at h
  simp only [eP]
  split at h
  ·rename_i zs hz
   split at h
   ·rename_i hc
    refine OKQ.some hz (OKQ.cond _ hc ?_)
    split at h
    ·rename_i cs hcs
     refine OKQ.pure (v:=.agg cs) ?_ h
     have:=DE (jT P t) (parts.toList.map fun p=>(p.1,ρ p.2)) (zs.map (tH (aa Fn FnD m)))
     rw [tF,hcs,Ml] at this
     rw [show (parts.toList.map fun p=>(p.1,eV (ρ p.2)))=(parts.toList.map ((fun p=>(p.1,eV p.2)) ∘ fun p=>(p.1,ρ p.2))) from rfl,this]
     simp [eV]
    ·cases h
   ·cases h
  ·cases h
 | buildSlice t len parts =>
  simp only [nr] at h
  simp only [eP]
  split at h
  ·cases h
  ·rename_i e he
   split at h
   ·rename_i s zs hs hz
    split at h
    ·rename_i hc
     obtain ⟨rows,us,rd,h1,h2,h⟩:=uD (n:=len) (ρ:=ρ) (by simp) h
     cases dst with
     | none =>
      refine OKQ.some he (OKQ.some hs (OKQ.some hz (OKQ.cond _ (by simp [hc]) ?_)))
      have hl:(List.replicate len (zs.map (aa Fn FnD m).lit))=List.replicate len (zs.map .lit):=rfl
      rw [hl] at h1 h2
      refine OKQ.bind (v:=.one (.d (.sl s rows))) (us:=us) (rd':=[]) h1 h2 ?_ ?_ (by rw [Kh];exact h)
      ·simp [lF,Q.bind,Q.run,eV,eL]
      ·intro x hx;simp [lF,Q.bind,Q.reads] at hx
     | some q0 =>
     obtain ⟨v,u,rd',h3,h4,h⟩:=f9 (v':=fun key=>.one (.slk key 0 len len)) h (fun q=>by simp [eV,eL,aa])
     refine OKQ.some he (OKQ.some hs (OKQ.some hz (OKQ.cond _ (by simp [hc]) ?_)))
     have hl:(List.replicate len (zs.map (aa Fn FnD m).lit))=List.replicate len (zs.map .lit):=rfl
     rw [hl] at h1 h2
     refine OKQ.bind (v:=v) (us:=us++u) (rd':=rd') h1 h2 ?_ ?_ h
     ·rw [Q.run_bind,show (lF (some q0) rows s e len).run (ac (ax ob))=some (eV v,ax u) from h3]
      simp [Q.run,i7]
     ·intro x hx
      rw [Q.reads_bind,show (lF (some q0) rows s e len).run (ac (ax ob))=some (eV v,ax u) from h3] at hx
      simp only [Q.reads,Kh] at hx
      exact h4 x hx
    ·cases h
   ·cases h
 | load t a =>
  simp only [nr] at h
  simp only [eP]
  split at h
  ·rename_i g s hg hs
   exact OKQ.some hg (OKQ.some hs (vk h))
  ·cases h
 | store t a x =>
  simp only [nr] at h
  simp only [eP]
  split at h
  ·rename_i cs hcs
   split at h
   ·rename_i hs
    exact OKQ.some (a:=bL cs) (by rw [mP,hcs];rfl) (OKQ.cond _ (by rw [cj];exact hs) (AI h))
   ·cases h
  ·cases h
 | nilCheck x =>
  simp only [nr] at h
  simp only [eP]
  split at h
  ·rename_i hρ;rw [hρ] at h ⊢;exact OKQ.ret0 (v:=.one (.ptr _ _)) h
  ·rename_i hρ;rw [hρ] at h ⊢;exact OKQ.ret0 (v:=.one (.pa _ _ _ _)) h
  ·rename_i hρ;rw [hρ] at h ⊢;exact OKQ.ret0 (v:=.one (.dp _ _)) h
  ·rename_i hρ;rw [hρ] at h ⊢;exact OKQ.ret0 (v:=.one (.pb _ _ _)) h
  ·rename_i hρ;rw [hρ] at h ⊢;exact OKQ.ret0 (v:=.one (.px _ _ _ _ _ _)) h
  ·rename_i y hρ
   obtain ⟨⟨row,o,rfl⟩,h⟩:=xv h
   rw [hρ] at h ⊢
   exact OKQ.ret0 (v:=.one (.d (.dp row o))) h
  ·cases h
 | binOp op t x y z=>exact G3 h
 | unOp op t x =>
  simp only [nr] at h
  simp only [eP]
  split at h
  ·rename_i v hv
   exact OKQ.pure (v:=.one (.b !v)) (by simp [hv,eV,eL,V.lit?,bR]) h
  ·rename_i y hv
   obtain ⟨z,hz,h⟩:=yW h
   unfold unD at hz
   split at hz
   ·cases hz
    exact OKQ.pure (by simp [hv,eV,eL,V.lit?,bR]) h
   ·cases hz
   ·cases hz
  ·split at h
   ·rename_i y hy
    obtain ⟨z,hz,h⟩:=yW h
    unfold unD at hz
    split at hz
    ·cases hz
    ·cases hz
     refine OKQ.pure (v:=.one (.d _)) ?_ h
     simp [eE hy,V.lit?,bR,eV,eL]
    ·cases hz
   ·cases h
  ·cases h
 | makeFunc fn first captured =>
  simp only [nr] at h
  simp only [eP]
  split at h
  ·rename_i f caps h2 h3
   have e1:cV (first.toList.map fun x=>eV (ρ x))=some []:=by
    have:=gW (first.toList.map ρ)
    rw [h2,Ml] at this
    exact this
   have e2:cV (captured.toList.map fun x=>eV (ρ x))=some (bL caps):=by
    have:=gW (captured.toList.map ρ)
    rw [h3,Ml] at this
    exact this
   split at h
   ·rename_i hlt
    simp only [e1,e2,K1 hlt]
    exact OKQ.ret0 (v:=.one (.fn f caps)) h
   ·cases h
  ·rename_i f c cs h2 h3
   have e1:cV (first.toList.map fun x=>eV (ρ x))=some (eL c::bL cs):=by
    have:=gW (first.toList.map ρ)
    rw [h2,Ml] at this
    exact this
   have e2:cV (captured.toList.map fun x=>eV (ρ x))=some []:=by
    have:=gW (captured.toList.map ρ)
    rw [h3,Ml] at this
    exact this
   simp only [e1,e2]
   exact OKQ.ret0 (v:=.one (.fn (f+2000000) (c::cs))) h
  ·cases h
 | index t x ix =>
  simp only [nr] at h
  simp only [eP]
  split at h
  ·rename_i p hp
   split at h
   ·rename_i s g cs hs hg hx
    split at h
    ·rename_i kk z hix
     split at h
     ·rename_i hz
      obtain ⟨v,hv,h⟩:=dR h (fun v hv=>by
       have:=eN g s (z.toNat*s) cs
       rw [hv] at this
       exact this)
      refine OKQ.some (a:=(kk,z)) (by simp [hix,eV,eL,vInt?]) (OKQ.some hp (OKQ.some hs (OKQ.some hg ?_)))
      simp only [hx,eV]
      exact OKQ.cond _ (by simp [hz]) (OKQ.pure hv h)
     ·cases h
    ·rename_i y hix
     split at h
     ·rename_i ds hds
      split at h
      ·rename_i hln
       obtain ⟨kk,z,rfl,hz,h⟩:=jM h
       have hz':0≤z∧z < (p.1:Int):=hz
       have hzn:z.toNat < p.1:=by omega
       have hmul:z.toNat*s+s≤p.1*s:=by rw [←Nat.succ_mul];exact M8 _ hzn
       have hce:=fV hds
       obtain ⟨v,hv,h⟩:=dR (o':=bx g s (z.toNat*s) (bL cs)) h (fun v hv=>by
        refine ka (by rw [hce,Jp];omega) ?_
        have e:bL ((List.range s).map fun q=>L3.d ((aa Fn FnD m).selN z.toNat ((List.range p.1).map fun j=>ds.getD (j*s+q) ((aa Fn FnD m).lit .nilFunc))))=((bL cs).drop (z.toNat*s)).take s:=by
         rw [hce,bc]
         apply Mf
         intro q
         simp only [K9,M9,Mt]
         by_cases hq:q < s
         ·rw [Mx hq,K1 hq,Jo (show z.toNat*s+q < ds.length by omega)]
          simp [eL,aa,K6,Mx hzn,Jo (show z.toNat*s+q < ds.length by omega)]
         ·rw [Kr (by simpa using hq),Kc hq];rfl
        rw [←e,zx,hv];rfl)
       refine OKQ.some (a:=(kk,z)) (by simp [hix,eV,eL,vInt?]) (OKQ.some hp (OKQ.some hs (OKQ.some hg ?_)))
       simp only [hx,eV]
       exact OKQ.cond _ (by simp [hz']) (OKQ.pure hv h)
      ·cases h
     obtain ⟨kk,z,rfl,hz,h⟩:=rJ h
     unfold AL at h
     split at h
     ·rename_i kont hk
      rw [K9] at hk
      obtain ⟨j,hj,rfl⟩:=Jw.1 hk
      have hjz:j=z.toNat:=by
       have:=(K5.1 hj).2
       simpa using this.symm
      subst hjz
      obtain ⟨v,hv,h⟩:=dR h (fun v hv=>by
       have:=eN g s (z.toNat*s) cs
       rw [hv] at this
       exact this)
      refine OKQ.some (a:=(kk,z)) (by simp [hix,eV,eL,vInt?]) (OKQ.some hp (OKQ.some hs (OKQ.some hg ?_)))
      simp only [hx,eV]
      exact OKQ.cond _ (by simp [hz]) (OKQ.pure hv h)
     ·cases h
    ·cases h
   ·cases h
  ·cases h
 | convert src dst x =>
  simp only [nr] at h
  simp only [eP]
  split at h
  ·rename_i k0 kd y h1 h2 h3
   obtain ⟨a,n,rfl,h⟩:=CB h
   refine OKQ.some h1 (OKQ.some h2 (OKQ.some (a:=(a,n)) (by simp [eE h3,vInt?]) ?_))
   exact OKQ.ret0 (v:=.one (.d (.lit (.int kd (kd.wrap n))))) h
  ·cases h
 | makeInterface t x =>
  simp only [nr] at h
  simp only [eP]
  have fz:∀ zs:List D,(dJ (zs.map L.d)).run (ac (ax ob))=some (zs,[])∧(dJ (zs.map L.d)).reads (ac (ax ob))=[]:=by
   intro zs
   induction zs with
   | nil=>exact ⟨rfl,rfl⟩
   | cons c cs ih=>simp [dJ,jA,Q.bind,Q.run_bind,Q.reads_bind,Q.run,Q.reads,ih.1,ih.2]
  split at h
  ·rename_i hc
   split at h
   ·rename_i y hg hy
    split at h
    ·rename_i z hz
     refine OKQ.cond _ (by simp [hc,hg,hy,eV,eM]) ?_
     have hz':=cI hz
     refine OKQ.some (a:=[z].map L.d) (by simp [hy,eV,hz',V.cells,L.isDef]) ?_
     refine OKQ.mk (v:=.one (.d (.ifc t false [z]))) (us:=[]) (rd:=[]) ?_ ?_ h
     ·rw [Q.run_bind,(fz [z]).1];simp [Q.run,hy,eV,eL,eM,aA]
     ·intro q hq;rw [Q.reads_bind,(fz [z]).1,(fz [z]).2] at hq;simp [Q.reads] at hq
    ·cases h
   ·rename_i ys hg hy
    split at h
    ·rename_i zs hz
     refine OKQ.cond _ (by simp [hc,hg,hy,eV,eM]) ?_
     have hz':=dY hz
     refine OKQ.some (a:=zs.map L.d) (by simp [hy,eV,hz',V.cells,L.isDef,My]) ?_
     refine OKQ.mk (v:=.one (.d (.ifc t true zs))) (us:=[]) (rd:=[]) ?_ ?_ h
     ·rw [Q.run_bind,(fz zs).1];simp [Q.run,hy,eV,eL,eM,aA]
     ·intro q hq;rw [Q.reads_bind,(fz zs).1,(fz zs).2] at hq;simp [Q.reads] at hq
    ·cases h
   ·cases h
  ·cases h
 | makeSlice t l c =>
  simp only [nr] at h
  simp only [eP]
  split at h
  ·cases h
  ·rename_i e he
   split at h
   ·rename_i s zs bs hs hz hb
    split at h
    ·rename_i n n' hn hn'
     split at h
     ·rename_i hc
      obtain ⟨a,z,rfl,rfl,hz2,h⟩:=Cz h
      refine OKQ.some he (OKQ.some hs (OKQ.some hz (OKQ.some hb (OKQ.some (a:=(a,z)) (by simp [eE hn,vInt?]) (OKQ.some (a:=(a,z)) (by simp [eE hn',vInt?]) (OKQ.cond _ (by simp [hc,hz2]) ?_))))))
      have:=f9 (v':=fun key=>.one (.slk key 0 z.toNat z.toNat)) h (fun q=>by simp [eV,eL])
      simpa [eO,aa] using this
     ·cases h
    ·cases h
   ·cases h
 | slice t x lo hi mx =>
  simp only [nr] at h
  simp only [eP]
  split at h
  ·rename_i e he
   split at h
   ·rename_i l h' s hl hh hs
    obtain ⟨zl,zh,h1,h2,h3⟩:=FQ hl hh h
    exact OKQ.cond _ (by simp [he]) (OKQ.some h1 (OKQ.some h2 (OKQ.some he (OKQ.some hs h3))))
   ·cases h
  ·cases h
 | fieldAddr s x f =>
  simp only [nr] at h
  simp only [eP]
  split at h
  ·rename_i p hp
   split at h
   ·rename_i y hρ
    split at h
    ·rename_i n _
     obtain ⟨row,rfl,hl,h⟩:=rK h
     rw [cQ hl] at h
     obtain ⟨v,h1,h2⟩:=dR (o':=dG p.1 (eV (.one (.dp row 0)))) h fun v hv=>nT hv
     refine OKQ.some hp (OKQ.pure ?_ h2)
     rw [hρ];exact h1
    ·cases h
   ·obtain ⟨v,h1,h2⟩:=dR (o':=dG p.1 (eV (ρ x))) h fun v hv=>nT hv
    exact OKQ.some hp (OKQ.pure h1 h2)
  ·cases h
 | field s x f =>
  simp only [nr] at h
  simp only [eP]
  split at h
  ·rename_i p cs hp hx
   obtain ⟨v,h1,h2⟩:=dR (o':=bx p.2.2 p.2.1 p.1 (bL cs)) h fun v hv=>by rw [eN,hv];rfl
   refine OKQ.some hp ?_
   have:eV (ρ x)=.agg (bL cs):=by rw [hx];simp [eV]
   simp only [this]
   exact OKQ.pure h1 h2
  ·cases h
 | indexAddr t x ix =>
  simp only [nr] at h
  simp only [eP]
  split at h
  ·rename_i i hi
   have hi':eV (ρ ix)=.one (eL i):=by rw [hi];simp [eV]
   split at h
   ·rename_i p hp
    split at h
    ·rename_i s hs
     obtain ⟨kk,z,h1,h2⟩:=si (e:=p.2) h
     refine OKQ.some (a:=(kk,z)) (by rw [hi'];exact h1) ?_
     simp only [hp]
     exact OKQ.some hs h2
    ·cases h
   ·rename_i hp
    split at h
    ·rename_i e he
     split at h
     ·rename_i s hs
      obtain ⟨kk,z,h1,h2⟩:=si (e:=0) h
      refine OKQ.some (a:=(kk,z)) (by rw [hi'];exact h1) ?_
      simp only [hp,he]
      exact OKQ.some hs h2
     ·cases h
    ·cases h
  ·cases h
 | makeMap t rr =>
  cases rr with
  | some _=>simp [nr,aa] at h
  | none =>
   simp only [nr] at h
   simp only [eP]
   split at h
   ·rename_i kd g hk hg
    refine OKQ.cond _ (by simp [hk]) (OKQ.some hg ?_)
    split at h
    ·rename_i a b c d ho
     have ho2:(.mp a b c d:O)=.mp g [] [] true:=by
      obtain ⟨e,_,h3⟩:=Km.1 ho
      unfold xH at h3
      split at h3
      ·obtain ⟨_,_,h4⟩:=Jw.1 h3;cases h4
      ·cases h3
      ·exact (Option.some.inj h3).symm
     rw [ho2] at ho
     refine OKQ.some ho ?_
     have:=f9 (v':=fun key=>.one (.mk key)) h (fun q=>by simp [eV,eL])
     simpa [eO,aa,show vi (O.mp g [] [] true)=fun key=>V.one (L.mk key) from rfl] using this
    ·rename_i a b ho
     have ho2:(.ml a b:O)=.ml [] []:=by
      obtain ⟨e,_,h3⟩:=Km.1 ho
      unfold xH at h3
      split at h3
      ·obtain ⟨_,_,h4⟩:=Jw.1 h3;cases h4
      ·exact (Option.some.inj h3).symm
      ·cases h3
     rw [ho2] at ho
     refine OKQ.some ho ?_
     have:=f9 (v':=fun key=>.one (.mq key)) h (fun q=>by simp [eV,eL])
     simpa [eO,bL,show vi (O.ml [] [])=fun key=>V.one (L.mq key) from rfl] using this
    ·rename_i a b s t' ho
     have ho2:(.am a b s t':O)=.am [] [] s t':=by
      obtain ⟨e,_,h3⟩:=Km.1 ho
      unfold xH at h3
      split at h3
      ·obtain ⟨_,_,h4⟩:=Jw.1 h3;cases h4;rfl
      ·cases h3
      ·cases h3
     rw [ho2] at ho
     refine OKQ.some ho ?_
     have:=f9 (v':=fun key=>.one (.mq key)) h (fun q=>by simp [eV,eL])
     simpa [eO,aa,show vi (O.am [] [] s t')=fun key=>V.one (L.mq key) from rfl] using this
    ·cases h
   ·cases h
 | lookup t x ix ok =>
  simp only [nr] at h
  simp only [eP]
  split at h
  ·rename_i kd e hk he
   split at h
   ·rename_i g zs key hg hz hkey
    split at h
    ·rename_i hzs
     split at h
     ·rename_i q hq
      split at h
      ·rename_i hok
       obtain ⟨v,h1,h2,h3⟩:=Bg h
       subst h1
       have hx':eV (ρ x)=.one (.mq q):=by rw [hq];rfl
       refine OKQ.some hk (OKQ.some he (OKQ.some hg (OKQ.some hz (OKQ.some (a:=v) (by simp [eE hkey,V.lit?]) ?_))))
       simp only [hx']
       exact OKQ.cond _ (by simp only [Jn] at hok;simp [h2,hzs,hok.1,hok.2]) h3
      ·cases h
     ·rename_i hnq
      obtain ⟨v,h1,h2,h3⟩:=D6 h
      subst h1
      refine OKQ.some hk (OKQ.some he (OKQ.some hg (OKQ.some hz (OKQ.some (a:=v) (by simp [eE hkey,V.lit?]) ?_))))
      split
      ·rename_i q hq;exact absurd (eV_mq hq) (hnq q)
      ·exact OKQ.cond _ (by simp [h2,hzs]) h3
    ·cases h
   ·cases h
  ·cases h
 | mapUpdate t q kk v =>
  simp only [nr] at h
  simp only [eP]
  split at h
  ·rename_i kd g hk hg
   rcases hme:et P t with _ | e
   ·rw [hme] at hg;cases hg
   rw [hme] at hg
   split at h
   ·rename_i r0 hq
    split at h
    ·rename_i x hx
     obtain ⟨kv,h1,h2⟩:=uw (g:=g) h
     have hq':eV (ρ q)=.one (.mq r0):=by rw [hq];rfl
     refine OKQ.some hk (OKQ.some rfl (OKQ.some hg (OKQ.some (a:=kv) (by rw [hx];simp [eV,h1,V.lit?]) ?_)))
     rw [hq'];exact h2
    ·cases h
   ·split at h
    ·rename_i key hkey
     obtain ⟨kv,h1,h2⟩:=yK h
     subst h1
     exact OKQ.some hk (OKQ.some rfl (OKQ.some hg (OKQ.some (a:=kv) (by simp [eE hkey,V.lit?]) h2)))
    ·cases h
  ·cases h
 | insert t q kk v =>
  simp only [nr] at h
  simp only [eP]
  split at h
  ·rename_i kd g hk hg
   rcases hme:et P t with _ | e
   ·rw [hme] at hg;cases hg
   rw [hme] at hg
   split at h
   ·rename_i r0 hq
    split at h
    ·rename_i x hx
     obtain ⟨kv,h1,h2⟩:=uw (g:=g) h
     have hq':eV (ρ q)=.one (.mq r0):=by rw [hq];rfl
     refine OKQ.some hk (OKQ.some rfl (OKQ.some hg (OKQ.some (a:=kv) (by rw [hx];simp [eV,h1,V.lit?]) ?_)))
     rw [hq'];exact h2
    ·cases h
   ·split at h
    ·rename_i key hkey
     obtain ⟨kv,h1,h2⟩:=yK h
     subst h1
     exact OKQ.some hk (OKQ.some rfl (OKQ.some hg (OKQ.some (a:=kv) (by simp [eE hkey,V.lit?]) h2)))
    ·cases h
  ·cases h
 | extract t i =>
  simp only [nr] at h
  simp only [eP]
  split at h
  ·rename_i vs hρ
   obtain ⟨v,h1,h2⟩:=dR (o':=(cA vs)[i]?) h fun v hv=>by rw [dh,K9,hv];rfl
   have:eV (ρ t)=.tup (cA vs):=by rw [hρ];simp [eV]
   simp only [this]
   exact OKQ.pure h1 h2
  ·cases h
 | call c=>exact yr h
 | _=>simp [nr,aa] at h
end
end Go.VE
