/- The functions. -/
import Derived.Test.YtipddjojdgapiaaGreatDoorMf0
import Derived.Test.YtipddjojdgapiaaGreatDoorMh
import Derived.Lib.LaidU8
import Derived.Shelf.Vars
import Derived.MakeChecks
import Derived.Test.YtipddjojdgapiaaGreatDoorMt
import Derived.Test.YtipddjojdgapiaaGreatDoorCards
import Derived.Test.YtipddjojdgapiaaGreatDoorTie
import Derived.SevenTiedAt
import Derived.ProofKit
import Derived.LaidMore
import Derived.Stop.Joined
import Derived.LaidHandle
import Derived.Lay
import Derived.KernelRfl
import Derived.Lib.SplitLaws
namespace Go.VE
open Go.RowKit Go.WideShapes Go.ChangeShapes
set_option maxRecDepth 100000
theorem lawInY {H:Type} {enc:TypeId×Value→H} {X:World→Array Value→Prop} (hX:∀ (w w':World) (args:Array Value),w.heap=w'.heap→X w args→X w' args) {C:Checked} {os:Os} {f:FuncId} {fn:Func} {s:ChangeSpec} {tb:TypeId} {n:Nat}
  (own:ownKnob C.prog.godebug=none) (started:os.Started) (noInit:C.prog.inits.idxOf? f=none) (hfn:C.prog.funcs[f]?=some fn)
  (witness:∃ (w:World) (tape:Tape) (i:Input),w.os=os∧(w.forCall tape i).Shaped C.prog∧i.vars=[]∧Input.okWide C.prog (w.forCall tape i) .any w.heap.size f i ∧
   ((s.pre enc C.prog fn [] false (w.forCall tape i).memory i.args∧X (w.forCall tape i).memory i.args)∧sizedMet enc C.prog fn (OpenSpec.ofChange s) false (w.forCall tape i).memory i.args)∧({}:Assume).holds C.prog (lone (Frame.enter C.prog f i.args .normal) [] (w.forCall tape i)))
  (hl:laidOutB C.prog=true) (hts:(fn.params.toList.all fun t=>okT C.prog n t&&C.prog.readableRec t&&decide (t < C.prog.types.size))=true)
  (hres:fn.resultTypes=#[tb]) (htb:C.prog.underlying tb=some .bool) (hv:s.vars=[])
  (hs:∀ ds:List (DataW H),ds.length=fn.params.toList.length→s.fn H ds={ results:=[.lit (.bool true)],args:=ds })
  (hsc:∀ (W:World) (args:Array Value) (vds:List VD),W.ShapedOpen C.prog→X W args→VTs C.prog n fn.params.toList vds→VDF W (· < W.heap.size) vds args.toList→Calls C.prog f args W fun e W'=>e=.returned (.bool true)∧Below W.heap.size W W') :
  ReturnsInHanded {} C os f .any (fun w args=>(s.pre enc C.prog fn [] false w args∧X w args)∧sizedMet enc C.prog fn (OpenSpec.ofChange s) false w args) (s.post enc C.prog fn false true false false):=by
 refine returnsInHanded_of_calls own started noInit witness ?_
 intro w tape i _ hsh _ hok hpre _
 obtain ⟨_,_,_,fn',hfn',_,_,_,_,hval⟩:=hok
 have e:fn'=fn:=Option.some.inj (hfn'.symm.trans hfn)
 subst e
 obtain ⟨⟨⟨ds,gs,before,hw,hc⟩,hx⟩,hz⟩:=hpre
 have hW:=DataW.Whole.of_heap (w':=w.forCall tape i) (by rfl) hw
 have hwt:(DataW.weightsEach C.prog (fn'.params.toList++s.plain.varTypes C.prog) (ds++gs)).all (·≤reachBytes)=true:=hz.weights hw
 have hx':=hX _ (w.forCall tape i) _ (by rfl) hx
 revert hsh hval hx' hW
 generalize w.forCall tape i=W
 intro hsh hval hW hx'
 have hW':=hW
 obtain ⟨p,q,hA,hV,hbf,hfz,hnd⟩:=hW
 rw [hv] at hV
 obtain ⟨rfl,rfl⟩:=trodVars_none hV
 have hvt:s.plain.varTypes C.prog=[]:=by simp [ChangeSpec.plain,hv,DataSpec.varTypes]
 rw [hvt,List.append_nil,List.append_nil] at hwt
 simp only [List.all_eq_true,decide_eq_true_eq,Bool.and_eq_true] at hwt hts
 obtain ⟨hlen,vds,h1,h2⟩:=rdVs (n:=n) (fun t ht=>(hts t ht).1.1) (fun j t v hj hv=>hval j t v (by simpa using hj) (by simpa using hv)) hA hwt
 refine (hsc W i.args vds hsh hx' h2 h1).mono ?_
 rintro e W' ⟨rfl,hbelow⟩
 refine ChangeSpec.post_blind ?_
 have hsf:=hs ds hlen
 refine ⟨ds,[],before,[],p,[],hW',?_,?_,?_,hbelow.frame _,fun h=>by cases h⟩
 ·rw [List.append_nil,hsf,hres]
  exact trodAll_cons_mk (shut_bool htb true) trodAll_mk0
 ·rw [List.append_nil,hsf]
  exact belowAll hl hbelow (fun t ht=>⟨(hts t ht).1.2,(hts t ht).2⟩) hA (fun x hx=>hW'.lt x (by rw [hbf];simp [hx]))
 ·rw [List.append_nil,hsf,hv];rfl
end Go.VE
namespace Go.Proofs.YtipddjojdgapiaaGreatDoor
open Go.VE Go.RowKit Go.ChangeShapes Go.WideShapes
set_option maxRecDepth 100000
theorem own:ownKnob Tryz.prog.godebug=none:=by kernel_rfl
theorem laidOut:laidOutB Tryz.prog=true:=by kernel_rfl
abbrev laid5:List (String×DataW Unit):=[("math/bits.deBruijn32tab",Rows.laid_math_bits_deBruijn32tab),("math/bits.deBruijn64tab",Rows.laid_math_bits_deBruijn64tab),("internal/strconv.uint64pow10",Rows.laid_internal_strconv_uint64pow10),("strconv.ErrRange",Rows.laid_strconv_ErrRange),("strconv.ErrSyntax",Rows.laid_strconv_ErrSyntax)]
theorem door_met (os:Os) (args:Array Value):laidMetH Tryz.prog laid5 ((World.laidAll Tryz.prog os laid5).forCall (fun _ _=>0) ⟨#[],args,[]⟩).memory:=by
 rw [MakeChecks.laidMetH_plain _ _ _ (by kernel_rfl)]
 exact laidMet_laidAll _ (by kernel_rfl) (by kernel_rfl)
theorem iface_cell {W:World} {n nm:String} {d:DataW Unit} {g:Nat} {t:TypeId} {ms:Array (String×TypeId)} (hg:Tryz.prog.globalNamed n=some g) (ht:(Tryz.prog.globals[g]?).map (·.type)=some t) (hi:Tryz.prog.underlying t=some (.interface ms)) (h:Lib.VarReads Tryz.prog W n (.iface nm d)) :
  ∃ ev,W.cell? ⟨g,0,none⟩=some ev∧(ev=.nilIface∨∃ te pe,ev=.iface te pe):=by
 obtain ⟨g',t',cs,fuel,p,h1,h2,h3,h4⟩:=h
 obtain rfl:=Option.some.inj (hg.symm.trans h1)
 obtain rfl:=Option.some.inj (ht.symm.trans h2)
 obtain ⟨_,u,v,hcs,_⟩:=iface_of_trod hi h4
 refine ⟨.iface u v,?_,.inr ⟨u,v,rfl⟩⟩
 rw [World.var?_cell hg h3 0]
 obtain ⟨l⟩:=cs
 simp only at hcs
 subst hcs
 rfl
theorem laid_of {W:World} (hsh:W.ShapedOpen Tryz.prog) (hX:laidMetH Tryz.prog laid5 W):Laid W:=by
 rw [MakeChecks.laidMetH_plain _ _ _ (by kernel_rfl)] at hX
 refine ⟨Go.Proofs.cell_of_shapedOpen_int (t:=3) (zero:=#[.int .i64 0]) hsh (of_decide_eq_true (by kernel_rfl)) (by kernel_rfl) rfl (by kernel_rfl) (by kernel_rfl) Tryz.underlying3,?_,?_,?_⟩
 ·exact iface_cell (by kernel_rfl) (by kernel_rfl) Tryz.underlying207 (Lib.laidMet.reads hX (n := "strconv.ErrSyntax") (d:=Rows.laid_strconv_ErrSyntax) (by simp [laid5]))
 ·exact iface_cell (by kernel_rfl) (by kernel_rfl) Tryz.underlying207 (Lib.laidMet.reads hX (n := "strconv.ErrRange") (d:=Rows.laid_strconv_ErrRange) (by simp [laid5]))
 ·obtain ⟨g,t,cs,fuel,p,h1,h2,h3,h4⟩:=Lib.laidMet.reads hX (n := "internal/strconv.uint64pow10") (d:=Rows.laid_internal_strconv_uint64pow10) (by simp [laid5])
  obtain rfl:=Option.some.inj ((show Tryz.prog.globalNamed "internal/strconv.uint64pow10" = some 3 by kernel_rfl).symm.trans h1)
  obtain rfl:=Option.some.inj ((show (Tryz.prog.globals[3]?).map (·.type)=some 263 by kernel_rfl).symm.trans h2)
  have e:(Rows.laid_internal_strconv_uint64pow10:DataW Unit)=Lib.tabData .u64 Lib.pow10Tab:=by kernel_rfl
  rw [e] at h4
  have hc:=Lib.cells_of_tab Tryz.underlying263 Tryz.underlying239 (by kernel_rfl) (by kernel_rfl) h4
  have h5:blkCells W 3=some cs:=by
   unfold World.var? at h3
   rw [show Tryz.prog.globalNamed "internal/strconv.uint64pow10" = some 3 by kernel_rfl] at h3
   exact h3
  rw [h5,← hc]
theorem size_of {W:World} (hX:laidMetH Tryz.prog laid5 W):nX≤W.heap.size:=by
 rw [MakeChecks.laidMetH_plain _ _ _ (by kernel_rfl)] at hX
 obtain ⟨g,t,cs,fuel,p,h1,h2,h3,h4⟩:=Lib.laidMet.reads hX (n := "math/bits.deBruijn64tab") (d:=Rows.laid_math_bits_deBruijn64tab) (by simp [laid5])
 unfold World.var? at h3
 rw [show Tryz.prog.globalNamed "math/bits.deBruijn64tab" = some 5 by kernel_rfl] at h3
 rcases Nat.lt_or_ge 5 W.heap.size with h | h
 ·exact h
 ·have e:W.heap[5]?=none:=Array.getElem?_eq_none h
  simp only [Option.bind_some,e] at h3
  cases h3
theorem calls_of {f:Nat} {vds:List VD} (hsc:SC Tryz.prog f vds (.one (.d (bl true)))) {W:World} {args:Array Value} (hsh:W.ShapedOpen Tryz.prog) (hX:laidMetH Tryz.prog laid5 W) (hv:VDF W (· < W.heap.size) vds args.toList) :
  Calls Tryz.prog f args W fun e W'=>e=.returned (.bool true)∧Below W.heap.size W W':=by
 refine (hsc.2 W (· < W.heap.size) args (fun b hb=>hb) ⟨fun b hb=>?_,laid_of hsh hX⟩ hv).mono ?_
 ·exact Nat.lt_of_lt_of_le hb (size_of hX)
 ·rintro e W' ⟨v,U',bs,rfl,hbelow,_,_,_,_,hr⟩
  refine ⟨?_,hbelow⟩
  simp only [RvR,RcR] at hr
  obtain ⟨_,hd⟩:=hr
  simp only [DR,bl] at hd
  obtain ⟨rfl,_⟩:=hd
  rfl
end Go.Proofs.YtipddjojdgapiaaGreatDoor
namespace Go.VE
open Go.RowKit Go.Proofs
set_option maxRecDepth 100000
theorem cast1 (i:Nat):((i+1:Nat):Int)=(i:Int)+1:=by omega
def dL {α:Type} (n:Nat) (f:α→List D) (o:Option (List α)):D:=dSl n (o.map (·.map f))
def spR (s:Strp):List D:=[il s.no,il s.sz,sD s.tx]
abbrev dP (o:Option (List Strp)):D:=dL 3 spR o
abbrev ub (b:UInt8):D:=.lit (.int .u8 b.toNat)
def rU (b:UInt8):List D:=[ub b]
section
variable {Fn:Nat→List D→Out} {FnD:D→List Sh→List D→Out} {m:Nat}
theorem getD_map {α β:Type} (f:α→β) (o:Option (List α)):(o.map (·.map f)).getD []=(o.getD []).map f:=by cases o<;>rfl
theorem lenL {α:Type} (n:Nat) (f:α→List D) (o:Option (List α)) (k:D→Out):(real Fn FnD m).lenD (dL n f o) k=k (il (o.getD []).length):=by rw [dL,r_lenDS,getD_map,List.length_map]
theorem rowL {α:Type} {n:Nat} {f:α→List D} {o:Option (List α)} {i:Nat} {c:α} (h:(o.getD [])[i]?=some c) (hn:(f c).length=n) (k:List D→Out):(real Fn FnD m).rowD n (dL n f o) (il i) k=k (f c):=by
 rw [dL,r_rowDSg,if_pos (by omega),getD_map,Int.toNat_natCast,List.getElem?_map,h];simp [hn]
theorem rowP {o:Option (List Strp)} {i:Nat} {c:Strp} (h:(o.getD [])[i]?=some c) (k:List D→Out):(real Fn FnD m).rowD 3 (dP o) (il i) k=k (spR c):=rowL h rfl k
theorem cP0 (b:Strp):(real Fn FnD m).cell (spR b) 0=il b.no:=rfl
theorem cP1 (b:Strp):(real Fn FnD m).cell (spR b) 1=il b.sz:=rfl
theorem cP2 (b:Strp):(real Fn FnD m).cell (spR b) 2=sD b.tx:=rfl
theorem r_litS (s:ByteArray):(real Fn FnD m).lit (.string s)=.lit (.string s):=rfl
theorem r_litSe:(real Fn FnD m).lit (.string ByteArray.empty)=sD []:=rfl
theorem r_litU (n:Int):(real Fn FnD m).lit (.int .u8 n)=.lit (.int .u8 n):=rfl
theorem hk_size (l:List UInt8):(⟨l.toArray⟩:ByteArray).size=l.length:=by simp [ByteArray.size]
theorem hk_list (s:ByteArray):s=⟨s.data.toList.toArray⟩:=by cases s;simp
theorem bs_toList (l:List UInt8):(⟨l.toArray⟩:ByteArray).toList=l:=by
 exact ByteArray.toList_mk l
theorem r_lenSs (l:List UInt8) (k:D→Out):(real Fn FnD m).lenS (sD l) k=k (il l.length):=by simp [real,il,sD,hk_size]
theorem bs_get (l:List UInt8) (i:Nat):(⟨l.toArray⟩:ByteArray)[i]?=l[i]?:=by
 by_cases h:i < l.length
 ·rw [getElem?_pos (⟨l.toArray⟩:ByteArray) i (by rw [hk_size];exact h),getElem?_pos l i h];rfl
 ·rw [getElem?_neg (⟨l.toArray⟩:ByteArray) i (by rw [hk_size];exact h),getElem?_neg l i h]
theorem r_atSs {l:List UInt8} {i:Nat} {b:UInt8} (h:l[i]?=some b) (k:D→Out):(real Fn FnD m).atS (sD l) (il i) k=k (ub b):=by
 simp [real,il,sD,intD,strAt,bs_get,h]
theorem r_addSs {a b:List UInt8} (h:a.length+b.length≤9223372036854775807) (f:Bool) (k:D→Out):(real Fn FnD m).bin .add f (sD a) (sD b) k=k (sD (a++b)):=by
 have e:(⟨a.toArray⟩:ByteArray)++⟨b.toArray⟩=⟨(a++b).toArray⟩:=by
  rw [hk_list (_++_)]
  simp
 have h':¬ ((((⟨a.toArray⟩:ByteArray).size+(⟨b.toArray⟩:ByteArray).size:Nat):Int) > IntKind.i64.max):=by
  rw [hk_size,hk_size]
  have:IntKind.i64.max=9223372036854775807:=by decide
  omega
 simp only [real,binD,sD,aStr,if_neg h',Option.map_some,e,optO]
theorem r_eqlSs (a b:List UInt8) (f:Bool) (k:D→Out):(real Fn FnD m).bin .eql f (sD a) (sD b) k=k (bl (decide (a=b))):=by
 have:(a==b)=decide (a=b):=by rw [Bool.eq_iff_iff];simp
 simp only [real,binD,sD,aStr,Option.map_some,optO,bs_toList,bl,this]
theorem r_neqSs (a b:List UInt8) (f:Bool) (k:D→Out):(real Fn FnD m).bin .neq f (sD a) (sD b) k=k (bl (!decide (a=b))):=by
 have:(a==b)=decide (a=b):=by rw [Bool.eq_iff_iff];simp
 simp only [real,binD,sD,aStr,Option.map_some,optO,bs_toList,bl,this]
theorem r_lssU (b c:UInt8) (f:Bool) (k:D→Out):(real Fn FnD m).bin .lss f (ub b) (ub c) k=k (bl (decide (b.toNat < c.toNat))):=by
 have:decide ((b.toNat:Int) < (c.toNat:Int))=decide (b.toNat < c.toNat):=by rw [decide_eq_decide];omega
 simp only [real,binD,aBin,optO,bl,Option.map_some]
 simp [this]
theorem r_gtrU (b c:UInt8) (f:Bool) (k:D→Out):(real Fn FnD m).bin .gtr f (ub b) (ub c) k=k (bl (decide (c.toNat < b.toNat))):=by
 have:decide ((c.toNat:Int) < (b.toNat:Int))=decide (c.toNat < b.toNat):=by rw [decide_eq_decide];omega
 simp only [real,binD,aBin,optO,bl,Option.map_some]
 simp [this]
theorem r_eqlU (b c:UInt8) (f:Bool) (k:D→Out):(real Fn FnD m).bin .eql f (ub b) (ub c) k=k (bl (decide (b=c))):=by
 have:((b.toNat:Int)==(c.toNat:Int))=decide (b=c):=by
  rw [Bool.eq_iff_iff]
  simp only [beq_iff_eq,decide_eq_true_eq]
  rw [←UInt8.toNat_inj];omega
 simp only [real,binD,aBin,optO,bl,Option.map_some]
 simp [this]
theorem wrap8 {n:Nat} (h:n < 256):IntKind.u8.wrap (n:Int)=n:=by
 simp only [IntKind.wrap,IntKind.signed,IntKind.bits]
 simp
 omega
def un (n:Nat):D:=.lit (.int .u8 n)
theorem un_ub (b:UInt8):ub b=un b.toNat:=rfl
theorem r_addU {a b:Nat} (h:a+b < 256) (f:Bool) (k:D→Out):(real Fn FnD m).bin .add f (un a) (un b) k=k (un (a+b)):=by
 have:IntKind.u8.wrap ((a:Int)+(b:Int))=((a+b:Nat):Int):=by rw [←wrap8 h];congr 1
 simp only [real,un,binD,aBin,optO,Option.map_some]
 simp [this]
theorem r_subU {a b:Nat} (h:b≤a) (h2:a < 256) (f:Bool) (k:D→Out):(real Fn FnD m).bin .sub f (un a) (un b) k=k (un (a - b)):=by
 have:IntKind.u8.wrap ((a:Int) - (b:Int))=((a - b:Nat):Int):=by
  rw [←wrap8 (n:=a - b) (by omega)];congr 1;omega
 simp only [real,un,binD,aBin,optO,Option.map_some]
 simp [this]
theorem r_remU {a b:Nat} (h:0 < b) (f:Bool) (k:D→Out):(real Fn FnD m).bin .rem f (un a) (un b) k=k (un (a % b)):=by
 have h':¬ (b=0):=by omega
 have e:(a:Int).tmod (b:Int)=((a % b:Nat):Int):=by rw [Int.tmod_eq_emod_of_nonneg (by omega)];rfl
 simp only [real,un,binD,aBin,optO]
 simp [h',e]
end
theorem litEq_i (a b:Int):litEq 1 (.int .i64 a) (.int .i64 b)=some (decide (a=b)):=by
 have:(a==b)=decide (a=b):=by rw [Bool.eq_iff_iff];simp
 simp only [litEq,if_true,this]
theorem litEq_s (a b:List UInt8):litEq 2 (.string ⟨a.toArray⟩) (.string ⟨b.toArray⟩)=some (decide (a=b)):=by
 have:(a==b)=decide (a=b):=by rw [Bool.eq_iff_iff];simp
 simp only [litEq,bs_toList,this]
theorem eq_spK (a b:Strp):cellsEq [1,1,2] ((spR a).map .d) ((spR b).map .d)=some (decide (a=b)):=by
 obtain ⟨a1,a2,a3⟩:=a
 obtain ⟨b1,b2,b3⟩:=b
 have e:∀ (x y:Int) (t:List UInt8),(spR ⟨x,y,t⟩).map L.d=[.d (.lit (.int .i64 x)),.d (.lit (.int .i64 y)),.d (.lit (.string ⟨t.toArray⟩))]:=fun _ _ _=>rfl
 rw [e,e]
 simp only [cellsEq,litEq_i,litEq_s,Option.some.injEq]
 rw [Bool.eq_iff_iff]
 simp [and_assoc]
section
variable {Fn:Nat→List D→Out} {FnD:D→List Sh→List D→Out} {m:Nat}
theorem r_eqSp (ng:Bool) (a b:Strp) (k:D→Out):(real Fn FnD m).eqs [1,1,2] ng (spR a) (spR b) k=k (bl (if ng then !decide (a=b) else decide (a=b))):=by
 simp only [real,eq_spK];rfl
end
end Go.VE
namespace Go.VE
open Go.RowKit Go.Proofs
set_option maxRecDepth 100000
theorem told {n f:Nat} {xs:List D} {o:Nat×List Yr} (h:BB (FN n) f xs=some o):FN (n+1) f xs=some o:=by
 show (BB (FN n) f xs).or _=some o
 rw [h];rfl
theorem dStr_sD (s:List UInt8):dStr (sD s)=some s:=rfl
theorem dInt_il (z:Int):dInt (il z)=some z:=rfl
theorem t103 (n:Nat) (r:Rec) (h:okR r=true):FN (n+1) 103 (recR r)=some (0,[.d (sD (txt r))]):=by
 refine told ?_
 show tText (recR r)=_
 rw [tText,recD_of]
 simp only
 rw [if_pos h]
theorem t129 (n:Nat) (s:List UInt8) (h:s.length≤1000):FN (n+1) 129 [sD s]=some (0,[.d (bl (s.all okB))]):=by
 refine told ?_
 show tPlain [sD s]=_
 rw [tPlain,dStr_sD]
 simp only
 rw [if_pos h]
theorem t130 (n:Nat) (s:List UInt8) (h1:s≠[]) (h2:s.length≤1000) (h3:s.all okB=true):FN (n+1) 130 [sD s]=some (0,[.d (sD (third 0 s)),.d (sD (third 1 s)),.d (sD (third 2 s))]):=by
 refine told ?_
 show tThirds [sD s]=_
 rw [tThirds,dStr_sD]
 simp only
 rw [if_pos ⟨h1,h2,h3⟩]
theorem isT_of {o:Out} {b:Bool} (h:o=some (0,[.d (bl b)])):isT o=some b:=by rw [h];rfl
theorem outS_of {o:Out} {ys:List Yr} (h:o=some (0,ys)):outS o=some ys:=by rw [h];rfl
def spY (s:Strp):List Yr:=(spR s).map .d
theorem stripD_of (a b c:Strp):stripD (spY a++spY b++spY c)=some (a.no,a.sz,a.tx,b.no,b.sz,b.tx,c.no,c.sz,c.tx):=rfl
theorem t13_0 (n:Nat) (r:Rec) (no:Int) (h:FN n 69 (recR r)=some (0,[.d (bl false)])):FN (n+1) 13 (recR r++[il no])=some (0,[.d (.lit (.slice none 0 0)),.d (il 80)]):=by
 refine told ?_
 show tThird3 (FN n) [il r.p,il r.no,il r.kd,il r.dy,il r.kn,il r.op,il r.on,sD r.tx,il no]=_
 rw [tThird3]
 have e:recD [il r.p,il r.no,il r.kd,il r.dy,il r.kn,il r.op,il r.on,sD r.tx]=some r:=recD_of r
 rw [e]
 simp only [dInt_il,isT_of h]
theorem t13_1 (n:Nat) (r:Rec) (no:Int) (h:FN n 69 (recR r)=some (0,[.d (bl true)])) (h2:FN n 70 [il no,il 0,il 59]=some (0,[.d (bl false)])):FN (n+1) 13 (recR r++[il no])=some (0,[.d (.lit (.slice none 0 0)),.d (il 1)]):=by
 refine told ?_
 show tThird3 (FN n) [il r.p,il r.no,il r.kd,il r.dy,il r.kn,il r.op,il r.on,sD r.tx,il no]=_
 rw [tThird3]
 have e:recD [il r.p,il r.no,il r.kd,il r.dy,il r.kn,il r.op,il r.on,sD r.tx]=some r:=recD_of r
 rw [e]
 simp only [dInt_il,isT_of h,isT_of h2]
theorem t13_2 (n:Nat) (r:Rec) (no:Int) (a b c:Strp) (h:FN n 69 (recR r)=some (0,[.d (bl true)])) (h2:FN n 70 [il no,il 0,il 59]=some (0,[.d (bl true)])) (h3:FN n 71 (recR r++[il no])=some (0,spY a++spY b++spY c)) (h4:FN n 72 [.sl 3 [spR a,spR b,spR c]]=some (0,[.r [spR a,spR b,spR c]])):FN (n+1) 13 (recR r++[il no])=some (0,[.d (dP (some [a,b,c])),.d (il 0)]):=by
 refine told ?_
 show tThird3 (FN n) [il r.p,il r.no,il r.kd,il r.dy,il r.kn,il r.op,il r.on,sD r.tx,il no]=_
 rw [tThird3]
 have e:recD [il r.p,il r.no,il r.kd,il r.dy,il r.kn,il r.op,il r.on,sD r.tx]=some r:=recD_of r
 rw [e]
 have h4':FN n 72 [.sl 3 [[il a.no,il a.sz,sD a.tx],[il b.no,il b.sz,sD b.tx],[il c.no,il c.sz,sD c.tx]]]=some (0,[.r [[il a.no,il a.sz,sD a.tx],[il b.no,il b.sz,sD b.tx],[il c.no,il c.sz,sD c.tx]]]):=h4
 simp only [dInt_il,isT_of h,isT_of h2,outS_of h3,stripD_of,h4']
 rfl
end Go.VE
namespace Go.VE
open Go.RowKit Go.Proofs
set_option maxRecDepth 100000
def inZ (a b c:Int):Bool:=decide (b≤a∧a≤c)
theorem inZ_iff {a b c:Int}:inZ a b c=true↔b≤a∧a≤c:=by simp [inZ]
theorem s70 (n:Nat) (a b c:Int):FN (n+1) 70 [il a,il b,il c]=some (0,[.d (bl (inZ a b c))]):=by
 rw [F70];by_cases h:b≤a<;>simp [G70,h,inZ]
theorem s73 (n:Nat) (a b c:Int):FN (n+1) 73 [il a,il b,il c]=some (0,[.d (bl (inZ a b c))]):=by
 rw [F73];by_cases h:b≤a<;>simp [G73,h,inZ]
theorem s104 (n:Nat) (a:Int):FN (n+2) 104 [il a]=some (0,[.d (bl (inZ a 0 5))]):=by rw [F104];simp only [G104,r_call,r_liti,s70,r_bnd0,r_ld0,r_out]
theorem s105 (n:Nat) (a:Int):FN (n+2) 105 [il a]=some (0,[.d (bl (inZ a 0 5))]):=by rw [F105];simp only [G105,r_call,r_liti,s73,r_bnd0,r_ld0,r_out]
theorem s128 (n:Nat) (a:Int):FN (n+2) 128 [il a]=some (0,[.d (bl (inZ a 0 4166))]):=by rw [F128];simp only [G128,r_call,r_liti,s70,r_bnd0,r_ld0,r_out]
theorem s101 (n:Nat) (a:Int):FN (n+2) 101 [il a]=some (0,[.d (bl (inZ a 0 4166))]):=by rw [F101];simp only [G101,r_call,r_liti,s73,r_bnd0,r_ld0,r_out]
theorem s75 (n:Nat) (a:Int):FN (n+2) 75 [il a]=some (0,[.d (bl (inZ a 0 2))]):=by rw [F75];simp only [G75,r_call,r_liti,s70,r_bnd0,r_ld0,r_out]
theorem okItem_in (p m:Int):okItem p m=(inZ p 0 5&&inZ m 0 9999):=by
 unfold okItem inZ
 rw [Bool.eq_iff_iff];simp;omega
theorem s127 (n:Nat) (a b:Int):FN (n+3) 127 [il a,il b]=some (0,[.d (bl (okItem a b))]):=by
 rw [F127,okItem_in]
 simp only [G127,r_call,r_liti,s104,s70,r_bnd0,r_ld0,r_out,r_cond,r_litb]
 cases inZ a 0 5<;>rfl
theorem s100 (n:Nat) (a b:Int):FN (n+3) 100 [il a,il b]=some (0,[.d (bl (okItem a b))]):=by
 rw [F100,okItem_in]
 simp only [G100,r_call,r_liti,s105,s73,r_bnd0,r_ld0,r_out,r_cond,r_litb]
 cases inZ a 0 5<;>rfl
section
variable {Fn:Nat→List D→Out} {FnD:D→List Sh→List D→Out} {m:Nat}
theorem r_lssU32 (b:UInt8) (f:Bool) (k:D→Out):(real Fn FnD m).bin .lss f (ub b) (.lit (.int .u8 32)) k=k (bl (decide (b.toNat < 32))):=r_lssU b 32 f k
theorem r_gtrU126 (b:UInt8) (f:Bool) (k:D→Out):(real Fn FnD m).bin .gtr f (ub b) (.lit (.int .u8 126)) k=k (bl (decide (126 < b.toNat))):=r_gtrU b 126 f k
theorem r_eqlU32 (b:UInt8) (f:Bool) (k:D→Out):(real Fn FnD m).bin .eql f (ub b) (.lit (.int .u8 32)) k=k (bl (decide (b=32))):=r_eqlU b 32 f k
end
def allO:Bool→Out
 | true=>some (1,[])
 | false=>some (0,[.d (bl false)])
theorem l102 (n:Nat) (s:List UInt8) (hs:s.length≤4611686018427387904):loopR [L102_0 (RP n)] M0 0 [.d (sD s),.d (il 0)]=allO (s.all okB):=by
 have:=range_loop (β:=Unit) s hs (L102_0 (RP n)) (fun i _=>[.d (sD s),.d (il i)]) (fun _ _=>True)
  (fun _ r _=>allO (r.all okB)) ?_ ?_ M0 () trivial (M0_big hs)
 ·exact this
 ·intro _ k _
  simp only [L102_0,r_ld0,r_lds,r_lenSs,r_lss,Int.lt_irrefl,decide_false,r_cond,Bool.false_eq_true,if_false,r_out,List.all_nil,allO]
 ·intro i b r _ k hi hd hlt hw _ ih
  have hlt':(i:Int) < (s.length:Int):=by omega
  have ih':=ih () trivial
  rw [cast1] at ih'
  simp only [L102_0,r_ld0,r_lds,r_lenSs,r_lss,hlt',decide_true,r_cond,if_true,r_atSs hi,r_litU,r_lssU32,r_gtrU126,r_litb,r_out,r_liti,r_add,hw,ih',List.all_cons,decide_eq_true_eq]
  by_cases h1:b.toNat < 32
  ·have:okB b=false:=by simp [okB];omega
   rw [if_pos h1,this]
   rfl
  ·rw [if_neg h1]
   by_cases h2:126 < b.toNat
   ·have:okB b=false:=by simp [okB];omega
    rw [if_pos h2,this]
    rfl
   ·have:okB b=true:=by simp [okB];omega
    rw [if_neg h2,this,Bool.true_and]
theorem s102 (n:Nat) (s:List UInt8) (hs:s.length≤4611686018427387904):FN (n+1) 102 [sD s]=some (0,[.d (bl (s.all okB))]):=by
 rw [F102]
 simp only [G102,r_loop,r_liti,l102 n s hs]
 cases h:s.all okB<;>simp [allO]
section
variable {Fn:Nat→List D→Out} {FnD:D→List Sh→List D→Out} {m:Nat}
end
theorem okR_in (p no kd dy kn op on:Int) (tx:List UInt8):okR ⟨p,no,kd,dy,kn,op,on,tx⟩=(okItem p no&&(inZ kd 0 60&&(inZ dy 0 4166&&(inZ kn 0 4166&&(decide (tx.length≤160)&&(tx.all okB&&(if kd≠0 then decide (op=0∧on=0) else decide (dy=0∧tx=[]∧op=p∧on < no)&&okItem op on))))))):=by
 unfold okR inZ
 rw [plainB_ok]
 simp only
 rw [Bool.eq_iff_iff]
 simp only [Bool.and_eq_true,decide_eq_true_eq,and_assoc]
theorem s69 (n:Nat) (r:Rec):FN (n+4) 69 (recR r)=some (0,[.d (bl (okR r))]):=by
 obtain ⟨p,no,kd,dy,kn,op,on,tx⟩:=r
 show FN (n+4) 69 [il p,il no,il kd,il dy,il kn,il op,il on,sD tx]=_
 rw [F69]
 simp only [G69,r_call,r_liti,r_litb,s127,s70,s128,r_bnd0,r_ld0,r_not,r_cond,r_out,r_lenSs,r_gtr,r_litSe,r_eqs2,r_neq,r_eql,r_lss,r_eqlSs]
 by_cases h1:okItem p no=true
 ·by_cases h2:inZ kd 0 60=true
  ·by_cases h3:inZ dy 0 4166=true
   ·by_cases h4:inZ kn 0 4166=true
    ·by_cases h5:tx.length≤160
     ·have h5':¬ ((160:Int) < (tx.length:Int)):=by omega
      simp only [h1,h2,h3,h4,h5,h5',and_self,decide_true,decide_false,Bool.not_true,Bool.false_eq_true,if_false,t129 _ _ (show tx.length≤1000 by omega),r_bnd0,r_ld0,r_not,r_cond,okR_in,Bool.true_and]
      by_cases h6:tx.all okB=true
      ·simp only [h6,Bool.not_true,Bool.false_eq_true,if_false,Bool.true_and]
       by_cases h7:kd=0
       ·subst h7
        simp only [ne_eq,not_true,decide_false,Bool.false_eq_true,if_false]
        by_cases h8:dy=0
        ·by_cases h9:tx=[]
         ·by_cases h10:okItem op on=true
          ·by_cases h11:op=p
           ·subst h11
            simp [h8,h9,h10]
           ·simp [h8,h9,h10,h11]
          ·simp [h8,h9,h10]
         ·simp [h8,h9]
        ·simp [h8]
       ·simp [h7]
      ·simp [h6]
     ·have h5':(160:Int) < (tx.length:Int):=by omega
      simp [h1,h2,h3,h4,h5,h5',okR_in]
    ·simp [h1,h2,h3,h4,okR_in]
   ·simp [h1,h2,h3,okR_in]
  ·simp [h1,h2,okR_in]
 ·simp [h1,okR_in]
theorem s35 (n:Nat) (r:Rec):FN (n+4) 35 (recR r)=some (0,[.d (il (if okR r=true then 0 else 80))]):=by
 obtain ⟨p,no,kd,dy,kn,op,on,tx⟩:=r
 show FN (n+4) 35 [il p,il no,il kd,il dy,il kn,il op,il on,sD tx]=_
 rw [F35]
 simp only [G35,r_call,r_liti,r_litb,s100,s73,s101,r_bnd0,r_ld0,r_not,r_cond,r_out,r_lenSs,r_gtr,r_litSe,r_eqs2,r_neq,r_eql,r_lss,r_geq,r_neqSs]
 by_cases h1:okItem p no=true
 ·by_cases h2:inZ kd 0 60=true
  ·by_cases h3:inZ dy 0 4166=true
   ·by_cases h4:inZ kn 0 4166=true
    ·by_cases h5:tx.length≤160
     ·have h5':¬ ((160:Int) < (tx.length:Int)):=by omega
      simp only [h1,h2,h3,h4,h5,h5',and_self,decide_true,decide_false,Bool.not_true,Bool.false_eq_true,if_false,s102 _ tx (show tx.length≤4611686018427387904 by omega),r_bnd0,r_ld0,r_not,r_cond,okR_in,Bool.true_and]
      by_cases h6:tx.all okB=true
      ·simp only [h6,Bool.not_true,Bool.false_eq_true,if_false,Bool.true_and]
       by_cases h7:kd=0
       ·subst h7
        simp only [ne_eq,not_true,decide_false,Bool.false_eq_true,if_false]
        by_cases h8:dy=0
        ·by_cases h9:tx=[]
         ·by_cases h10:okItem op on=true
          ·by_cases h11:op=p
           ·subst h11
            by_cases h12:on < no
            ·simp [h8,h9,h10,h12,show ¬ no≤on by omega]
            ·simp [h8,h9,h10,h12,show no≤on by omega]
           ·simp [h8,h9,h10,h11]
          ·simp [h8,h9,h10]
         ·simp [h8,h9]
        ·simp [h8]
       ·by_cases h8:op=0∧on=0
        ·simp [h7,h8]
        ·simp [h7,h8]
      ·simp [h6]
     ·have h5':(160:Int) < (tx.length:Int):=by omega
      simp [h1,h2,h3,h4,h5,h5',okR_in]
    ·simp [h1,h2,h3,h4,okR_in]
   ·simp [h1,h2,h3,okR_in]
  ·simp [h1,h2,okR_in]
 ·simp [h1,okR_in]
end Go.VE
namespace Go.VE
open Go.RowKit Go.Proofs
set_option maxRecDepth 100000
section
variable {Fn:Nat→List D→Out} {FnD:D→List Sh→List D→Out} {m:Nat}
theorem r_selN (i:Nat) (ds:List D):(real Fn FnD m).selN i ds=ds.getD i default:=rfl
theorem r_updN (i q:Nat) (a b:D):(real Fn FnD m).updN i q a b=if i=q then a else b:=rfl
end
theorem half2 {z:Int} (h:0≤z):(z+1).tdiv 2=(z+1) / 2:=Int.tdiv_eq_ediv_of_nonneg (by omega)
theorem s132 (n:Nat) (z:Int) (h:0≤z) (h2:z≤1000000):FN (n+1) 132 [il z]=some (0,[.d (il ((z+1) / 2))]):=by
 rw [F132]
 simp only [G132,r_liti,r_add,wrap_id (show -9223372036854775808≤z+1 by omega) (show z+1≤9223372036854775807 by omega),r_quo _ _ _ _ (show (2:Int)≠0 by decide),half2 h,wrap_id (show -9223372036854775808≤(z+1) / 2 by omega) (show (z+1) / 2≤9223372036854775807 by omega),r_out]
def wholeZ (q:Int) (s:Strp):Bool:=inZ s.no 0 59&&(inZ s.sz 14 240&&(decide ((s.tx.length:Int)=(s.sz+1) / 2)&&(s.tx.all okB&&(decide (q≠1)||(decide (s.sz % 2=0)||s.tx.getLast?==some 32)))))
theorem last_at {s:List UInt8} {k:Nat} (h:s.length=k+1):∃ b,s[k]?=some b∧(s.getLast?==some 32)=decide (b=32):=by
 obtain ⟨b,hb⟩:∃ b,s[k]?=some b:=⟨s[k]'(by omega),by simp⟩
 refine ⟨b,hb,?_⟩
 rw [List.getLast?_eq_getElem?,h,Nat.add_sub_cancel,hb,Bool.eq_iff_iff]
 simp
theorem s76 (n:Nat) (q:Int) (s:Strp):FN (n+2) 76 [il q,il s.no,il s.sz,sD s.tx]=some (0,[.d (bl (wholeZ q s))]):=by
 rw [F76]
 obtain ⟨no,sz,tx⟩:=s
 simp only [G76,r_call,r_liti,r_litb,s70,r_bnd0,r_ld0,r_not,r_cond,r_out,r_lenSs,r_neq,r_rem _ _ _ _ (show (2:Int)≠0 by decide),r_eql,wholeZ]
 by_cases h1:inZ no 0 59=true
 ·by_cases h2:inZ sz 14 240=true
  ·have hz:=inZ_iff.1 h2
   simp only [h1,h2,Bool.not_true,Bool.false_eq_true,if_false,Bool.true_and,s132 _ sz (by omega) (by omega),r_bnd0,r_ld0,r_neq,r_cond]
   by_cases h3:(tx.length:Int)=(sz+1) / 2
   ·simp only [h3,ne_eq,not_true,decide_false,Bool.false_eq_true,if_false,decide_true,Bool.true_and,t129 _ tx (by omega),r_bnd0,r_ld0,r_not,r_cond]
    by_cases h4:tx.all okB=true
    ·simp only [h4,Bool.not_true,Bool.false_eq_true,if_false,Bool.true_and]
     by_cases h5:q=1
     ·simp only [h5,not_true,decide_false,Bool.false_eq_true,if_false,Bool.false_or]
      have hm:sz.tmod 2=sz % 2:=Int.tmod_eq_emod_of_nonneg (by omega)
      rw [hm]
      by_cases h6:sz % 2=0
      ·simp [h6]
      ·obtain ⟨k,hk⟩:∃ k,tx.length=k+1:=⟨tx.length - 1,by omega⟩
       obtain ⟨b,hb,hl⟩:=last_at hk
       have hw:IntKind.i64.wrap ((sz+1) / 2 - 1)=(k:Int):=by rw [wrap_id (by omega) (by omega)];omega
       simp only [h6,decide_false,Bool.false_eq_true,if_false,Bool.false_or,r_sub,hw,r_atSs hb,r_litU,r_eqlU32,r_out,hl]
     ·simp [h5]
    ·simp [h4]
   ·simp [h1,h2,h3]
  ·simp [h1,h2]
 ·simp [h1]
theorem s18 (n:Nat) (q:Int) (s:Strp):FN (n+3) 18 [il q,il s.no,il s.sz,sD s.tx]=some (0,[.d (il (if inZ q 0 2=true then (if wholeZ q s=true then 0 else 84) else 1))]):=by
 rw [F18]
 simp only [G18,r_call,r_liti,s75,s76,r_bnd0,r_ld0,r_not,r_cond,r_out]
 by_cases h1:inZ q 0 2=true
 ·by_cases h2:wholeZ q s=true<;>simp [h1,h2]
 ·simp [h1]
theorem s72 (n:Nat) (l:Rr) (h:l.length≤1000):FN (n+1) 72 [.sl 3 l]=some (0,[.r l]):=by
 rw [F72]
 simp only [G72,r_nilE1,r_rowsD,r_natN,r_rows,r_len,List.length_nil,r_eqN,if_true,r_addN,Nat.zero_add,r_fitsg,r_app,List.nil_append,r_leN,Nat.le_refl,r_seg0,r_out,List.take_length]
 rw [if_pos ⟨by omega,by omega⟩]
theorem loop4 (b:(Nat→List Yr→Out)→List Yr→Out) (ys:List Yr):loopR [b] M0 0 ys=b (loopR [b] (18446744073709551612+3) ) ys:=rfl
theorem loop3 (b:(Nat→List Yr→Out)→List Yr→Out) (n:Nat) (ys:List Yr):loopR [b] (n+3) 0 ys=b (loopR [b] (n+2)) ys:=rfl
theorem loop2 (b:(Nat→List Yr→Out)→List Yr→Out) (n:Nat) (ys:List Yr):loopR [b] (n+2) 0 ys=b (loopR [b] (n+1)) ys:=rfl
theorem l71 (n:Nat) (no sz:D) (t:List UInt8) (s0 s1 s2:D) (c0 c1 c2 c3 c4 c5 c6 c7 c8 d0 d1 d2 d3 d4 d5 d6 d7 d8:D) (hsz:∀ k:D→Out,(RP n).lenS (sD t) k=k sz):loopR [L71_0 (RP n)] M0 0 [.d no,.d (sD t),.d s0,.d s1,.d s2,.d (il 0),.d c0,.d c1,.d c2,.d c3,.d c4,.d c5,.d c6,.d c7,.d c8,.d d0,.d d1,.d d2,.d d3,.d d4,.d d5,.d d6,.d d7,.d d8] =
  some (0,[.d no,.d sz,.d s0,.d no,.d sz,.d s1,.d no,.d sz,.d s2,.d d0,.d d1,.d d2,.d d3,.d d4,.d d5,.d d6,.d d7,.d d8]):=by
 have e:∀ i:Nat,i < 3→∀ k:Nat→Out,(RP n).inx (il i) 3 k=k i:=fun i hi k=>by rw [r_inxg,if_pos (by omega),Int.toNat_natCast]
 have e0:∀ k:Nat→Out,(RP n).inx (il 0) 3 k=k 0:=e 0 (by decide)
 have e1:∀ k:Nat→Out,(RP n).inx (il 1) 3 k=k 1:=e 1 (by decide)
 have e2:∀ k:Nat→Out,(RP n).inx (il 2) 3 k=k 2:=e 2 (by decide)
 have w0:IntKind.i64.wrap (0+1)=1:=by decide
 have w1:IntKind.i64.wrap (1+1)=2:=by decide
 have w2:IntKind.i64.wrap (2+1)=3:=by decide
 rw [loop4]
 simp only [L71_0,r_ld0,r_lds,r_liti,r_lss,show ((0:Int) < 3) by decide,decide_true,r_cond,if_true,r_natN,e0,hsz,r_leN,r_addN,r_add,w0,r_updN,r_selN]
 rw [loop3]
 simp only [L71_0,r_ld0,r_lds,r_liti,r_lss,show ((1:Int) < 3) by decide,decide_true,r_cond,if_true,r_natN,e1,hsz,r_leN,r_addN,r_add,w1,r_updN,r_selN]
 rw [loop2]
 simp only [L71_0,r_ld0,r_lds,r_liti,r_lss,show ((2:Int) < 3) by decide,decide_true,r_cond,if_true,r_natN,e2,hsz,r_leN,r_addN,r_add,w2,r_updN,r_selN]
 rw [loopR1]
 simp only [L71_0,r_ld0,r_lds,r_liti,r_lss,show ¬ ((3:Int) < 3) by decide,decide_false,Bool.false_eq_true,r_cond,if_false,r_out]
 rfl
theorem txt_ne {r:Rec} (h:okR r=true):txt r≠[]:=by
 have:=(txt_len h).1
 intro e
 rw [e] at this
 simp at this
theorem txt_all {r:Rec} (h:okR r=true):(txt r).all okB=true:=by
 have hp:plainB r.tx=true:=by
  simp only [okR,Bool.and_eq_true] at h
  exact h.1.2
 exact txt_ok hp
def spZ (no:Int) (s:List UInt8) (q:Nat):Strp:=⟨no,s.length,third q s⟩
theorem s71 (n:Nat) (r:Rec) (no:Int) (h:okR r=true):FN (n+2) 71 (recR r++[il no])=some (0,spY (spZ no (txt r) 0)++spY (spZ no (txt r) 1)++spY (spZ no (txt r) 2)):=by
 have h1:=t103 n r h
 have h2:=t130 n (txt r) (txt_ne h) (by have:=(txt_len h).2;omega) (txt_all h)
 have hl:=fun k=>r_lenSs (Fn:=FN (n+1)) (FnD:=FnDof Tryz.prog (cf3 tb Tryz.prog) (FN (n+1))) (m:=M0) (txt r) k
 generalize txt r=t at h1 h2 hl ⊢
 obtain ⟨p,nn,kd,dy,kn,op,on,tx⟩:=r
 show FN (n+2) 71 [il p,il nn,il kd,il dy,il kn,il op,il on,sD tx,il no]=_
 simp only [recR] at h1
 rw [F71]
 simp only [G71,r_call,h1,h2,r_bnd0,r_ld0,r_lds,r_loop,r_liti,r_litSe]
 rw [l71 (hsz:=hl)]
 simp only [r_bnd0,r_ld0,r_lds,r_out]
 rfl
theorem s13 (n:Nat) (r:Rec) (no:Int):FN (n+6) 13 (recR r++[il no])=some (0,if okR r=true then (if inZ no 0 59=true then [.d (dP (some [spZ no (txt r) 0,spZ no (txt r) 1,spZ no (txt r) 2])),.d (il 0)] else [.d (.lit (.slice none 0 0)),.d (il 1)]) else [.d (.lit (.slice none 0 0)),.d (il 80)]):=by
 have h:=s69 (n+1) r
 by_cases h1:okR r=true
 ·rw [h1] at h
  have h2:=s70 (n+4) no 0 59
  by_cases h3:inZ no 0 59=true
  ·rw [h3] at h2
   rw [t13_2 (n+5) r no _ _ _ h h2 (s71 (n+3) r no h1) (s72 (n+4) _ (by simp)),if_pos h1,if_pos h3]
  ·rw [Bool.not_eq_true] at h3
   rw [h3] at h2
   rw [t13_1 (n+5) r no h h2,if_pos h1,if_neg (by simp [h3])]
 ·rw [Bool.not_eq_true] at h1
  rw [h1] at h
  rw [t13_0 (n+5) r no h,if_neg (by simp [h1])]
end Go.VE
namespace Go.VE
open Go.RowKit Go.Proofs
set_option maxRecDepth 100000
def prs (q o:Nat) (l:List (UInt8×UInt8)):List UInt8:=l.flatMap fun x=>pairOf q o x.1 x.2
theorem prs_mended (q o z:Nat) (a b:List UInt8):mended q o z a b=(prs q o (a.zip b)).take z:=by
 unfold mended prs
 rw [List.flatMap_def,List.zip,List.map_zipWith]
theorem pair_two (q o:Nat) (a b:UInt8):∃ x y,pairOf q o a b=[x,y]:=by
 unfold pairOf
 split
 ·split
  ·exact ⟨_,_,rfl⟩
  ·exact ⟨_,_,rfl⟩
 ·exact ⟨_,_,rfl⟩
theorem prs_len (q o:Nat):∀ l,(prs q o l).length=2*l.length
 | []=>rfl
 | x::l=>by
  obtain ⟨u,v,h⟩:=pair_two q o x.1 x.2
  have:=prs_len q o l
  unfold prs at this ⊢
  rw [List.flatMap_cons,h,List.length_append,this]
  simp only [List.length_cons,List.length_nil]
  omega
theorem set_at {α:Type} (l r:List α) (z v:α):(l++z::r).set l.length v=l++v::r:=by
 rw [List.set_append_right _ _ (Nat.le_refl _),Nat.sub_self,List.set_cons_zero]
def zU:List D:=[.lit (.int .u8 0)]
theorem un_byte {x:UInt8} (h:okB x=true):un (x.toNat - 32+32)=ub x:=by
 have:=okB_bnd h
 rw [show x.toNat - 32+32=x.toNat by omega]
 rfl
theorem un_sub {x y:UInt8} (hx:okB x=true) (hy:okB y=true):un ((y.toNat - 32+95 - (x.toNat - 32)) % 95+32)=ub (subB y x):=by
 have h1:=okB_bnd hx
 have h2:=okB_bnd hy
 rw [un_ub,subB_nat]
 congr 1
 rw [show y.toNat - 32+95 - (x.toNat - 32)=y.toNat+95 - x.toNat by omega]
 omega
section
variable {Fn:Nat→List D→Out} {FnD:D→List Sh→List D→Out} {m:Nat}
theorem r_sub32 {x:UInt8} (h:okB x=true) (f:Bool) (k:D→Out):(real Fn FnD m).bin .sub f (ub x) (.lit (.int .u8 32)) k=k (un (x.toNat - 32)):=r_subU (a:=x.toNat) (b:=32) (okB_bnd h).1 x.toNat_lt f k
theorem r_add95 {a:Nat} (h:a≤94) (f:Bool) (k:D→Out):(real Fn FnD m).bin .add f (un a) (.lit (.int .u8 95)) k=k (un (a+95)):=r_addU (a:=a) (b:=95) (by omega) f k
theorem r_rem95 (a:Nat) (f:Bool) (k:D→Out):(real Fn FnD m).bin .rem f (un a) (.lit (.int .u8 95)) k=k (un (a % 95)):=r_remU (a:=a) (b:=95) (by decide) f k
theorem r_add32 {a:Nat} (h:a≤94) (f:Bool) (k:D→Out):(real Fn FnD m).bin .add f (un a) (.lit (.int .u8 32)) k=k (un (a+32)):=r_addU (a:=a) (b:=32) (by omega) f k
end
def okP (q o:Nat):Prop:=(q=0∧o=1)∨(q=0∧o=2)∨(q=1∧o=2)
theorem l77 (n q o:Nat) (hqo:okP q o) (a1 a2 a5 a6:D) (A B:List UInt8) (hA:A.all okB=true) (hB:B.all okB=true) (hl:A.length=B.length) (hn:A.length≤1000) :
  loopR [L77_0 (RP n)] M0 0 [.d (il q),.d (il o),.d a1,.d a2,.d (sD A),.d a5,.d a6,.d (sD B),.n (2*A.length),.n (2*A.length),.d (il A.length),.d (il 0),.r (List.replicate (2*A.length) zU)] =
   some (0,[.d a1,.d a2,.d (sD A),.n (2*A.length),.n (2*A.length),.r ((prs q o (A.zip B)).map rU)]):=by
 have hz:(A.zip B).length=A.length:=by rw [List.length_zip];omega
 have:=range_loop (β:=List UInt8) (A.zip B) (by omega) (L77_0 (RP n)) (fun i acc=>[.d (il q),.d (il o),.d a1,.d a2,.d (sD A),.d a5,.d a6,.d (sD B),.n (2*A.length),.n (2*A.length),.d (il A.length),.d (il i),.r (acc.map rU++List.replicate (2*A.length - 2*i) zU)])
  (fun i acc=>acc.length=2*i)
  (fun _ r acc=>some (0,[.d a1,.d a2,.d (sD A),.n (2*A.length),.n (2*A.length),.r ((acc++prs q o r).map rU)])) ?_ ?_ M0 [] rfl (M0_big (by omega))
 ·simpa using this
 ·intro acc k hacc
  rw [hz] at hacc ⊢
  simp only [L77_0,r_ld0,r_lds,r_lss,Int.lt_irrefl,decide_false,r_cond,Bool.false_eq_true,if_false,r_out,r_ln0,r_lns,r_lr0,r_lrs,Nat.sub_self,List.replicate_zero,List.append_nil,prs,List.flatMap_nil]
 ·intro i x r acc k hi hd hlt hw hacc ih
  obtain ⟨a,b⟩:=x
  rw [hz] at hlt
  obtain ⟨ha,hb⟩:=List.getElem?_zip_eq_some.1 hi
  have oa:okB a=true:=List.all_eq_true.1 hA a (List.mem_of_getElem? ha)
  have ob:okB b=true:=List.all_eq_true.1 hB b (List.mem_of_getElem? hb)
  have na:=okB_bnd oa
  have nb:=okB_bnd ob
  have hlt':(i:Int) < (A.length:Int):=by omega
  have wm:IntKind.i64.wrap (2*(i:Int))=((2*i:Nat):Int):=by rw [wrap_id (by omega) (by omega)];omega
  have wp:IntKind.i64.wrap (((2*i:Nat):Int)+1)=((2*i+1:Nat):Int):=by rw [wrap_id (by omega) (by omega)];omega
  have i1:(0:Int)≤((2*i:Nat):Int)∧((2*i:Nat):Int) < ((2*A.length:Nat):Int):=by omega
  have i2:(0:Int)≤((2*i+1:Nat):Int)∧((2*i+1:Nat):Int) < ((2*A.length:Nat):Int):=by omega
  obtain ⟨rest,hr⟩:∃ rest,2*A.length - 2*i=rest+2:=⟨2*A.length - 2*i - 2,by omega⟩
  have hl0:(acc.map rU++List.replicate (rest+2) zU).length=2*A.length:=by simp only [List.length_append,List.length_map,List.length_replicate,hacc];omega
  have g1:(acc.map rU++List.replicate (rest+2) zU)[2*i]?=some zU:=by
   rw [List.getElem?_append_right (by simp [hacc]),List.length_map,hacc,Nat.sub_self];rfl
  have st1:∀ u:List D,(acc.map rU++List.replicate (rest+2) zU).set (2*i) u=acc.map rU++u::zU::List.replicate rest zU:=fun u=>by
   have:=set_at (acc.map rU) (zU::List.replicate rest zU) zU u
   rw [List.length_map,hacc] at this
   exact this
  have hl1:∀ u:List D,(acc.map rU++u::zU::List.replicate rest zU).length=2*A.length:=fun u=>by simp only [List.length_append,List.length_map,List.length_cons,List.length_replicate,hacc];omega
  have g2:∀ u:List D,(acc.map rU++u::zU::List.replicate rest zU)[2*i+1]?=some zU:=fun u=>by
   rw [List.getElem?_append_right (by simp [hacc]),List.length_map,hacc,show 2*i+1 - 2*i=1 by omega];rfl
  have st2:∀ u v:List D,(acc.map rU++u::zU::List.replicate rest zU).set (2*i+1) v=acc.map rU++u::v::List.replicate rest zU:=fun u v=>by
   have:=set_at (acc.map rU++[u]) (List.replicate rest zU) zU v
   rw [List.length_append,List.length_map,hacc,List.length_singleton,List.append_assoc] at this
   rw [List.append_assoc] at this
   exact this
  have hz1:zU.length=1:=rfl
  have fin:∀ x y:UInt8,pairOf q o a b=[x,y]→k 0 [.d (il q),.d (il o),.d a1,.d a2,.d (sD A),.d a5,.d a6,.d (sD B),.n (2*A.length),.n (2*A.length),.d (il A.length),.d (il ((i:Int)+1)),.r (acc.map rU++[ub x]::[ub y]::List.replicate rest zU)] =
    some (0,[.d a1,.d a2,.d (sD A),.n (2*A.length),.n (2*A.length),.r ((acc++prs q o ((a,b)::r)).map rU)]):=fun x y hxy=>by
   have h:=ih (acc++[x,y]) (by simp [hacc];omega)
   rw [cast1,show 2*A.length - 2*(i+1)=rest by omega,List.map_append,List.append_assoc] at h
   have e:acc++prs q o ((a,b)::r)=acc++[x,y]++prs q o r:=by
    rw [List.append_assoc];unfold prs;rw [List.flatMap_cons,hxy]
   rw [e]
   exact h
  rw [hr]
  have u1:=un_byte oa
  have u2:=un_byte ob
  have u3:=un_sub oa ob
  have m1:(b.toNat - 32+95 - (a.toNat - 32)) % 95≤94:=by omega
  have d1:b.toNat - 32≤94:=by omega
  have d2:a.toNat - 32≤94:=by omega
  rcases hqo with ⟨rfl,rfl⟩ | ⟨rfl,rfl⟩ | ⟨rfl,rfl⟩
  ·have f:=fin a b rfl
   simp only [L77_0,r_ld0,r_lds,r_ln0,r_lns,r_lr0,r_lrs,r_lss,hlt',decide_true,r_cond,if_true,r_atSs ha,r_atSs hb,r_litU,r_sub32 oa,r_sub32 ob,r_liti,r_litb,r_eql,r_bnd0,r_out,show ¬ (((1:Nat):Int)=2) by decide,show ((0:Nat):Int)=0 by rfl,show ¬ ((0:Int)=1) by decide,decide_false,Bool.false_eq_true,if_false,r_mul,wm,r_add,wp,r_add32 d1,r_add32 d2,r_len,hl0,r_eqN,r_inxg,if_pos i1,if_pos i2,Int.toNat_natCast,r_rowAtg,g1,hz1,r_setR,st1,hl1,g2,st2,hw,u1,u2]
   exact f
  ·have f:=fin a (subB b a) rfl
   simp only [L77_0,r_ld0,r_lds,r_ln0,r_lns,r_lr0,r_lrs,r_lss,hlt',decide_true,r_cond,if_true,r_atSs ha,r_atSs hb,r_litU,r_sub32 oa,r_sub32 ob,r_liti,r_litb,r_eql,r_bnd0,r_out,show (((2:Nat):Int)=2) by decide,show ((0:Nat):Int)=0 by rfl,r_add95 d1,r_subU (show a.toNat - 32≤b.toNat - 32+95 by omega) (show b.toNat - 32+95 < 256 by omega),r_rem95,r_mul,wm,r_add,wp,r_add32 d2,r_add32 m1,r_len,hl0,r_eqN,r_inxg,if_pos i1,if_pos i2,Int.toNat_natCast,r_rowAtg,g1,hz1,r_setR,st1,hl1,g2,st2,hw,u1,u3]
   exact f
  ·have f:=fin (subB b a) a rfl
   simp only [L77_0,r_ld0,r_lds,r_ln0,r_lns,r_lr0,r_lrs,r_lss,hlt',decide_true,r_cond,if_true,r_atSs ha,r_atSs hb,r_litU,r_sub32 oa,r_sub32 ob,r_liti,r_litb,r_eql,r_bnd0,r_out,show ((1:Nat):Int)=1 by rfl,show ¬ ((1:Int)=0) by decide,decide_false,Bool.false_eq_true,if_false,r_add95 d1,r_subU (show a.toNat - 32≤b.toNat - 32+95 by omega) (show b.toNat - 32+95 < 256 by omega),r_rem95,r_mul,wm,r_add,wp,r_add32 d2,r_add32 m1,r_len,hl0,r_eqN,r_inxg,if_pos i1,if_pos i2,Int.toNat_natCast,r_rowAtg,g1,hz1,r_setR,st1,hl1,g2,st2,hw,u1,u3]
   exact f
end Go.VE
namespace Go.VE
open Go.RowKit Go.Proofs
set_option maxRecDepth 100000
theorem rowInts_of:∀ l:List UInt8,rowInts (l.map rU)=some (l.map fun b=>(b.toNat:Int))
 | []=>rfl
 | b::l=>by
  show (rowInts (l.map rU)).map _=_
  rw [rowInts_of l]
  rfl
theorem strOfI_go:∀ (l:List UInt8) (acc:ByteArray),(l.map fun b=>(b.toNat:Int)).foldl (fun r n=>r.push (UInt8.ofNat n.toNat)) acc=⟨(acc.data.toList++l).toArray⟩
 | [],acc=>by cases acc;simp
 | b::l,acc=>by
  rw [List.map_cons,List.foldl_cons,strOfI_go l]
  simp
theorem strOfI_of (l:List UInt8):strOfI (l.map fun b=>(b.toNat:Int))=⟨l.toArray⟩:=by
 unfold strOfI
 rw [strOfI_go]
 simp
section
variable {Fn:Nat→List D→Out} {FnD:D→List Sh→List D→Out} {m:Nat}
theorem r_strBs (l:List UInt8) (k:D→Out):(real Fn FnD m).strB (l.map rU) k=k (sD l):=by
 simp only [real,rowInts_of,strOfI_of];rfl
theorem r_cutH (z:Int) (n:Nat) (k:Nat→Nat→Out) (e:Out) (h:0≤z∧z≤n):(real Fn FnD m).cut none (some (il z)) n k e=k 0 z.toNat:=by
 simp only [real,oIntD,il,intD,Option.map_some,Option.getD_none,Option.getD_some]
 rw [if_pos ⟨Int.le_refl 0,h⟩,if_pos (.inl trivial)]
 simp
end
theorem s77 (n q o:Nat) (hqo:okP q o) (no no' z':D) (z:Int) (A B:List UInt8) (hA:A.all okB=true) (hB:B.all okB=true) (hz:0≤z∧z≤1000) (h1:(A.length:Int)=(z+1) / 2) (h2:A.length=B.length) :
  FN (n+2) 77 [il q,no,il z,sD A,il o,no',z',sD B]=some (0,[.d (sD (mended q o z.toNat A B))]):=by
 rw [F77]
 have hw:IntKind.i64.wrap (2*(A.length:Int))=((2*A.length:Nat):Int):=by rw [wrap_id (by omega) (by omega)];omega
 have hm:(0:Int)≤((2*A.length:Nat):Int)∧((1:Nat):Int)*((2*A.length:Nat):Int)≤140737488355328∧((2*A.length:Nat):Int)≤9223372036854775807:=by omega
 have hl:=l77 (n+1) q o hqo no (il z) no' z' A B hA hB h2 (by omega)
 have e:(.lit (.int .u8 0):D)::[]=zU:=rfl
 have hp:(prs q o (A.zip B)).length=2*A.length:=by rw [prs_len,List.length_zip];omega
 have hpl:((prs q o (A.zip B)).map rU).length=2*A.length:=by rw [List.length_map,hp]
 simp only [G77,r_call,s132 _ z hz.1 (by omega),r_bnd0,r_ld0,r_lds,r_liti,r_mul,hw,r_mkNg,if_pos hm,Int.toNat_natCast,r_litU,e,r_repl,r_loop,← h1,hl,r_ln0,r_lns,r_lr0,r_lrs,r_len,hpl,r_eqN,if_true,r_cutH _ _ _ _ (show 0≤z∧z≤((2*A.length:Nat):Int) by omega),r_seg0,← List.map_take,r_strBs,r_out,prs_mended]
def mendZ (q:Int) (s:Strp) (o:Int) (t:Strp):List UInt8×Int :=
 if (inZ q 0 2&&(inZ o 0 2&&decide (q≠o)))=true then
  (if (wholeZ q s&&(wholeZ o t&&(decide (s.no=t.no)&&decide (s.sz=t.sz))))=true then
   (if o < q then mended o.toNat q.toNat s.sz.toNat t.tx s.tx else mended q.toNat o.toNat s.sz.toNat s.tx t.tx,0) else ([],84)) else ([],1)
theorem wholeZ_iff {q:Int} {s:Strp} (h:wholeZ q s=true):(0≤s.no∧s.no≤59)∧(14≤s.sz∧s.sz≤240)∧(s.tx.length:Int)=(s.sz+1) / 2∧s.tx.all okB=true:=by
 simp only [wholeZ,Bool.and_eq_true,decide_eq_true_eq] at h
 exact ⟨inZ_iff.1 h.1,inZ_iff.1 h.2.1,h.2.2.1,h.2.2.2.1⟩
theorem okP_of {q o:Int} (h1:inZ q 0 2=true) (h2:inZ o 0 2=true) (h:q < o):okP q.toNat o.toNat:=by
 have:=inZ_iff.1 h1
 have:=inZ_iff.1 h2
 unfold okP
 omega
theorem toN {q:Int} (h:inZ q 0 2=true):(q.toNat:Int)=q:=Int.toNat_of_nonneg (inZ_iff.1 h).1
theorem s15 (n:Nat) (q:Int) (s:Strp) (o:Int) (t:Strp):FN (n+3) 15 [il q,il s.no,il s.sz,sD s.tx,il o,il t.no,il t.sz,sD t.tx]=some (0,[.d (sD (mendZ q s o t).1),.d (il (mendZ q s o t).2)]):=by
 rw [F15]
 simp only [G15,r_call,r_liti,s75,s76,r_bnd0,r_ld0,r_lds,r_not,r_cond,r_out,r_eql,r_neq,r_gtr,r_litSe,mendZ]
 by_cases h1:inZ q 0 2=true
 ·by_cases h2:inZ o 0 2=true
  ·by_cases h3:q=o
   ·simp [h1,h2,h3]
   ·by_cases h4:wholeZ q s=true
    ·by_cases h5:wholeZ o t=true
     ·by_cases h6:s.no=t.no
      ·by_cases h7:s.sz=t.sz
       ·obtain ⟨_,hz,hl,ha⟩:=wholeZ_iff h4
        obtain ⟨_,_,hl',ha'⟩:=wholeZ_iff h5
        rw [h7] at hl hz
        by_cases h8:o < q
        ·have c:=s77 n o.toNat q.toNat (okP_of h2 h1 h8) (il t.no) (il s.no) (il s.sz) t.sz t.tx s.tx ha' ha (by omega) hl' (by omega)
         rw [toN h1,toN h2] at c
         simp only [h1,h2,h3,h4,h5,h6,h7,h8,ne_eq,not_true,not_false_eq_true,decide_true,decide_false,Bool.not_true,Bool.false_eq_true,if_false,if_true,Bool.and_self,r_bnd0,r_ld0,r_lds]
         rw [h6,h7] at c
         rw [c]
         simp only [r_bnd0,r_ld0]
        ·have h9:q < o:=by omega
         have c:=s77 n q.toNat o.toNat (okP_of h1 h2 h9) (il s.no) (il t.no) (il t.sz) t.sz s.tx t.tx ha ha' (by omega) hl (by omega)
         rw [toN h1,toN h2] at c
         simp only [h1,h2,h3,h4,h5,h6,h7,h8,ne_eq,not_true,not_false_eq_true,decide_true,decide_false,Bool.not_true,Bool.false_eq_true,if_false,if_true,Bool.and_self,r_bnd0,r_ld0,r_lds]
         rw [h6] at c
         rw [c]
         simp only [r_bnd0,r_ld0]
       ·simp [h1,h2,h3,h4,h5,h6,h7]
      ·simp [h1,h2,h3,h4,h5,h6]
     ·simp [h1,h2,h3,h4,h5]
    ·simp [h1,h2,h3,h4]
  ·simp [h1,h2]
 ·simp [h1]
end Go.VE
