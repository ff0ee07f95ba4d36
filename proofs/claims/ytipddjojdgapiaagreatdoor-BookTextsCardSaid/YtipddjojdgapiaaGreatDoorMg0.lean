/- The functions. -/
import Derived.Test.YtipddjojdgapiaaGreatDoorMf0
import Derived.Test.YtipddjojdgapiaaGreatDoorMh
import Derived.Lib.LaidU8
import Derived.Shelf.Vars
import Derived.MakeChecks
import Derived.Test.YtipddjojdgapiaaGreatDoorMt
import Derived.Test.YtipddjojdgapiaaGreatDoorCards
import Derived.Test.YtipddjojdgapiaaGreatDoorTie
import Derived.SevenTiedAt
import Derived.ProofKit
import Derived.LaidMore
import Derived.Stop.Joined
import Derived.LaidHandle
import Derived.Lay
import Derived.KernelRfl
import Derived.Lib.SplitLaws
namespace Go.VE
open Go.RowKit Go.WideShapes Go.ChangeShapes
set_option maxRecDepth 100000
theorem lawInY {H:Type} {enc:TypeId×Value→H} {X:World→Array Value→Prop} (hX:∀ (w w':World) (args:Array Value),w.heap=w'.heap→X w args→X w' args) {C:Checked} {os:Os} {f:FuncId} {fn:Func} {s:ChangeSpec} {tb:TypeId} {n:Nat}
  (own:ownKnob C.prog.godebug=none) (started:os.Started) (noInit:C.prog.inits.idxOf? f=none) (hfn:C.prog.funcs[f]?=some fn)
  (witness:∃ (w:World) (tape:Tape) (i:Input),w.os=os∧(w.forCall tape i).Shaped C.prog∧i.vars=[]∧Input.okWide C.prog (w.forCall tape i) .any w.heap.size f i ∧
   ((s.pre enc C.prog fn [] false (w.forCall tape i).memory i.args∧X (w.forCall tape i).memory i.args)∧sizedMet enc C.prog fn (OpenSpec.ofChange s) false (w.forCall tape i).memory i.args)∧({}:Assume).holds C.prog (lone (Frame.enter C.prog f i.args .normal) [] (w.forCall tape i)))
  (hl:laidOutB C.prog=true) (hts:(fn.params.toList.all fun t=>okT C.prog n t&&C.prog.readableRec t&&decide (t < C.prog.types.size))=true)
  (hres:fn.resultTypes=#[tb]) (htb:C.prog.underlying tb=some .bool) (hv:s.vars=[])
  (hs:∀ ds:List (DataW H),ds.length=fn.params.toList.length→s.fn H ds={ results:=[.lit (.bool true)],args:=ds })
  (hsc:∀ (W:World) (args:Array Value) (vds:List VD),W.ShapedOpen C.prog→X W args→VTs C.prog n fn.params.toList vds→VDF W (· < W.heap.size) vds args.toList→Calls C.prog f args W fun e W'=>e=.returned (.bool true)∧Below W.heap.size W W') :
  ReturnsInHanded {} C os f .any (fun w args=>(s.pre enc C.prog fn [] false w args∧X w args)∧sizedMet enc C.prog fn (OpenSpec.ofChange s) false w args) (s.post enc C.prog fn false true false false):=by
 refine returnsInHanded_of_calls own started noInit witness ?_
 intro w tape i _ hsh _ hok hpre _
 obtain ⟨_,_,_,fn',hfn',_,_,_,_,hval⟩:=hok
 have e:fn'=fn:=Option.some.inj (hfn'.symm.trans hfn)
 subst e
 obtain ⟨⟨⟨ds,gs,before,hw,hc⟩,hx⟩,hz⟩:=hpre
 have hW:=DataW.Whole.of_heap (w':=w.forCall tape i) (by rfl) hw
 have hwt:(DataW.weightsEach C.prog (fn'.params.toList++s.plain.varTypes C.prog) (ds++gs)).all (·≤reachBytes)=true:=hz.weights hw
 have hx':=hX _ (w.forCall tape i) _ (by rfl) hx
 revert hsh hval hx' hW
 generalize w.forCall tape i=W
 intro hsh hval hW hx'
 have hW':=hW
 obtain ⟨p,q,hA,hV,hbf,hfz,hnd⟩:=hW
 rw [hv] at hV
 obtain ⟨rfl,rfl⟩:=trodVars_none hV
 have hvt:s.plain.varTypes C.prog=[]:=by simp [ChangeSpec.plain,hv,DataSpec.varTypes]
 rw [hvt,List.append_nil,List.append_nil] at hwt
 simp only [List.all_eq_true,decide_eq_true_eq,Bool.and_eq_true] at hwt hts
 obtain ⟨hlen,vds,h1,h2⟩:=rdVs (n:=n) (fun t ht=>(hts t ht).1.1) (fun j t v hj hv=>hval j t v (by simpa using hj) (by simpa using hv)) hA hwt
 refine (hsc W i.args vds hsh hx' h2 h1).mono ?_
 rintro e W' ⟨rfl,hbelow⟩
 refine ChangeSpec.post_blind ?_
 have hsf:=hs ds hlen
 refine ⟨ds,[],before,[],p,[],hW',?_,?_,?_,hbelow.frame _,fun h=>by cases h⟩
 ·rw [List.append_nil,hsf,hres]
  exact trodAll_cons_mk (shut_bool htb true) trodAll_mk0
 ·rw [List.append_nil,hsf]
  exact belowAll hl hbelow (fun t ht=>⟨(hts t ht).1.2,(hts t ht).2⟩) hA (fun x hx=>hW'.lt x (by rw [hbf];simp [hx]))
 ·rw [List.append_nil,hsf,hv];rfl
end Go.VE
namespace Go.Proofs.YtipddjojdgapiaaGreatDoor
open Go.VE Go.RowKit Go.ChangeShapes Go.WideShapes
set_option maxRecDepth 100000
theorem own:ownKnob Tryz.prog.godebug=none:=by kernel_rfl
theorem laidOut:laidOutB Tryz.prog=true:=by kernel_rfl
abbrev laid5:List (String×DataW Unit):=[("math/bits.deBruijn32tab",Rows.laid_math_bits_deBruijn32tab),("math/bits.deBruijn64tab",Rows.laid_math_bits_deBruijn64tab),("internal/strconv.uint64pow10",Rows.laid_internal_strconv_uint64pow10),("strconv.ErrRange",Rows.laid_strconv_ErrRange),("strconv.ErrSyntax",Rows.laid_strconv_ErrSyntax)]
theorem door_met (os:Os) (args:Array Value):laidMetH Tryz.prog laid5 ((World.laidAll Tryz.prog os laid5).forCall (fun _ _=>0) ⟨#[],args,[]⟩).memory:=by
 rw [MakeChecks.laidMetH_plain _ _ _ (by kernel_rfl)]
 exact laidMet_laidAll _ (by kernel_rfl) (by kernel_rfl)
theorem iface_cell {W:World} {n nm:String} {d:DataW Unit} {g:Nat} {t:TypeId} {ms:Array (String×TypeId)} (hg:Tryz.prog.globalNamed n=some g) (ht:(Tryz.prog.globals[g]?).map (·.type)=some t) (hi:Tryz.prog.underlying t=some (.interface ms)) (h:Lib.VarReads Tryz.prog W n (.iface nm d)) :
  ∃ ev,W.cell? ⟨g,0,none⟩=some ev∧(ev=.nilIface∨∃ te pe,ev=.iface te pe):=by
 obtain ⟨g',t',cs,fuel,p,h1,h2,h3,h4⟩:=h
 obtain rfl:=Option.some.inj (hg.symm.trans h1)
 obtain rfl:=Option.some.inj (ht.symm.trans h2)
 obtain ⟨_,u,v,hcs,_⟩:=iface_of_trod hi h4
 refine ⟨.iface u v,?_,.inr ⟨u,v,rfl⟩⟩
 rw [World.var?_cell hg h3 0]
 obtain ⟨l⟩:=cs
 simp only at hcs
 subst hcs
 rfl
theorem laid_of {W:World} (hsh:W.ShapedOpen Tryz.prog) (hX:laidMetH Tryz.prog laid5 W):Laid W:=by
 rw [MakeChecks.laidMetH_plain _ _ _ (by kernel_rfl)] at hX
 refine ⟨Go.Proofs.cell_of_shapedOpen_int (t:=3) (zero:=#[.int .i64 0]) hsh (of_decide_eq_true (by kernel_rfl)) (by kernel_rfl) rfl (by kernel_rfl) (by kernel_rfl) Tryz.underlying3,?_,?_,?_⟩
 ·exact iface_cell (by kernel_rfl) (by kernel_rfl) Tryz.underlying207 (Lib.laidMet.reads hX (n := "strconv.ErrSyntax") (d:=Rows.laid_strconv_ErrSyntax) (by simp [laid5]))
 ·exact iface_cell (by kernel_rfl) (by kernel_rfl) Tryz.underlying207 (Lib.laidMet.reads hX (n := "strconv.ErrRange") (d:=Rows.laid_strconv_ErrRange) (by simp [laid5]))
 ·obtain ⟨g,t,cs,fuel,p,h1,h2,h3,h4⟩:=Lib.laidMet.reads hX (n := "internal/strconv.uint64pow10") (d:=Rows.laid_internal_strconv_uint64pow10) (by simp [laid5])
  obtain rfl:=Option.some.inj ((show Tryz.prog.globalNamed "internal/strconv.uint64pow10" = some 3 by kernel_rfl).symm.trans h1)
  obtain rfl:=Option.some.inj ((show (Tryz.prog.globals[3]?).map (·.type)=some 263 by kernel_rfl).symm.trans h2)
  have e:(Rows.laid_internal_strconv_uint64pow10:DataW Unit)=Lib.tabData .u64 Lib.pow10Tab:=by kernel_rfl
  rw [e] at h4
  have hc:=Lib.cells_of_tab Tryz.underlying263 Tryz.underlying239 (by kernel_rfl) (by kernel_rfl) h4
  have h5:blkCells W 3=some cs:=by
   unfold World.var? at h3
   rw [show Tryz.prog.globalNamed "internal/strconv.uint64pow10" = some 3 by kernel_rfl] at h3
   exact h3
  rw [h5,← hc]
theorem size_of {W:World} (hX:laidMetH Tryz.prog laid5 W):nX≤W.heap.size:=by
 rw [MakeChecks.laidMetH_plain _ _ _ (by kernel_rfl)] at hX
 obtain ⟨g,t,cs,fuel,p,h1,h2,h3,h4⟩:=Lib.laidMet.reads hX (n := "math/bits.deBruijn64tab") (d:=Rows.laid_math_bits_deBruijn64tab) (by simp [laid5])
 unfold World.var? at h3
 rw [show Tryz.prog.globalNamed "math/bits.deBruijn64tab" = some 5 by kernel_rfl] at h3
 rcases Nat.lt_or_ge 5 W.heap.size with h | h
 ·exact h
 ·have e:W.heap[5]?=none:=Array.getElem?_eq_none h
  simp only [Option.bind_some,e] at h3
  cases h3
theorem calls_of {f:Nat} {vds:List VD} (hsc:SC Tryz.prog f vds (.one (.d (bl true)))) {W:World} {args:Array Value} (hsh:W.ShapedOpen Tryz.prog) (hX:laidMetH Tryz.prog laid5 W) (hv:VDF W (· < W.heap.size) vds args.toList) :
  Calls Tryz.prog f args W fun e W'=>e=.returned (.bool true)∧Below W.heap.size W W':=by
 refine (hsc.2 W (· < W.heap.size) args (fun b hb=>hb) ⟨fun b hb=>?_,laid_of hsh hX⟩ hv).mono ?_
 ·exact Nat.lt_of_lt_of_le hb (size_of hX)
 ·rintro e W' ⟨v,U',bs,rfl,hbelow,_,_,_,_,hr⟩
  refine ⟨?_,hbelow⟩
  simp only [RvR,RcR] at hr
  obtain ⟨_,hd⟩:=hr
  simp only [DR,bl] at hd
  obtain ⟨rfl,_⟩:=hd
  rfl
end Go.Proofs.YtipddjojdgapiaaGreatDoor
namespace Go.VE
open Go.RowKit Go.Proofs
set_option maxRecDepth 100000
theorem cast1 (i:Nat):((i+1:Nat):Int)=(i:Int)+1:=by omega
abbrev ub (b:UInt8):D:=.lit (.int .u8 b.toNat)
def rU (b:UInt8):List D:=[ub b]
section
variable {Fn:Nat→List D→Out} {FnD:D→List Sh→List D→Out} {m:Nat}
theorem r_litS (s:ByteArray):(real Fn FnD m).lit (.string s)=.lit (.string s):=rfl
theorem r_litSe:(real Fn FnD m).lit (.string ByteArray.empty)=sD []:=rfl
theorem r_litU (n:Int):(real Fn FnD m).lit (.int .u8 n)=.lit (.int .u8 n):=rfl
theorem hk_size (l:List UInt8):(⟨l.toArray⟩:ByteArray).size=l.length:=by simp [ByteArray.size]
theorem hk_list (s:ByteArray):s=⟨s.data.toList.toArray⟩:=by cases s;simp
theorem bs_toList (l:List UInt8):(⟨l.toArray⟩:ByteArray).toList=l:=by
 exact ByteArray.toList_mk l
theorem r_lenSs (l:List UInt8) (k:D→Out):(real Fn FnD m).lenS (sD l) k=k (il l.length):=by simp [real,il,sD,hk_size]
theorem bs_get (l:List UInt8) (i:Nat):(⟨l.toArray⟩:ByteArray)[i]?=l[i]?:=by
 by_cases h:i < l.length
 ·rw [getElem?_pos (⟨l.toArray⟩:ByteArray) i (by rw [hk_size];exact h),getElem?_pos l i h];rfl
 ·rw [getElem?_neg (⟨l.toArray⟩:ByteArray) i (by rw [hk_size];exact h),getElem?_neg l i h]
theorem r_atSs {l:List UInt8} {i:Nat} {b:UInt8} (h:l[i]?=some b) (k:D→Out):(real Fn FnD m).atS (sD l) (il i) k=k (ub b):=by
 simp [real,il,sD,intD,strAt,bs_get,h]
theorem bs_cut (l:List UInt8) (a b:Nat):(⟨l.toArray⟩:ByteArray).extract a b=⟨((l.drop a).take (b - a)).toArray⟩:=by
 rw [hk_list (ByteArray.extract _ _ _),Lib.extract_data]
theorem r_cutSh {l:List UInt8} {b:Nat} (h2:b≤l.length) (k:D→Out):(real Fn FnD m).cutS (sD l) none (some (il b)) k=k (sD (l.take b)):=by
 simp [real,il,sD,oIntD,intD,strCut,hk_size,bs_cut,h2]
theorem r_cutSe {l:List UInt8} {a:Nat} (h1:a≤l.length) (k:D→Out):(real Fn FnD m).cutS (sD l) (some (il a)) none k=k (sD (l.drop a)):=by
 have:(l.drop a).take (l.length - a)=l.drop a:=List.take_of_length_le (by simp)
 simp [real,il,sD,oIntD,intD,strCut,hk_size,bs_cut,h1,this]
theorem r_addSs {a b:List UInt8} (h:a.length+b.length≤9223372036854775807) (f:Bool) (k:D→Out):(real Fn FnD m).bin .add f (sD a) (sD b) k=k (sD (a++b)):=by
 have e:(⟨a.toArray⟩:ByteArray)++⟨b.toArray⟩=⟨(a++b).toArray⟩:=by
  rw [hk_list (_++_)]
  simp
 have h':¬ ((((⟨a.toArray⟩:ByteArray).size+(⟨b.toArray⟩:ByteArray).size:Nat):Int) > IntKind.i64.max):=by
  rw [hk_size,hk_size]
  have:IntKind.i64.max=9223372036854775807:=by decide
  omega
 simp only [real,binD,sD,aStr,if_neg h',Option.map_some,e,optO]
theorem r_eqlSs (a b:List UInt8) (f:Bool) (k:D→Out):(real Fn FnD m).bin .eql f (sD a) (sD b) k=k (bl (decide (a=b))):=by
 have:(a==b)=decide (a=b):=by rw [Bool.eq_iff_iff];simp
 simp only [real,binD,sD,aStr,Option.map_some,optO,bs_toList,bl,this]
theorem r_neqSs (a b:List UInt8) (f:Bool) (k:D→Out):(real Fn FnD m).bin .neq f (sD a) (sD b) k=k (bl (!decide (a=b))):=by
 have:(a==b)=decide (a=b):=by rw [Bool.eq_iff_iff];simp
 simp only [real,binD,sD,aStr,Option.map_some,optO,bs_toList,bl,this]
theorem r_lssU (b c:UInt8) (f:Bool) (k:D→Out):(real Fn FnD m).bin .lss f (ub b) (ub c) k=k (bl (decide (b.toNat < c.toNat))):=by
 have:decide ((b.toNat:Int) < (c.toNat:Int))=decide (b.toNat < c.toNat):=by rw [decide_eq_decide];omega
 simp only [real,binD,aBin,optO,bl,Option.map_some]
 simp [this]
theorem r_gtrU (b c:UInt8) (f:Bool) (k:D→Out):(real Fn FnD m).bin .gtr f (ub b) (ub c) k=k (bl (decide (c.toNat < b.toNat))):=by
 have:decide ((c.toNat:Int) < (b.toNat:Int))=decide (c.toNat < b.toNat):=by rw [decide_eq_decide];omega
 simp only [real,binD,aBin,optO,bl,Option.map_some]
 simp [this]
theorem r_eqlU (b c:UInt8) (f:Bool) (k:D→Out):(real Fn FnD m).bin .eql f (ub b) (ub c) k=k (bl (decide (b=c))):=by
 have:((b.toNat:Int)==(c.toNat:Int))=decide (b=c):=by
  rw [Bool.eq_iff_iff]
  simp only [beq_iff_eq,decide_eq_true_eq]
  rw [←UInt8.toNat_inj];omega
 simp only [real,binD,aBin,optO,bl,Option.map_some]
 simp [this]
theorem wrap8 {n:Nat} (h:n < 256):IntKind.u8.wrap (n:Int)=n:=by
 simp only [IntKind.wrap,IntKind.signed,IntKind.bits]
 simp
 omega
def un (n:Nat):D:=.lit (.int .u8 n)
theorem un_ub (b:UInt8):ub b=un b.toNat:=rfl
theorem r_subU {a b:Nat} (h:b≤a) (h2:a < 256) (f:Bool) (k:D→Out):(real Fn FnD m).bin .sub f (un a) (un b) k=k (un (a - b)):=by
 have:IntKind.u8.wrap ((a:Int) - (b:Int))=((a - b:Nat):Int):=by
  rw [←wrap8 (n:=a - b) (by omega)];congr 1;omega
 simp only [real,un,binD,aBin,optO,Option.map_some]
 simp [this]
end
theorem litEq_i (a b:Int):litEq 1 (.int .i64 a) (.int .i64 b)=some (decide (a=b)):=by
 have:(a==b)=decide (a=b):=by rw [Bool.eq_iff_iff];simp
 simp only [litEq,if_true,this]
theorem litEq_s (a b:List UInt8):litEq 2 (.string ⟨a.toArray⟩) (.string ⟨b.toArray⟩)=some (decide (a=b)):=by
 have:(a==b)=decide (a=b):=by rw [Bool.eq_iff_iff];simp
 simp only [litEq,bs_toList,this]
theorem eq_recK (a b:Rec):cellsEq [1,1,1,1,1,1,1,2] ((recR a).map .d) ((recR b).map .d)=some (decide (a=b)):=by
 obtain ⟨a1,a2,a3,a4,a5,a6,a7,a8⟩:=a
 obtain ⟨b1,b2,b3,b4,b5,b6,b7,b8⟩:=b
 have e:∀ (x y z u v w s:Int) (t:List UInt8),(recR ⟨x,y,z,u,v,w,s,t⟩).map L.d=[.d (.lit (.int .i64 x)),.d (.lit (.int .i64 y)),.d (.lit (.int .i64 z)),.d (.lit (.int .i64 u)),.d (.lit (.int .i64 v)),.d (.lit (.int .i64 w)),.d (.lit (.int .i64 s)),.d (.lit (.string ⟨t.toArray⟩))]:=fun _ _ _ _ _ _ _ _=>rfl
 rw [e,e]
 simp only [cellsEq,litEq_i,litEq_s,Option.some.injEq]
 rw [Bool.eq_iff_iff]
 simp [and_assoc]
section
variable {Fn:Nat→List D→Out} {FnD:D→List Sh→List D→Out} {m:Nat}
theorem r_eqRec (ng:Bool) (a b:Rec) (k:D→Out):(real Fn FnD m).eqs [1,1,1,1,1,1,1,2] ng (recR a) (recR b) k=k (bl (if ng then !decide (a=b) else decide (a=b))):=by
 simp only [real,eq_recK];rfl
end
end Go.VE
namespace Go.VE
open Go.RowKit Go.Proofs
set_option maxRecDepth 100000
theorem told {n f:Nat} {xs:List D} {o:Nat×List Yr} (h:BB (FN n) f xs=some o):FN (n+1) f xs=some o:=by
 show (BB (FN n) f xs).or _=some o
 rw [h];rfl
theorem dStr_sD (s:List UInt8):dStr (sD s)=some s:=rfl
theorem t103 (n:Nat) (r:Rec) (h:okR r=true):FN (n+1) 103 (recR r)=some (0,[.d (sD (txt r))]):=by
 refine told ?_
 show tText (recR r)=_
 rw [tText,recD_of]
 simp only
 rw [if_pos h]
theorem t129 (n:Nat) (s:List UInt8) (h:s.length≤1000):FN (n+1) 129 [sD s]=some (0,[.d (bl (s.all okB))]):=by
 refine told ?_
 show tPlain [sD s]=_
 rw [tPlain,dStr_sD]
 simp only
 rw [if_pos h]
theorem isT_of {o:Out} {b:Bool} (h:o=some (0,[.d (bl b)])):isT o=some b:=by rw [h];rfl
theorem nums_len {f:List UInt8→Option Nat}:∀ (k:Nat) (s:List UInt8) (l:List Nat) (t:List UInt8),numsG f k s=some (l,t)→l.length=k
 | 0,s,l,t,h=>by
  simp only [numsG,Option.some.injEq,Prod.mk.injEq] at h
  obtain ⟨rfl,rfl⟩:=h
  rfl
 | k+1,s,l,t,h=>by
  simp only [numsG] at h
  cases hc:cutSp s with
  | none=>rw [hc] at h;cases h
  | some x =>
   rw [hc] at h
   simp only at h
   cases hw:f x.1 with
   | none=>rw [hw] at h;cases h
   | some v =>
    rw [hw] at h
    simp only at h
    obtain ⟨⟨l',t'⟩,h1,h2⟩:=Option.map_eq_some_iff.1 h
    simp only [Prod.mk.injEq] at h2
    obtain ⟨rfl,rfl⟩:=h2
    rw [List.length_cons,nums_len k _ _ _ h1]
theorem mkR_seven {l:List Nat} (h:l.length=7) (t:List UInt8):∃ r,mkR l t=some r:=by
 match l,h with
 | [a,b,c,d,e,f,g],_=>exact ⟨_,rfl⟩
theorem t86 (n:Nat) (s:List UInt8) (hs:s.length≤281474976710656) (h:∀ r,FN n 69 (recR r)=some (0,[.d (bl (okR r))])):FN (n+1) 86 [sD s]=some (0,(readR (decG numA s)).map .d):=by
 refine told ?_
 show tRead (FN n) [sD s]=_
 rw [tRead,dStr_sD]
 simp only
 rw [if_pos hs]
 have e:readO (FN n) s=some (decG numA s):=by
  unfold readO decG
  cases hx:numsG numA 7 s with
  | none=>rfl
  | some x =>
   obtain ⟨l,t⟩:=x
   obtain ⟨r,hr⟩:=mkR_seven (nums_len 7 s l t hx) t
   simp only [hr,isT_of (h r)]
   cases okR r<;>rfl
 rw [e]
end Go.VE
namespace Go.VE
open Go.RowKit Go.Proofs
set_option maxRecDepth 100000
def inZ (a b c:Int):Bool:=decide (b≤a∧a≤c)
theorem s70 (n:Nat) (a b c:Int):FN (n+1) 70 [il a,il b,il c]=some (0,[.d (bl (inZ a b c))]):=by
 rw [F70];by_cases h:b≤a<;>simp [G70,h,inZ]
theorem s73 (n:Nat) (a b c:Int):FN (n+1) 73 [il a,il b,il c]=some (0,[.d (bl (inZ a b c))]):=by
 rw [F73];by_cases h:b≤a<;>simp [G73,h,inZ]
theorem s104 (n:Nat) (a:Int):FN (n+2) 104 [il a]=some (0,[.d (bl (inZ a 0 5))]):=by rw [F104];simp only [G104,r_call,r_liti,s70,r_bnd0,r_ld0,r_out]
theorem s105 (n:Nat) (a:Int):FN (n+2) 105 [il a]=some (0,[.d (bl (inZ a 0 5))]):=by rw [F105];simp only [G105,r_call,r_liti,s73,r_bnd0,r_ld0,r_out]
theorem s128 (n:Nat) (a:Int):FN (n+2) 128 [il a]=some (0,[.d (bl (inZ a 0 4166))]):=by rw [F128];simp only [G128,r_call,r_liti,s70,r_bnd0,r_ld0,r_out]
theorem s101 (n:Nat) (a:Int):FN (n+2) 101 [il a]=some (0,[.d (bl (inZ a 0 4166))]):=by rw [F101];simp only [G101,r_call,r_liti,s73,r_bnd0,r_ld0,r_out]
theorem okItem_in (p m:Int):okItem p m=(inZ p 0 5&&inZ m 0 9999):=by
 unfold okItem inZ
 rw [Bool.eq_iff_iff];simp;omega
theorem s127 (n:Nat) (a b:Int):FN (n+3) 127 [il a,il b]=some (0,[.d (bl (okItem a b))]):=by
 rw [F127,okItem_in]
 simp only [G127,r_call,r_liti,s104,s70,r_bnd0,r_ld0,r_out,r_cond,r_litb]
 cases inZ a 0 5<;>rfl
theorem s100 (n:Nat) (a b:Int):FN (n+3) 100 [il a,il b]=some (0,[.d (bl (okItem a b))]):=by
 rw [F100,okItem_in]
 simp only [G100,r_call,r_liti,s105,s73,r_bnd0,r_ld0,r_out,r_cond,r_litb]
 cases inZ a 0 5<;>rfl
section
variable {Fn:Nat→List D→Out} {FnD:D→List Sh→List D→Out} {m:Nat}
theorem r_lssU32 (b:UInt8) (f:Bool) (k:D→Out):(real Fn FnD m).bin .lss f (ub b) (.lit (.int .u8 32)) k=k (bl (decide (b.toNat < 32))):=r_lssU b 32 f k
theorem r_gtrU126 (b:UInt8) (f:Bool) (k:D→Out):(real Fn FnD m).bin .gtr f (ub b) (.lit (.int .u8 126)) k=k (bl (decide (126 < b.toNat))):=r_gtrU b 126 f k
theorem r_eqlU32 (b:UInt8) (f:Bool) (k:D→Out):(real Fn FnD m).bin .eql f (ub b) (.lit (.int .u8 32)) k=k (bl (decide (b=32))):=r_eqlU b 32 f k
end
def allO:Bool→Out
 | true=>some (1,[])
 | false=>some (0,[.d (bl false)])
theorem l102 (n:Nat) (s:List UInt8) (hs:s.length≤4611686018427387904):loopR [L102_0 (RP n)] M0 0 [.d (sD s),.d (il 0)]=allO (s.all okB):=by
 have:=range_loop (β:=Unit) s hs (L102_0 (RP n)) (fun i _=>[.d (sD s),.d (il i)]) (fun _ _=>True)
  (fun _ r _=>allO (r.all okB)) ?_ ?_ M0 () trivial (M0_big hs)
 ·exact this
 ·intro _ k _
  simp only [L102_0,r_ld0,r_lds,r_lenSs,r_lss,Int.lt_irrefl,decide_false,r_cond,Bool.false_eq_true,if_false,r_out,List.all_nil,allO]
 ·intro i b r _ k hi hd hlt hw _ ih
  have hlt':(i:Int) < (s.length:Int):=by omega
  have ih':=ih () trivial
  rw [cast1] at ih'
  simp only [L102_0,r_ld0,r_lds,r_lenSs,r_lss,hlt',decide_true,r_cond,if_true,r_atSs hi,r_litU,r_lssU32,r_gtrU126,r_litb,r_out,r_liti,r_add,hw,ih',List.all_cons,decide_eq_true_eq]
  by_cases h1:b.toNat < 32
  ·have:okB b=false:=by simp [okB];omega
   rw [if_pos h1,this]
   rfl
  ·rw [if_neg h1]
   by_cases h2:126 < b.toNat
   ·have:okB b=false:=by simp [okB];omega
    rw [if_pos h2,this]
    rfl
   ·have:okB b=true:=by simp [okB];omega
    rw [if_neg h2,this,Bool.true_and]
theorem s102 (n:Nat) (s:List UInt8) (hs:s.length≤4611686018427387904):FN (n+1) 102 [sD s]=some (0,[.d (bl (s.all okB))]):=by
 rw [F102]
 simp only [G102,r_loop,r_liti,l102 n s hs]
 cases h:s.all okB<;>simp [allO]
section
variable {Fn:Nat→List D→Out} {FnD:D→List Sh→List D→Out} {m:Nat}
end
theorem okR_in (p no kd dy kn op on:Int) (tx:List UInt8):okR ⟨p,no,kd,dy,kn,op,on,tx⟩=(okItem p no&&(inZ kd 0 60&&(inZ dy 0 4166&&(inZ kn 0 4166&&(decide (tx.length≤160)&&(tx.all okB&&(if kd≠0 then decide (op=0∧on=0) else decide (dy=0∧tx=[]∧op=p∧on < no)&&okItem op on))))))):=by
 unfold okR inZ
 rw [plainB_ok]
 simp only
 rw [Bool.eq_iff_iff]
 simp only [Bool.and_eq_true,decide_eq_true_eq,and_assoc]
theorem s69 (n:Nat) (r:Rec):FN (n+4) 69 (recR r)=some (0,[.d (bl (okR r))]):=by
 obtain ⟨p,no,kd,dy,kn,op,on,tx⟩:=r
 show FN (n+4) 69 [il p,il no,il kd,il dy,il kn,il op,il on,sD tx]=_
 rw [F69]
 simp only [G69,r_call,r_liti,r_litb,s127,s70,s128,r_bnd0,r_ld0,r_not,r_cond,r_out,r_lenSs,r_gtr,r_litSe,r_eqs2,r_neq,r_eql,r_lss,r_eqlSs]
 by_cases h1:okItem p no=true
 ·by_cases h2:inZ kd 0 60=true
  ·by_cases h3:inZ dy 0 4166=true
   ·by_cases h4:inZ kn 0 4166=true
    ·by_cases h5:tx.length≤160
     ·have h5':¬ ((160:Int) < (tx.length:Int)):=by omega
      simp only [h1,h2,h3,h4,h5,h5',and_self,decide_true,decide_false,Bool.not_true,Bool.false_eq_true,if_false,t129 _ _ (show tx.length≤1000 by omega),r_bnd0,r_ld0,r_not,r_cond,okR_in,Bool.true_and]
      by_cases h6:tx.all okB=true
      ·simp only [h6,Bool.not_true,Bool.false_eq_true,if_false,Bool.true_and]
       by_cases h7:kd=0
       ·subst h7
        simp only [ne_eq,not_true,decide_false,Bool.false_eq_true,if_false]
        by_cases h8:dy=0
        ·by_cases h9:tx=[]
         ·by_cases h10:okItem op on=true
          ·by_cases h11:op=p
           ·subst h11
            simp [h8,h9,h10]
           ·simp [h8,h9,h10,h11]
          ·simp [h8,h9,h10]
         ·simp [h8,h9]
        ·simp [h8]
       ·simp [h7]
      ·simp [h6]
     ·have h5':(160:Int) < (tx.length:Int):=by omega
      simp [h1,h2,h3,h4,h5,h5',okR_in]
    ·simp [h1,h2,h3,h4,okR_in]
   ·simp [h1,h2,h3,okR_in]
  ·simp [h1,h2,okR_in]
 ·simp [h1,okR_in]
theorem s35 (n:Nat) (r:Rec):FN (n+4) 35 (recR r)=some (0,[.d (il (if okR r=true then 0 else 80))]):=by
 obtain ⟨p,no,kd,dy,kn,op,on,tx⟩:=r
 show FN (n+4) 35 [il p,il no,il kd,il dy,il kn,il op,il on,sD tx]=_
 rw [F35]
 simp only [G35,r_call,r_liti,r_litb,s100,s73,s101,r_bnd0,r_ld0,r_not,r_cond,r_out,r_lenSs,r_gtr,r_litSe,r_eqs2,r_neq,r_eql,r_lss,r_geq,r_neqSs]
 by_cases h1:okItem p no=true
 ·by_cases h2:inZ kd 0 60=true
  ·by_cases h3:inZ dy 0 4166=true
   ·by_cases h4:inZ kn 0 4166=true
    ·by_cases h5:tx.length≤160
     ·have h5':¬ ((160:Int) < (tx.length:Int)):=by omega
      simp only [h1,h2,h3,h4,h5,h5',and_self,decide_true,decide_false,Bool.not_true,Bool.false_eq_true,if_false,s102 _ tx (show tx.length≤4611686018427387904 by omega),r_bnd0,r_ld0,r_not,r_cond,okR_in,Bool.true_and]
      by_cases h6:tx.all okB=true
      ·simp only [h6,Bool.not_true,Bool.false_eq_true,if_false,Bool.true_and]
       by_cases h7:kd=0
       ·subst h7
        simp only [ne_eq,not_true,decide_false,Bool.false_eq_true,if_false]
        by_cases h8:dy=0
        ·by_cases h9:tx=[]
         ·by_cases h10:okItem op on=true
          ·by_cases h11:op=p
           ·subst h11
            by_cases h12:on < no
            ·simp [h8,h9,h10,h12,show ¬ no≤on by omega]
            ·simp [h8,h9,h10,h12,show no≤on by omega]
           ·simp [h8,h9,h10,h11]
          ·simp [h8,h9,h10]
         ·simp [h8,h9]
        ·simp [h8]
       ·by_cases h8:op=0∧on=0
        ·simp [h7,h8]
        ·simp [h7,h8]
      ·simp [h6]
     ·have h5':(160:Int) < (tx.length:Int):=by omega
      simp [h1,h2,h3,h4,h5,h5',okR_in]
    ·simp [h1,h2,h3,h4,okR_in]
   ·simp [h1,h2,h3,okR_in]
  ·simp [h1,h2,okR_in]
 ·simp [h1,okR_in]
theorem s56 (n:Nat) (r:Rec):FN (n+5) 56 (recR r)=some (0,[.d (il (if okR r=true then 0 else 80))]):=by
 have h:=s69 n r
 obtain ⟨p,no,kd,dy,kn,op,on,tx⟩:=r
 show FN (n+5) 56 [il p,il no,il kd,il dy,il kn,il op,il on,sD tx]=_
 rw [F56]
 simp only [recR] at h
 simp only [G56,r_call,h,r_bnd0,r_ld0,r_not,r_cond,r_out,r_liti]
 cases okR ⟨p,no,kd,dy,kn,op,on,tx⟩<;>rfl
theorem s36 (n:Nat) (r:Rec):FN (n+5) 36 (recR r)=some (0,if okR r=true then [.d (sD (txt r)),.d (il 0)] else [.d (sD []),.d (il 80)]):=by
 have h:=s69 n r
 have h2:=t103 (n+3) r
 obtain ⟨p,no,kd,dy,kn,op,on,tx⟩:=r
 show FN (n+5) 36 [il p,il no,il kd,il dy,il kn,il op,il on,sD tx]=_
 rw [F36]
 simp only [recR] at h h2
 simp only [G36,r_call,h,r_bnd0,r_ld0,r_not,r_cond,r_out,r_liti,r_litSe]
 by_cases hk:okR ⟨p,no,kd,dy,kn,op,on,tx⟩=true
 ·simp only [hk,Bool.not_true,Bool.false_eq_true,if_false,if_true,h2 hk,r_bnd0,r_ld0,r_out]
 ·simp only [hk,Bool.not_false,if_true,if_false];rfl
end Go.VE
namespace Go.VE
open Go.RowKit Go.Proofs
set_option maxRecDepth 100000
section
variable {Fn:Nat→List D→Out} {FnD:D→List Sh→List D→Out} {m:Nat}
end
theorem s72 (n:Nat) (l:Rr) (h:l.length≤1000):FN (n+1) 72 [.sl 3 l]=some (0,[.r l]):=by
 rw [F72]
 simp only [G72,r_nilE1,r_rowsD,r_natN,r_rows,r_len,List.length_nil,r_eqN,if_true,r_addN,Nat.zero_add,r_fitsg,r_app,List.nil_append,r_leN,Nat.le_refl,r_seg0,r_out,List.take_length]
 rw [if_pos ⟨by omega,by omega⟩]
end Go.VE
namespace Go.VE
open Go.RowKit Go.Proofs
set_option maxRecDepth 100000
section
variable {Fn:Nat→List D→Out} {FnD:D→List Sh→List D→Out} {m:Nat}
end
end Go.VE
namespace Go.VE
open Go.RowKit Go.Proofs
set_option maxRecDepth 100000
theorem rowInts_of:∀ l:List UInt8,rowInts (l.map rU)=some (l.map fun b=>(b.toNat:Int))
 | []=>rfl
 | b::l=>by
  show (rowInts (l.map rU)).map _=_
  rw [rowInts_of l]
  rfl
theorem strOfI_go:∀ (l:List UInt8) (acc:ByteArray),(l.map fun b=>(b.toNat:Int)).foldl (fun r n=>r.push (UInt8.ofNat n.toNat)) acc=⟨(acc.data.toList++l).toArray⟩
 | [],acc=>by cases acc;simp
 | b::l,acc=>by
  rw [List.map_cons,List.foldl_cons,strOfI_go l]
  simp
theorem strOfI_of (l:List UInt8):strOfI (l.map fun b=>(b.toNat:Int))=⟨l.toArray⟩:=by
 unfold strOfI
 rw [strOfI_go]
 simp
section
variable {Fn:Nat→List D→Out} {FnD:D→List Sh→List D→Out} {m:Nat}
theorem r_strBs (l:List UInt8) (k:D→Out):(real Fn FnD m).strB (l.map rU) k=k (sD l):=by
 simp only [real,rowInts_of,strOfI_of];rfl
end
end Go.VE
namespace Go.VE
open Go.RowKit Go.Proofs Go.Lib
set_option maxRecDepth 100000
section
variable {Fn:Nat→List D→Out} {FnD:D→List Sh→List D→Out} {m:Nat}
theorem r_cvU {n:Nat} (h:n < 256) (k:D→Out):(real Fn FnD m).cvI .u8 (il n) k=k (un n):=by
 simp only [real,il,wrap8 h];rfl
theorem r_cvI8 (n:Nat) (h:n < 256) (k:D→Out):(real Fn FnD m).cvI .i64 (un n) k=k (il n):=by
 simp only [real,un,wrap_id (show -9223372036854775808≤(n:Int) by omega) (show (n:Int)≤9223372036854775807 by omega)];rfl
theorem r_strB1 (b:UInt8) (k:D→Out):(real Fn FnD m).strB [[ub b]] k=k (sD [b]):=r_strBs [b] k
end
theorem un_of {n:Nat} (h:n < 256):un n=ub (UInt8.ofNat n):=by
 rw [un_ub,UInt8.toNat_ofNat']
 congr 1
 omega
theorem ten0:(10:Int)≠0:=by decide
theorem s145 (n:Nat):∀ (k v:Nat),v < 10 ^ (k+1)→k≤8→FN (n+k+1) 145 [il v]=some (0,[.d (sD (decDigits v))])
 | 0,v,h,_=>by
  have h10:v < 10:=by omega
  have w:IntKind.i64.wrap (48+(v:Int))=((48+v:Nat):Int):=by rw [wrap_id (by omega) (by omega)];omega
  rw [F145,decDigits_one h10]
  simp only [G145,r_liti,r_lss,show ¬ ((v:Int) < -9) by omega,show ¬ ((v:Int) < 0) by omega,show (v:Int) < 10 by omega,decide_false,decide_true,Bool.false_eq_true,if_false,if_true,r_cond,r_add,w,r_cvU (show 48+v < 256 by omega),r_natN,r_rows,r_len,List.length_cons,List.length_nil,r_eqN,r_seg0,un_of (show 48+v < 256 by omega),List.take_succ_cons,List.take_nil,r_strB1,r_out]
 | k+1,v,h,hk=>by
  by_cases h10:v < 10
  ·have w:IntKind.i64.wrap (48+(v:Int))=((48+v:Nat):Int):=by rw [wrap_id (by omega) (by omega)];omega
   rw [F145,decDigits_one h10]
   simp only [G145,r_liti,r_lss,show ¬ ((v:Int) < -9) by omega,show ¬ ((v:Int) < 0) by omega,show (v:Int) < 10 by omega,decide_false,decide_true,Bool.false_eq_true,if_false,if_true,r_cond,r_add,w,r_cvU (show 48+v < 256 by omega),r_natN,r_rows,r_len,List.length_cons,List.length_nil,r_eqN,r_seg0,un_of (show 48+v < 256 by omega),List.take_succ_cons,List.take_nil,r_strB1,r_out]
  ·have hp:10 ^ (k+1+1)≤10 ^ 10:=Nat.pow_le_pow_right (by decide) (by omega)
   have ih:=s145 n k (v / 10) (by rw [Nat.pow_succ] at h;omega) (by omega)
   rw [show n+k+1=n+(k+1) by omega] at ih
   have e1:(v:Int).tmod 10=((v % 10:Nat):Int):=by rw [Int.tmod_eq_emod_of_nonneg (by omega)];rfl
   have e2:(v:Int).tdiv 10=((v / 10:Nat):Int):=by rw [Int.tdiv_eq_ediv_of_nonneg (by omega)];rfl
   have w1:IntKind.i64.wrap (48+((v % 10:Nat):Int))=((48+v % 10:Nat):Int):=by rw [wrap_id (by omega) (by omega)];omega
   have w2:IntKind.i64.wrap ((v / 10:Nat):Int)=((v / 10:Nat):Int):=wrap_id (by omega) (by omega)
   have hl:=dec_lenK k (v / 10) (by rw [Nat.pow_succ] at h;omega)
   have ha:(decDigits (v / 10)).length+[UInt8.ofNat (48+v % 10)].length≤9223372036854775807:=by simp only [List.length_cons,List.length_nil];omega
   rw [F145,decDigits_ten h10]
   simp only [G145,r_liti,r_lss,show ¬ ((v:Int) < -9) by omega,show ¬ ((v:Int) < 0) by omega,show ¬ ((v:Int) < 10) by omega,decide_false,Bool.false_eq_true,if_false,r_cond,r_quo _ _ _ _ ten0,r_rem _ _ _ _ ten0,e1,e2,w2,r_call,ih,r_bnd0,r_ld0,r_add,w1,r_cvU (show 48+v % 10 < 256 by omega),r_natN,r_rows,r_len,List.length_cons,List.length_nil,r_eqN,if_true,r_seg0,un_of (show 48+v % 10 < 256 by omega),List.take_succ_cons,List.take_nil,r_strB1,r_addSs ha,r_out]
theorem t145 (n:Nat) {z:Int} (h:0≤z∧z≤9999):FN (n+4) 145 [il z]=some (0,[.d (sD (dcZ z))]):=by
 have:=s145 n 3 z.toNat (by omega) (by decide)
 rw [Int.toNat_of_nonneg h.1] at this
 exact this
def txtN (l:List Int):List UInt8:=l.flatMap fun z=>dcZ z++[32]
theorem txtN_snoc (l:List Int) (z:Int):txtN (l++[z])=txtN l++dcZ z++[32]:=by simp [txtN]
theorem txtN_len:∀ l:List Int,(∀ z∈l,0≤z∧z≤9999)→(txtN l).length≤5*l.length
 | [],_=>by simp [txtN]
 | z::l,h=>by
  have h1:=dec_len4 (n:=z.toNat) (by have:=h z (by simp);omega)
  have h2:=txtN_len l fun y hy=>h y (by simp [hy])
  simp only [txtN,List.flatMap_cons,List.length_append,List.length_cons,List.length_nil,dcZ] at h2 ⊢
  omega
theorem l115 (n:Nat) (c0 c1 c2 c3 c4 c5 c6 c7:D) (l:List Int) (hl:l.length=7) (hz:∀ z∈l,0≤z∧z≤9999) :
  loopR [L115_0 (RP (n+4))] M0 0 [.d c0,.d c1,.d c2,.d c3,.d c4,.d c5,.d c6,.d c7,.d (sD []),.n 7,.n 7,.d (il 7),.d (il 0),.r (l.map fun z=>[il z])]=some (0,[.d c0,.d c1,.d c2,.d c3,.d c4,.d c5,.d c6,.d c7,.d (sD (txtN l))]):=by
 have:=range_loop (β:=List Int) l (by omega) (L115_0 (RP (n+4))) (fun i acc=>[.d c0,.d c1,.d c2,.d c3,.d c4,.d c5,.d c6,.d c7,.d (sD (txtN acc)),.n 7,.n 7,.d (il 7),.d (il i),.r (l.map fun z=>[il z])])
  (fun i acc=>acc=l.take i) (fun _ r acc=>some (0,[.d c0,.d c1,.d c2,.d c3,.d c4,.d c5,.d c6,.d c7,.d (sD (txtN (acc++r)))])) ?_ ?_ M0 [] (by simp) (M0_big (by omega))
 ·simpa [txtN] using this
 ·intro acc k _
  simp only [L115_0,r_ld0,r_lds,hl,r_lss,show ¬ (((7:Nat):Int) < 7) by decide,decide_false,Bool.false_eq_true,if_false,r_cond,r_out,List.append_nil]
 ·intro i z r acc k hi hd hlt hw hacc ih
  rw [hl] at hlt
  have hlt':(i:Int) < 7:=by omega
  have hz':=hz z (List.mem_of_getElem? hi)
  have hlen:(l.map fun z=>[il z]).length=7:=by rw [List.length_map,hl]
  have hr:(l.map fun z=>[il z])[i]?=some [il z]:=by rw [List.getElem?_map,hi];rfl
  have hal:(txtN acc).length≤35:=by
   have:=txtN_len acc fun y hy=>hz y (List.mem_of_mem_take (hacc ▸ hy))
   have h2:acc.length≤7:=by rw [hacc,List.length_take];omega
   omega
  have hd4:=dec_len4 (n:=z.toNat) (by omega)
  have ha1:(txtN acc).length+(dcZ z).length≤9223372036854775807:=by unfold dcZ;omega
  have ha2:(txtN acc++dcZ z).length+[(32:UInt8)].length≤9223372036854775807:=by simp only [List.length_append,List.length_cons,List.length_nil];unfold dcZ;omega
  have h32:((.lit (.string ⟨#[32]⟩):D))=sD [32]:=rfl
  have ih':=ih (acc++[z]) (by rw [List.take_add_one,hi,← hacc];rfl)
  rw [cast1,txtN_snoc] at ih'
  rw [List.append_assoc acc,List.singleton_append] at ih'
  have hx:(0:Int)≤(i:Int)∧(i:Int) < ((7:Nat):Int):=by omega
  simp only [L115_0,r_ld0,r_lds,r_ln0,r_lns,r_lr0,r_lrs,r_lss,hlt',decide_true,if_true,r_cond,r_len,hlen,r_eqN,r_inxg,if_pos hx,Int.toNat_natCast,r_rowAtg,hr,List.length_cons,List.length_nil,r_cell0,r_call,t145 n hz',r_bnd0,r_addSs ha1,r_litS,h32,r_addSs ha2,r_liti,r_add,hw,ih']
theorem s115 (n:Nat) (r:Rec) (h:okR r=true):FN (n+5) 115 (recR r)=some (0,[.d (sD (txt r))]):=by
 have hs:=okR_small h
 have hl:=txt_len h
 have hx:r.tx.length≤160:=by
  simp only [okR,Bool.and_eq_true,decide_eq_true_eq] at h
  exact h.1.1.2.2.2.2.2.2.2
 have hn:=txtN_len (numsR r) hs
 have e:txt r=txtN (numsR r)++r.tx:=rfl
 have h7:(numsR r).length=7:=rfl
 have l:=l115 n (il r.p) (il r.no) (il r.kd) (il r.dy) (il r.kn) (il r.op) (il r.on) (sD r.tx) (numsR r) h7 hs
 have ha:(txtN (numsR r)).length+r.tx.length≤9223372036854775807:=by omega
 rw [e]
 have e2:(numsR r).map (fun z=>[il z])=[[il r.p],[il r.no],[il r.kd],[il r.dy],[il r.kn],[il r.op],[il r.on]]:=rfl
 rw [e2] at l
 show FN (n+5) 115 [il r.p,il r.no,il r.kd,il r.dy,il r.kn,il r.op,il r.on,sD r.tx]=_
 rw [F115]
 have e7:((7:Nat):Int)=7:=rfl
 simp only [G115,r_loop,r_litSe,r_natN,r_natD,e7,r_liti,r_rows,l,r_bnd0,r_ld0,r_lds,r_addSs ha,r_out]
end Go.VE
namespace Go.VE
open Go.RowKit Go.Proofs Go.Lib
set_option maxRecDepth 100000
theorem s53 (n:Nat) (r:Rec):FN (n+6) 53 (recR r)=some (0,if okR r=true then [.d (sD (txt r)),.d (il 0)] else [.d (sD []),.d (il 80)]):=by
 have h:=s35 (n+1) r
 have h2:=s115 n r
 obtain ⟨p,no,kd,dy,kn,op,on,tx⟩:=r
 show FN (n+6) 53 [il p,il no,il kd,il dy,il kn,il op,il on,sD tx]=_
 rw [F53]
 simp only [recR] at h h2
 simp only [G53,r_call,h,r_bnd0,r_ld0,r_neq,r_cond,r_out,r_liti,r_litSe]
 by_cases hk:okR ⟨p,no,kd,dy,kn,op,on,tx⟩=true
 ·simp only [hk,if_true,ne_eq,not_true,decide_false,Bool.false_eq_true,if_false,h2 hk,r_bnd0,r_ld0,r_out]
 ·simp [hk]
def decO (o:Option Rec):List Yr:=match o with
 | some r=>(recR r).map .d++[.d (il 0)]
 | none=>(recR zeroR).map .d++[.d (il 5)]
theorem s54 (n:Nat) (s:List UInt8) (hs:s.length≤281474976710656):FN (n+6) 54 [sD s]=some (0,decO (decG numA s)):=by
 have h:=t86 (n+4) s hs fun r=>s69 n r
 rw [F54]
 simp only [G54,r_call,h]
 cases decG numA s with
 | none=>rfl
 | some r=>rfl
theorem cast0 (i a:Nat):((i+(a+1):Nat):Int)=((i+1+a:Nat):Int):=by omega
def spO (i:Nat):Option (List UInt8×List UInt8)→Out
 | none=>some (1,[])
 | some x=>some (0,[.d (il ((i+x.1.length:Nat):Int))])
theorem l116 (n:Nat) (s:List UInt8) (hs:s.length≤4611686018427387904):loopR [L116_0 (RP n)] M0 0 [.d (sD s),.d (il 0)]=spO 0 (cutSp s):=by
 have:=range_loop (β:=Unit) s hs (L116_0 (RP n)) (fun i _=>[.d (sD s),.d (il i)]) (fun _ _=>True) (fun i r _=>spO i (cutSp r)) ?_ ?_ M0 () trivial (M0_big hs)
 ·exact this
 ·intro _ k _
  simp only [L116_0,r_ld0,r_lds,r_lenSs,r_lss,Int.lt_irrefl,decide_false,r_cond,Bool.false_eq_true,if_false,r_out,cutSp,spO]
 ·intro i b r _ k hi hd hlt hw _ ih
  have hlt':(i:Int) < (s.length:Int):=by omega
  have ih':=ih () trivial
  rw [cast1] at ih'
  simp only [L116_0,r_ld0,r_lds,r_lenSs,r_lss,hlt',decide_true,r_cond,if_true,r_atSs hi,r_litU,r_eqlU32,r_out,r_liti,r_add,hw,ih',cutSp,decide_eq_true_eq]
  by_cases h:b=32
  ·simp [h,spO]
  ·simp only [h,if_false]
   cases cutSp r with
   | none=>rfl
   | some x=>simp only [Option.map_some,spO,List.length_cons,cast0]
def spI (s:List UInt8):Int:=match cutSp s with
 | none=>-1
 | some x=>(x.1.length:Int)
theorem s116 (n:Nat) (s:List UInt8) (hs:s.length≤4611686018427387904):FN (n+1) 116 [sD s]=some (0,[.d (il (spI s))]):=by
 rw [F116]
 have hm:(real (FN n) (FnDof Tryz.prog (cf3 tb Tryz.prog) (FN n)) M0).lit (.int .i64 (-1))=il (-1):=rfl
 simp only [G116,r_loop,r_liti,l116 n s hs,spI]
 cases cutSp s with
 | none=>rfl
 | some x=>simp [spO]
def nmO:Option Nat→Out
 | none=>some (0,[.d (il 0),.d (bl false)])
 | some z=>some (1,[.d (il z)])
theorem l117 (n:Nat) (w:List UInt8) (hl:w.length≤9):loopR [L117_0 (RP n)] M0 0 [.d (sD w),.d (il 0),.d (il 0)]=nmO (decFrom 0 w):=by
 have:=range_loop (β:=Nat) w (by omega) (L117_0 (RP n)) (fun i v=>[.d (sD w),.d (il v),.d (il i)]) (fun i v=>v < 10 ^ i) (fun _ r v=>nmO (decFrom v r)) ?_ ?_ M0 0 (by simp) (M0_big (by omega))
 ·exact this
 ·intro v k _
  simp only [L117_0,r_ld0,r_lds,r_lenSs,r_lss,Int.lt_irrefl,decide_false,r_cond,Bool.false_eq_true,if_false,r_out,decFrom,nmO]
 ·intro i b r v k hi hd hlt hw hI ih
  have hlt':(i:Int) < (w.length:Int):=by omega
  have hp:(10:Nat) ^ i≤10 ^ 9:=Nat.pow_le_pow_right (by decide) (by omega)
  have hb:=b.toNat_lt
  have r48:∀ (f:Bool) (k:D→Out),(RP n).bin .lss f (ub b) (.lit (.int .u8 48)) k=k (bl (decide (b.toNat < 48))):=fun f k=>r_lssU b 48 f k
  have r57:∀ (f:Bool) (k:D→Out),(RP n).bin .gtr f (ub b) (.lit (.int .u8 57)) k=k (bl (decide (57 < b.toNat))):=fun f k=>r_gtrU b 57 f k
  by_cases h1:b.toNat < 48
  ·have hv:digitVal b=none:=by rw [digitVal,if_neg (by omega)]
   simp only [decFrom,hv,nmO]
   simp only [L117_0,r_ld0,r_lds,r_lenSs,r_lss,hlt',decide_true,r_cond,if_true,r_atSs hi,r_litU,r48,h1,r_out,r_litb,r_liti]
  ·by_cases h2:57 < b.toNat
   ·have hv:digitVal b=none:=by rw [digitVal,if_neg (by omega)]
    simp only [decFrom,hv,nmO]
    simp only [L117_0,r_ld0,r_lds,r_lenSs,r_lss,hlt',decide_true,r_cond,if_true,r_atSs hi,r_litU,r48,h1,decide_false,Bool.false_eq_true,if_false,r57,h2,r_out,r_litb,r_liti]
   ·have hv:digitVal b=some (b.toNat - 48):=by rw [digitVal,if_pos (by omega)]
    have w1:IntKind.i64.wrap (10*(v:Int))=((v*10:Nat):Int):=by rw [wrap_id (by omega) (by omega)];omega
    have w2:IntKind.i64.wrap (((v*10:Nat):Int)+((b.toNat - 48:Nat):Int))=((v*10+(b.toNat - 48):Nat):Int):=by rw [wrap_id (by omega) (by omega)];omega
    have s48:∀ (f:Bool) (k:D→Out),(RP n).bin .sub f (ub b) (.lit (.int .u8 48)) k=k (un (b.toNat - 48)):=fun f k=>r_subU (a:=b.toNat) (b:=48) (by omega) b.toNat_lt f k
    have ih':=ih (v*10+(b.toNat - 48)) (by rw [Nat.pow_succ];omega)
    rw [cast1] at ih'
    simp only [decFrom,hv]
    rw [←ih']
    simp only [L117_0,r_ld0,r_lds,r_lenSs,r_lss,hlt',decide_true,r_cond,if_true,r_atSs hi,r_litU,r48,h1,decide_false,Bool.false_eq_true,if_false,r57,h2,r_liti,r_mul,w1,s48,r_cvI8 _ (show b.toNat - 48 < 256 by omega),r_add,w2,hw]
def nmY:Option Nat→List Yr
 | none=>[.d (il 0),.d (bl false)]
 | some z=>[.d (il z),.d (bl true)]
theorem s117 (n:Nat) (w:List UInt8):FN (n+1) 117 [sD w,il 9]=some (0,nmY (num9 w)):=by
 rw [F117]
 by_cases h1:w=[]
 ·subst h1
  have hv:num9 []=none:=by rw [num9,if_pos (.inl rfl)]
  rw [hv]
  simp [G117,r_litSe,r_eqlSs,nmY]
 ·by_cases h2:9 < w.length
  ·have h2':(9:Int) < (w.length:Int):=by omega
   have hv:num9 w=none:=by rw [num9,if_pos (.inr (.inl h2))]
   rw [hv]
   simp [G117,r_litSe,r_eqlSs,r_lenSs,nmY,h1,h2']
  ·have h2':¬ ((9:Int) < (w.length:Int)):=by omega
   obtain ⟨b,t,rfl⟩:∃ b t,w=b::t:=by
    cases w with
    | nil=>exact absurd rfl h1
    | cons b t=>exact ⟨b,t,rfl⟩
   have hl:=l117 n (b::t) (by omega)
   have h0:(b::t)[0]?=some b:=rfl
   have r0:∀ k:D→Out,(RP n).atS (sD (b::t)) (il 0) k=k (ub b):=fun k=>r_atSs (i:=0) h0 k
   have e48:∀ (f:Bool) (k:D→Out),(RP n).bin .eql f (ub b) (.lit (.int .u8 48)) k=k (bl (decide (b=48))):=fun f k=>r_eqlU b 48 f k
   by_cases h3:b=48∧1 < (b::t).length
   ·have hv:num9 (b::t)=none:=by rw [num9,if_pos (.inr (.inr ⟨by rw [h3.1];rfl,h3.2⟩))]
    rw [hv]
    obtain ⟨rfl,h4⟩:=h3
    have h5':(1:Int) < (((48:UInt8)::t).length:Int):=by omega
    simp only [G117,r_litSe,r_eqlSs,h1,decide_false,r_cond,Bool.false_eq_true,if_false,r_lenSs,r_gtr,h2',r_liti,r_litb,r_litU,r0,e48,r_out,decide_true,if_true,h5',r_bnd0,r_ld0,r_lds,nmY]
   ·have hv:num9 (b::t)=decFrom 0 (b::t):=by
     rw [num9,if_neg]
     rintro (h | h | ⟨h,h4⟩)
     ·exact h1 h
     ·exact h2 h
     ·exact h3 ⟨by simpa using h,h4⟩
    rw [hv]
    have key:∀ x:Bool,x=false→(RP n).bnd (some (0,[.d (sD (b::t)),.d (bl x)])) [fun y5=>(RP n).cond ((RP n).ld y5 1) (some (0,[.d (il 0),.d (bl false)])) ((RP n).bnd (loopR [L117_0 (RP n)] M0 0 [.d ((RP n).ld y5 0),.d (il 0),.d (il 0)]) [fun y6=>some (0,[.d ((RP n).ld y6 0),.d ((RP n).ld y6 1)]),fun y6=>some (0,[.d ((RP n).ld y6 0),.d (bl true)])])]=some (0,nmY (decFrom 0 (b::t))):=by
     rintro x rfl
     simp only [r_bnd0,r_ld0,r_lds,r_cond,Bool.false_eq_true,if_false,hl]
     cases decFrom 0 (b::t)<;>rfl
    simp only [G117,r_litSe,r_eqlSs,h1,decide_false,r_cond,Bool.false_eq_true,if_false,r_lenSs,r_gtr,h2',r_liti,r_litb,r_litU,r0,e48,r_out,r_loop]
    by_cases h5:b=48
    ·have h4':¬ ((1:Int) < ((b::t).length:Int)):=fun h=>h3 ⟨h5,by omega⟩
     rw [if_pos (by rw [h5];rfl)]
     have:=key (decide ((1:Int) < ((b::t).length:Int))) (by simp only [h4',decide_false])
     exact this
    ·rw [if_neg (by simp [h5])]
     exact key false rfl
end Go.VE
