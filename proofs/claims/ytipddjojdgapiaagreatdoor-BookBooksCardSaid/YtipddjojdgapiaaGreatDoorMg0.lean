/- The functions. -/
import Derived.Test.YtipddjojdgapiaaGreatDoorMf0
import Derived.Test.YtipddjojdgapiaaGreatDoorMh
import Derived.Lib.LaidU8
import Derived.Shelf.Vars
import Derived.MakeChecks
import Derived.Test.YtipddjojdgapiaaGreatDoorMt
import Derived.Test.YtipddjojdgapiaaGreatDoorCards
import Derived.Test.YtipddjojdgapiaaGreatDoorTie
import Derived.SevenTiedAt
import Derived.ProofKit
import Derived.LaidMore
import Derived.Stop.Joined
import Derived.LaidHandle
import Derived.Lay
import Derived.KernelRfl
import Derived.Shelf.Strings.BuilderF
import Derived.Shelf.LaysM
import Derived.Shelf.LaysC
import Derived.Shelf.Strconv.Itoa3
import Derived.Shelf.Strconv.AtoiAll
import Derived.Shelf.Strings.Search2
import Derived.Test.YtipddjojdgapiaaGreatDoorChecked
import Derived.Test.YtipddjojdgapiaaGreatDoorMp
import Derived.WalkKit
import Derived.Deep.LoopGhost
import Derived.Deep.OwnRows
import Derived.Lib.BufferWrite
import Derived.Lib.SmallJoins
import Derived.Laws.CopyOwn
namespace Go.VE
open Go.RowKit Go.WideShapes Go.ChangeShapes
set_option maxRecDepth 100000
theorem lawInY {H:Type} {enc:TypeId×Value→H} {X:World→Array Value→Prop} (hX:∀ (w w':World) (args:Array Value),w.heap=w'.heap→X w args→X w' args) {C:Checked} {os:Os} {f:FuncId} {fn:Func} {s:ChangeSpec} {tb:TypeId} {n:Nat}
  (own:ownKnob C.prog.godebug=none) (started:os.Started) (noInit:C.prog.inits.idxOf? f=none) (hfn:C.prog.funcs[f]?=some fn)
  (witness:∃ (w:World) (tape:Tape) (i:Input),w.os=os∧(w.forCall tape i).Shaped C.prog∧i.vars=[]∧Input.okWide C.prog (w.forCall tape i) .any w.heap.size f i ∧
   ((s.pre enc C.prog fn [] false (w.forCall tape i).memory i.args∧X (w.forCall tape i).memory i.args)∧sizedMet enc C.prog fn (OpenSpec.ofChange s) false (w.forCall tape i).memory i.args)∧({}:Assume).holds C.prog (lone (Frame.enter C.prog f i.args .normal) [] (w.forCall tape i)))
  (hl:laidOutB C.prog=true) (hts:(fn.params.toList.all fun t=>okT C.prog n t&&C.prog.readableRec t&&decide (t < C.prog.types.size))=true)
  (hres:fn.resultTypes=#[tb]) (htb:C.prog.underlying tb=some .bool) (hv:s.vars=[])
  (hs:∀ ds:List (DataW H),ds.length=fn.params.toList.length→s.fn H ds={ results:=[.lit (.bool true)],args:=ds })
  (hsc:∀ (W:World) (args:Array Value) (vds:List VD),W.ShapedOpen C.prog→X W args→VTs C.prog n fn.params.toList vds→VDF W (· < W.heap.size) vds args.toList→Calls C.prog f args W fun e W'=>e=.returned (.bool true)∧Below W.heap.size W W') :
  ReturnsInHanded {} C os f .any (fun w args=>(s.pre enc C.prog fn [] false w args∧X w args)∧sizedMet enc C.prog fn (OpenSpec.ofChange s) false w args) (s.post enc C.prog fn false true false false):=by
 refine returnsInHanded_of_calls own started noInit witness ?_
 intro w tape i _ hsh _ hok hpre _
 obtain ⟨_,_,_,fn',hfn',_,_,_,_,hval⟩:=hok
 have e:fn'=fn:=Option.some.inj (hfn'.symm.trans hfn)
 subst e
 obtain ⟨⟨⟨ds,gs,before,hw,hc⟩,hx⟩,hz⟩:=hpre
 have hW:=DataW.Whole.of_heap (w':=w.forCall tape i) (by rfl) hw
 have hwt:(DataW.weightsEach C.prog (fn'.params.toList++s.plain.varTypes C.prog) (ds++gs)).all (·≤reachBytes)=true:=hz.weights hw
 have hx':=hX _ (w.forCall tape i) _ (by rfl) hx
 revert hsh hval hx' hW
 generalize w.forCall tape i=W
 intro hsh hval hW hx'
 have hW':=hW
 obtain ⟨p,q,hA,hV,hbf,hfz,hnd⟩:=hW
 rw [hv] at hV
 obtain ⟨rfl,rfl⟩:=trodVars_none hV
 have hvt:s.plain.varTypes C.prog=[]:=by simp [ChangeSpec.plain,hv,DataSpec.varTypes]
 rw [hvt,List.append_nil,List.append_nil] at hwt
 simp only [List.all_eq_true,decide_eq_true_eq,Bool.and_eq_true] at hwt hts
 obtain ⟨hlen,vds,h1,h2⟩:=rdVs (n:=n) (fun t ht=>(hts t ht).1.1) (fun j t v hj hv=>hval j t v (by simpa using hj) (by simpa using hv)) hA hwt
 refine (hsc W i.args vds hsh hx' h2 h1).mono ?_
 rintro e W' ⟨rfl,hbelow⟩
 refine ChangeSpec.post_blind ?_
 have hsf:=hs ds hlen
 refine ⟨ds,[],before,[],p,[],hW',?_,?_,?_,hbelow.frame _,fun h=>by cases h⟩
 ·rw [List.append_nil,hsf,hres]
  exact trodAll_cons_mk (shut_bool htb true) trodAll_mk0
 ·rw [List.append_nil,hsf]
  exact belowAll hl hbelow (fun t ht=>⟨(hts t ht).1.2,(hts t ht).2⟩) hA (fun x hx=>hW'.lt x (by rw [hbf];simp [hx]))
 ·rw [List.append_nil,hsf,hv];rfl
end Go.VE
namespace Go.Proofs.YtipddjojdgapiaaGreatDoor
open Go.VE Go.RowKit Go.ChangeShapes Go.WideShapes
set_option maxRecDepth 100000
theorem own:ownKnob Tryz.prog.godebug=none:=by kernel_rfl
theorem laidOut:laidOutB Tryz.prog=true:=by kernel_rfl
abbrev laid5:List (String×DataW Unit):=[("math/bits.deBruijn32tab",Rows.laid_math_bits_deBruijn32tab),("math/bits.deBruijn64tab",Rows.laid_math_bits_deBruijn64tab),("internal/strconv.uint64pow10",Rows.laid_internal_strconv_uint64pow10),("strconv.ErrRange",Rows.laid_strconv_ErrRange),("strconv.ErrSyntax",Rows.laid_strconv_ErrSyntax)]
theorem door_met (os:Os) (args:Array Value):laidMetH Tryz.prog laid5 ((World.laidAll Tryz.prog os laid5).forCall (fun _ _=>0) ⟨#[],args,[]⟩).memory:=by
 rw [MakeChecks.laidMetH_plain _ _ _ (by kernel_rfl)]
 exact laidMet_laidAll _ (by kernel_rfl) (by kernel_rfl)
theorem iface_cell {W:World} {n nm:String} {d:DataW Unit} {g:Nat} {t:TypeId} {ms:Array (String×TypeId)} (hg:Tryz.prog.globalNamed n=some g) (ht:(Tryz.prog.globals[g]?).map (·.type)=some t) (hi:Tryz.prog.underlying t=some (.interface ms)) (h:Lib.VarReads Tryz.prog W n (.iface nm d)) :
  ∃ ev,W.cell? ⟨g,0,none⟩=some ev∧(ev=.nilIface∨∃ te pe,ev=.iface te pe):=by
 obtain ⟨g',t',cs,fuel,p,h1,h2,h3,h4⟩:=h
 obtain rfl:=Option.some.inj (hg.symm.trans h1)
 obtain rfl:=Option.some.inj (ht.symm.trans h2)
 obtain ⟨_,u,v,hcs,_⟩:=iface_of_trod hi h4
 refine ⟨.iface u v,?_,.inr ⟨u,v,rfl⟩⟩
 rw [World.var?_cell hg h3 0]
 obtain ⟨l⟩:=cs
 simp only at hcs
 subst hcs
 rfl
theorem laid_of {W:World} (hsh:W.ShapedOpen Tryz.prog) (hX:laidMetH Tryz.prog laid5 W):Laid W:=by
 rw [MakeChecks.laidMetH_plain _ _ _ (by kernel_rfl)] at hX
 refine ⟨Go.Proofs.cell_of_shapedOpen_int (t:=3) (zero:=#[.int .i64 0]) hsh (of_decide_eq_true (by kernel_rfl)) (by kernel_rfl) rfl (by kernel_rfl) (by kernel_rfl) Tryz.underlying3,?_,?_,?_⟩
 ·exact iface_cell (by kernel_rfl) (by kernel_rfl) Tryz.underlying207 (Lib.laidMet.reads hX (n := "strconv.ErrSyntax") (d:=Rows.laid_strconv_ErrSyntax) (by simp [laid5]))
 ·exact iface_cell (by kernel_rfl) (by kernel_rfl) Tryz.underlying207 (Lib.laidMet.reads hX (n := "strconv.ErrRange") (d:=Rows.laid_strconv_ErrRange) (by simp [laid5]))
 ·obtain ⟨g,t,cs,fuel,p,h1,h2,h3,h4⟩:=Lib.laidMet.reads hX (n := "internal/strconv.uint64pow10") (d:=Rows.laid_internal_strconv_uint64pow10) (by simp [laid5])
  obtain rfl:=Option.some.inj ((show Tryz.prog.globalNamed "internal/strconv.uint64pow10" = some 3 by kernel_rfl).symm.trans h1)
  obtain rfl:=Option.some.inj ((show (Tryz.prog.globals[3]?).map (·.type)=some 263 by kernel_rfl).symm.trans h2)
  have e:(Rows.laid_internal_strconv_uint64pow10:DataW Unit)=Lib.tabData .u64 Lib.pow10Tab:=by kernel_rfl
  rw [e] at h4
  have hc:=Lib.cells_of_tab Tryz.underlying263 Tryz.underlying239 (by kernel_rfl) (by kernel_rfl) h4
  have h5:blkCells W 3=some cs:=by
   unfold World.var? at h3
   rw [show Tryz.prog.globalNamed "internal/strconv.uint64pow10" = some 3 by kernel_rfl] at h3
   exact h3
  rw [h5,← hc]
theorem size_of {W:World} (hX:laidMetH Tryz.prog laid5 W):nX≤W.heap.size:=by
 rw [MakeChecks.laidMetH_plain _ _ _ (by kernel_rfl)] at hX
 obtain ⟨g,t,cs,fuel,p,h1,h2,h3,h4⟩:=Lib.laidMet.reads hX (n := "math/bits.deBruijn64tab") (d:=Rows.laid_math_bits_deBruijn64tab) (by simp [laid5])
 unfold World.var? at h3
 rw [show Tryz.prog.globalNamed "math/bits.deBruijn64tab" = some 5 by kernel_rfl] at h3
 rcases Nat.lt_or_ge 5 W.heap.size with h | h
 ·exact h
 ·have e:W.heap[5]?=none:=Array.getElem?_eq_none h
  simp only [Option.bind_some,e] at h3
  cases h3
theorem calls_of {f:Nat} {vds:List VD} (hsc:SC Tryz.prog f vds (.one (.d (bl true)))) {W:World} {args:Array Value} (hsh:W.ShapedOpen Tryz.prog) (hX:laidMetH Tryz.prog laid5 W) (hv:VDF W (· < W.heap.size) vds args.toList) :
  Calls Tryz.prog f args W fun e W'=>e=.returned (.bool true)∧Below W.heap.size W W':=by
 refine (hsc.2 W (· < W.heap.size) args (fun b hb=>hb) ⟨fun b hb=>?_,laid_of hsh hX⟩ hv).mono ?_
 ·exact Nat.lt_of_lt_of_le hb (size_of hX)
 ·rintro e W' ⟨v,U',bs,rfl,hbelow,_,_,_,_,hr⟩
  refine ⟨?_,hbelow⟩
  simp only [RvR,RcR] at hr
  obtain ⟨_,hd⟩:=hr
  simp only [DR,bl] at hd
  obtain ⟨rfl,_⟩:=hd
  rfl
end Go.Proofs.YtipddjojdgapiaaGreatDoor
namespace Go.Proofs
open Go.Shelf
def Tryz.lays169_ren:Go.Shelf.Ren:=⟨fun | 169=>143 | n=>n,fun | 70=>202 | 9=>9 | 0=>0 | 72=>204 | 37=>190 | 127=>218 | 3=>3 | 5=>5 | n=>n,fun | n=>n⟩
theorem Tryz.lays169:Go.Proofs.Lays.n169 Tryz.prog Tryz.lays169_ren:={
 mixed:=by kernel_rfl
 f169:=Tryz.func143.trans (congrArg some (by kernel_rfl))
 t0:=Tryz.underlying0
 a0:=Tryz.isAgg0
 z0:=Tryz.sizeOf0
 v0:=Tryz.zeroValue0
 t3:=Tryz.underlying3
 a3:=Tryz.isAgg3
 z3:=Tryz.sizeOf3
 v3:=Tryz.zeroValue3
 t9:=Tryz.underlying9
 a9:=Tryz.isAgg9
 z9:=Tryz.sizeOf9
 v9:=Tryz.zeroValue9
 t37:=Tryz.underlying190
 a37:=Tryz.isAgg190
 z37:=Tryz.sizeOf190
 v37:=Tryz.zeroValue190
 t70:=Tryz.underlying202
 a70:=Tryz.isAgg202
 z70:=Tryz.sizeOf202
 v70:=Tryz.zeroValue202
 t72:=Tryz.underlying204
 a72:=Tryz.isAgg204
 z72:=Tryz.sizeOf204
 v72:=Tryz.zeroValue204
 t127:=Tryz.underlying218
 a127:=Tryz.isAgg218
 z127:=Tryz.sizeOf218
 v127:=Tryz.zeroValue218 }
theorem Tryz.Builder_Extra_169:Builder.Extra Tryz.prog Tryz.lays169_ren:={
 sizeBuilder:=by kernel_rfl
 liesBuilder:=by kernel_rfl
 t5:=Tryz.underlying5
 a5:=Tryz.isAgg5
 z5:=Tryz.sizeOf5
 v5:=Tryz.zeroValue5
 infoByte:=by kernel_rfl
 cellsByte:=by kernel_rfl
 sizeByte:=by kernel_rfl
 neB5:=by decide }
open Go.RowKit in
theorem Tryz.Builder_String_any_f (B b:Nat) (l:List UInt8) (w:World) (h:Lib.IsBuilderF 204 5 B b (Lib.byteCells l) w) (hBw:B≤w.heap.size) :
  Calls Tryz.prog 143 #[.pointer (some ⟨b,0,none⟩)] w fun e w'=>e=.returned (.string ⟨l.toArray⟩)∧(Lib.IsBuilderF 204 5 B b (Lib.byteCells l) w'∧Below B w w'):=Any.Builder_String_any_f Tryz.lays169 Tryz.Builder_Extra_169 B b l w h hBw
def Tryz.laysM171_ren:Go.Shelf.Ren:=⟨fun | 171=>142 | 243=>152 | 246=>163 | 283=>182 | 284=>183 | 285=>184 | 286=>185 | 129=>174 | 317=>198 | 318=>199 | 319=>200 | 320=>201 | 337=>207 | 338=>208 | n=>n,fun | 3=>3 | 9=>9 | 2=>2 | 4=>4 | 171=>247 | 0=>0 | 53=>239 | 37=>190 | 5=>5 | 173=>249 | 212=>263 | 51=>237 | 20=>20 | 213=>264 | 46=>222 | 232=>274 | 233=>275 | n=>n,fun | 17=>3 | 18=>4 | 19=>5 | n=>n⟩
theorem Tryz.laysM171:Go.Proofs.LaysM.n171 Tryz.prog Tryz.laysM171_ren:={
 mixed:=by kernel_rfl
 f129:=Tryz.func174.trans (congrArg some (by kernel_rfl))
 f171:=Tryz.func142.trans (congrArg some (by kernel_rfl))
 f243:=Tryz.func152.trans (congrArg some (by kernel_rfl))
 f246:=Tryz.func163.trans (congrArg some (by kernel_rfl))
 f283:=Tryz.func182.trans (congrArg some (by kernel_rfl))
 f284:=Tryz.func183.trans (congrArg some (by kernel_rfl))
 f285:=Tryz.func184.trans (congrArg some (by kernel_rfl))
 f286:=Tryz.func185.trans (congrArg some (by kernel_rfl))
 f317:=Tryz.func198.trans (congrArg some (by kernel_rfl))
 f318:=Tryz.func199.trans (congrArg some (by kernel_rfl))
 f319:=Tryz.func200.trans (congrArg some (by kernel_rfl))
 f320:=Tryz.func201.trans (congrArg some (by kernel_rfl))
 f337:=Tryz.func207.trans (congrArg some (by kernel_rfl))
 f338:=Tryz.func208.trans (congrArg some (by kernel_rfl))
 t0:=Tryz.underlying0
 a0:=Tryz.isAgg0
 z0:=Tryz.sizeOf0
 v0:=Tryz.zeroValue0
 t2:=Tryz.underlying2
 a2:=Tryz.isAgg2
 z2:=Tryz.sizeOf2
 v2:=Tryz.zeroValue2
 t3:=Tryz.underlying3
 a3:=Tryz.isAgg3
 z3:=Tryz.sizeOf3
 v3:=Tryz.zeroValue3
 t4:=Tryz.underlying4
 a4:=Tryz.isAgg4
 z4:=Tryz.sizeOf4
 v4:=Tryz.zeroValue4
 t5:=Tryz.underlying5
 a5:=Tryz.isAgg5
 z5:=Tryz.sizeOf5
 v5:=Tryz.zeroValue5
 t9:=Tryz.underlying9
 a9:=Tryz.isAgg9
 z9:=Tryz.sizeOf9
 v9:=Tryz.zeroValue9
 t20:=Tryz.underlying20
 a20:=Tryz.isAgg20
 z20:=Tryz.sizeOf20
 v20:=Tryz.zeroValue20
 t37:=Tryz.underlying190
 a37:=Tryz.isAgg190
 z37:=Tryz.sizeOf190
 v37:=Tryz.zeroValue190
 t46:=Tryz.underlying222
 a46:=Tryz.isAgg222
 z46:=Tryz.sizeOf222
 v46:=Tryz.zeroValue222
 t51:=Tryz.underlying237
 a51:=Tryz.isAgg237
 z51:=Tryz.sizeOf237
 v51:=Tryz.zeroValue237
 t53:=Tryz.underlying239
 a53:=Tryz.isAgg239
 z53:=Tryz.sizeOf239
 v53:=Tryz.zeroValue239
 t171:=Tryz.underlying247
 a171:=Tryz.isAgg247
 z171:=Tryz.sizeOf247
 v171:=Tryz.zeroValue247
 t173:=Tryz.underlying249
 a173:=Tryz.isAgg249
 z173:=Tryz.sizeOf249
 v173:=Tryz.zeroValue249
 t212:=Tryz.underlying263
 a212:=Tryz.isAgg263
 z212:=Tryz.sizeOf263
 v212:=Tryz.zeroValue263
 t213:=Tryz.underlying264
 a213:=Tryz.isAgg264
 z213:=Tryz.sizeOf264
 t232:=Tryz.underlying274
 a232:=Tryz.isAgg274
 z232:=Tryz.sizeOf274
 v232:=Tryz.zeroValue274
 t233:=Tryz.underlying275
 a233:=Tryz.isAgg275
 z233:=Tryz.sizeOf275
 v233:=Tryz.zeroValue275
 g17:=by kernel_rfl
 g18:=by kernel_rfl
 g19:=by kernel_rfl
 i0:=by kernel_rfl
 i2:=by kernel_rfl
 i3:=by kernel_rfl
 i4:=by kernel_rfl
 i5:=by kernel_rfl
 i9:=by kernel_rfl
 i20:=by kernel_rfl
 i37:=by kernel_rfl
 i46:=by kernel_rfl
 i51:=by kernel_rfl
 i53:=by kernel_rfl
 i171:=by kernel_rfl
 i173:=by kernel_rfl
 i212:=by kernel_rfl
 i232:=by kernel_rfl
 i233:=by kernel_rfl
 m17:=by kernel_rfl
 m18:=by kernel_rfl
 m19:=by kernel_rfl }
open Go.RowKit Go.Sort Go.Lib in
theorem Tryz.strconv_Itoa (n:Int) (h0:-9223372036854775808≤n) (h1:n≤9223372036854775807) (w:World) (htab:Lib.TabIs Tryz.prog w "internal/strconv.uint64pow10" .u64 Lib.pow10Tab) :
  Calls Tryz.prog 142 #[.int .i64 n] w fun e w'=>e=.returned (.string ⟨(Lib.itoa n).toArray⟩)∧∃ k os,w'=grow (w.drewN k) os:=Any.strconv_Itoa Tryz.laysM171 n h0 h1 w htab
def Tryz.laysC172_ren:Go.Shelf.Ren:=⟨fun | 172=>150 | 244=>160 | 245=>161 | 247=>177 | 279=>178 | 280=>179 | 281=>180 | 282=>181 | 287=>195 | 316=>196 | 171=>142 | 205=>197 | 321=>205 | 322=>206 | 243=>152 | 246=>163 | 283=>182 | 284=>183 | 285=>184 | 286=>185 | 129=>174 | 317=>198 | 318=>199 | 319=>200 | 320=>201 | 337=>207 | 338=>208 | n=>n,fun | 9=>9 | 3=>3 | 75=>207 | 76=>208 | 4=>4 | 5=>5 | 167=>241 | 37=>190 | 0=>0 | 85=>242 | 2=>2 | 168=>244 | 53=>239 | 175=>257 | 46=>222 | 210=>260 | 127=>218 | 145=>273 | 143=>271 | 21=>21 | 171=>247 | 173=>249 | 212=>263 | 51=>237 | 20=>20 | 213=>264 | 232=>274 | 233=>275 | 80=>211 | n=>n,fun | 15=>1 | 16=>2 | 17=>3 | 18=>4 | 19=>5 | n=>n⟩
theorem Tryz.laysC172:Go.Proofs.LaysC.n172 Tryz.prog Tryz.laysC172_ren:={
 mixed:=by kernel_rfl
 f129:=Tryz.func174.trans (congrArg some (by kernel_rfl))
 f171:=Tryz.func142.trans (congrArg some (by kernel_rfl))
 f172:=Tryz.func150.trans (congrArg some (by kernel_rfl))
 f205:=Tryz.func197.trans (congrArg some (by kernel_rfl))
 f243:=Tryz.func152.trans (congrArg some (by kernel_rfl))
 f244:=Tryz.func160.trans (congrArg some (by kernel_rfl))
 f245:=Tryz.func161.trans (congrArg some (by kernel_rfl))
 f246:=Tryz.func163.trans (congrArg some (by kernel_rfl))
 f247:=Tryz.func177.trans (congrArg some (by kernel_rfl))
 f279:=Tryz.func178.trans (congrArg some (by kernel_rfl))
 f280:=Tryz.func179.trans (congrArg some (by kernel_rfl))
 f281:=Tryz.func180.trans (congrArg some (by kernel_rfl))
 f282:=Tryz.func181.trans (congrArg some (by kernel_rfl))
 f283:=Tryz.func182.trans (congrArg some (by kernel_rfl))
 f284:=Tryz.func183.trans (congrArg some (by kernel_rfl))
 f285:=Tryz.func184.trans (congrArg some (by kernel_rfl))
 f286:=Tryz.func185.trans (congrArg some (by kernel_rfl))
 f287:=Tryz.func195.trans (congrArg some (by kernel_rfl))
 f316:=Tryz.func196.trans (congrArg some (by kernel_rfl))
 f317:=Tryz.func198.trans (congrArg some (by kernel_rfl))
 f318:=Tryz.func199.trans (congrArg some (by kernel_rfl))
 f319:=Tryz.func200.trans (congrArg some (by kernel_rfl))
 f320:=Tryz.func201.trans (congrArg some (by kernel_rfl))
 f321:=Tryz.func205.trans (congrArg some (by kernel_rfl))
 f322:=Tryz.func206.trans (congrArg some (by kernel_rfl))
 f337:=Tryz.func207.trans (congrArg some (by kernel_rfl))
 f338:=Tryz.func208.trans (congrArg some (by kernel_rfl))
 t0:=Tryz.underlying0
 a0:=Tryz.isAgg0
 z0:=Tryz.sizeOf0
 v0:=Tryz.zeroValue0
 t2:=Tryz.underlying2
 a2:=Tryz.isAgg2
 z2:=Tryz.sizeOf2
 v2:=Tryz.zeroValue2
 t3:=Tryz.underlying3
 a3:=Tryz.isAgg3
 z3:=Tryz.sizeOf3
 v3:=Tryz.zeroValue3
 t4:=Tryz.underlying4
 a4:=Tryz.isAgg4
 z4:=Tryz.sizeOf4
 v4:=Tryz.zeroValue4
 t5:=Tryz.underlying5
 a5:=Tryz.isAgg5
 z5:=Tryz.sizeOf5
 v5:=Tryz.zeroValue5
 t9:=Tryz.underlying9
 a9:=Tryz.isAgg9
 z9:=Tryz.sizeOf9
 v9:=Tryz.zeroValue9
 t20:=Tryz.underlying20
 a20:=Tryz.isAgg20
 z20:=Tryz.sizeOf20
 v20:=Tryz.zeroValue20
 t21:=Tryz.underlying21
 a21:=Tryz.isAgg21
 z21:=Tryz.sizeOf21
 v21:=Tryz.zeroValue21
 t37:=Tryz.underlying190
 a37:=Tryz.isAgg190
 z37:=Tryz.sizeOf190
 v37:=Tryz.zeroValue190
 t46:=Tryz.underlying222
 a46:=Tryz.isAgg222
 z46:=Tryz.sizeOf222
 v46:=Tryz.zeroValue222
 t51:=Tryz.underlying237
 a51:=Tryz.isAgg237
 z51:=Tryz.sizeOf237
 v51:=Tryz.zeroValue237
 t53:=Tryz.underlying239
 a53:=Tryz.isAgg239
 z53:=Tryz.sizeOf239
 v53:=Tryz.zeroValue239
 t75:=Tryz.underlying207
 a75:=Tryz.isAgg207
 z75:=Tryz.sizeOf207
 v75:=Tryz.zeroValue207
 t76:=Tryz.underlying208
 a76:=Tryz.isAgg208
 z76:=Tryz.sizeOf208
 v76:=Tryz.zeroValue208
 t85:=Tryz.underlying242
 a85:=Tryz.isAgg242
 z85:=Tryz.sizeOf242
 v85:=Tryz.zeroValue242
 t127:=Tryz.underlying218
 a127:=Tryz.isAgg218
 z127:=Tryz.sizeOf218
 v127:=Tryz.zeroValue218
 t143:=Tryz.underlying271
 a143:=Tryz.isAgg271
 z143:=Tryz.sizeOf271
 v143:=Tryz.zeroValue271
 t145:=Tryz.underlying273
 a145:=Tryz.isAgg273
 z145:=Tryz.sizeOf273
 v145:=Tryz.zeroValue273
 t167:=Tryz.underlying241
 a167:=Tryz.isAgg241
 z167:=Tryz.sizeOf241
 v167:=Tryz.zeroValue241
 t168:=Tryz.underlying244
 a168:=Tryz.isAgg244
 z168:=Tryz.sizeOf244
 v168:=Tryz.zeroValue244
 t171:=Tryz.underlying247
 a171:=Tryz.isAgg247
 z171:=Tryz.sizeOf247
 v171:=Tryz.zeroValue247
 t173:=Tryz.underlying249
 a173:=Tryz.isAgg249
 z173:=Tryz.sizeOf249
 v173:=Tryz.zeroValue249
 t175:=Tryz.underlying257
 a175:=Tryz.isAgg257
 z175:=Tryz.sizeOf257
 v175:=Tryz.zeroValue257
 t210:=Tryz.underlying260
 a210:=Tryz.isAgg260
 z210:=Tryz.sizeOf260
 v210:=Tryz.zeroValue260
 t212:=Tryz.underlying263
 a212:=Tryz.isAgg263
 z212:=Tryz.sizeOf263
 v212:=Tryz.zeroValue263
 t213:=Tryz.underlying264
 a213:=Tryz.isAgg264
 z213:=Tryz.sizeOf264
 t232:=Tryz.underlying274
 a232:=Tryz.isAgg274
 z232:=Tryz.sizeOf274
 v232:=Tryz.zeroValue274
 t233:=Tryz.underlying275
 a233:=Tryz.isAgg275
 z233:=Tryz.sizeOf275
 v233:=Tryz.zeroValue275
 g15:=by kernel_rfl
 g16:=by kernel_rfl
 g17:=by kernel_rfl
 g18:=by kernel_rfl
 g19:=by kernel_rfl
 t80:=Tryz.underlying211
 a80:=Tryz.isAgg211
 z80:=Tryz.sizeOf211
 v80:=Tryz.zeroValue211
 i0:=by kernel_rfl
 i2:=by kernel_rfl
 i3:=by kernel_rfl
 i4:=by kernel_rfl
 i5:=by kernel_rfl
 i9:=by kernel_rfl
 i20:=by kernel_rfl
 i21:=by kernel_rfl
 i37:=by kernel_rfl
 i46:=by kernel_rfl
 i51:=by kernel_rfl
 i53:=by kernel_rfl
 i75:=by kernel_rfl
 i76:=by kernel_rfl
 i80:=by kernel_rfl
 i85:=by kernel_rfl
 i127:=by kernel_rfl
 i143:=by kernel_rfl
 i145:=by kernel_rfl
 i167:=by kernel_rfl
 i168:=by kernel_rfl
 i171:=by kernel_rfl
 i173:=by kernel_rfl
 i175:=by kernel_rfl
 i210:=by kernel_rfl
 i212:=by kernel_rfl
 i232:=by kernel_rfl
 i233:=by kernel_rfl
 m15:=by kernel_rfl
 m16:=by kernel_rfl
 m17:=by kernel_rfl
 m18:=by kernel_rfl
 m19:=by kernel_rfl
 c0:=by kernel_rfl
 c2:=by kernel_rfl
 c3:=by kernel_rfl
 c4:=by kernel_rfl
 c5:=by kernel_rfl
 c9:=by kernel_rfl
 c20:=by kernel_rfl
 c21:=by kernel_rfl
 c37:=by kernel_rfl
 c46:=by kernel_rfl
 c51:=by kernel_rfl
 c53:=by kernel_rfl
 c75:=by kernel_rfl
 c76:=by kernel_rfl
 c80:=by kernel_rfl
 c85:=by kernel_rfl
 c127:=by kernel_rfl
 c143:=by kernel_rfl
 c145:=by kernel_rfl
 c167:=by kernel_rfl
 c168:=by kernel_rfl
 c171:=by kernel_rfl
 c173:=by kernel_rfl
 c175:=by kernel_rfl
 c210:=by kernel_rfl
 c212:=by kernel_rfl
 c213:=by kernel_rfl
 c232:=by kernel_rfl
 c233:=by kernel_rfl }
open Go.RowKit in
theorem Tryz.strconv_Atoi_ok (s:ByteArray) (hmax:s.size≤9223372036854775806) (v:Int) (h:Lib.atoiAll s.data.toList=.ok v) (w:World) :
  Calls Tryz.prog 150 #[.string s] w fun e w'=>e=.returned (.tuple #[.int .i64 v,.nilIface])∧(w'=w∨∃ t,w'=Lib.bytesWorld w 5 t):=Any.strconv_Atoi_ok Tryz.laysC172 s hmax v h w
open Go.RowKit in
theorem Tryz.strconv_Atoi_syntax (s:ByteArray) (hlim:s.size≤281474976710656) (h:Lib.atoiAll s.data.toList=Go.Lib.NumEnd.syntax) (ev:Value) (w:World) (hv:w.cell? ⟨1,0,none⟩=some ev) (hev:ev=.nilIface∨∃ te pe,ev=.iface te pe) :
  Calls Tryz.prog 150 #[.string s] w fun e w'=>∃ N,e=.returned (.tuple #[.int .i64 (0),.iface 244 (.pointer (some ⟨N,0,none⟩))])∧w.heap.size≤N∧w'.heap[N]?=some (.cells #[.string ⟨#[65,116,111,105]⟩,.string s,ev] 260 (0,0))∧Below w.heap.size w w':=Any.strconv_Atoi_syntax Tryz.laysC172 s hlim h ev w hv hev
open Go.RowKit in
theorem Tryz.strconv_Atoi_range (s:ByteArray) (hlim:s.size≤281474976710656) (h:Lib.atoiAll s.data.toList=.range) (ev:Value) (w:World) (hv:w.cell? ⟨2,0,none⟩=some ev) (hev:ev=.nilIface∨∃ te pe,ev=.iface te pe) :
  Calls Tryz.prog 150 #[.string s] w fun e w'=>∃ N,e=.returned (.tuple #[.int .i64 (Lib.atoiSat s.data.toList),.iface 244 (.pointer (some ⟨N,0,none⟩))])∧w.heap.size≤N∧w'.heap[N]?=some (.cells #[.string ⟨#[65,116,111,105]⟩,.string s,ev] 260 (0,0))∧Below w.heap.size w w':=Any.strconv_Atoi_range Tryz.laysC172 s hlim h ev w hv hev
def Tryz.lays219_ren:Go.Shelf.Ren:=⟨fun | 219=>176 | 217=>191 | 225=>192 | 224=>193 | 267=>194 | 266=>203 | 314=>204 | n=>n,fun | 9=>9 | 3=>3 | 4=>4 | 5=>5 | 46=>222 | 146=>268 | 51=>237 | n=>n,fun | 1=>0 | n=>n⟩
theorem Tryz.lays219:Go.Proofs.Lays.n219 Tryz.prog Tryz.lays219_ren:={
 mixed:=by kernel_rfl
 f217:=Tryz.func191.trans (congrArg some (by kernel_rfl))
 f219:=Tryz.func176.trans (congrArg some (by kernel_rfl))
 f224:=Tryz.func193.trans (congrArg some (by kernel_rfl))
 f225:=Tryz.func192.trans (congrArg some (by kernel_rfl))
 f266:=Tryz.func203.trans (congrArg some (by kernel_rfl))
 f267:=Tryz.func194.trans (congrArg some (by kernel_rfl))
 f314:=Tryz.func204.trans (congrArg some (by kernel_rfl))
 t3:=Tryz.underlying3
 a3:=Tryz.isAgg3
 z3:=Tryz.sizeOf3
 v3:=Tryz.zeroValue3
 t4:=Tryz.underlying4
 a4:=Tryz.isAgg4
 z4:=Tryz.sizeOf4
 v4:=Tryz.zeroValue4
 t5:=Tryz.underlying5
 a5:=Tryz.isAgg5
 z5:=Tryz.sizeOf5
 v5:=Tryz.zeroValue5
 t9:=Tryz.underlying9
 a9:=Tryz.isAgg9
 z9:=Tryz.sizeOf9
 v9:=Tryz.zeroValue9
 t46:=Tryz.underlying222
 a46:=Tryz.isAgg222
 z46:=Tryz.sizeOf222
 v46:=Tryz.zeroValue222
 t51:=Tryz.underlying237
 a51:=Tryz.isAgg237
 z51:=Tryz.sizeOf237
 v51:=Tryz.zeroValue237
 t146:=Tryz.underlying268
 a146:=Tryz.isAgg268
 z146:=Tryz.sizeOf268
 v146:=Tryz.zeroValue268
 g1:=by kernel_rfl }
open Go.RowKit Go.Lib in
theorem Tryz.stringslite_Index_one (s:ByteArray) (c:UInt8) (w:World) :
  Calls Tryz.prog 176 #[.string s,.string ⟨#[c]⟩] w fun e w'=>e=.returned (.int .i64 (Lib.indexByte s.data.toList c))∧w'=w:=Any.stringslite_Index_one Tryz.lays219 s c w
def rhoB:Go.Shelf.Ren:=⟨fun x=>if x=166 then 141 else if x=240 then 151 else if x=276 then 162 else if x=169 then 143 else 0,fun x=>if x=72 then 204 else if x=70 then 202 else if x=37 then 190 else if x=164 then 225 else if x=75 then 207 else if x=127 then 218 else if x=80 then 211 else x,fun x=>x⟩
theorem lays166B:Go.Proofs.Lays.n166 Tryz.prog rhoB where
 mixed:=by kernel_rfl
 f166:=by kernel_rfl
 f240:=by kernel_rfl
 f276:=by kernel_rfl
 t0:=by kernel_rfl
 a0:=fun w=>by kernel_rfl
 z0:=fun w=>by kernel_rfl
 v0:=fun w=>by kernel_rfl
 t3:=by kernel_rfl
 a3:=fun w=>by kernel_rfl
 z3:=fun w=>by kernel_rfl
 v3:=fun w=>by kernel_rfl
 t4:=by kernel_rfl
 a4:=fun w=>by kernel_rfl
 z4:=fun w=>by kernel_rfl
 v4:=fun w=>by kernel_rfl
 t9:=by kernel_rfl
 a9:=fun w=>by kernel_rfl
 z9:=fun w=>by kernel_rfl
 v9:=fun w=>by kernel_rfl
 t20:=by kernel_rfl
 a20:=fun w=>by kernel_rfl
 z20:=fun w=>by kernel_rfl
 v20:=fun w=>by kernel_rfl
 t37:=by kernel_rfl
 a37:=fun w=>by kernel_rfl
 z37:=fun w=>by kernel_rfl
 v37:=fun w=>by kernel_rfl
 t70:=by kernel_rfl
 a70:=fun w=>by kernel_rfl
 z70:=fun w=>by kernel_rfl
 v70:=fun w=>by kernel_rfl
 t72:=by kernel_rfl
 a72:=fun w=>by kernel_rfl
 z72:=fun w=>by kernel_rfl
 v72:=fun w=>by kernel_rfl
 t75:=by kernel_rfl
 a75:=fun w=>by kernel_rfl
 z75:=fun w=>by kernel_rfl
 v75:=fun w=>by kernel_rfl
 t164:=by kernel_rfl
 a164:=fun w=>by kernel_rfl
 z164:=fun w=>by kernel_rfl
 v164:=fun w=>by kernel_rfl
theorem extraB:Go.Proofs.Builder.Extra Tryz.prog rhoB where
 sizeBuilder:=by kernel_rfl
 liesBuilder:=by kernel_rfl
 t5:=by kernel_rfl
 a5:=fun w=>by kernel_rfl
 z5:=fun w=>by kernel_rfl
 v5:=fun w=>by kernel_rfl
 infoByte:=by kernel_rfl
 cellsByte:=by kernel_rfl
 sizeByte:=by kernel_rfl
 neB5:=by decide
theorem Tryz.Builder_WriteString_f (B b:Nat) (bs:List Value) (s:ByteArray) (w:World) (h:Lib.IsBuilderF 204 5 B b bs w) (hlen:bs.length+s.size≤140737488355328) (hBw:B≤w.heap.size) :
  Calls Tryz.prog 141 #[.pointer (some ⟨b,0,none⟩),.string s] w fun e w'=>e=.returned (.tuple #[.int .i64 s.size,.nilIface])∧(Lib.BuilderAtF 204 5 B b (.pointer (some ⟨b,0,none⟩)) (bs++Lib.strCells s) w'∧RowKit.Below B w w'):=Any.Builder_WriteString_f lays166B extraB B b bs s w h hlen hBw
end Go.Proofs
namespace Go.VE
open Go.RowKit Go.Proofs Go.Lib
set_option maxRecDepth 100000
set_option maxHeartbeats 4000000
theorem half132 (n:Nat) (h:n≤100000) (w:World):Calls Tryz.prog 132 #[.int .i64 n] w fun e w'=>e=.returned (.int .i64 ((n+1) / 2:Nat))∧w'=w:=by
 have e:((n:Int)+1) / 2=((n+1) / 2:Nat):=by omega
 go_enter Tryz.func132,Tryz.ntmps132
 go_wp2
 go_ret
 refine ⟨?_,rfl⟩
 show Ending.returned (Value.int .i64 (((n:Int)+1) / 2))=_
 rw [e]
def pads (s:List UInt8):List UInt8:=s++if s.length % 2=1 then [32] else []
theorem pads_len {s:List UInt8} {n:Nat} (h:(s.length+1) / 2=n):(pads s).length=2*n:=by
 unfold pads
 split
 ·simp only [List.length_append,List.length_cons,List.length_nil];omega
 ·simp only [List.length_append,List.length_nil];omega
theorem pads_ok {s:List UInt8} (h:s.all okB=true) {i:Nat} {x:UInt8} (hx:(pads s)[i]?=some x):32≤x.toNat∧x.toNat≤126:=by
 have hm:=List.mem_of_getElem? hx
 unfold pads at hm
 rcases List.mem_append.1 hm with hm | hm
 ·exact okB_bnd (List.all_eq_true.1 h x hm)
 ·split at hm
  ·simp at hm;subst hm;decide
  ·cases hm
theorem duo_pads:∀ (s:List UInt8) (i:Nat) (x y:UInt8),(pads s)[2*i]?=some x→(pads s)[2*i+1]?=some y→(duo s)[i]?=some (x,y)
 | [],i,x,y,h,_=>by simp [pads] at h
 | [a],0,x,y,h,h'=>by simp [pads] at h h';simp [duo,h,h']
 | [a],i+1,x,y,h,_=>by simp [pads,show 2*(i+1)=2*i+1+1 by omega] at h
 | a::b::r,0,x,y,h,h'=>by simp [pads] at h h';simp [duo,h,h']
 | a::b::r,i+1,x,y,h,h'=>by
  have e:pads (a::b::r)=a::b::pads r:=by
   simp only [pads,List.length_cons,show (r.length+1+1) % 2=r.length % 2 by omega,List.cons_append]
  rw [e,show 2*(i+1)=2*i+1+1 by omega] at h h'
  rw [duo,List.getElem?_cons_succ]
  exact duo_pads r i x y (by simpa using h) (by simpa using h')
theorem third_at {s:List UInt8} {i:Nat} {x y:UInt8} (hx:(pads s)[2*i]?=some x) (hy:(pads s)[2*i+1]?=some y) (q:Nat):(third q s)[i]?=some (pick3 q (x,y)):=by
 rw [third,List.getElem?_map,duo_pads s i x y hx hy]
 rfl
def rowQ (q:Nat) (s:List UInt8) (n i:Nat):Array Value:=(byteCells ((third q s).take i)++List.replicate (n - i) (Value.int .u8 0)).toArray
theorem rowQ_set {q:Nat} {s:List UInt8} {n i:Nat} {b:UInt8} (hn:(s.length+1) / 2=n) (hi:i < n) (h:(third q s)[i]?=some b):(rowQ q s n i).setIfInBounds i (Value.int .u8 b.toNat)=rowQ q s n (i+1):=by
 have hl:(byteCells ((third q s).take i)).length=i:=by
  rw [byteCells_length,List.length_take,third_len,hn];omega
 unfold rowQ
 rw [List.setIfInBounds_toArray]
 congr 1
 rw [List.set_append_right _ _ (by omega),hl,Nat.sub_self,show n - i=(n - (i+1))+1 by omega,List.replicate_succ,List.set_cons_zero,List.take_add_one,h]
 simp [byteCells]
theorem rowQ_zero (q:Nat) (s:List UInt8) (n:Nat):rowQ q s n 0=madeCells #[.int .u8 0] n:=by
 unfold rowQ madeCells
 apply Array.ext
 ·simp [byteCells]
 ·intro j h1 h2
  simp [byteCells,Nat.mod_one]
theorem rowQ_full {q:Nat} {s:List UInt8} {n:Nat} (hn:(s.length+1) / 2=n):rowQ q s n n=(byteCells (third q s)).toArray:=by
 unfold rowQ
 rw [Nat.sub_self,List.take_of_length_le (by rw [third_len,hn];exact Nat.le_refl _)]
 simp
theorem rowQ_at {q:Nat} {s:List UInt8} {n i:Nat} (hn:(s.length+1) / 2=n) (hi:i < n):(rowQ q s n i)[i]?=some (.int .u8 0):=by
 have hl:(byteCells ((third q s).take i)).length=i:=by
  rw [byteCells_length,List.length_take,third_len,hn];omega
 unfold rowQ
 rw [List.getElem?_toArray,List.getElem?_append_right (by omega),hl,Nat.sub_self,show n - i=(n - (i+1))+1 by omega,List.replicate_succ,List.getElem?_cons_zero]
structure Thr (s:List UInt8) (n:Nat) (w:World) (i:Nat) (wr:World):Prop where
 bx:wr.heap[w.heap.size]?=some (.cells #[.string ⟨#[]⟩,.string ⟨#[]⟩,.string ⟨#[]⟩] 186 (0,0))
 ob:wr.heap[w.heap.size+1]?=some (.cells #[.slice (some ⟨w.heap.size+1+1,0,none⟩) n n,.slice (some ⟨w.heap.size+1+1+1,0,none⟩) n n,.slice (some ⟨w.heap.size+1+1+1+1,0,none⟩) n n] 215 (0,0))
 r0:wr.heap[w.heap.size+1+1]?=some (.cells (rowQ 0 s n i) 5 (0,0))
 r1:wr.heap[w.heap.size+1+1+1]?=some (.cells (rowQ 1 s n i) 5 (0,0))
 r2:wr.heap[w.heap.size+1+1+1+1]?=some (.cells (rowQ 2 s n i) 5 (0,0))
 pd:wr.heap[w.heap.size+1+1+1+1+1]?=some (.cells (byteCells (pads s)).toArray 5 (0,0))
 be:Below w.heap.size w wr
theorem setC_same {w:World} {b i t:Nat} {cs:Array Value} {v:Value} (h:w.heap[b]?=some (.cells cs t (0,0))):(w.setCell ⟨b,i,none⟩ v).heap[b]?=some (.cells (cs.setIfInBounds i v) t (0,0)):=by
 obtain ⟨hb,e⟩:=Array.getElem?_eq_some_iff.1 h
 simp [World.setCell,hb,Array.getElem_modify,e]
theorem setC_other {w:World} {b i k:Nat} {v:Value} (h:k≠b):(w.setCell ⟨b,i,none⟩ v).heap[k]?=w.heap[k]?:=Below.heap_setCell _ _ _ _ h
theorem Thr.next {s:List UInt8} {n:Nat} {w wr:World} {i:Nat} (hk:Thr s n w i wr) (hn:(s.length+1) / 2=n) (hi:i < n) {x y:UInt8} (x1:32≤x.toNat) (y1:32≤y.toNat) (hx:(pads s)[2*i]?=some x) (hy:(pads s)[2*i+1]?=some y) :
  Thr s n w (i+1) (((wr.setCell ⟨w.heap.size+1+1,i,none⟩ (.int .u8 x.toNat)).setCell ⟨w.heap.size+1+1+1,i,none⟩ (.int .u8 y.toNat)).setCell ⟨w.heap.size+1+1+1+1,i,none⟩ (.int .u8 (32+((x.toNat:Int) - 32+((y.toNat:Int) - 32)) % 95))).drew.drew:=by
 have e0:=rowQ_set hn hi (third_at hx hy 0)
 have e1:=rowQ_set hn hi (third_at hx hy 1)
 have e2:=rowQ_set hn hi (third_at hx hy 2)
 have p0:pick3 0 (x,y)=x:=rfl
 have p1:pick3 1 (x,y)=y:=rfl
 have p2:((pick3 2 (x,y)).toNat:Int)=32+((x.toNat:Int) - 32+((y.toNat:Int) - 32)) % 95:=by
  show ((addB x y).toNat:Int)=_
  rw [addB_nat]
  omega
 rw [p0] at e0
 rw [p1] at e1
 rw [p2] at e2
 refine ⟨?_,?_,?_,?_,?_,?_,?_⟩
 ·exact (setC_other (by omega)).trans ((setC_other (by omega)).trans ((setC_other (by omega)).trans hk.bx))
 ·exact (setC_other (by omega)).trans ((setC_other (by omega)).trans ((setC_other (by omega)).trans hk.ob))
 ·have:=setC_same (i:=i) (v:=.int .u8 x.toNat) hk.r0
  rw [e0] at this
  exact (setC_other (by omega)).trans ((setC_other (by omega)).trans this)
 ·have:=setC_same (i:=i) (v:=.int .u8 y.toNat) ((setC_other (b:=w.heap.size+1+1) (i:=i) (v:=.int .u8 x.toNat) (by omega)).trans hk.r1)
  rw [e1] at this
  exact (setC_other (by omega)).trans this
 ·have:=setC_same (i:=i) (v:=.int .u8 (32+((x.toNat:Int) - 32+((y.toNat:Int) - 32)) % 95)) ((setC_other (b:=w.heap.size+1+1+1) (i:=i) (v:=.int .u8 y.toNat) (by omega)).trans ((setC_other (b:=w.heap.size+1+1) (i:=i) (v:=.int .u8 x.toNat) (by omega)).trans hk.r2))
  rw [e2] at this
  exact this
 ·exact (setC_other (by omega)).trans ((setC_other (by omega)).trans ((setC_other (by omega)).trans hk.pd))
 ·exact ((((hk.be.setCell (p:=⟨w.heap.size+1+1,i,none⟩) (by simp;omega) _).setCell (p:=⟨w.heap.size+1+1+1,i,none⟩) (by simp;omega) _).setCell (p:=⟨w.heap.size+1+1+1+1,i,none⟩) (by simp;omega) _).drew).drew
theorem bytes_of {s:List UInt8} {n q:Nat} {wr:World} {blk:Nat} (hn:(s.length+1) / 2=n) (hb:wr.heap[blk]?=some (.cells (rowQ q s n n) 5 (0,0))) :
  (convert 190 9 (.slice (some ⟨blk,0,none⟩) n n)).run Tryz.prog wr=.ok (.string ⟨(third q s).toArray⟩) wr:=by
 have hl:(third q s).length=n:=by rw [third_len,hn]
 rw [rowQ_full hn] at hb
 have:=run_convert_bytes_back (P:=Tryz.prog) wr 190 9 5 ⟨blk,0,none⟩ n (third q s) Tryz.underlying190 Tryz.underlying5 Tryz.underlying9 (by
  intro j hj
  rw [Addr.add_lit,Go.Joins.cell_of_block hb,Nat.zero_add]
  simp [byteCells,hj])
 rwa [hl] at this
theorem pad_row {s:List UInt8} {n:Nat} (h0:0 < s.length) (hn:(s.length+1) / 2=n) (hsz:(⟨s.toArray⟩:ByteArray).size=s.length) :
  (List.take 0 ((madeCells #[Value.int IntKind.u8 0] (2*n)).setIfInBounds (2*n - 1) (Value.int IntKind.u8 32)).toList++byteCells (ByteArray.mk s.toArray).data.toList++List.drop (0+(ByteArray.mk s.toArray).size) ((madeCells #[Value.int IntKind.u8 0] (2*n)).setIfInBounds (2*n - 1) (Value.int IntKind.u8 32)).toList).toArray=(byteCells (pads s)).toArray:=by
 congr 1
 rw [hsz,List.take_zero,List.nil_append,Nat.zero_add]
 show byteCells s++_=_
 unfold pads
 have hl:(madeCells #[Value.int IntKind.u8 0] (2*n)).size=2*n:=size_madeCells _ _
 by_cases h2:s.length % 2=1
 ·rw [if_pos h2]
  have e:s.length=2*n - 1:=by omega
  rw [Array.toList_setIfInBounds,List.drop_set,if_neg (by omega),e,Nat.sub_self]
  have hd:∃ v,List.drop (2*n - 1) (madeCells #[Value.int IntKind.u8 0] (2*n)).toList=[v]:=by
   refine List.length_eq_one_iff.1 ?_
   rw [List.length_drop,Array.length_toList,hl]
   omega
  obtain ⟨v,hv⟩:=hd
  rw [hv]
  simp [byteCells]
 ·rw [if_neg h2]
  have e:s.length=2*n:=by omega
  rw [List.drop_of_length_le (by simp [hl,e])]
  simp
theorem five (w:World) (a b c d e:Obj):(((((w.alloc a).alloc b).alloc c).alloc d).alloc e).heap[w.heap.size]?=some a∧(((((w.alloc a).alloc b).alloc c).alloc d).alloc e).heap[w.heap.size+1]?=some b∧(((((w.alloc a).alloc b).alloc c).alloc d).alloc e).heap[w.heap.size+1+1]?=some c ∧
  (((((w.alloc a).alloc b).alloc c).alloc d).alloc e).heap[w.heap.size+1+1+1]?=some d∧(((((w.alloc a).alloc b).alloc c).alloc d).alloc e).heap[w.heap.size+1+1+1+1]?=some e:=by
 simp only [World.alloc]
 refine ⟨?_,?_,?_,?_,?_⟩
 ·rw [Array.getElem?_push,if_neg (by simp only [Array.size_push];omega),Array.getElem?_push,if_neg (by simp only [Array.size_push];omega),Array.getElem?_push,if_neg (by simp only [Array.size_push];omega),Array.getElem?_push,if_neg (by simp only [Array.size_push];omega),Array.getElem?_push,if_pos (by simp only [Array.size_push])]
 ·rw [Array.getElem?_push,if_neg (by simp only [Array.size_push];omega),Array.getElem?_push,if_neg (by simp only [Array.size_push];omega),Array.getElem?_push,if_neg (by simp only [Array.size_push];omega),Array.getElem?_push,if_pos (by simp only [Array.size_push])]
 ·rw [Array.getElem?_push,if_neg (by simp only [Array.size_push];omega),Array.getElem?_push,if_neg (by simp only [Array.size_push];omega),Array.getElem?_push,if_pos (by simp only [Array.size_push])]
 ·rw [Array.getElem?_push,if_neg (by simp only [Array.size_push];omega),Array.getElem?_push,if_pos (by simp only [Array.size_push])]
 ·rw [Array.getElem?_push,if_pos (by simp only [Array.size_push])]
theorem thirds_c (s:List UInt8) (h0:0 < s.length) (h1:s.length≤1000) (hok:s.all okB=true) (w:World):Calls Tryz.prog 130 #[.string ⟨s.toArray⟩] w fun e w' =>
  e=.returned (.agg #[.string ⟨(third 0 s).toArray⟩,.string ⟨(third 1 s).toArray⟩,.string ⟨(third 2 s).toArray⟩])∧Below w.heap.size w w':=by
 obtain ⟨n,hn⟩:∃ n,(s.length+1) / 2=n:=⟨_,rfl⟩
 have hsz:(⟨s.toArray⟩:ByteArray).size=s.length:=by simp [ByteArray.size]
 have hhalf:∀ w,Calls Tryz.prog 132 #[.int .i64 s.length] w fun e w'=>e=.returned (.int .i64 n)∧w'=w:=fun w=>by
  have:=half132 s.length (by omega) w
  rwa [hn] at this
 have hmk:=fun w=>run_make_row' (P:=Tryz.prog) 190 5 (.int .u8 0) 1 Tryz.underlying190 (by kernel_rfl) rfl .i64 .i64 n (by omega) (by omega) w
 have q1:(0:Int)≤2*(n:Int) - 1:=by omega
 have q2:2*(n:Int) - 1 < 2*(n:Int):=by omega
 have q3:(2*(n:Int) - 1).toNat=2*n - 1:=by omega
 go_enter Tryz.func130,Tryz.ntmps130
 go_wp2_with (go_at_call 132;refine (hhalf _).mono ?_;rintro e w' ⟨rfl,rfl⟩)
 refine wp_loop_rounds 4 ?_
 rw [rounds_succ]
 go_wp2
 rw [rounds_succ]
 go_wp2
 rw [rounds_succ]
 go_wp2
 rw [rounds_succ]
 go_wp2
 obtain ⟨W,hW⟩:∃ W,(((((w.alloc (Obj.cells #[Value.string { data:=#[] },Value.string { data:=#[] },Value.string { data:=#[] }] 186)).alloc (Obj.cells #[Value.slice (some { block:=w.heap.size+1+1,off:=0 }) n n,Value.slice (some { block:=w.heap.size+1+1+1,off:=0 }) n n,Value.slice (some { block:=w.heap.size+1+1+1+1,off:=0 }) n n] 215)).alloc (Obj.cells (madeCells #[Value.int IntKind.u8 0] n) 5)).alloc (Obj.cells (madeCells #[Value.int IntKind.u8 0] n) 5)).alloc (Obj.cells (madeCells #[Value.int IntKind.u8 0] n) 5))=W:=⟨_,rfl⟩
 rw [hW]
 have hmk2:∀ w:World,(Instr.makeSlice 190 (.int .i64 (2*(n:Int))) (.int .i64 (2*(n:Int)))).run Tryz.prog w=.ok (.slice (some ⟨w.heap.size,0,none⟩) (2*n) (2*n)) (w.alloc (.cells (madeCells #[.int .u8 0] (2*n)) 5)):=fun w=>by
  have:=run_make_row' (P:=Tryz.prog) 190 5 (.int .u8 0) 1 Tryz.underlying190 (by kernel_rfl) rfl .i64 .i64 (2*n) (by omega) (by omega) w
  simpa using this
 have hs5:(madeCells #[Value.int IntKind.u8 0] (2*n)).size=2*n:=size_madeCells _ _
 have hl5:2*n - 1 < 2*n:=by omega
 have hc5:(W.alloc (Obj.cells (madeCells #[Value.int IntKind.u8 0] (2*n)) 5)).cell? ⟨W.heap.size,2*n - 1,none⟩=some (.int .u8 0):=by
  rw [Go.Joins.cell_of_block (heap_alloc_new W _)]
  simp [madeCells,Nat.mod_one,hl5]
 rw [hmk2]
 go_wp2
 have hWs:W.heap.size=w.heap.size+1+1+1+1+1:=by rw [←hW];simp
 have hcp:=run_copy_row_string (P:=Tryz.prog) (W.alloc (Obj.cells ((madeCells #[Value.int IntKind.u8 0] (2*n)).setIfInBounds (2*n - 1) (Value.int IntKind.u8 32)) 5)) 190 9 3 5 W.heap.size 0 (2*n) (2*n) ⟨s.toArray⟩ _ 5 Tryz.underlying190 (by kernel_rfl) (heap_alloc_new W _) (by omega) (by simp only [Array.size_setIfInBounds,size_madeCells];omega)
 rw [hcp]
 clear hcp
 rw [hWs]
 obtain ⟨V,hV⟩:∃ V,(W.alloc (Obj.cells ((madeCells #[Value.int IntKind.u8 0] (2*n)).setIfInBounds (2*n - 1) (Value.int IntKind.u8 32)) 5)).setRow (w.heap.size+1+1+1+1+1) (List.take 0 ((madeCells #[Value.int IntKind.u8 0] (2*n)).setIfInBounds (2*n - 1) (Value.int IntKind.u8 32)).toList++byteCells (ByteArray.mk s.toArray).data.toList++List.drop (0+(ByteArray.mk s.toArray).size) ((madeCells #[Value.int IntKind.u8 0] (2*n)).setIfInBounds (2*n - 1) (Value.int IntKind.u8 32)).toList).toArray=V:=⟨_,rfl⟩
 rw [hV]
 have hT:Thr s n w 0 V:=by
  have hW2:∀ k,k < w.heap.size+1+1+1+1+1→V.heap[k]?=W.heap[k]?:=fun k hk=>by
   rw [←hV,setRow_other _ _ _ _ (by omega)]
   exact heap_alloc_old W _ (by omega)
  have hg:=setRow_heap (W.alloc (Obj.cells ((madeCells #[Value.int IntKind.u8 0] (2*n)).setIfInBounds (2*n - 1) (Value.int IntKind.u8 32)) 5)) W.heap.size _ (List.take 0 ((madeCells #[Value.int IntKind.u8 0] (2*n)).setIfInBounds (2*n - 1) (Value.int IntKind.u8 32)).toList++byteCells (ByteArray.mk s.toArray).data.toList++List.drop (0+(ByteArray.mk s.toArray).size) ((madeCells #[Value.int IntKind.u8 0] (2*n)).setIfInBounds (2*n - 1) (Value.int IntKind.u8 32)).toList).toArray 5 (0,0) (heap_alloc_new W _)
  rw [hWs,hV,pad_row h0 hn hsz] at hg
  have hb:Below w.heap.size w V:=by
   rw [←hV]
   refine below_setRow ?_ (by omega) _
   rw [←hW]
   exact (((((((Below.refl _ w).alloc (Nat.le_refl _) _).alloc (by simp) _).alloc (by simp;omega) _).alloc (by simp;omega) _).alloc (by simp;omega) _).alloc (by simp;omega) _)
  rw [←hW] at hW2
  refine ⟨(hW2 _ (by omega)).trans ?_,(hW2 _ (by omega)).trans ?_,(hW2 _ (by omega)).trans ?_,(hW2 _ (by omega)).trans ?_,(hW2 _ (by omega)).trans ?_,hg,hb⟩
  ·exact (five w _ _ _ _ _).1
  ·exact (five w _ _ _ _ _).2.1
  ·rw [rowQ_zero];exact (five w _ _ _ _ _).2.2.1
  ·rw [rowQ_zero];exact (five w _ _ _ _ _).2.2.2.1
  ·rw [rowQ_zero];exact (five w _ _ _ _ _).2.2.2.2
 clear hc5 hV hWs hmk hmk2 hhalf hW
 clear W
 clear hs5
 rw [Result.andThen_ok,Oper.upon_value]
 go_wp2
 have hpl:=pads_len hn
 go_loopg [33] n (fun g z33 wr=>∃ i:Nat,z33=.int .i64 i∧i+g=n∧Thr s n w i wr)
 case atStart=>exact ⟨0,rfl,by omega,hT⟩
 case round =>
  obtain ⟨i,rfl,hg,hk⟩:=hrel
  clear hT
  by_cases hi:i < n
  ·obtain ⟨g,rfl⟩:∃ g,gk=g+1:=⟨gk - 1,by omega⟩
   obtain ⟨x,hx⟩:∃ x,(pads s)[2*i]?=some x:=⟨_,List.getElem?_eq_getElem (by omega)⟩
   obtain ⟨y,hy⟩:∃ y,(pads s)[2*i+1]?=some y:=⟨_,List.getElem?_eq_getElem (by omega)⟩
   have c0:wr.cell? ⟨w.heap.size+1+1+1+1+1,2*i,none⟩=some (.int .u8 x.toNat):=by
    rw [Go.Joins.cell_of_block hk.pd]
    simp [byteCells,hx]
   have c1:wr.cell? ⟨w.heap.size+1+1+1+1+1,2*i+1,none⟩=some (.int .u8 y.toNat):=by
    rw [Go.Joins.cell_of_block hk.pd]
    simp [byteCells,hy]
   have d0:=Go.Joins.cell_of_block hk.ob 0
   have d1:=Go.Joins.cell_of_block hk.ob 1
   have d2:=Go.Joins.cell_of_block hk.ob 2
   have e0:=(Go.Joins.cell_of_block hk.r0 i).trans (rowQ_at hn hi)
   have e1:=(Go.Joins.cell_of_block hk.r1 i).trans (rowQ_at hn hi)
   have e2:=(Go.Joins.cell_of_block hk.r2 i).trans (rowQ_at hn hi)
   have f0:=Go.Joins.unfrozen_of_block hk.r0 i
   have f1:=Go.Joins.unfrozen_of_block hk.r1 i
   have f2:=Go.Joins.unfrozen_of_block hk.r2 i
   have i1:(2:Int)*(i:Int) < 2*(n:Int):=by omega
   have i2:(2:Int)*(i:Int)+1 < 2*(n:Int):=by omega
   have i3:(i:Int) < (n:Int):=by omega
   obtain ⟨x1,x2⟩:=pads_ok hok hx
   obtain ⟨y1,y2⟩:=pads_ok hok hy
   go_wp2
   go_region
   go_wp2
   go_region
   go_wp2
   go_roundg g
   case measure=>omega
   case rel=>exact ⟨i+1,by simp,by omega,hk.next hn hi x1 y1 hx hy⟩
  ·obtain rfl:i=n:=by omega
   obtain rfl:gk=0:=by omega
   have d0:=Go.Joins.cell_of_block hk.ob 0
   have d1:=Go.Joins.cell_of_block hk.ob 1
   have d2:=Go.Joins.cell_of_block hk.ob 2
   have b0:=Go.Joins.cell_of_block hk.bx 0
   have b1:=Go.Joins.cell_of_block hk.bx 1
   have b2:=Go.Joins.cell_of_block hk.bx 2
   have g0:=Go.Joins.unfrozen_of_block hk.bx 0
   have g1:=Go.Joins.unfrozen_of_block hk.bx 1
   have g2:=Go.Joins.unfrozen_of_block hk.bx 2
   have hv:=fun (q:Nat) (blk:Nat) (hb:wr.heap[blk]?=some (.cells (rowQ q s i i) 5 (0,0)))=>bytes_of (q:=q) (blk:=blk) hn hb
   have hv0:=hv 0 _ hk.r0
   have hv1:=hv 1 _ hk.r1
   have hv2:=hv 2 _ hk.r2
   clear hv
   go_wp2
   have hb3:=setC_same (i:=2) (v:=.string ⟨(third 2 s).toArray⟩) (setC_same (i:=1) (v:=.string ⟨(third 1 s).toArray⟩) (setC_same (i:=0) (v:=.string ⟨(third 0 s).toArray⟩) hk.bx))
   refine ⟨rfl,_,results_cell_row (p:=2) (ty:=186) Tryz.results130 _ _ w.heap.size 186 _ (0,0) _ rfl hb3 Tryz.underlying186 rfl (by kernel_rfl),rfl,?_⟩
   exact (((hk.be.setCell (p:=⟨w.heap.size,0,none⟩) (Nat.le_refl _) _).setCell (p:=⟨w.heap.size,1,none⟩) (Nat.le_refl _) _).setCell (p:=⟨w.heap.size,2,none⟩) (Nat.le_refl _) _)
end Go.VE
