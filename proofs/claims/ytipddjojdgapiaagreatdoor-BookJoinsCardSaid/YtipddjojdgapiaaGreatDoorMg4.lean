/- Book: the shelf's contract of SortFunc, laid at this program (lines written by the kit's lay-plain.mjs). -/
import Derived.Shelf.SlSortCmp.WholeK
import Derived.KernelRfl
import Derived.Test.YtipddjojdgapiaaGreatDoorChecked
import Derived.Test.YtipddjojdgapiaaGreatDoorMg3
import Derived.Test.YtipddjojdgapiaaGreatDoorMp
import Derived.Deep.RegionWith
import Derived.StillTailTactics
import Derived.Test.YtipddjojdgapiaaGreatDoorMt
import Derived.Shelf.SlSortCmp.NoneTotal
namespace Go.Proofs
open Go.Shelf
def Tryz.sortRec_ren:Go.Shelf.Ren:=⟨fun | 6=>146 | 15=>156 | 14=>155 | 28=>173 | 29=>174 | 20=>165 | 21=>166 | 22=>167 | 23=>168 | 24=>169 | 25=>170 | 26=>171 | 27=>172 | 46=>186 | 47=>187 | 48=>188 | 49=>189 | 50=>190 | 57=>202 | n=>n,fun | 22=>44 | 24=>25 | 25=>182 | 3=>3 | 39=>222 | 0=>0 | 53=>237 | 55=>239 | 4=>4 | 46=>231 | 45=>230 | 50=>178 | 5=>5 | 9=>9 | 66=>251 | 70=>196 | 76=>265 | 77=>266 | n=>n,fun | n=>n⟩
theorem Tryz.sortRec:Go.Proofs.SlLaysF0.n6 Tryz.prog Tryz.sortRec_ren:={
 mixed:=by kernel_rfl
 f6:=⟨Tryz.f146.name,by decide,Tryz.func146.trans (congrArg some (by kernel_rfl))⟩
 f14:=⟨Tryz.f155.name,by decide,Tryz.func155.trans (congrArg some (by kernel_rfl))⟩
 f15:=Tryz.func156.trans (congrArg some (by kernel_rfl))
 f20:=⟨Tryz.f165.name,by decide,Tryz.func165.trans (congrArg some (by kernel_rfl))⟩
 f21:=⟨Tryz.f166.name,by decide,Tryz.func166.trans (congrArg some (by kernel_rfl))⟩
 f22:=⟨Tryz.f167.name,by decide,Tryz.func167.trans (congrArg some (by kernel_rfl))⟩
 f23:=⟨Tryz.f168.name,by decide,Tryz.func168.trans (congrArg some (by kernel_rfl))⟩
 f24:=⟨Tryz.f169.name,by decide,Tryz.func169.trans (congrArg some (by kernel_rfl))⟩
 f25:=⟨Tryz.f170.name,by decide,Tryz.func170.trans (congrArg some (by kernel_rfl))⟩
 f26:=⟨Tryz.f171.name,by decide,Tryz.func171.trans (congrArg some (by kernel_rfl))⟩
 f27:=⟨Tryz.f172.name,by decide,Tryz.func172.trans (congrArg some (by kernel_rfl))⟩
 f28:=Tryz.func173.trans (congrArg some (by kernel_rfl))
 f29:=Tryz.func174.trans (congrArg some (by kernel_rfl))
 f46:=⟨Tryz.f186.name,by decide,Tryz.func186.trans (congrArg some (by kernel_rfl))⟩
 f47:=Tryz.func187.trans (congrArg some (by kernel_rfl))
 f48:=Tryz.func188.trans (congrArg some (by kernel_rfl))
 f49:=⟨Tryz.f189.name,by decide,Tryz.func189.trans (congrArg some (by kernel_rfl))⟩
 f50:=⟨Tryz.f190.name,by decide,Tryz.func190.trans (congrArg some (by kernel_rfl))⟩
 f57:=⟨Tryz.f202.name,by decide,Tryz.func202.trans (congrArg some (by kernel_rfl))⟩
 t0:=Tryz.underlying0
 a0:=Tryz.isAgg0
 z0:=Tryz.sizeOf0
 v0:=Tryz.zeroValue0
 t3:=Tryz.underlying3
 a3:=Tryz.isAgg3
 z3:=Tryz.sizeOf3
 v3:=Tryz.zeroValue3
 t4:=Tryz.underlying4
 a4:=Tryz.isAgg4
 z4:=Tryz.sizeOf4
 v4:=Tryz.zeroValue4
 t5:=Tryz.underlying5
 a5:=Tryz.isAgg5
 z5:=Tryz.sizeOf5
 v5:=Tryz.zeroValue5
 t9:=Tryz.underlying9
 a9:=Tryz.isAgg9
 z9:=Tryz.sizeOf9
 v9:=Tryz.zeroValue9
 t22:=Tryz.underlying44
 a22:=Tryz.isAgg44
 z22:=Tryz.sizeOf44
 v22:=Tryz.zeroValue44
 t25:=Tryz.underlying182
 a25:=Tryz.isAgg182
 z25:=Tryz.sizeOf182
 v25:=Tryz.zeroValue182
 t39:=Tryz.underlying222
 a39:=Tryz.isAgg222
 z39:=Tryz.sizeOf222
 v39:=Tryz.zeroValue222
 t45:=Tryz.underlying230
 a45:=Tryz.isAgg230
 z45:=Tryz.sizeOf230
 v45:=Tryz.zeroValue230
 t46:=Tryz.underlying231
 a46:=Tryz.isAgg231
 z46:=Tryz.sizeOf231
 v46:=Tryz.zeroValue231
 t50:=Tryz.underlying178
 a50:=Tryz.isAgg178
 z50:=Tryz.sizeOf178
 v50:=Tryz.zeroValue178
 t53:=Tryz.underlying237
 a53:=Tryz.isAgg237
 z53:=Tryz.sizeOf237
 v53:=Tryz.zeroValue237
 t55:=Tryz.underlying239
 a55:=Tryz.isAgg239
 z55:=Tryz.sizeOf239
 v55:=Tryz.zeroValue239
 t66:=Tryz.underlying251
 a66:=Tryz.isAgg251
 z66:=Tryz.sizeOf251
 v66:=Tryz.zeroValue251
 t70:=Tryz.underlying196
 a70:=Tryz.isAgg196
 z70:=Tryz.sizeOf196
 v70:=Tryz.zeroValue196
 t76:=Tryz.underlying265
 a76:=Tryz.isAgg265
 z76:=Tryz.sizeOf265
 v76:=Tryz.zeroValue265
 t77:=Tryz.underlying266
 a77:=Tryz.isAgg266
 z77:=Tryz.sizeOf266
 v77:=Tryz.zeroValue266 }
end Go.Proofs
namespace Go.VE
open Go.RowKit Go.Proofs Go.Shelf Go.Lib
set_option maxRecDepth 100000
set_option maxHeartbeats 600000
theorem nan175 (a:Int) (w:World):Calls Tryz.prog 175 #[.int .i64 a] w fun e w'=>e=.returned (.bool false)∧w'=w:=by
 go_enter Tryz.func175,Tryz.ntmps175
 go_wp2
 go_ret
 exact ⟨rfl,rfl⟩
def cmpI (a b:Int):Int:=if a < b then -1 else if b < a then 1 else 0
theorem cmp158 (a b:Int) (w:World):Calls Tryz.prog 158 #[.int .i64 a,.int .i64 b] w fun e w'=>e=.returned (.int .i64 (cmpI a b))∧w'=w:=by
 by_cases h1:a < b
 ·have e:cmpI a b=-1:=by simp [cmpI,h1]
  rw [e]
  go_enter Tryz.func158,Tryz.ntmps158
  go_wp2_with (go_at_call 175;refine (nan175 _ _).mono ?_;rintro e w' ⟨rfl,rfl⟩)
  go_ret
  exact ⟨rfl,rfl⟩
 ·by_cases h2:b < a
  ·have e:cmpI a b=1:=by simp [cmpI,h1,h2]
   rw [e]
   go_enter Tryz.func158,Tryz.ntmps158
   go_wp2_with (go_at_call 175;refine (nan175 _ _).mono ?_;rintro e w' ⟨rfl,rfl⟩)
   go_ret
   exact ⟨rfl,rfl⟩
  ·have e:cmpI a b=0:=by simp [cmpI,h1,h2]
   rw [e]
   go_enter Tryz.func158,Tryz.ntmps158
   go_wp2_with (go_at_call 175;refine (nan175 _ _).mono ?_;rintro e w' ⟨rfl,rfl⟩)
   go_ret
   exact ⟨rfl,rfl⟩
def orI (a c:Int):Int:=if a≠0 then a else c
theorem or157 (a c:Int) (b:Nat) (w:World) (h0:w.cell? ⟨b,0,none⟩=some (.int .i64 a)) (h1:w.cell? ⟨b,1,none⟩=some (.int .i64 c)):Calls Tryz.prog 157 #[.slice (some ⟨b,0,none⟩) 2 2] w fun e w'=>e=.returned (.int .i64 (orI a c))∧w'=w:=by
 by_cases ha:a=0
 ·subst ha
  rw [show orI 0 c=c from rfl]
  by_cases hc:c=0
  ·subst hc
   go_enter Tryz.func157,Tryz.ntmps157
   go_wp2
   refine wp_loop_rounds 3 ?_
   rw [rounds_succ]
   go_wp2
   rw [rounds_succ]
   go_wp2
   rw [rounds_succ]
   go_wp2
   go_ret
   exact ⟨rfl,rfl⟩
  ·go_enter Tryz.func157,Tryz.ntmps157
   go_wp2
   refine wp_loop_rounds 3 ?_
   rw [rounds_succ]
   go_wp2
   rw [rounds_succ]
   go_wp2
   go_ret
   exact ⟨rfl,rfl⟩
 ·rw [show orI a c=a from if_pos ha]
  go_enter Tryz.func157,Tryz.ntmps157
  go_wp2
  refine wp_loop_rounds 3 ?_
  rw [rounds_succ]
  go_wp2
  go_ret
  exact ⟨rfl,rfl⟩
def cmpR (p n q m:Int):Int:=orI (cmpI p q) (cmpI n m)
theorem grown3 (w:World) (A B C:Obj):(((w.alloc A).alloc B).drew).alloc C=Sort.grow (w.drewN 1) #[A,B,C]:=by
 unfold Sort.grow World.drewN World.drew World.alloc
 simp only [World.mk.injEq,and_true]
 apply Array.ext'
 simp
theorem cmp147 (p n q m:Int) (w:World):Calls Tryz.prog 147 #[.agg #[.int .i64 p,.int .i64 n],.agg #[.int .i64 q,.int .i64 m]] w fun e w'=>e=.returned (.int .i64 (cmpR p n q m))∧∃ k os,w'=Sort.grow (w.drewN k) os:=by
 unfold cmpR
 go_enter Tryz.func147,Tryz.ntmps147
 go_wp2
 have e158:∀ args w,(callFunc 158 args).run Tryz.prog w=.ok (.enter 158 args) w:=enters_of Tryz.func158 (by kernel_rfl) rfl
 obtain ⟨W,hW⟩:∃ W,((w.alloc (.cells #[.int .i64 p,.int .i64 n] 23)).alloc (.cells #[.int .i64 q,.int .i64 m] 23))=W:=⟨_,rfl⟩
 rw [hW]
 have B1:W.heap[w.heap.size+1]?=some (.cells #[.int .i64 q,.int .i64 m] 23 (0,0)):=by rw [←hW];exact heap_alloc2_new _ _ _
 have B0:W.heap[w.heap.size]?=some (.cells #[.int .i64 p,.int .i64 n] 23 (0,0)):=by rw [←hW,heap_alloc_old _ _ (by simp)];exact heap_alloc_new _ _
 have c0:W.cell? ⟨w.heap.size,0,none⟩=some (.int .i64 p):=Go.Joins.cell_of_block B0 0
 have c1:W.cell? ⟨w.heap.size,1,none⟩=some (.int .i64 n):=Go.Joins.cell_of_block B0 1
 have c2:W.cell? ⟨w.heap.size+1,0,none⟩=some (.int .i64 q):=Go.Joins.cell_of_block B1 0
 have c3:W.cell? ⟨w.heap.size+1,1,none⟩=some (.int .i64 m):=Go.Joins.cell_of_block B1 1
 refine wp_region_still_tail 10 (by kernel_rfl) (by kernel_rfl) ?_
 simp only [List.take_succ_cons,List.take_zero,List.drop_succ_cons,List.drop_zero]
 still_step
 still_step
 still_step
 still_step
 still_call (cmp158 p q _)
 still_step
 still_step
 still_step
 still_step
 still_call (cmp158 n m _)
 refine wpStill_nil ?_
 change wpList _ _ _ _ _ W.drew
 have hd:W.drew=W.drewN 1:=rfl
 obtain ⟨w2,hw2⟩:∃ w2,W.drew=w2:=⟨_,rfl⟩
 rw [hw2]
 go_wp2_with (go_at_call 157;refine (or157 (cmpI p q) (cmpI n m) w2.heap.size (w2.alloc (.cells #[.int .i64 (cmpI p q),.int .i64 (cmpI n m)] 3)) (Go.Joins.cell_of_block (heap_alloc_new w2 _) 0) (Go.Joins.cell_of_block (heap_alloc_new w2 _) 1)).mono ?_;rintro e w' ⟨rfl,rfl⟩)
 go_ret
 refine ⟨rfl,1,#[.cells #[.int .i64 p,.int .i64 n] 23,.cells #[.int .i64 q,.int .i64 m] 23,.cells #[.int .i64 (cmpI p q),.int .i64 (cmpI n m)] 3],?_⟩
 rw [←hw2,← hW]
 exact grown3 _ _ _ _
end Go.VE
namespace Go.VE
open Go.RowKit Go.Proofs Go.Shelf Go.Lib
set_option maxRecDepth 100000
set_option maxHeartbeats 1500000
theorem plain_c (s:List UInt8) (h:s.length≤1000) (w:World):Calls Tryz.prog 129 #[.string ⟨s.toArray⟩] w fun e w'=>e=.returned (.bool (s.all okB))∧Below w.heap.size w w':=by
 have hsz:=bs_size s
 have hcv:=Go.Lib.run_convert_string_bytes (P:=Tryz.prog) w 9 190 5 ⟨s.toArray⟩ Tryz.underlying9 Tryz.underlying190 Tryz.underlying5
 rw [hsz] at hcv
 have hbw:Below w.heap.size w (bytesWorld w 5 ⟨s.toArray⟩):=⟨rfl,rfl,rfl,by rw [bytesWorld_size];omega,fun k hk=>bytesWorld_at_old w 5 _ k hk⟩
 have hcell:∀ (j:Nat) (x:UInt8),s[j]?=some x→(bytesWorld w 5 ⟨s.toArray⟩).cell? ⟨w.heap.size,j,none⟩=some (.int .u8 x.toNat):=fun j x hx=>by
  obtain ⟨hj,rfl⟩:=List.getElem?_eq_some_iff.1 hx
  rw [bytesWorld_cell w 5 _ j (by rw [hsz];exact hj)]
  simp [List.getD,hj]
 obtain ⟨W,hW⟩:∃ W,bytesWorld w 5 ⟨s.toArray⟩=W:=⟨_,rfl⟩
 obtain ⟨c,hc⟩:∃ c,grownCap w s.length 0 5=c:=⟨_,rfl⟩
 rw [hW,hc] at hcv
 rw [hW] at hbw hcell
 clear hW hc
 have HC:Aside (∀ (j:Nat) (x:UInt8),s[j]?=some x→W.cell? ⟨w.heap.size,j,none⟩=some (.int .u8 x.toNat)):=hcell
 clear hcell
 go_enter Tryz.func129,Tryz.ntmps129
 go_wp2
 go_loopg [8] s.length (fun g z8 wr=>∃ i:Nat,z8=.int .i64 i∧i+g=s.length∧(s.take i).all okB=true∧wr=W)
 case atStart=>exact ⟨0,rfl,by omega,by simp,rfl⟩
 case round =>
  obtain ⟨i,rfl,hg,hk,rfl⟩:=hrel
  by_cases hi:i < s.length
  ·have hx:s[i]?=some s[i]:=List.getElem?_eq_getElem hi
   generalize s[i]=x at hx
   have hci:=HC.out i x hx
   have htk:(s.take (i+1)).all okB=((s.take i).all okB&&okB x):=by rw [List.take_add_one,hx];simp
   obtain ⟨g,rfl⟩:∃ g,gk=g+1:=⟨gk - 1,by omega⟩
   have i3:(i:Int) < (s.length:Int):=by omega
   by_cases hb:okB x=true
   ·have hb':=okB_bnd hb
    have hb1:¬ (x.toNat:Int) < 32:=by omega
    have hb2:¬ (126:Int) < (x.toNat:Int):=by omega
    go_wp2
    go_roundg g
    case measure=>omega
    case rel=>exact ⟨i+1,by simp,by omega,by rw [htk,hk,hb];rfl,rfl⟩
   ·have hall:s.all okB=false:=by
     rw [←Bool.not_eq_true,List.all_eq_true]
     intro h
     exact hb (h x (List.mem_of_getElem? hx))
    have hb':(x.toNat:Int) < 32∨(126:Int) < (x.toNat:Int):=by
     have:¬ (32≤x.toNat∧x.toNat≤126):=fun h=>hb (by simp only [okB,decide_eq_true_eq];exact h)
     omega
    rcases hb' with h1 | h1
    ·go_wp2
     go_ret
     refine ⟨?_,hbw⟩
     first | rfl | (rw [hall];rfl)
    ·have h2:¬ (x.toNat:Int) < 32:=by omega
     go_wp2
     go_ret
     refine ⟨?_,hbw⟩
     first | rfl | (rw [hall];rfl)
  ·obtain rfl:i=s.length:=by omega
   obtain rfl:gk=0:=by omega
   rw [List.take_length] at hk
   go_wp2
   go_ret
   refine ⟨?_,hbw⟩
   first | rfl | (rw [hk];rfl)
end Go.VE
namespace Go.VE
open Go.RowKit Go.Proofs Go.Shelf Go.Lib
set_option maxRecDepth 100000
set_option maxHeartbeats 1500000
noncomputable abbrev CF:Cf3:=cf3 tb Tryz.prog
theorem sc_of {Fn:Nat→List D→Out} (hF:FnOK Tryz.prog CF Fn) {f:Nat} {sh:List Sh} {xs:List D} {vs:List VD} {j:Nat} {ys:List Yr} {rs:RS} (h1:CF.ash f=some sh) (h2:vdsOf sh xs=some vs) (h3:Fn f xs=some (j,ys)) (h4:(CF.rsk f)[j]?=some rs):SC Tryz.prog f vs (pack (rvsAt ys rs 0)):=hF f sh xs vs j ys rs h1 h2 h3 h4
theorem isT_some {o:Out} {b:Bool} (h:isT o=some b):o=some (0,[.d (bl b)]):=by
 unfold isT at h
 split at h
 ·rw [dBool_some h]
 ·cases h
theorem outS_some {o:Out} {ys:List Yr} (h:outS o=some ys):o=some (0,ys):=by
 unfold outS at h
 split at h
 ·cases h;rfl
 ·cases h
theorem post_lit {w w':World} {U:Nat→Prop} {r:RV} {v:Value} (hU:∀ b,U b→b < w.heap.size) (hb:Below w.heap.size w w') (h:RvR w' U r v []):Post w U r (.returned v) w' :=
 ⟨v,U,[],rfl,hb,fun _ h=>h,fun b h=>⟨Nat.lt_of_lt_of_le (hU b h) hb.size,.inl h⟩,List.nodup_nil,by simp,h⟩
theorem laidW {w:World} {U:Nat→Prop} (hU:∀ b,U b→b < w.heap.size) (h:XX w U):LaidW w:=⟨h.2,by have:=hU 5 (h.1 5 (by decide));show 6≤_;omega⟩
theorem il_v {w:World} {U:Nat→Prop} {z:Int} {v:Value} (h:DR w U (il z) v):v=.int .i64 z:=h.1
theorem sD_v {w:World} {U:Nat→Prop} {s:List UInt8} {v:Value} (h:DR w U (sD s) v):v=.string ⟨s.toArray⟩:=h.1
theorem recR_v {w:World} {U:Nat→Prop} {r:Rec} {cs:List Value} (h:FR w U (recR r) cs):cs=[.int .i64 r.p,.int .i64 r.no,.int .i64 r.kd,.int .i64 r.dy,.int .i64 r.kn,.int .i64 r.op,.int .i64 r.on,.string ⟨r.tx.toArray⟩]:=by
 simp only [recR,FR] at h
 obtain ⟨_,_,rfl,h1,_,_,rfl,h2,_,_,rfl,h3,_,_,rfl,h4,_,_,rfl,h5,_,_,rfl,h6,_,_,rfl,h7,_,_,rfl,h8,rfl⟩:=h
 rw [il_v h1,il_v h2,il_v h3,il_v h4,il_v h5,il_v h6,il_v h7,sD_v h8]
theorem recR_f {w:World} {U:Nat→Prop} (r:Rec):FR w U (recR r) [.int .i64 r.p,.int .i64 r.no,.int .i64 r.kd,.int .i64 r.dy,.int .i64 r.kn,.int .i64 r.op,.int .i64 r.on,.string ⟨r.tx.toArray⟩]:=by
 simp only [recR,FR]
 exact ⟨_,_,rfl,⟨rfl,rfl⟩,_,_,rfl,⟨rfl,rfl⟩,_,_,rfl,⟨rfl,rfl⟩,_,_,rfl,⟨rfl,rfl⟩,_,_,rfl,⟨rfl,rfl⟩,_,_,rfl,⟨rfl,rfl⟩,_,_,rfl,⟨rfl,rfl⟩,_,_,rfl,⟨rfl,rfl⟩,rfl⟩
theorem agg_v {w:World} {U:Nat→Prop} {xs:List D} {vs:List Value} (h:VDF w U [.agg xs] vs):∃ cs,vs=[.agg cs.toArray]∧FR w U xs cs:=by
 simp only [VDF,VDR] at h
 obtain ⟨_,_,rfl,⟨cs,rfl,hc⟩,rfl⟩:=h
 exact ⟨cs.toList,by simp,hc⟩
theorem one_v {w:World} {U:Nat→Prop} {x:D} {vs:List Value} (h:VDF w U [.one x] vs):∃ v,vs=[v]∧DR w U x v:=by
 simp only [VDF,VDR] at h
 obtain ⟨v,_,rfl,hc,rfl⟩:=h
 exact ⟨v,rfl,hc⟩
theorem arr_of {vs:Array Value} {l:List Value} (h:vs.toList=l):vs=l.toArray:=by rw [←h]
theorem sc103 {r:Rec} (hok:okR r=true):SC Tryz.prog 103 [.agg (recR r)] (.one (.d (sD (txt r)))):=by
 refine ⟨enters_of Tryz.func103 (by kernel_rfl) rfl,fun w U vs hU hX hv=>?_⟩
 obtain ⟨cs,h1,h2⟩:=agg_v hv
 rw [arr_of h1,recR_v h2]
 have hs:=okR_small hok
 have ht:r.tx.length≤160:=by
  simp only [okR,Bool.and_eq_true,decide_eq_true_eq] at hok
  exact hok.1.1.2.2.2.2.2.2.2
 obtain ⟨p,no,kd,dy,kn,op,on,tx⟩:=r
 simp only [numsR,List.mem_cons,List.not_mem_nil,or_false,forall_eq_or_imp,forall_eq] at hs
 obtain ⟨k1,k2,k3,k4,k5,k6,k7⟩:=hs
 obtain ⟨a,rfl⟩:=Int.eq_ofNat_of_zero_le k1.1
 obtain ⟨b,rfl⟩:=Int.eq_ofNat_of_zero_le k2.1
 obtain ⟨c,rfl⟩:=Int.eq_ofNat_of_zero_le k3.1
 obtain ⟨d,rfl⟩:=Int.eq_ofNat_of_zero_le k4.1
 obtain ⟨e,rfl⟩:=Int.eq_ofNat_of_zero_le k5.1
 obtain ⟨u,rfl⟩:=Int.eq_ofNat_of_zero_le k6.1
 obtain ⟨v,rfl⟩:=Int.eq_ofNat_of_zero_le k7.1
 have e1:txt ⟨a,b,c,d,e,u,v,tx⟩=(dg a++dg b++dg c++dg d++dg e++dg u++dg v)++tx:=by
  simp [txt,numsR,dcZ,dg]
 refine (text_c a b c d e u v tx (by omega) (by omega) (by omega) (by omega) (by omega) (by omega) (by omega) ht w (laidW hU hX)).mono ?_
 rintro x w' ⟨rfl,hb⟩
 refine post_lit hU hb ?_
 rw [e1]
 exact ⟨rfl,rfl,rfl⟩
theorem sc129 {s:List UInt8} (h:s.length≤1000):SC Tryz.prog 129 [.one (sD s)] (.one (.d (bl (s.all okB)))):=by
 refine ⟨enters_of Tryz.func129 (by kernel_rfl) rfl,fun w U vs hU hX hv=>?_⟩
 obtain ⟨v,h1,h2⟩:=one_v hv
 rw [arr_of h1,sD_v h2]
 refine (plain_c s h w).mono ?_
 rintro x w' ⟨rfl,hb⟩
 exact post_lit hU hb ⟨rfl,rfl,rfl⟩
theorem sc130 {s:List UInt8} (h0:s≠[]) (h1:s.length≤1000) (hok:s.all okB=true):SC Tryz.prog 130 [.one (sD s)] (.agg [.d (sD (third 0 s)),.d (sD (third 1 s)),.d (sD (third 2 s))]):=by
 refine ⟨enters_of Tryz.func130 (by kernel_rfl) rfl,fun w U vs hU hX hv=>?_⟩
 obtain ⟨v,h2,h3⟩:=one_v hv
 rw [arr_of h2,sD_v h3]
 refine (thirds_c s (List.length_pos_iff.2 h0) h1 hok w).mono ?_
 rintro x w' ⟨rfl,hb⟩
 refine post_lit hU hb ⟨_,rfl,?_⟩
 exact ⟨_,_,[],[],rfl,rfl,⟨rfl,rfl,rfl⟩,_,_,[],[],rfl,rfl,⟨rfl,rfl,rfl⟩,_,_,[],[],rfl,rfl,⟨rfl,rfl,rfl⟩,rfl,rfl⟩
theorem ok103 {xs:List D} {vs:List VD} {j:Nat} {ys:List Yr} {rs:RS} {sh:List Sh} (h1:CF.ash 103=some sh) (h2:vdsOf sh xs=some vs) (h3:tText xs=some (j,ys)) (h4:(CF.rsk 103)[j]?=some rs):SC Tryz.prog 103 vs (pack (rvsAt ys rs 0)):=by
 unfold tText at h3
 split at h3
 ·cases h3
 ·rename_i r hr
  split at h3
  ·rename_i hok
   cases h3
   rw [recD_some hr] at h2
   cases h1
   cases h2
   cases h4
   exact sc103 hok
  ·cases h3
theorem ok129 {xs:List D} {vs:List VD} {j:Nat} {ys:List Yr} {rs:RS} {sh:List Sh} (h1:CF.ash 129=some sh) (h2:vdsOf sh xs=some vs) (h3:tPlain xs=some (j,ys)) (h4:(CF.rsk 129)[j]?=some rs):SC Tryz.prog 129 vs (pack (rvsAt ys rs 0)):=by
 unfold tPlain at h3
 split at h3
 ·split at h3
  ·cases h3
  ·rename_i s hs
   split at h3
   ·rename_i hl
    cases h3
    rw [dStr_some hs] at h2
    cases h1
    cases h2
    cases h4
    exact sc129 hl
   ·cases h3
 ·cases h3
theorem ok130 {xs:List D} {vs:List VD} {j:Nat} {ys:List Yr} {rs:RS} {sh:List Sh} (h1:CF.ash 130=some sh) (h2:vdsOf sh xs=some vs) (h3:tThirds xs=some (j,ys)) (h4:(CF.rsk 130)[j]?=some rs):SC Tryz.prog 130 vs (pack (rvsAt ys rs 0)):=by
 unfold tThirds at h3
 split at h3
 ·split at h3
  ·cases h3
  ·rename_i s hs
   split at h3
   ·rename_i hl
    cases h3
    rw [dStr_some hs] at h2
    cases h1
    cases h2
    cases h4
    exact sc130 hl.1 hl.2.1 hl.2.2
   ·cases h3
 ·cases h3
end Go.VE
namespace Go.VE
open Go.RowKit Go.Proofs Go.Shelf Go.Lib
set_option maxRecDepth 100000
set_option maxHeartbeats 1500000
instance:Inhabited Rec:=⟨zeroR⟩
def encR (r:Rec):List Value:=[.int .i64 r.p,.int .i64 r.no,.int .i64 r.kd,.int .i64 r.dy,.int .i64 r.kn,.int .i64 r.op,.int .i64 r.on,.string ⟨r.tx.toArray⟩]
def cfR (x y:Rec):Int:=cmpR x.p x.no y.p y.no
theorem grow_two (W:World) (A B:Obj) (k:Nat) (os:Array Obj):Sort.grow (((W.alloc A).alloc B).drewN k) os=Sort.grow (W.drewN k) (#[A,B]++os):=by
 unfold Sort.grow World.drewN World.alloc
 simp only [World.mk.injEq,and_true]
 apply Array.ext'
 simp
theorem item123 (x y:Rec) (W:World):Calls Tryz.prog 123 #[.agg (encR x).toArray,.agg (encR y).toArray] W fun e w'=>e=.returned (.int .i64 (cfR x y))∧∃ q os',w'=Sort.grow (W.drewN q) os':=by
 unfold encR cfR
 go_enter Tryz.func123,Tryz.ntmps123
 go_wp2_with (go_at_call 147;refine (cmp147 x.p x.no y.p y.no _).mono ?_;rintro e w' ⟨rfl,k,os,rfl⟩)
 go_ret
 exact ⟨rfl,k,_,grow_two _ _ _ _ _⟩
theorem cl123 (blk off size:Nat) (w:World):CmpLays Tryz.prog 123 #[] encR 8 cfR blk off size w:=fun _ _ _ _ x y=>item123 x y _
theorem lt_bef (x y:Rec):ltOf cfR x y=decide (bef x y):=by
 unfold ltOf cfR cmpR orI cmpI bef
 by_cases h1:x.p < y.p
 ·simp [h1]
 ·by_cases h2:y.p < x.p
  ·have:¬ x.p=y.p:=by omega
   simp [h1,h2,this]
  ·have h3:x.p=y.p:=by omega
   by_cases h4:x.no < y.no
   ·simp [h3,h4]
   ·by_cases h5:y.no < x.no<;>simp [h3,h4,h5]
theorem swoR:Sort.SWO (ltOf cfR) where
 irrefl x:=by rw [lt_bef];simp [bef]
 trans x y z h1 h2:=by
  rw [lt_bef,decide_eq_true_eq] at *
  exact bef_trans h1 h2
 ntrans x y z h1 h2:=by
  rw [lt_bef,decide_eq_false_iff_not] at *
  unfold bef at *
  omega
theorem ins_ok:∀ (l acc:List Rec),acc.Pairwise bef→(∀ x∈acc,∀ y∈l,x.p≠y.p∨x.no≠y.no)→l.Pairwise (fun x y=>x.p≠y.p∨x.no≠y.no)→(l.foldl put acc).Pairwise bef∧(l.foldl put acc).Perm (acc++l)
 | [],acc,h,_,_=>⟨h,by simp⟩
 | r::l,acc,h,hd,hl=>by
  rw [List.pairwise_cons] at hl
  have h1:=put_sorted r h fun x hx=>hd x hx r (by simp)
  have h2:=ins_ok l (put acc r) h1 (fun x hx y hy=>by
   rcases List.mem_cons.1 ((put_perm r acc).mem_iff.1 hx) with rfl | hx
   ·exact hl.1 y hy
   ·exact hd x hx y (by simp [hy])) hl.2
  exact ⟨h2.1,h2.2.trans (((put_perm r acc).append_right l).trans (by simpa using (List.perm_middle (l₁:=acc) (a:=r) (l₂:=l)).symm))⟩
theorem insort_ok {l:List Rec} (h:diffK l=true):(insort l).Pairwise bef∧(insort l).Perm l:=by
 have:=ins_ok l [] List.Pairwise.nil (by simp) (by simpa [diffK] using h)
 simpa [insort] using this
theorem enc_at {w:World} {U:Nat→Prop} {r:Rec} {c:Nat} (hc:c < 8) {x:D} (hx:(recR r)[c]?=some x) {u:Value} (h:DR w U x u):u=(encR r)[c]! := by
 match c,hc with
 | 0,_=>simp [recR] at hx;subst hx;exact il_v h
 | 1,_=>simp [recR] at hx;subst hx;exact il_v h
 | 2,_=>simp [recR] at hx;subst hx;exact il_v h
 | 3,_=>simp [recR] at hx;subst hx;exact il_v h
 | 4,_=>simp [recR] at hx;subst hx;exact il_v h
 | 5,_=>simp [recR] at hx;subst hx;exact il_v h
 | 6,_=>simp [recR] at hx;subst hx;exact il_v h
 | 7,_=>simp [recR] at hx;subst hx;exact sD_v h
theorem enc_of {w:World} {U:Nat→Prop} (r:Rec) {c:Nat} {x:D} (hx:(recR r)[c]?=some x):DR w U x (encR r)[c]! := by
 match c,hx with
 | 0,hx=>simp [recR] at hx;subst hx;exact ⟨rfl,rfl⟩
 | 1,hx=>simp [recR] at hx;subst hx;exact ⟨rfl,rfl⟩
 | 2,hx=>simp [recR] at hx;subst hx;exact ⟨rfl,rfl⟩
 | 3,hx=>simp [recR] at hx;subst hx;exact ⟨rfl,rfl⟩
 | 4,hx=>simp [recR] at hx;subst hx;exact ⟨rfl,rfl⟩
 | 5,hx=>simp [recR] at hx;subst hx;exact ⟨rfl,rfl⟩
 | 6,hx=>simp [recR] at hx;subst hx;exact ⟨rfl,rfl⟩
 | 7,hx=>simp [recR] at hx;subst hx;exact ⟨rfl,rfl⟩
 | c+8,hx=>simp [recR] at hx
theorem holds_of {w:World} {U:Nat→Prop} {b t:Nat} {cur:Array Value} {l:List Rec} (hb:w.heap[b]?=some (.cells cur t (0,0))) (h:RR w U b 0 8 (l.map recR)):Sort.HoldsK encR 8 w b 0 l.toArray:=by
 intro j hj
 refine ⟨?_,Go.Joins.unfrozen_of_block hb _⟩
 rw [Sort.size_flatK,List.size_toArray] at hj
 rw [Sort.get_flatK _ _ _ _ (by rw [List.size_toArray];exact hj)]
 have hi:j / 8 < l.length:=by omega
 have hc:j % 8 < 8:=by omega
 have h1:=h.at_ (i:=j / 8) (r:=recR l[j / 8]) (by rw [List.getElem?_map,List.getElem?_eq_getElem hi];rfl)
 have hx:(recR l[j / 8])[j % 8]?=some ((recR l[j / 8])[j % 8]'(by show j % 8 < 8;omega)):=List.getElem?_eq_getElem _
 obtain ⟨u,h2,h3⟩:=h1.2.at_ hx
 rw [enc_at hc hx h3] at h2
 have e:(l.toArray)[j / 8]! = l[j / 8]:=by rw [getElem!_pos _ _ (by rw [List.size_toArray];exact hi)];simp
 rw [e]
 show w.cell? ⟨b,0+j,none⟩=some (encR l[j / 8])[j % 8]!
 rw [←h2]
 congr 2
 omega
theorem rows_of {w:World} {U:Nat→Prop} {b:Nat} {d:Array Rec} (h:Sort.HoldsK encR 8 w b 0 d):RR w U b 0 8 (d.toList.map recR):=by
 refine RR.mk fun i r hr=>?_
 rw [List.getElem?_map] at hr
 obtain ⟨x,hx,rfl⟩:=Option.map_eq_some_iff.1 hr
 have hi:i < d.size:=by
  have:=(List.getElem?_eq_some_iff.1 hx).1
  simpa using this
 have e:d[i]! = x:=by
  rw [getElem!_pos d i hi]
  have:=(List.getElem?_eq_some_iff.1 hx).2
  simpa using this
 refine ⟨rfl,CR.mk fun j y hy=>?_⟩
 have hj:j < 8:=by
  have:=(List.getElem?_eq_some_iff.1 hy).1
  exact this
 have:=(h.cell hi hj).1
 rw [e] at this
 exact ⟨_,this,enc_of x hy⟩
theorem sort_below {w:World} {b n B:Nat} {d:Array Rec} {os:Array Obj} (hB:B≤b) (hs:B≤w.heap.size):Below B w (sortWorldK encR 8 w b 0 n d os):=by
 refine ⟨rfl,rfl,rfl,?_,fun k hk=>?_⟩
 ·show w.heap.size≤((w.heap.modify b _)++os).size
  rw [Array.size_append,Array.size_modify]
  omega
 ·show ((w.heap.modify b _)++os)[k]?=w.heap[k]?
  rw [Array.getElem?_append,if_pos (by rw [Array.size_modify];omega),Array.getElem?_modify,if_neg (by omega)]
theorem diff_perm {l m:List Rec} (hp:m.Perm l) (h:diffK l=true):m.Pairwise fun x y=>x.p≠y.p∨x.no≠y.no:=by
 have h':l.Pairwise fun x y=>x.p≠y.p∨x.no≠y.no:=by simpa [diffK] using h
 exact (hp.pairwise_iff (fun {x y} h=>by omega)).2 h'
theorem sorted_of {l:List Rec} {d':Array Rec} (hp:Sort.PermIn 0 l.toArray.size l.toArray d') (hs:Sort.SortedIn (ltOf cfR) 0 l.toArray.size d') (hd:diffK l=true):d'.toList=insort l:=by
 obtain ⟨h1,_,h3⟩:=hp
 have e1:d'.extract 0 l.toArray.size=d':=by rw [←h1,Array.extract_size]
 have e2:l.toArray.extract 0 l.toArray.size=l.toArray:=Array.extract_size
 rw [e1,e2] at h3
 have hpm:d'.toList.Perm l:=by simpa using h3
 have hdp:=diff_perm hpm hd
 have hso:d'.toList.Pairwise bef:=by
  rw [List.pairwise_iff_getElem] at hdp ⊢
  intro i j hi hj hij
  have hlt:j < l.toArray.size:=by rw [←h1];simpa using hj
  have:=hs i j (Nat.zero_le _) hij hlt
  rw [lt_bef,decide_eq_false_iff_not,getElem!_pos d' j (by simpa using hj),getElem!_pos d' i (by simpa using hi)] at this
  have hk:=hdp i j hi hj hij
  simp only [Array.getElem_toList] at hk ⊢
  exact bef_total this (by omega)
 have ho:=insort_ok hd
 exact sorted_eq hso ho.1 (hpm.trans ho.2.symm)
theorem sc121 {Fn:Nat→List D→Out} (hF:FnOK Tryz.prog CF Fn) {x:D} {l:List Rec} (h83:Fn 83 [x]=some (0,[.r (l.map recR)])) (hl:l.length≤1000) (hd:diffK l=true):SC Tryz.prog 121 [.one x] (.one (.d (.sl 8 ((insort l).map recR)))):=by
 refine ⟨enters_of Tryz.func121 (by kernel_rfl) rfl,fun w U vs hU hX hv=>?_⟩
 obtain ⟨v,g1,g2⟩:=one_v hv
 rw [arr_of g1]
 have s83:=sc_of hF (f:=83) (sh:=[.one]) (xs:=[x]) (vs:=[.one x]) (rs:=[(false,[.own 8 25])]) rfl rfl h83 rfl
 have k83:Calls Tryz.prog 83 #[v] w fun e w'=>∃ (b cap:Nat) (U':Nat→Prop),e=.returned (.slice (some ⟨b,0,none⟩) l.length cap)∧Below w.heap.size w w'∧(∀ b,U b→U' b)∧(∀ b,U' b→b < w'.heap.size∧(U b∨w.heap.size≤b))∧w.heap.size≤b∧b < w'.heap.size∧l.length≤cap∧cap≤maxLen∧Sort.HoldsK encR 8 w' b 0 l.toArray:=by
  refine (s83.2 w U #[v] hU hX ⟨_,_,rfl,g2,rfl⟩).mono ?_
  rintro e w1 ⟨v1,U1,bs,rfl,b1,e1,e2,e3,e4,hr⟩
  have hr':RvR w1 U1 (.one (.own (l.map recR) 8 25)) v1 bs:=hr
  obtain ⟨b,cap,cur,rfl,rfl,e5,e6,e7,e8,e9⟩:=hr'
  have hbx:=e4 b (by simp)
  rw [List.length_map] at e6 ⊢
  exact ⟨b,cap,U1,rfl,b1,e1,e2,hbx.1,hbx.2.1,e6,e7,holds_of e5 e9⟩
 have k146:∀ (b cap:Nat) (W:World),b < W.heap.size→Sort.HoldsK encR 8 W b 0 l.toArray→Calls Tryz.prog 146 #[.slice (some ⟨b,0,none⟩) l.length cap,.func (.func 123) #[] #[]] W fun e w'=>e=.returned (.tuple #[])∧∃ d' n os,d'.toList=insort l∧d'.size=l.length∧w'=sortWorldK encR 8 W b 0 n d' os:=fun b cap W hb hH=>by
  have eg:∀ args w,(callFunc 123 args).run Tryz.prog w=.ok (.enter 123 args) w:=enters_of Tryz.func123 (by kernel_rfl) rfl
  have hcon:=AnyQ.slices_SortFunc Tryz.sortRec 8 Tryz.isAgg25 Tryz.sizeOf25 encR (fun _=>rfl) (fun r v hv=>by simp [encR] at hv;rcases hv with rfl | rfl | rfl | rfl | rfl | rfl | rfl | rfl<;>rfl) cfR swoR 123 #[] b 0 cap l.toArray W eg (cl123 b 0 _ W) hH hb (by rw [List.size_toArray];omega)
  change Calls Tryz.prog 146 _ _ _ at hcon
  rw [List.size_toArray] at hcon
  refine hcon.mono ?_
  rintro e w' ⟨he,d',n,os,hp,hs,hw⟩
  refine ⟨he,d',n,os,sorted_of (by rw [List.size_toArray];exact hp) (by rw [List.size_toArray];exact hs) hd,by rw [hp.1,List.size_toArray],hw⟩
 clear s83
 go_enter Tryz.func121,Tryz.ntmps121
 go_wp2_with (first
  | (go_at_call 83;refine k83.mono ?_;rintro e w1 ⟨b,cap,U1,rfl,b1,e1,e2,e3,e4,e5,e6,hH⟩)
  | (go_at_call 146;refine (k146 b cap w1 e4 hH).mono ?_;rintro e w2 ⟨rfl,d',n,os,hd1,hd2,rfl⟩))
 go_ret
 have b2:Below w.heap.size w1 (sortWorldK encR 8 w1 b 0 n d' os):=sort_below e3 b1.size
 have hH2:Sort.HoldsK encR 8 (sortWorldK encR 8 w1 b 0 n d' os) b 0 d':=by
  refine Sort.holdsK_grow _ _ _ _ _ _ _ ?_ (Sort.holdsK_putRowK _ _ _ _ _ _ _ (Sort.holdsK_ahead _ _ _ _ _ _ _ hH) (by rw [hd2,List.size_toArray]))
  show b < (w1.heap.modify b _).size
  rw [Array.size_modify]
  exact e4
 refine ⟨_,fun y=>U1 y∨y=b,[],rfl,b1.trans b2,fun y hy=>.inl (e1 y hy),?_,List.nodup_nil,by simp,rfl,?_⟩
 ·rintro y (hy | rfl)
  ·exact ⟨Nat.lt_of_lt_of_le (e2 y hy).1 b2.size,(e2 y hy).2⟩
  ·exact ⟨Nat.lt_of_lt_of_le e4 b2.size,.inr e3⟩
 ·have hlen:(insort l).length=l.length:=by rw [←hd1,Array.length_toList,hd2]
  simp only [DR,List.length_map,hlen]
  refine ⟨_,cap,rfl,e5,e6,fun _=>⟨b,0,rfl,.inr rfl,?_⟩⟩
  rw [←hd1]
  exact rows_of hH2
theorem sc121n {Fn:Nat→List D→Out} (hF:FnOK Tryz.prog CF Fn) (h83:Fn 83 [.lit (.slice none 0 0)]=some (1,[.d (.lit (.slice none 0 0))])):SC Tryz.prog 121 [.one (.lit (.slice none 0 0))] (.one (.d (.lit (.slice none 0 0)))):=by
 refine ⟨enters_of Tryz.func121 (by kernel_rfl) rfl,fun w U vs hU hX hv=>?_⟩
 obtain ⟨v,g1,g2⟩:=one_v hv
 rw [arr_of g1,g2.1]
 have s83:=sc_of hF (f:=83) (sh:=[.one]) (xs:=[.lit (.slice none 0 0)]) (vs:=[.one (.lit (.slice none 0 0))]) (rs:=[(false,[.d])]) rfl rfl h83 rfl
 have k83:Calls Tryz.prog 83 #[.slice none 0 0] w fun e w'=>e=.returned (.slice none 0 0)∧Below w.heap.size w w':=by
  refine (s83.2 w U _ hU hX ⟨_,_,rfl,⟨rfl,rfl⟩,rfl⟩).mono ?_
  rintro e w1 ⟨v1,U1,bs,rfl,b1,_,_,_,_,hr⟩
  have hr':RvR w1 U1 (.one (.d (.lit (.slice none 0 0)))) v1 bs:=hr
  exact ⟨by rw [hr'.2.1],b1⟩
 have k146:=fun W=>AnyF.slices_SortFunc_none Tryz.sortRec none 0 (.func (.func 123) #[] #[]) W
 change ∀ W,Calls Tryz.prog 146 _ _ _ at k146
 clear s83
 go_enter Tryz.func121,Tryz.ntmps121
 go_wp2_with (first
  | (go_at_call 83;refine k83.mono ?_;rintro e w1 ⟨rfl,b1⟩)
  | (go_at_call 146;refine (k146 _).mono ?_;rintro e w2 ⟨rfl,rfl⟩))
 go_ret
 exact post_lit hU b1 ⟨rfl,rfl,rfl⟩
theorem ok121 {Fn:Nat→List D→Out} (hF:FnOK Tryz.prog CF Fn) {xs:List D} {vs:List VD} {j:Nat} {ys:List Yr} {rs:RS} {sh:List Sh} (h1:CF.ash 121=some sh) (h2:vdsOf sh xs=some vs) (h3:tSorted Fn xs=some (j,ys)) (h4:(CF.rsk 121)[j]?=some rs):SC Tryz.prog 121 vs (pack (rvsAt ys rs 0)):=by
 unfold tSorted at h3
 split at h3
 ·rename_i x
  cases h1
  cases h2
  split at h3
  ·rename_i y h83
   split at h3
   ·rename_i hn
    rw [dNil_some hn.1,dNil_some hn.2] at h83
    rw [dNil_some hn.1]
    cases h3
    cases h4
    exact sc121n hF h83
   ·cases h3
  ·rename_i rows h83
   split at h3
   ·cases h3
   split at h3
   ·rename_i hl
    split at h3
    ·cases h3
    rename_i l hl2
    split at h3
    ·rename_i hd
     cases h3
     cases h4
     rw [recsD_some hl2] at h83 hl
     exact sc121 hF h83 (by rwa [List.length_map] at hl) hd
    ·cases h3
   ·cases h3
  ·cases h3
 ·cases h3
end Go.VE
namespace Go.VE
open Go.RowKit Go.Proofs Go.Shelf Go.Lib
set_option maxRecDepth 100000
set_option maxHeartbeats 2000000
def readV:Option Rec→Value
 | some r=>.tuple #[.agg (encR r).toArray,.bool true]
 | none=>.tuple #[.agg (encR zeroR).toArray,.bool false]
def boxR (l:List Nat):Array Value:=(l.map (fun n:Nat=>Value.int .i64 n)++List.replicate (7 - l.length) (Value.int .i64 0)++[Value.string ⟨#[]⟩]).toArray
theorem boxR_size {l:List Nat} (h:l.length≤7):(boxR l).size=8:=by
 simp [boxR];omega
theorem arr8 {A:Array Value} (h:A.size=8):∃ x0 x1 x2 x3 x4 x5 x6 x7,A=#[x0,x1,x2,x3,x4,x5,x6,x7]:=by
 obtain ⟨l⟩:=A
 match l,h with
 | [x0,x1,x2,x3,x4,x5,x6,x7],_=>exact ⟨x0,x1,x2,x3,x4,x5,x6,x7,rfl⟩
theorem boxR_at {l:List Nat} (h:l.length < 7):(boxR l)[l.length]?=some (.int .i64 0):=by
 unfold boxR
 rw [List.getElem?_toArray,List.append_assoc,List.getElem?_append_right (by simp),show 7 - l.length=(7 - (l.length+1))+1 by omega,List.replicate_succ]
 simp
theorem boxR_set {l:List Nat} (h:l.length < 7) (n:Nat):(boxR l).setIfInBounds l.length (.int .i64 n)=boxR (l++[n]):=by
 unfold boxR
 rw [List.setIfInBounds_toArray]
 congr 1
 rw [List.append_assoc,List.set_append_right _ _ (by simp),show 7 - l.length=(7 - (l.length+1))+1 by omega,List.replicate_succ]
 simp
structure Rd (s:List UInt8) (w:World) (l:List Nat) (t:List UInt8) (wr:World):Prop where
 le:l.length≤7
 nums:numsG numA 7 s=(numsG numA (7 - l.length) t).map fun x=>(l++x.1,x.2)
 tl:t.length≤s.length
 box:wr.heap[w.heap.size]?=some (.cells (boxR l) 25 (0,0))
 err:wr.heap[w.heap.size+1]?=some (.cells #[.bool false] 4 (0,0))
 be:Below w.heap.size w wr
 si:w.heap.size+1+1≤wr.heap.size
theorem Rd.keep {s:List UInt8} {w:World} {l:List Nat} {t:List UInt8} {wr w1:World} (R:Rd s w l t wr) (hb:Below wr.heap.size wr w1):Rd s w l t w1:=by
 have:=R.si
 exact ⟨R.le,R.nums,R.tl,(hb.block _ (by omega)).trans R.box,(hb.block _ (by omega)).trans R.err,R.be.trans (hb.mono (by omega)),Nat.le_trans R.si hb.size⟩
theorem Rd.start (s:List UInt8) (w:World):Rd s w [] s ((w.alloc (.cells #[.int .i64 0,.int .i64 0,.int .i64 0,.int .i64 0,.int .i64 0,.int .i64 0,.int .i64 0,.string ⟨#[]⟩] 25)).alloc (.cells #[.bool false] 4)):=by
 refine ⟨by decide,?_,Nat.le_refl _,?_,heap_alloc2_new _ _ _,((Below.refl _ w).alloc (Nat.le_refl _) _).alloc (by simp) _,by simp⟩
 ·cases numsG numA 7 s<;>rfl
 ·rw [heap_alloc_old _ _ (by simp)];exact heap_alloc_new _ _
theorem nums_step {t a r:List UInt8} {n k:Nat} (hc:cutSp t=some (a,r)) (hn:numA a=some n):numsG numA (k+1) t=(numsG numA k r).map fun x=>(n::x.1,x.2):=by
 rw [numsG,hc]
 simp only [hn]
theorem nums_bad {t:List UInt8} {k:Nat} (hc:cutSp t=none∨∃ a r,cutSp t=some (a,r)∧numA a=none):numsG numA (k+1) t=none:=by
 rw [numsG]
 rcases hc with hc | ⟨a,r,hc,hn⟩
 ·rw [hc]
 ·rw [hc]
  simp only [hn]
theorem Rd.next {s:List UInt8} {w:World} {l:List Nat} {t a r:List UInt8} {n:Nat} {wr:World} (R:Rd s w l t wr) (hl:l.length < 7) (hc:cutSp t=some (a,r)) (hn:numA a=some n):Rd s w (l++[n]) r (wr.setCell ⟨w.heap.size,l.length,none⟩ (.int .i64 n)):=by
 have hs:=R.si
 have ht:r.length≤t.length:=by
  rw [(cut_inv t a r hc).1]
  simp only [List.length_append,List.length_cons];omega
 refine ⟨by simp;omega,?_,Nat.le_trans ht R.tl,?_,(setC_other (by omega)).trans R.err,R.be.setCell (p:=⟨w.heap.size,l.length,none⟩) (Nat.le_refl _) _,by simpa [World.setCell] using hs⟩
 ·rw [R.nums,show 7 - l.length=(7 - (l.length+1))+1 by omega,nums_step hc hn,List.length_append,List.length_singleton]
  cases numsG numA (7 - (l.length+1)) r<;>simp
 ·have:=setC_same (i:=l.length) (v:=.int .i64 n) R.box
  rwa [boxR_set hl] at this
theorem Rd.bad {s:List UInt8} {w:World} {l:List Nat} {t:List UInt8} {wr:World} (R:Rd s w l t wr) (hl:l.length < 7) (hc:cutSp t=none∨∃ a r,cutSp t=some (a,r)∧numA a=none):numsG numA 7 s=none:=by
 rw [R.nums,show 7 - l.length=(7 - (l.length+1))+1 by omega,nums_bad hc]
 rfl
theorem Rd.done {s:List UInt8} {w:World} {l:List Nat} {t:List UInt8} {wr:World} (R:Rd s w l t wr) (hl:l.length=7):numsG numA 7 s=some (l,t):=by
 have:=R.nums
 rw [hl] at this
 rw [this]
 simp [numsG]
theorem ix197 (B:Nat) {i:Nat} (hi:i < 7) (W:World):(Instr.index 197 (.agg #[.pointer (some ⟨B,0,none⟩),.pointer (some ⟨B,1,none⟩),.pointer (some ⟨B,2,none⟩),.pointer (some ⟨B,3,none⟩),.pointer (some ⟨B,4,none⟩),.pointer (some ⟨B,5,none⟩),.pointer (some ⟨B,6,none⟩)]) (.int .i64 i)).run Tryz.prog W=.ok (.pointer (some ⟨B,i,none⟩)) W:=by
 have hu:Tryz.prog.underlying 197=some (.array 7 196):=by kernel_rfl
 have hs:sizeC Tryz.prog 196=some 1:=by kernel_rfl
 have hg:aggC Tryz.prog 196=some false:=by kernel_rfl
 have hp:=part_ok (P:=Tryz.prog) (w:=W) (t:=196) (s:=1) (off:=i*1) (us:=[.pointer (some ⟨B,0,none⟩),.pointer (some ⟨B,1,none⟩),.pointer (some ⟨B,2,none⟩),.pointer (some ⟨B,3,none⟩),.pointer (some ⟨B,4,none⟩),.pointer (some ⟨B,5,none⟩),.pointer (some ⟨B,6,none⟩)]) hs (by rw [hg];rfl) (.inr rfl) (by simp;omega)
 have h1:(0:Int)≤(i:Int)∧(i:Int) < ((7:Nat):Int):=by omega
 simp only [Instr.index,asIntOf,Sem.run_bind,Sem.run_pure,Result.andThen_ok,run_underlying hu,Sem.run_ite]
 rw [if_pos h1]
 simp only [Sem.run_bind,r_sizeOf hs,Result.andThen_ok,Int.toNat_natCast]
 rw [hp]
 unfold mkVal
 rw [hg]
 congr 1
 match i,hi with
 | 0,_=>rfl
 | 1,_=>rfl
 | 2,_=>rfl
 | 3,_=>rfl
 | 4,_=>rfl
 | 5,_=>rfl
 | 6,_=>rfl
theorem settle_r (v:Value):settle (.panicking [{ v:=v,recovered:=true }])=.returning:=by simp [settle]
theorem leave86 {T:Array Value} {W:World} {R:Ending→World→Prop} {cs:Array Value} {y:Bool} {b c:Nat} (h2:T.getD 2 undef=.pointer (some ⟨b,0,none⟩)) (h3:T.getD 3 undef=.pointer (some ⟨c,0,none⟩))
  (hb:W.heap[b]?=some (.cells cs 25 (0,0))) (hs:cs.size=8) (hc:W.heap[c]?=some (.cells #[.bool y] 4 (0,0))) (hR:R (.returned (.tuple #[.agg cs,.bool y])) W):Leaves Tryz.prog Tryz.f86 T R [] .returning W:=by
 have h2':T[2]?.getD undef=.pointer (some ⟨b,0,none⟩):=by simpa using h2
 have h3':T[3]?.getD undef=.pointer (some ⟨c,0,none⟩):=by simpa using h3
 have hl:=run_loadVar_row (P:=Tryz.prog) W b 25 25 cs (0,0) _ hb Tryz.underlying25 rfl (by rw [hs];kernel_rfl)
 have hy:W.cell? ⟨c,0,none⟩=some (.bool y):=Go.Joins.cell_of_block hc 0
 have hl4:(loadVar 4 ⟨c,0,none⟩).run Tryz.prog W=.ok (.bool y) W:=by simp [go_sem,hy]
 refine ⟨_,?_,hR⟩
 simp [results,Tryz.results86,h2',h3',asAddr,hl,hl4,Sem.run_bind]
end Go.VE
