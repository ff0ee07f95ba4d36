/- Book: the text of a record, walked (printed by mktw1.py). -/
import Derived.Test.YtipddjojdgapiaaGreatDoorMg0
import Derived.Test.YtipddjojdgapiaaGreatDoorMa
import Derived.Deep.RegionWith
import Derived.Test.YtipddjojdgapiaaGreatDoorMp
import Derived.Test.YtipddjojdgapiaaGreatDoorMt
import Derived.Deep.AppendLies
import Derived.Deep.RegionLaw
import Derived.Shelf.SlSortCmp.WholeK
import Derived.KernelRfl
import Derived.Test.YtipddjojdgapiaaGreatDoorChecked
namespace Go.VE
open Go.RowKit Go.Proofs Go.Shelf Go.Lib
set_option maxRecDepth 100000
set_option maxHeartbeats 1500000
structure LaidW (w:World):Prop where
 l:Laid w
 s:nX≤w.heap.size
theorem LaidW.below {w w':World} {B:Nat} (h:LaidW w) (hb:Below B w w') (hB:nX≤B):LaidW w' :=
 ⟨h.l.kept fun b hn=>hb.block b (by omega),Nat.le_trans h.s hb.size⟩
theorem below_grow (w:World) (k:Nat) (os:Array Obj):Below w.heap.size w (Sort.grow (w.drewN k) os):=by
 refine ⟨rfl,rfl,rfl,?_,fun i hi=>?_⟩
 ·show w.heap.size≤(w.heap++os).size
  rw [Array.size_append];omega
 ·show (w.heap++os)[i]?=w.heap[i]?
  rw [Array.getElem?_append,if_pos hi]
theorem itoaL (n:Nat) (h1:n≤9223372036854775807) (w:World) (hL:LaidW w):Calls Tryz.prog 142 #[.int .i64 n] w fun e w'=>e=.returned (.string ⟨(Lib.decDigits n).toArray⟩)∧Below w.heap.size w w':=by
 refine (Tryz.strconv_Itoa n (by omega) (by omega) w (hL.l.tab (by kernel_rfl))).mono ?_
 rintro e w' ⟨rfl,k,os,rfl⟩
 exact ⟨by rw [Lib.itoa_nonneg],below_grow w k os⟩
theorem bs_size (l:List UInt8):(⟨l.toArray⟩:ByteArray).size=l.length:=by simp [ByteArray.size]
theorem bs_list (s:ByteArray):s=⟨s.data.toList.toArray⟩:=by cases s;simp
theorem bs_app (a b:List UInt8):(⟨a.toArray⟩:ByteArray)++⟨b.toArray⟩=⟨(a++b).toArray⟩:=by
 rw [bs_list (_++_)]
 simp
theorem strC_app (a:List UInt8) (b:List UInt8):Lib.byteCells a++Lib.strCells ⟨b.toArray⟩=Lib.byteCells (a++b):=by
 simp [Lib.byteCells,Lib.strCells]
theorem wS (B b:Nat) (bs:List Value) (s:ByteArray) (w:World) (h:Lib.IsBuilderF 204 5 B b bs w) (hlen:bs.length+s.size≤140737488355328) (hBw:B≤w.heap.size) :
  Calls Tryz.prog 141 #[.pointer (some ⟨b,0,none⟩),.string s] w fun e w'=>e=.returned (.tuple #[.int .i64 s.size,.nilIface])∧(Lib.BuilderAtF 204 5 B b (.pointer (some ⟨b,0,none⟩)) (bs++Lib.strCells s) w'∧Below B w w'):=Tryz.Builder_WriteString_f B b bs s w h hlen hBw
theorem wSb (B:Nat) (l t:List UInt8) (w:World) (h:Lib.IsBuilderF 204 5 B B (Lib.byteCells l) w) (hlen:l.length≤200) (ht:t.length≤5) (hBw:B≤w.heap.size) :
  Calls Tryz.prog 141 #[.pointer (some ⟨B,0,none⟩),.string ⟨t.toArray⟩] w fun e w'=>e=.returned (.tuple #[.int .i64 t.length,.nilIface])∧(Lib.IsBuilderF 204 5 B B (Lib.byteCells (l++t)) w'∧Below B w w'):=by
 refine (wS B B _ _ w h (by rw [bs_size,byteCells_length];omega) hBw).mono ?_
 rintro e w' ⟨rfl,k,d⟩
 rw [strC_app] at k
 exact ⟨by rw [bs_size],.inr k,d⟩
theorem blt_below {T e:TypeId} {B b:Nat} {bs:List Value} {w w':World} (h:Lib.IsBuilderF T e B b bs w) (hb:Below w.heap.size w w'):Lib.IsBuilderF T e B b bs w':=by
 have go:∀ p,Lib.BuilderAtF T e B b p bs w→Lib.BuilderAtF T e B b p bs w':=by
  intro p h
  have hlt:=h.lt
  obtain ⟨hB,v,hv,hown,hne⟩:=h
  refine ⟨hB,v,(hb.block _ hlt).trans hv,hown.kept (row:=none) ⟨hb.os,hb.tape,hb.output,hb.size,fun k hk _=>hb.block k hk⟩ ?_,hne⟩
  cases v.ownBlock<;>simp
 exact h.elim (fun h=>.inl (go _ h)) (fun h=>.inr (go _ h))
def dg (n:Nat):List UInt8:=Lib.decDigits n++[32]
theorem dg_len {n:Nat} (h:n≤9999):(dg n).length≤5:=by
 have:=(dec_len4 h).2
 simp only [dg,List.length_append,List.length_cons,List.length_nil]
 omega
theorem ix0 (c0 c1 c2 c3 c4 c5 c6:Value) (W:World):(Instr.index 205 (.agg #[c0,c1,c2,c3,c4,c5,c6]) (.int .i64 0)).run Tryz.prog W=.ok c0 W:=by kernel_rfl
theorem ix1 (c0 c1 c2 c3 c4 c5 c6:Value) (W:World):(Instr.index 205 (.agg #[c0,c1,c2,c3,c4,c5,c6]) (.int .i64 1)).run Tryz.prog W=.ok c1 W:=by kernel_rfl
theorem ix2 (c0 c1 c2 c3 c4 c5 c6:Value) (W:World):(Instr.index 205 (.agg #[c0,c1,c2,c3,c4,c5,c6]) (.int .i64 2)).run Tryz.prog W=.ok c2 W:=by kernel_rfl
theorem ix3 (c0 c1 c2 c3 c4 c5 c6:Value) (W:World):(Instr.index 205 (.agg #[c0,c1,c2,c3,c4,c5,c6]) (.int .i64 3)).run Tryz.prog W=.ok c3 W:=by kernel_rfl
theorem ix4 (c0 c1 c2 c3 c4 c5 c6:Value) (W:World):(Instr.index 205 (.agg #[c0,c1,c2,c3,c4,c5,c6]) (.int .i64 4)).run Tryz.prog W=.ok c4 W:=by kernel_rfl
theorem ix5 (c0 c1 c2 c3 c4 c5 c6:Value) (W:World):(Instr.index 205 (.agg #[c0,c1,c2,c3,c4,c5,c6]) (.int .i64 5)).run Tryz.prog W=.ok c5 W:=by kernel_rfl
theorem ix6 (c0 c1 c2 c3 c4 c5 c6:Value) (W:World):(Instr.index 205 (.agg #[c0,c1,c2,c3,c4,c5,c6]) (.int .i64 6)).run Tryz.prog W=.ok c6 W:=by kernel_rfl
theorem ixs (a0 a1 a2 a3 a4 a5 a6:Nat) (i z:Nat) (h:[a0,a1,a2,a3,a4,a5,a6][i]?=some z) (W:World):(Instr.index 205 (.agg #[.int .i64 a0,.int .i64 a1,.int .i64 a2,.int .i64 a3,.int .i64 a4,.int .i64 a5,.int .i64 a6]) (.int .i64 i)).run Tryz.prog W=.ok (.int .i64 z) W:=by
 match i,h with
 | 0,h=>simp at h;subst h;exact ix0 ..
 | 1,h=>simp at h;subst h;exact ix1 ..
 | 2,h=>simp at h;subst h;exact ix2 ..
 | 3,h=>simp at h;subst h;exact ix3 ..
 | 4,h=>simp at h;subst h;exact ix4 ..
 | 5,h=>simp at h;subst h;exact ix5 ..
 | 6,h=>simp at h;subst h;exact ix6 ..
 | i+7,h=>simp at h
theorem tk_len {l:List Nat} (h:∀ z∈l,z≤9999) (i:Nat):((l.take i).flatMap dg).length≤5*(l.take i).length:=by
 have:∀ l:List Nat,(∀ z∈l,z≤9999)→(l.flatMap dg).length≤5*l.length:=by
  intro l
  induction l with
  | nil=>intro _;simp
  | cons z t ih =>
   intro h
   have h1:=dg_len (h z (by simp))
   have h2:=ih fun y hy=>h y (List.mem_cons_of_mem _ hy)
   simp only [List.flatMap_cons,List.length_append,List.length_cons] at h2 ⊢
   omega
 exact this _ fun z hz=>h z (List.mem_of_mem_take hz)
theorem text_c (a0 a1 a2 a3 a4 a5 a6:Nat) (t:List UInt8) (h0:a0≤9999) (h1:a1≤9999) (h2:a2≤9999) (h3:a3≤9999) (h4:a4≤9999) (h5:a5≤9999) (h6:a6≤9999) (ht:t.length≤160) (w:World) (hL:LaidW w) :
  Calls Tryz.prog 103 #[.agg #[.int .i64 a0,.int .i64 a1,.int .i64 a2,.int .i64 a3,.int .i64 a4,.int .i64 a5,.int .i64 a6,.string ⟨t.toArray⟩]] w fun e w'=>e=.returned (.string ⟨((dg a0++dg a1++dg a2++dg a3++dg a4++dg a5++dg a6)++t).toArray⟩)∧Below w.heap.size w w':=by
 have hx:=hL.s
 have hlen:[a0,a1,a2,a3,a4,a5,a6].length=7:=rfl
 have hsm:∀ z∈[a0,a1,a2,a3,a4,a5,a6],z≤9999:=by
  intro z hz
  simp only [List.mem_cons,List.not_mem_nil,or_false] at hz
  rcases hz with rfl | rfl | rfl | rfl | rfl | rfl | rfl<;>assumption
 have hfin:dg a0++dg a1++dg a2++dg a3++dg a4++dg a5++dg a6=[a0,a1,a2,a3,a4,a5,a6].flatMap dg:=by simp
 rw [hfin]
 have hix:=ixs a0 a1 a2 a3 a4 a5 a6
 clear hfin h0 h1 h2 h3 h4 h5 h6
 obtain ⟨l,hl⟩:∃ l,[a0,a1,a2,a3,a4,a5,a6]=l:=⟨_,rfl⟩
 rw [hl] at hlen hsm hix ⊢
 clear hl
 obtain ⟨f,hf⟩:∃ f,l.flatMap dg=f:=⟨_,rfl⟩
 rw [hf]
 go_enter Tryz.func103,Tryz.ntmps103
 go_wp2
 obtain ⟨W,hW⟩:∃ W,w.alloc (Obj.cells #[Value.int .i64 a0,Value.int .i64 a1,Value.int .i64 a2,Value.int .i64 a3,Value.int .i64 a4,Value.int .i64 a5,Value.int .i64 a6,Value.string ⟨t.toArray⟩] 25)=W:=⟨_,rfl⟩
 have hWs:W.heap.size=w.heap.size+1:=by rw [←hW];simp
 have c7:W.cell? ⟨w.heap.size,7,none⟩=some (.string ⟨t.toArray⟩):=by
  rw [←hW,Go.Joins.cell_of_block (heap_alloc_new w _)];rfl
 have bW:Below w.heap.size w W:=by rw [←hW];exact (Below.refl _ w).alloc (Nat.le_refl _) _
 have k0:Lib.IsBuilderF 204 5 W.heap.size W.heap.size (Lib.byteCells []) (W.alloc (.cells #[.pointer none,.slice none 0 0] 204)):=Lib.IsBuilderF.of (Lib.fresh_isBuilder 204 5 W)
 have b0:Below W.heap.size W (W.alloc (.cells #[.pointer none,.slice none 0 0] 204)):=(Below.refl _ W).alloc (Nat.le_refl _) _
 obtain ⟨W0,hW0⟩:∃ W0,W.alloc (.cells #[.pointer none,.slice none 0 0] 204)=W0:=⟨_,rfl⟩
 rw [hW0] at k0 b0
 rw [hWs] at k0 b0
 rw [hW,hW0]
 have L0:LaidW W0:=(hL.below bW hx).below b0 (by omega)
 have hWn:nX≤w.heap.size+1:=by omega
 have LW:LaidW W:=hL.below bW hx
 have hLW:∀ {u:World},Below (w.heap.size+1) W u→LaidW u:=fun h=>LW.below h hWn
 clear hW0 hW
 go_loopg [25] 7 (fun g z25 wr=>∃ i:Nat,z25=.int .i64 i∧i+g=7∧Lib.IsBuilderF 204 5 (w.heap.size+1) (w.heap.size+1) (Lib.byteCells ((l.take i).flatMap dg)) wr∧Below (w.heap.size+1) W wr∧LaidW wr)
 case atStart=>exact ⟨0,rfl,rfl,by simpa using k0,b0,L0⟩
 case round =>
  obtain ⟨i,rfl,hg,hk,hb,hLr⟩:=hrel
  clear k0 b0 L0
  by_cases hi:i < 7
  ·have hz:l[i]?=some l[i]:=List.getElem?_eq_getElem (by omega)
   have hzm:=hsm l[i] (List.getElem_mem (by omega))
   have hiz:=hix i l[i] hz
   have htk:(l.take (i+1)).flatMap dg=(l.take i).flatMap dg++dg l[i]:=by rw [List.take_add_one,hz,Option.toList_some,List.flatMap_append,List.flatMap_cons,List.flatMap_nil,List.append_nil]
   have hln:=tk_len hsm i
   have hli:(l.take i).length≤7:=by rw [List.length_take];omega
   generalize l[i]=z at hz hzm hiz htk
   have hstr:(⟨(Lib.decDigits z).toArray⟩:ByteArray)++⟨#[32]⟩=⟨(dg z).toArray⟩:=bs_app (Lib.decDigits z) [32]
   have s1:¬ 9223372036854775807 < (Lib.decDigits z).length+1:=by have:=(dec_len4 hzm).2;omega
   have A:Aside ((l.take (i+1)).flatMap dg=(l.take i).flatMap dg++dg z∧Below (w.heap.size+1) W wr):=⟨htk,hb⟩
   have hw:∀ u,Below wr.heap.size wr u→Calls Tryz.prog 141 #[.pointer (some ⟨w.heap.size+1,0,none⟩),.string ⟨(dg z).toArray⟩] u fun e w'=>e=.returned (.tuple #[.int .i64 (dg z).length,.nilIface])∧(Lib.IsBuilderF 204 5 (w.heap.size+1) (w.heap.size+1) (Lib.byteCells ((l.take i).flatMap dg++dg z)) w'∧Below (w.heap.size+1) W w'):=fun u e0=>by
    refine (wSb (w.heap.size+1) _ (dg z) u (blt_below hk e0) (by omega) (dg_len hzm) (by have:=hb.size;have:=e0.size;omega)).mono ?_
    rintro e W1 ⟨rfl,k1,d0⟩
    exact ⟨rfl,k1,(hb.trans (e0.mono (by have:=hb.size;omega))).trans d0⟩
   clear htk hix hz hsm hk hb
   obtain ⟨g,rfl⟩:∃ g,gk=g+1:=⟨gk - 1,by omega⟩
   go_wp2_with (first
    | (go_at_call 142;refine (itoaL z (by omega) _ hLr).mono ?_;rintro e u ⟨rfl,e0⟩)
    | (go_at_call 141;refine (hw u e0).mono ?_;rintro e W1 ⟨rfl,k1,d0⟩))
   obtain ⟨htk,hb⟩:=A.out
   go_roundg g
   case measure=>omega
   case rel=>exact ⟨i+1,by simp,by omega,by rw [htk];exact k1,d0,hLW d0⟩
  ·obtain rfl:i=7:=by omega
   obtain rfl:gk=0:=by omega
   rw [List.take_of_length_le (by omega),hf] at hk
   have cw:=(hb.cell (p:=⟨w.heap.size,7,none⟩) (by show w.heap.size < w.heap.size+1;omega)).trans c7
   have hs5:=tk_len hsm 7
   rw [List.take_of_length_le (by omega),hf] at hs5
   have hs6:¬ 9223372036854775807 < f.length+t.length:=by omega
   go_wp2
   go_region_with (go_at_call 143;refine (Tryz.Builder_String_any_f (w.heap.size+1) (w.heap.size+1) f wr.drew (blt_below hk ((Below.refl wr.heap.size wr).drew)) (by have:=hb.size;show _≤wr.heap.size;omega)).mono ?_;rintro e w9 ⟨rfl,k9,d9⟩;have c9:=(d9.cell (p:=⟨w.heap.size,7,none⟩) (by show w.heap.size < w.heap.size+1;omega)).trans (show wr.drew.cell? ⟨w.heap.size,7,none⟩=some (.string ⟨t.toArray⟩) from cw))
   all_goals go_wp2
   all_goals go_ret
   all_goals (have bb:Below (w.heap.size+1) W w9:=hb.trans ((Below.refl (w.heap.size+1) wr).drew.trans d9))
   all_goals (refine ⟨?_,bW.trans (bb.mono (by omega))⟩)
   all_goals (show Ending.returned (Value.string (_++_))=_;rw [bs_app])
end Go.VE
namespace Go.VE
open Go.RowKit Go.Proofs Go.Shelf Go.Lib
set_option maxRecDepth 100000
set_option maxHeartbeats 1500000
theorem plain_c (s:List UInt8) (h:s.length≤1000) (w:World):Calls Tryz.prog 129 #[.string ⟨s.toArray⟩] w fun e w'=>e=.returned (.bool (s.all okB))∧Below w.heap.size w w':=by
 have hsz:=bs_size s
 have hcv:=Go.Lib.run_convert_string_bytes (P:=Tryz.prog) w 9 190 5 ⟨s.toArray⟩ Tryz.underlying9 Tryz.underlying190 Tryz.underlying5
 rw [hsz] at hcv
 have hbw:Below w.heap.size w (bytesWorld w 5 ⟨s.toArray⟩):=⟨rfl,rfl,rfl,by rw [bytesWorld_size];omega,fun k hk=>bytesWorld_at_old w 5 _ k hk⟩
 have hcell:∀ (j:Nat) (x:UInt8),s[j]?=some x→(bytesWorld w 5 ⟨s.toArray⟩).cell? ⟨w.heap.size,j,none⟩=some (.int .u8 x.toNat):=fun j x hx=>by
  obtain ⟨hj,rfl⟩:=List.getElem?_eq_some_iff.1 hx
  rw [bytesWorld_cell w 5 _ j (by rw [hsz];exact hj)]
  simp [List.getD,hj]
 obtain ⟨W,hW⟩:∃ W,bytesWorld w 5 ⟨s.toArray⟩=W:=⟨_,rfl⟩
 obtain ⟨c,hc⟩:∃ c,grownCap w s.length 0 5=c:=⟨_,rfl⟩
 rw [hW,hc] at hcv
 rw [hW] at hbw hcell
 clear hW hc
 have HC:Aside (∀ (j:Nat) (x:UInt8),s[j]?=some x→W.cell? ⟨w.heap.size,j,none⟩=some (.int .u8 x.toNat)):=hcell
 clear hcell
 go_enter Tryz.func129,Tryz.ntmps129
 go_wp2
 go_loopg [8] s.length (fun g z8 wr=>∃ i:Nat,z8=.int .i64 i∧i+g=s.length∧(s.take i).all okB=true∧wr=W)
 case atStart=>exact ⟨0,rfl,by omega,by simp,rfl⟩
 case round =>
  obtain ⟨i,rfl,hg,hk,rfl⟩:=hrel
  by_cases hi:i < s.length
  ·have hx:s[i]?=some s[i]:=List.getElem?_eq_getElem hi
   generalize s[i]=x at hx
   have hci:=HC.out i x hx
   have htk:(s.take (i+1)).all okB=((s.take i).all okB&&okB x):=by rw [List.take_add_one,hx];simp
   obtain ⟨g,rfl⟩:∃ g,gk=g+1:=⟨gk - 1,by omega⟩
   have i3:(i:Int) < (s.length:Int):=by omega
   by_cases hb:okB x=true
   ·have hb':=okB_bnd hb
    have hb1:¬ (x.toNat:Int) < 32:=by omega
    have hb2:¬ (126:Int) < (x.toNat:Int):=by omega
    go_wp2
    go_roundg g
    case measure=>omega
    case rel=>exact ⟨i+1,by simp,by omega,by rw [htk,hk,hb];rfl,rfl⟩
   ·have hall:s.all okB=false:=by
     rw [←Bool.not_eq_true,List.all_eq_true]
     intro h
     exact hb (h x (List.mem_of_getElem? hx))
    have hb':(x.toNat:Int) < 32∨(126:Int) < (x.toNat:Int):=by
     have:¬ (32≤x.toNat∧x.toNat≤126):=fun h=>hb (by simp only [okB,decide_eq_true_eq];exact h)
     omega
    rcases hb' with h1 | h1
    ·go_wp2
     go_ret
     refine ⟨?_,hbw⟩
     first | rfl | (rw [hall];rfl)
    ·have h2:¬ (x.toNat:Int) < 32:=by omega
     go_wp2
     go_ret
     refine ⟨?_,hbw⟩
     first | rfl | (rw [hall];rfl)
  ·obtain rfl:i=s.length:=by omega
   obtain rfl:gk=0:=by omega
   rw [List.take_length] at hk
   go_wp2
   go_ret
   refine ⟨?_,hbw⟩
   first | rfl | (rw [hk];rfl)
end Go.VE
namespace Go.VE
open Go.RowKit Go.Proofs Go.Shelf Go.Lib
set_option maxRecDepth 100000
set_option maxHeartbeats 1500000
noncomputable abbrev CF:Cf3:=cf3 tb Tryz.prog
theorem sc_of {Fn:Nat→List D→Out} (hF:FnOK Tryz.prog CF Fn) {f:Nat} {sh:List Sh} {xs:List D} {vs:List VD} {j:Nat} {ys:List Yr} {rs:RS} (h1:CF.ash f=some sh) (h2:vdsOf sh xs=some vs) (h3:Fn f xs=some (j,ys)) (h4:(CF.rsk f)[j]?=some rs):SC Tryz.prog f vs (pack (rvsAt ys rs 0)):=hF f sh xs vs j ys rs h1 h2 h3 h4
theorem isT_some {o:Out} {b:Bool} (h:isT o=some b):o=some (0,[.d (bl b)]):=by
 unfold isT at h
 split at h
 ·rw [dBool_some h]
 ·cases h
theorem outS_some {o:Out} {ys:List Yr} (h:outS o=some ys):o=some (0,ys):=by
 unfold outS at h
 split at h
 ·cases h;rfl
 ·cases h
theorem post_lit {w w':World} {U:Nat→Prop} {r:RV} {v:Value} (hU:∀ b,U b→b < w.heap.size) (hb:Below w.heap.size w w') (h:RvR w' U r v []):Post w U r (.returned v) w' :=
 ⟨v,U,[],rfl,hb,fun _ h=>h,fun b h=>⟨Nat.lt_of_lt_of_le (hU b h) hb.size,.inl h⟩,List.nodup_nil,by simp,h⟩
theorem laidW {w:World} {U:Nat→Prop} (hU:∀ b,U b→b < w.heap.size) (h:XX w U):LaidW w:=⟨h.2,by have:=hU 5 (h.1 5 (by decide));show 6≤_;omega⟩
theorem il_v {w:World} {U:Nat→Prop} {z:Int} {v:Value} (h:DR w U (il z) v):v=.int .i64 z:=h.1
theorem sD_v {w:World} {U:Nat→Prop} {s:List UInt8} {v:Value} (h:DR w U (sD s) v):v=.string ⟨s.toArray⟩:=h.1
theorem recR_v {w:World} {U:Nat→Prop} {r:Rec} {cs:List Value} (h:FR w U (recR r) cs):cs=[.int .i64 r.p,.int .i64 r.no,.int .i64 r.kd,.int .i64 r.dy,.int .i64 r.kn,.int .i64 r.op,.int .i64 r.on,.string ⟨r.tx.toArray⟩]:=by
 simp only [recR,FR] at h
 obtain ⟨_,_,rfl,h1,_,_,rfl,h2,_,_,rfl,h3,_,_,rfl,h4,_,_,rfl,h5,_,_,rfl,h6,_,_,rfl,h7,_,_,rfl,h8,rfl⟩:=h
 rw [il_v h1,il_v h2,il_v h3,il_v h4,il_v h5,il_v h6,il_v h7,sD_v h8]
theorem recR_f {w:World} {U:Nat→Prop} (r:Rec):FR w U (recR r) [.int .i64 r.p,.int .i64 r.no,.int .i64 r.kd,.int .i64 r.dy,.int .i64 r.kn,.int .i64 r.op,.int .i64 r.on,.string ⟨r.tx.toArray⟩]:=by
 simp only [recR,FR]
 exact ⟨_,_,rfl,⟨rfl,rfl⟩,_,_,rfl,⟨rfl,rfl⟩,_,_,rfl,⟨rfl,rfl⟩,_,_,rfl,⟨rfl,rfl⟩,_,_,rfl,⟨rfl,rfl⟩,_,_,rfl,⟨rfl,rfl⟩,_,_,rfl,⟨rfl,rfl⟩,_,_,rfl,⟨rfl,rfl⟩,rfl⟩
theorem agg_v {w:World} {U:Nat→Prop} {xs:List D} {vs:List Value} (h:VDF w U [.agg xs] vs):∃ cs,vs=[.agg cs.toArray]∧FR w U xs cs:=by
 simp only [VDF,VDR] at h
 obtain ⟨_,_,rfl,⟨cs,rfl,hc⟩,rfl⟩:=h
 exact ⟨cs.toList,by simp,hc⟩
theorem one_v {w:World} {U:Nat→Prop} {x:D} {vs:List Value} (h:VDF w U [.one x] vs):∃ v,vs=[v]∧DR w U x v:=by
 simp only [VDF,VDR] at h
 obtain ⟨v,_,rfl,hc,rfl⟩:=h
 exact ⟨v,rfl,hc⟩
theorem arr_of {vs:Array Value} {l:List Value} (h:vs.toList=l):vs=l.toArray:=by rw [←h]
theorem sc103 {r:Rec} (hok:okR r=true):SC Tryz.prog 103 [.agg (recR r)] (.one (.d (sD (txt r)))):=by
 refine ⟨enters_of Tryz.func103 (by kernel_rfl) rfl,fun w U vs hU hX hv=>?_⟩
 obtain ⟨cs,h1,h2⟩:=agg_v hv
 rw [arr_of h1,recR_v h2]
 have hs:=okR_small hok
 have ht:r.tx.length≤160:=by
  simp only [okR,Bool.and_eq_true,decide_eq_true_eq] at hok
  exact hok.1.1.2.2.2.2.2.2.2
 obtain ⟨p,no,kd,dy,kn,op,on,tx⟩:=r
 simp only [numsR,List.mem_cons,List.not_mem_nil,or_false,forall_eq_or_imp,forall_eq] at hs
 obtain ⟨k1,k2,k3,k4,k5,k6,k7⟩:=hs
 obtain ⟨a,rfl⟩:=Int.eq_ofNat_of_zero_le k1.1
 obtain ⟨b,rfl⟩:=Int.eq_ofNat_of_zero_le k2.1
 obtain ⟨c,rfl⟩:=Int.eq_ofNat_of_zero_le k3.1
 obtain ⟨d,rfl⟩:=Int.eq_ofNat_of_zero_le k4.1
 obtain ⟨e,rfl⟩:=Int.eq_ofNat_of_zero_le k5.1
 obtain ⟨u,rfl⟩:=Int.eq_ofNat_of_zero_le k6.1
 obtain ⟨v,rfl⟩:=Int.eq_ofNat_of_zero_le k7.1
 have e1:txt ⟨a,b,c,d,e,u,v,tx⟩=(dg a++dg b++dg c++dg d++dg e++dg u++dg v)++tx:=by
  simp [txt,numsR,dcZ,dg]
 refine (text_c a b c d e u v tx (by omega) (by omega) (by omega) (by omega) (by omega) (by omega) (by omega) ht w (laidW hU hX)).mono ?_
 rintro x w' ⟨rfl,hb⟩
 refine post_lit hU hb ?_
 rw [e1]
 exact ⟨rfl,rfl,rfl⟩
theorem sc129 {s:List UInt8} (h:s.length≤1000):SC Tryz.prog 129 [.one (sD s)] (.one (.d (bl (s.all okB)))):=by
 refine ⟨enters_of Tryz.func129 (by kernel_rfl) rfl,fun w U vs hU hX hv=>?_⟩
 obtain ⟨v,h1,h2⟩:=one_v hv
 rw [arr_of h1,sD_v h2]
 refine (plain_c s h w).mono ?_
 rintro x w' ⟨rfl,hb⟩
 exact post_lit hU hb ⟨rfl,rfl,rfl⟩
theorem sc130 {s:List UInt8} (h0:s≠[]) (h1:s.length≤1000) (hok:s.all okB=true):SC Tryz.prog 130 [.one (sD s)] (.agg [.d (sD (third 0 s)),.d (sD (third 1 s)),.d (sD (third 2 s))]):=by
 refine ⟨enters_of Tryz.func130 (by kernel_rfl) rfl,fun w U vs hU hX hv=>?_⟩
 obtain ⟨v,h2,h3⟩:=one_v hv
 rw [arr_of h2,sD_v h3]
 refine (thirds_c s (List.length_pos_iff.2 h0) h1 hok w).mono ?_
 rintro x w' ⟨rfl,hb⟩
 refine post_lit hU hb ⟨_,rfl,?_⟩
 exact ⟨_,_,[],[],rfl,rfl,⟨rfl,rfl,rfl⟩,_,_,[],[],rfl,rfl,⟨rfl,rfl,rfl⟩,_,_,[],[],rfl,rfl,⟨rfl,rfl,rfl⟩,rfl,rfl⟩
theorem ok103 {xs:List D} {vs:List VD} {j:Nat} {ys:List Yr} {rs:RS} {sh:List Sh} (h1:CF.ash 103=some sh) (h2:vdsOf sh xs=some vs) (h3:tText xs=some (j,ys)) (h4:(CF.rsk 103)[j]?=some rs):SC Tryz.prog 103 vs (pack (rvsAt ys rs 0)):=by
 unfold tText at h3
 split at h3
 ·cases h3
 ·rename_i r hr
  split at h3
  ·rename_i hok
   cases h3
   rw [recD_some hr] at h2
   cases h1
   cases h2
   cases h4
   exact sc103 hok
  ·cases h3
theorem ok129 {xs:List D} {vs:List VD} {j:Nat} {ys:List Yr} {rs:RS} {sh:List Sh} (h1:CF.ash 129=some sh) (h2:vdsOf sh xs=some vs) (h3:tPlain xs=some (j,ys)) (h4:(CF.rsk 129)[j]?=some rs):SC Tryz.prog 129 vs (pack (rvsAt ys rs 0)):=by
 unfold tPlain at h3
 split at h3
 ·split at h3
  ·cases h3
  ·rename_i s hs
   split at h3
   ·rename_i hl
    cases h3
    rw [dStr_some hs] at h2
    cases h1
    cases h2
    cases h4
    exact sc129 hl
   ·cases h3
 ·cases h3
theorem ok130 {xs:List D} {vs:List VD} {j:Nat} {ys:List Yr} {rs:RS} {sh:List Sh} (h1:CF.ash 130=some sh) (h2:vdsOf sh xs=some vs) (h3:tThirds xs=some (j,ys)) (h4:(CF.rsk 130)[j]?=some rs):SC Tryz.prog 130 vs (pack (rvsAt ys rs 0)):=by
 unfold tThirds at h3
 split at h3
 ·split at h3
  ·cases h3
  ·rename_i s hs
   split at h3
   ·rename_i hl
    cases h3
    rw [dStr_some hs] at h2
    cases h1
    cases h2
    cases h4
    exact sc130 hl.1 hl.2.1 hl.2.2
   ·cases h3
 ·cases h3
end Go.VE
namespace Go.VE
open Go.RowKit Go.Proofs Go.Shelf Go.Lib
set_option maxRecDepth 100000
set_option maxHeartbeats 1500000
theorem cLit {f:Nat} {args:List VD} {x:Value} (h:SC Tryz.prog f args (.one (.d (.lit x)))) {w:World} {U:Nat→Prop} (hU:∀ b,U b→b < w.heap.size) (hX:XX w U) {vs:Array Value} (hv:VDF w U args vs.toList):Calls Tryz.prog f vs w fun e w'=>e=.returned x∧Below w.heap.size w w':=by
 refine (h.2 w U vs hU hX hv).mono ?_
 rintro e w' ⟨v,U',bs,rfl,hb,_,_,_,_,hr⟩
 obtain ⟨_,h2,_⟩:=hr
 exact ⟨by rw [h2],hb⟩
abbrev strR (n:Int) (z:Int) (t:List UInt8):List D:=[il n,il z,sD t]
theorem RcF_d {w:World} {U:Nat→Prop}:∀ {xs:List D} {vs:List Value} {bs:List Nat},RcF w U (xs.map .d) vs bs→FR w U xs vs∧bs=[]
 | [],vs,bs,h=>by simpa [RcF,FR] using h
 | x::xs,vs,bs,h=>by
  obtain ⟨v,vs',b1,b2,rfl,rfl,⟨rfl,h1⟩,h2⟩:=h
  obtain ⟨h3,rfl⟩:=RcF_d h2
  exact ⟨⟨v,vs',rfl,h1,h3⟩,rfl⟩
theorem nine_v {w:World} {U:Nat→Prop} {n0 z0 n1 z1 n2 z2:Int} {t0 t1 t2:List UInt8} {cs:Array Value} (h:FR w U (strR n0 z0 t0++strR n1 z1 t1++strR n2 z2 t2) cs.toList):cs=#[.int .i64 n0,.int .i64 z0,.string ⟨t0.toArray⟩,.int .i64 n1,.int .i64 z1,.string ⟨t1.toArray⟩,.int .i64 n2,.int .i64 z2,.string ⟨t2.toArray⟩]:=by
 simp only [strR,List.cons_append,List.nil_append,FR] at h
 obtain ⟨_,_,e1,g1,_,_,rfl,g2,_,_,rfl,g3,_,_,rfl,g4,_,_,rfl,g5,_,_,rfl,g6,_,_,rfl,g7,_,_,rfl,g8,_,_,rfl,g9,rfl⟩:=h
 rw [il_v g1,il_v g2,sD_v g3,il_v g4,il_v g5,sD_v g6,il_v g7,il_v g8,sD_v g9] at e1
 exact arr_of e1
theorem c71 {Fn:Nat→List D→Out} (hF:FnOK Tryz.prog CF Fn) {r:Rec} {no:Int} {ys:List Yr} {n0 z0 n1 z1 n2 z2:Int} {t0 t1 t2:List UInt8} (h:outS (Fn 71 (recR r++[il no]))=some ys) (h2:stripD ys=some (n0,z0,t0,n1,z1,t1,n2,z2,t2)) {w:World} {U:Nat→Prop} (hU:∀ b,U b→b < w.heap.size) (hX:XX w U) :
  Calls Tryz.prog 71 #[.agg #[.int .i64 r.p,.int .i64 r.no,.int .i64 r.kd,.int .i64 r.dy,.int .i64 r.kn,.int .i64 r.op,.int .i64 r.on,.string ⟨r.tx.toArray⟩],.int .i64 no] w fun e w'=>e=.returned (.agg #[.int .i64 n0,.int .i64 z0,.string ⟨t0.toArray⟩,.int .i64 n1,.int .i64 z1,.string ⟨t1.toArray⟩,.int .i64 n2,.int .i64 z2,.string ⟨t2.toArray⟩])∧Below w.heap.size w w':=by
 have hy:ys=[.d (il n0),.d (il z0),.d (sD t0),.d (il n1),.d (il z1),.d (sD t1),.d (il n2),.d (il z2),.d (sD t2)]:=by
  unfold stripD at h2
  split at h2
  ·split at h2
   ·cases h2
   rename_i e1
   split at h2
   ·cases h2
   rename_i e2
   split at h2
   ·cases h2
   rename_i e3
   split at h2
   ·cases h2
   rename_i e4
   split at h2
   ·cases h2
   rename_i e5
   split at h2
   ·cases h2
   rename_i e6
   split at h2
   ·cases h2
   rename_i e7
   split at h2
   ·cases h2
   rename_i e8
   split at h2
   ·cases h2
   rename_i e9
   cases h2
   rw [dInt_some e1,dInt_some e2,dStr_some e3,dInt_some e4,dInt_some e5,dStr_some e6,dInt_some e7,dInt_some e8,dStr_some e9]
  ·cases h2
 subst hy
 have hsc:=sc_of hF (f:=71) (sh:=[.agg 8,.one]) (xs:=recR r++[il no]) (vs:=[.agg (recR r),.one (il no)]) (rs:=[(true,[.d,.d,.d,.d,.d,.d,.d,.d,.d])]) rfl rfl (outS_some h) rfl
 refine (hsc.2 w U _ hU hX ?_).mono ?_
 ·exact ⟨_,_,rfl,⟨_,rfl,recR_f r⟩,_,_,rfl,⟨rfl,rfl⟩,rfl⟩
 ·rintro e w' ⟨v,U',bs,rfl,hb,_,_,_,_,hr⟩
  refine ⟨?_,hb⟩
  have hr':RvR w' U' (.agg ((strR n0 z0 t0++strR n1 z1 t1++strR n2 z2 t2).map RC.d)) v bs:=hr
  obtain ⟨cs,rfl,hc⟩:=hr'
  have hf:=(RcF_d hc).1
  rw [nine_v hf]
theorem bl_b {o:Out} {b:Bool} (h:isT o=some b):o=some (0,[.d (.lit (.bool b))]):=isT_some h
theorem sc13 {Fn:Nat→List D→Out} (hF:FnOK Tryz.prog CF Fn) {r:Rec} {no:Int} (h69:isT (Fn 69 (recR r))=some true) (h70:isT (Fn 70 [il no,il 0,il 59])=some true) {ys:List Yr} {n0 z0 n1 z1 n2 z2:Int} {t0 t1 t2:List UInt8} (h71:outS (Fn 71 (recR r++[il no]))=some ys) (hs:stripD ys=some (n0,z0,t0,n1,z1,t1,n2,z2,t2)) {rows:Rr}
  (h72:Fn 72 [.sl 3 [strR n0 z0 t0,strR n1 z1 t1,strR n2 z2 t2]]=some (0,[.r rows])):SC Tryz.prog 13 [.agg (recR r),.one (il no)] (.tup [.one (.d (.sl 3 rows)),.one (.d (il 0))]):=by
 refine ⟨enters_of Tryz.func13 (by kernel_rfl) rfl,fun w U vs hU hX hv=>?_⟩
 have hvs:vs=#[.agg #[.int .i64 r.p,.int .i64 r.no,.int .i64 r.kd,.int .i64 r.dy,.int .i64 r.kn,.int .i64 r.op,.int .i64 r.on,.string ⟨r.tx.toArray⟩],.int .i64 no]:=by
  simp only [VDF,VDR] at hv
  obtain ⟨_,_,e1,⟨cs,rfl,hc⟩,_,_,rfl,hn,rfl⟩:=hv
  rw [arr_of (recR_v hc),il_v hn] at e1
  exact arr_of e1
 subst hvs
 have s69:=sc_of hF (f:=69) (sh:=[.agg 8]) (xs:=recR r) (vs:=[.agg (recR r)]) (rs:=[(false,[.d])]) rfl rfl (bl_b h69) rfl
 have s70:=sc_of hF (f:=70) (sh:=[.one,.one,.one]) (xs:=[il no,il 0,il 59]) (vs:=[.one (il no),.one (il 0),.one (il 59)]) (rs:=[(false,[.d])]) rfl rfl (bl_b h70) rfl
 have s72:=sc_of hF (f:=72) (sh:=[.one]) (xs:=[.sl 3 [strR n0 z0 t0,strR n1 z1 t1,strR n2 z2 t2]]) (vs:=[.one (.sl 3 [strR n0 z0 t0,strR n1 z1 t1,strR n2 z2 t2])]) (rs:=[(false,[.own 3 27])]) rfl rfl h72 rfl
 have H:∀ {W:World},Below w.heap.size w W→(∀ b,U b→b < W.heap.size)∧XX W U:=fun hb=>⟨fun b h=>Nat.lt_of_lt_of_le (hU b h) hb.size,hX.mono (fun b h=>hb.block b (hU b h)) fun _ h=>h⟩
 have k69:∀ W,Below w.heap.size w W→Calls Tryz.prog 69 #[.agg #[.int .i64 r.p,.int .i64 r.no,.int .i64 r.kd,.int .i64 r.dy,.int .i64 r.kn,.int .i64 r.op,.int .i64 r.on,.string ⟨r.tx.toArray⟩]] W fun e w'=>e=.returned (.bool true)∧Below W.heap.size W w':=fun W hb=>cLit s69 (H hb).1 (H hb).2 ⟨_,_,rfl,⟨_,rfl,recR_f r⟩,rfl⟩
 have k70:∀ W,Below w.heap.size w W→Calls Tryz.prog 70 #[.int .i64 no,.int .i64 0,.int .i64 59] W fun e w'=>e=.returned (.bool true)∧Below W.heap.size W w':=fun W hb=>cLit s70 (H hb).1 (H hb).2 ⟨_,_,rfl,⟨rfl,rfl⟩,_,_,rfl,⟨rfl,rfl⟩,_,_,rfl,⟨rfl,rfl⟩,rfl⟩
 have k71:=fun W (hb:Below w.heap.size w W)=>c71 hF h71 hs (H hb).1 (H hb).2
 have k72:∀ W,Below w.heap.size w W→Calls Tryz.prog 72 #[.slice (some ⟨W.heap.size,0,none⟩) 3 3] (W.alloc (.cells #[.int .i64 n0,.int .i64 z0,.string ⟨t0.toArray⟩,.int .i64 n1,.int .i64 z1,.string ⟨t1.toArray⟩,.int .i64 n2,.int .i64 z2,.string ⟨t2.toArray⟩] 135)) fun e w'=>∃ b cap,e=.returned (.slice (some ⟨b,0,none⟩) rows.length cap)∧Post w U (.tup [.one (.d (.sl 3 rows)),.one (.d (il 0))]) (.returned (.tuple #[.slice (some ⟨b,0,none⟩) rows.length cap,.int .i64 0])) w':=fun W hb=>by
  have hb':Below w.heap.size w (W.alloc (.cells #[.int .i64 n0,.int .i64 z0,.string ⟨t0.toArray⟩,.int .i64 n1,.int .i64 z1,.string ⟨t1.toArray⟩,.int .i64 n2,.int .i64 z2,.string ⟨t2.toArray⟩] 135)):=hb.alloc hb.size _
  have hn:=heap_alloc_new W (.cells #[.int .i64 n0,.int .i64 z0,.string ⟨t0.toArray⟩,.int .i64 n1,.int .i64 z1,.string ⟨t1.toArray⟩,.int .i64 n2,.int .i64 z2,.string ⟨t2.toArray⟩] 135)
  have hcell:∀ i (v:Value),(#[.int .i64 n0,.int .i64 z0,.string ⟨t0.toArray⟩,.int .i64 n1,.int .i64 z1,.string ⟨t1.toArray⟩,.int .i64 n2,.int .i64 z2,.string ⟨t2.toArray⟩]:Array Value)[i]?=some v→(W.alloc (.cells #[.int .i64 n0,.int .i64 z0,.string ⟨t0.toArray⟩,.int .i64 n1,.int .i64 z1,.string ⟨t1.toArray⟩,.int .i64 n2,.int .i64 z2,.string ⟨t2.toArray⟩] 135)).cell? ⟨W.heap.size,i,none⟩=some v:=fun i v h=>(Go.Joins.cell_of_block hn i).trans h
  refine (s72.2 _ (fun x=>U x∨x=W.heap.size) _ ?_ ?_ ?_).mono ?_
  ·rintro x (hx | rfl)
   ·exact (H hb').1 x hx
   ·simp
  ·exact (H hb').2.mono (fun _ _=>rfl) fun _ h=>.inl h
  ·refine ⟨_,_,rfl,?_,rfl⟩
   show DR _ _ (.sl 3 _) _
   simp only [DR,List.length_cons,List.length_nil]
   refine ⟨_,3,rfl,Nat.le_refl _,by decide,fun _=>⟨_,_,rfl,.inr rfl,?_⟩⟩
   simp only [RR,CR,strR,DR,il,sD]
   refine ⟨rfl,⟨⟨_,hcell 0 _ rfl,rfl,rfl⟩,⟨_,hcell 1 _ rfl,rfl,rfl⟩,⟨_,hcell 2 _ rfl,rfl,rfl⟩,trivial⟩,rfl,⟨⟨_,hcell 3 _ rfl,rfl,rfl⟩,⟨_,hcell 4 _ rfl,rfl,rfl⟩,⟨_,hcell 5 _ rfl,rfl,rfl⟩,trivial⟩,rfl,⟨⟨_,hcell 6 _ rfl,rfl,rfl⟩,⟨_,hcell 7 _ rfl,rfl,rfl⟩,⟨_,hcell 8 _ rfl,rfl,rfl⟩,trivial⟩,trivial⟩
  ·rintro e w' ⟨v,U',bs,rfl,hb4,g1,g2,g3,g4,b,cap,cur,rfl,rfl,g5,g6,g7,g8,g9⟩
   have hbx:=g4 b (by simp)
   refine ⟨b,cap,rfl,?_⟩
   refine ⟨_,fun x=>U' x∨x=b,[],rfl,hb'.trans (hb4.mono hb'.size),fun x hx=>.inl (g1 x (.inl hx)),?_,List.nodup_nil,by simp,_,rfl,_,_,[],[],rfl,rfl,⟨rfl,?_⟩,_,_,[],[],rfl,rfl,⟨rfl,rfl,rfl⟩,rfl,rfl⟩
   ·rintro x (hx | rfl)
    ·refine ⟨(g2 x hx).1,?_⟩
     rcases (g2 x hx).2 with (h | rfl) | h
     ·exact .inl h
     ·exact .inr hb.size
     ·exact .inr (Nat.le_trans hb'.size h)
    ·exact ⟨hbx.2.1,.inr (Nat.le_trans hb'.size hbx.1)⟩
   ·simp only [DR]
    exact ⟨_,cap,rfl,g6,g7,fun _=>⟨b,0,rfl,.inr rfl,g9.mono (fun _ _=>rfl) (fun _ h=>.inl h) b rfl rows 0 3⟩⟩
 clear s69 s70 s72
 go_enter Tryz.func13,Tryz.ntmps13
 have A0:∀ o,Below w.heap.size w (w.alloc o):=fun o=>(Below.refl _ w).alloc (Nat.le_refl _) o
 go_wp2_with (first
  | (go_at_call 69;refine (k69 _ (A0 _)).mono ?_;rintro e w1 ⟨rfl,b1⟩)
  | (go_at_call 70;refine (k70 _ ((A0 _).trans (b1.mono (A0 _).size))).mono ?_;rintro e w2 ⟨rfl,b2⟩;have B2:w2.heap[w.heap.size]?=some (.cells #[.int .i64 r.p,.int .i64 r.no,.int .i64 r.kd,.int .i64 r.dy,.int .i64 r.kn,.int .i64 r.op,.int .i64 r.on,.string ⟨r.tx.toArray⟩] 25 (0,0)):=(b2.block _ (Nat.lt_of_lt_of_le (by simp) b1.size)).trans ((b1.block _ (by simp)).trans (heap_alloc_new w _));have q0:=Go.Joins.cell_of_block B2 0;have q1:=Go.Joins.cell_of_block B2 1;have q2:=Go.Joins.cell_of_block B2 2;have q3:=Go.Joins.cell_of_block B2 3;have q4:=Go.Joins.cell_of_block B2 4;have q5:=Go.Joins.cell_of_block B2 5;have q6:=Go.Joins.cell_of_block B2 6;have q7:=Go.Joins.cell_of_block B2 7)
  | (go_at_call 71;refine (k71 _ (((A0 _).trans (b1.mono (A0 _).size)).trans (b2.mono (Nat.le_trans (A0 _).size b1.size)))).mono ?_;rintro e w3 ⟨rfl,b3⟩)
  | (go_at_call 72;refine (k72 w3 ((((A0 _).trans (b1.mono (A0 _).size)).trans (b2.mono (Nat.le_trans (A0 _).size b1.size))).trans (b3.mono (Nat.le_trans (Nat.le_trans (A0 _).size b1.size) b2.size)))).mono ?_;rintro e w4 ⟨b,cap,rfl,hP⟩))
 go_ret2
 exact hP
theorem v13 {w:World} {U:Nat→Prop} {r:Rec} {no:Int} {vs:Array Value} (hv:VDF w U [.agg (recR r),.one (il no)] vs.toList):vs=#[.agg #[.int .i64 r.p,.int .i64 r.no,.int .i64 r.kd,.int .i64 r.dy,.int .i64 r.kn,.int .i64 r.op,.int .i64 r.on,.string ⟨r.tx.toArray⟩],.int .i64 no]:=by
 simp only [VDF,VDR] at hv
 obtain ⟨_,_,e1,⟨cs,rfl,hc⟩,_,_,rfl,hn,rfl⟩:=hv
 rw [arr_of (recR_v hc),il_v hn] at e1
 exact arr_of e1
theorem pNil {w w':World} {U:Nat→Prop} {e:Int} (hU:∀ b,U b→b < w.heap.size) (hb:Below w.heap.size w w'):Post w U (.tup [.one (.d (.lit (.slice none 0 0))),.one (.d (il e))]) (.returned (.tuple #[.slice none 0 0,.int .i64 e])) w' :=
 post_lit hU hb ⟨_,rfl,_,_,[],[],rfl,rfl,⟨rfl,rfl,rfl⟩,_,_,[],[],rfl,rfl,⟨rfl,rfl,rfl⟩,rfl,rfl⟩
theorem sc13a {Fn:Nat→List D→Out} (hF:FnOK Tryz.prog CF Fn) {r:Rec} {no:Int} (h69:isT (Fn 69 (recR r))=some false):SC Tryz.prog 13 [.agg (recR r),.one (il no)] (.tup [.one (.d (.lit (.slice none 0 0))),.one (.d (il 80))]):=by
 refine ⟨enters_of Tryz.func13 (by kernel_rfl) rfl,fun w U vs hU hX hv=>?_⟩
 rw [v13 hv]
 have s69:=sc_of hF (f:=69) (sh:=[.agg 8]) (xs:=recR r) (vs:=[.agg (recR r)]) (rs:=[(false,[.d])]) rfl rfl (bl_b h69) rfl
 have H:∀ {W:World},Below w.heap.size w W→(∀ b,U b→b < W.heap.size)∧XX W U:=fun hb=>⟨fun b h=>Nat.lt_of_lt_of_le (hU b h) hb.size,hX.mono (fun b h=>hb.block b (hU b h)) fun _ h=>h⟩
 have A0:∀ o,Below w.heap.size w (w.alloc o):=fun o=>(Below.refl _ w).alloc (Nat.le_refl _) o
 have k69:∀ W,Below w.heap.size w W→Calls Tryz.prog 69 #[.agg #[.int .i64 r.p,.int .i64 r.no,.int .i64 r.kd,.int .i64 r.dy,.int .i64 r.kn,.int .i64 r.op,.int .i64 r.on,.string ⟨r.tx.toArray⟩]] W fun e w'=>e=.returned (.bool false)∧Below W.heap.size W w':=fun W hb=>cLit s69 (H hb).1 (H hb).2 ⟨_,_,rfl,⟨_,rfl,recR_f r⟩,rfl⟩
 go_enter Tryz.func13,Tryz.ntmps13
 go_wp2_with (go_at_call 69;refine (k69 _ (A0 _)).mono ?_;rintro e w1 ⟨rfl,b1⟩)
 go_ret2
 exact pNil hU ((A0 _).trans (b1.mono (A0 _).size))
theorem sc13b {Fn:Nat→List D→Out} (hF:FnOK Tryz.prog CF Fn) {r:Rec} {no:Int} (h69:isT (Fn 69 (recR r))=some true) (h70:isT (Fn 70 [il no,il 0,il 59])=some false):SC Tryz.prog 13 [.agg (recR r),.one (il no)] (.tup [.one (.d (.lit (.slice none 0 0))),.one (.d (il 1))]):=by
 refine ⟨enters_of Tryz.func13 (by kernel_rfl) rfl,fun w U vs hU hX hv=>?_⟩
 rw [v13 hv]
 have s69:=sc_of hF (f:=69) (sh:=[.agg 8]) (xs:=recR r) (vs:=[.agg (recR r)]) (rs:=[(false,[.d])]) rfl rfl (bl_b h69) rfl
 have H:∀ {W:World},Below w.heap.size w W→(∀ b,U b→b < W.heap.size)∧XX W U:=fun hb=>⟨fun b h=>Nat.lt_of_lt_of_le (hU b h) hb.size,hX.mono (fun b h=>hb.block b (hU b h)) fun _ h=>h⟩
 have A0:∀ o,Below w.heap.size w (w.alloc o):=fun o=>(Below.refl _ w).alloc (Nat.le_refl _) o
 have s70:=sc_of hF (f:=70) (sh:=[.one,.one,.one]) (xs:=[il no,il 0,il 59]) (vs:=[.one (il no),.one (il 0),.one (il 59)]) (rs:=[(false,[.d])]) rfl rfl (bl_b h70) rfl
 have k69:∀ W,Below w.heap.size w W→Calls Tryz.prog 69 #[.agg #[.int .i64 r.p,.int .i64 r.no,.int .i64 r.kd,.int .i64 r.dy,.int .i64 r.kn,.int .i64 r.op,.int .i64 r.on,.string ⟨r.tx.toArray⟩]] W fun e w'=>e=.returned (.bool true)∧Below W.heap.size W w':=fun W hb=>cLit s69 (H hb).1 (H hb).2 ⟨_,_,rfl,⟨_,rfl,recR_f r⟩,rfl⟩
 have k70:∀ W,Below w.heap.size w W→Calls Tryz.prog 70 #[.int .i64 no,.int .i64 0,.int .i64 59] W fun e w'=>e=.returned (.bool false)∧Below W.heap.size W w':=fun W hb=>cLit s70 (H hb).1 (H hb).2 ⟨_,_,rfl,⟨rfl,rfl⟩,_,_,rfl,⟨rfl,rfl⟩,_,_,rfl,⟨rfl,rfl⟩,rfl⟩
 clear s69 s70
 go_enter Tryz.func13,Tryz.ntmps13
 go_wp2_with (first
  | (go_at_call 69;refine (k69 _ (A0 _)).mono ?_;rintro e w1 ⟨rfl,b1⟩)
  | (go_at_call 70;refine (k70 _ ((A0 _).trans (b1.mono (A0 _).size))).mono ?_;rintro e w2 ⟨rfl,b2⟩))
 go_ret2
 exact pNil hU (((A0 _).trans (b1.mono (A0 _).size)).trans (b2.mono (Nat.le_trans (A0 _).size b1.size)))
theorem ok13 {Fn:Nat→List D→Out} (hF:FnOK Tryz.prog CF Fn) {xs:List D} {vs:List VD} {j:Nat} {ys:List Yr} {rs:RS} {sh:List Sh} (h1:CF.ash 13=some sh) (h2:vdsOf sh xs=some vs) (h3:tThird3 Fn xs=some (j,ys)) (h4:(CF.rsk 13)[j]?=some rs):SC Tryz.prog 13 vs (pack (rvsAt ys rs 0)):=by
 unfold tThird3 at h3
 split at h3
 ·split at h3
  ·cases h3
  rename_i r hr
  split at h3
  ·cases h3
  rename_i no hn
  have hr':=recD_some hr
  simp only [recR,List.cons.injEq,and_true] at hr'
  obtain ⟨rfl,rfl,rfl,rfl,rfl,rfl,rfl,rfl⟩:=hr'
  rw [dInt_some hn] at h2
  cases h1
  cases h2
  split at h3
  ·cases h3
  ·rename_i h69
   cases h3
   cases h4
   exact sc13a hF h69
  ·rename_i h69
   split at h3
   ·cases h3
   ·rename_i h70
    cases h3
    cases h4
    exact sc13b hF h69 h70
   ·rename_i h70
    split at h3
    ·cases h3
    rename_i ys' h71
    split at h3
    ·cases h3
    rename_i hs
    split at h3
    ·rename_i rows h72
     cases h3
     cases h4
     exact sc13 hF h69 h70 h71 hs h72
    ·cases h3
 ·cases h3
end Go.VE
namespace Go.VE
open Go.RowKit Go.Proofs Go.Shelf Go.Lib
set_option maxRecDepth 100000
set_option maxHeartbeats 1500000
def upd {α:Type} (f:Nat→α) (i:Nat) (x:α):Nat→α:=fun j=>if j=i then x else f j
structure Th3 (z0 z1 z2:Value) (w0:World) (B:Nat) (n:Nat→Nat) (c:Nat→List Value) (v:Nat→Value) (wr:World):Prop where
 box:wr.heap[B]?=some (.cells #[v 0,v 1,v 2,z0,z1,z2] 43 (0,0))
 own:∀ i,i < 3→wr.ownsRow (B+1) 27 3 (v i) (n i) (c i)
 dis:∀ i j,i < 3→j < 3→i≠j→∀ k,(v i).ownBlock=some k→(v j).ownBlock≠some k
 z:∀ i,i < 3→n i=0→v i=.slice none 0 0
 be:Below B w0 wr
 si:B+1≤wr.heap.size
theorem own_below {w w':World} {B e size n:Nat} {v:Value} {xs:List Value} (h:w.ownsRow B e size v n xs) (hb:Below w.heap.size w w'):w'.ownsRow B e size v n xs :=
 h.kept (row:=none) ⟨hb.os,hb.tape,hb.output,hb.size,fun k hk _=>hb.block k hk⟩ (by cases v.ownBlock<;>simp)
theorem own_lt {w:World} {B e size n:Nat} {v:Value} {xs:List Value} (h:w.ownsRow B e size v n xs) (k:Nat) (hk:v.ownBlock=some k):B≤k∧k < w.heap.size:=by
 rcases h.2 with ⟨rfl,_⟩ | ⟨g,cap,cur,rfl,h2,h3,_⟩
 ·cases hk
 ·simp only [Value.ownBlock,Option.some.injEq] at hk
  subst hk
  exact ⟨h2,(Array.getElem?_eq_some_iff.1 h3).1⟩
theorem Th3.keep {z0 z1 z2:Value} {w0:World} {B:Nat} {n:Nat→Nat} {c:Nat→List Value} {v:Nat→Value} {wr w1:World} (R:Th3 z0 z1 z2 w0 B n c v wr) (hb:Below wr.heap.size wr w1):Th3 z0 z1 z2 w0 B n c v w1:=by
 have hs:=R.si
 exact ⟨(hb.block _ (by omega)).trans R.box,fun i hi=>own_below (R.own i hi) hb,R.dis,R.z,R.be.trans (hb.mono (by omega)),Nat.le_trans R.si hb.size⟩
theorem Th3.congr {z0 z1 z2:Value} {w0:World} {B:Nat} {n n':Nat→Nat} {c c':Nat→List Value} {v:Nat→Value} {wr:World} (R:Th3 z0 z1 z2 w0 B n c v wr) (hn:∀ i,i < 3→n i=n' i) (hc:∀ i,i < 3→c i=c' i):Th3 z0 z1 z2 w0 B n' c' v wr :=
 ⟨R.box,fun i hi=>by rw [←hn i hi,← hc i hi];exact R.own i hi,R.dis,fun i hi h=>R.z i hi (by rw [hn i hi];exact h),R.be,R.si⟩
theorem box_set (v:Nat→Value) (z0 z1 z2 x:Value) {i:Nat} (hi:i < 3):(#[v 0,v 1,v 2,z0,z1,z2]:Array Value).setIfInBounds i x=#[upd v i x 0,upd v i x 1,upd v i x 2,z0,z1,z2]:=by
 rcases (by omega:i=0∨i=1∨i=2) with rfl | rfl | rfl<;>simp [upd]
theorem setC_s {w:World} {b i t:Nat} {cs:Array Value} {v:Value} (h:w.heap[b]?=some (.cells cs t (0,0))):(w.setCell ⟨b,i,none⟩ v).heap[b]?=some (.cells (cs.setIfInBounds i v) t (0,0)):=setC_same h
theorem Th3.push {z0 z1 z2:Value} {w0:World} {B:Nat} {n:Nat→Nat} {c:Nat→List Value} {v:Nat→Value} {W w4:World} (R:Th3 z0 z1 z2 w0 B n c v W) {i:Nat} (hi:i < 3) {nw:List Value} {g cap:Nat}
  (own:w4.ownsRow (B+1) 27 3 (.slice (some ⟨g,0,none⟩) (n i+1) cap) (n i+1) (c i++nw)) (gro:W.grownBy w4 (v i).ownBlock) (lie:(v i).ownBlock=some g∨g=W.heap.size) :
  Th3 z0 z1 z2 w0 B (upd n i (n i+1)) (upd c i (c i++nw)) (upd v i (.slice (some ⟨g,0,none⟩) (n i+1) cap)) (w4.setCell ⟨B,i,none⟩ (.slice (some ⟨g,0,none⟩) (n i+1) cap)):=by
 have hs:=R.si
 have far:∀ k,k < B+1→w4.heap[k]?=W.heap[k]?:=fun k hk=>gro.block k (by omega) (fun e=>by have:=(own_lt (R.own i hi) k e.symm).1;omega)
 have hsz:=gro.size
 have hbel:Below B w0 (w4.setCell ⟨B,i,none⟩ (.slice (some ⟨g,0,none⟩) (n i+1) cap)) :=
  (R.be.grown gro (by omega) (fun k hk=>by have:=(own_lt (R.own i hi) k hk).1;omega)).setCell (p:=⟨B,i,none⟩) (Nat.le_refl B) _
 have ne:∀ j,j < 3→j≠i→∀ k,(v j).ownBlock=some k→g≠k:=fun j hj hji k hk e=>by
  subst e
  rcases lie with h | h
  ·exact R.dis i j hi hj (Ne.symm hji) _ h hk
  ·have:=(own_lt (R.own j hj) _ hk).2;omega
 refine ⟨?_,?_,?_,?_,hbel,?_⟩
 ·have:=setC_s (i:=i) (v:=.slice (some ⟨g,0,none⟩) (n i+1) cap) ((far B (by omega)).trans R.box)
  rwa [box_set v z0 z1 z2 _ hi] at this
 ·intro j hj
  by_cases h:j=i
  ·subst h
   simp only [upd,if_true]
   exact ownsRow_setCell_below own (a:=⟨B,j,none⟩) (by show B < B+1;omega) _
  ·simp only [upd,if_neg h]
   exact ownsRow_setCell_below ((R.own j hj).kept gro (by
    cases h':(v j).ownBlock with
    | none=>exact .inl rfl
    | some k=>exact .inr fun e=>R.dis i j hi hj (Ne.symm h) k e.symm h')) (a:=⟨B,i,none⟩) (by show B < B+1;omega) _
 ·intro a b ha hb hab k hk
  by_cases h:a=i
  ·subst h
   simp only [upd,if_true,if_neg (Ne.symm hab)] at hk ⊢
   simp only [Value.ownBlock,Option.some.injEq] at hk
   subst hk
   exact fun e=>ne b hb (Ne.symm hab) _ e rfl
  ·simp only [upd,if_neg h] at hk ⊢
   by_cases h2:b=i
   ·simp only [if_pos h2,Value.ownBlock]
    exact fun e=>ne a ha h k hk (Option.some.inj e)
   ·simp only [if_neg h2]
    exact R.dis a b ha hb hab k hk
 ·intro j hj h
  by_cases h2:j=i
  ·subst h2;simp [upd] at h
  ·simp only [upd,if_neg h2] at h ⊢
   exact R.z j hj h
 ·have:(w4.setCell ⟨B,i,none⟩ (.slice (some ⟨g,0,none⟩) (n i+1) cap)).heap.size=w4.heap.size:=by simp [World.setCell]
  omega
def litV:D→Value
 | .lit v=>v
 | _=>.slice none 0 0
def isLit:D→Bool
 | .lit v=>plain v
 | _=>false
theorem CR_lits {w:World} {U:Nat→Prop} {b:Nat}:∀ {r:List D} {o:Nat},(∀ x∈r,isLit x=true)→(∀ j u,(r.map litV)[j]?=some u→w.cell? ⟨b,o+j,none⟩=some u)→CR w U b o r
 | [],o,_,_=>by simp [CR]
 | x::r,o,hl,hc=>by
  simp only [CR]
  refine ⟨⟨litV x,by simpa using hc 0 _ rfl,?_⟩,CR_lits (fun y hy=>hl y (by simp [hy])) fun j u hu=>?_⟩
  ·have:=hl x (by simp)
   unfold isLit at this
   split at this
   ·exact ⟨rfl,this⟩
   ·cases this
  ·have:=hc (j+1) u (by simpa using hu)
   rwa [show o+(j+1)=o+1+j by omega] at this
def rowsV (rows:List (List D)):List Value:=rows.flatMap fun r=>r.map litV
theorem RR_lits {w:World} {U:Nat→Prop} {b s:Nat}:∀ {rows:List (List D)} {o:Nat},(∀ r∈rows,r.length=s∧∀ x∈r,isLit x=true)→(∀ j u,(rowsV rows)[j]?=some u→w.cell? ⟨b,o+j,none⟩=some u)→RR w U b o s rows
 | [],o,_,_=>by simp [RR]
 | r::rows,o,hl,hc=>by
  have h0:=hl r (by simp)
  simp only [RR]
  refine ⟨h0.1,CR_lits h0.2 fun j u hu=>hc j u ?_,RR_lits (fun y hy=>hl y (by simp [hy])) fun j u hu=>?_⟩
  ·have hj:=(List.getElem?_eq_some_iff.1 hu).1
   simp only [rowsV,List.flatMap_cons]
   rw [List.getElem?_append_left hj]
   exact hu
  ·have:=hc (s+j) u (by
    simp only [rowsV,List.flatMap_cons]
    rw [List.getElem?_append_right (by rw [List.length_map,h0.1];omega),List.length_map,h0.1,Nat.add_sub_cancel_left]
    exact hu)
   rwa [show o+(s+j)=o+s+j by omega] at this
theorem DR_own {w:World} {U:Nat→Prop} {B e n:Nat} {v:Value} {rows:List (List D)} (h:w.ownsRow B e 3 v n (rowsV rows)) (hn:rows.length=n) (hl:∀ r∈rows,r.length=3∧∀ x∈r,isLit x=true) (hz:n=0→v=.slice none 0 0) (hU:∀ k,v.ownBlock=some k→U k):DR w U (slZ rows) v:=by
 cases rows with
 | nil =>
  have:n=0:=by simpa using hn.symm
  rw [hz this]
  exact ⟨rfl,rfl⟩
 | cons r rs =>
  rcases h.2 with ⟨_,h0⟩ | ⟨g,cap,cur,rfl,h2,h3,h4,h5,h6,h7⟩
  ·rw [h0] at hn;simp at hn
  ·simp only [slZ,DR]
   refine ⟨_,cap,by rw [hn],by rw [hn];exact h4,h5,fun _=>⟨g,0,rfl,hU g rfl,RR_lits hl fun j u hu=>?_⟩⟩
   rw [Nat.zero_add,h.cellAt j (by have:=(List.getElem?_eq_some_iff.1 hu).1;rw [h.1] at this;exact this)]
   exact hu
end Go.VE
namespace Go.Proofs
open Go.Shelf
def Tryz.sortRec_ren:Go.Shelf.Ren:=⟨fun | 6=>146 | 15=>156 | 14=>155 | 28=>173 | 29=>174 | 20=>165 | 21=>166 | 22=>167 | 23=>168 | 24=>169 | 25=>170 | 26=>171 | 27=>172 | 46=>186 | 47=>187 | 48=>188 | 49=>189 | 50=>190 | 57=>202 | n=>n,fun | 22=>44 | 24=>25 | 25=>182 | 3=>3 | 39=>222 | 0=>0 | 53=>237 | 55=>239 | 4=>4 | 46=>231 | 45=>230 | 50=>178 | 5=>5 | 9=>9 | 66=>251 | 70=>196 | 76=>265 | 77=>266 | n=>n,fun | n=>n⟩
theorem Tryz.sortRec:Go.Proofs.SlLaysF0.n6 Tryz.prog Tryz.sortRec_ren:={
 mixed:=by kernel_rfl
 f6:=⟨Tryz.f146.name,by decide,Tryz.func146.trans (congrArg some (by kernel_rfl))⟩
 f14:=⟨Tryz.f155.name,by decide,Tryz.func155.trans (congrArg some (by kernel_rfl))⟩
 f15:=Tryz.func156.trans (congrArg some (by kernel_rfl))
 f20:=⟨Tryz.f165.name,by decide,Tryz.func165.trans (congrArg some (by kernel_rfl))⟩
 f21:=⟨Tryz.f166.name,by decide,Tryz.func166.trans (congrArg some (by kernel_rfl))⟩
 f22:=⟨Tryz.f167.name,by decide,Tryz.func167.trans (congrArg some (by kernel_rfl))⟩
 f23:=⟨Tryz.f168.name,by decide,Tryz.func168.trans (congrArg some (by kernel_rfl))⟩
 f24:=⟨Tryz.f169.name,by decide,Tryz.func169.trans (congrArg some (by kernel_rfl))⟩
 f25:=⟨Tryz.f170.name,by decide,Tryz.func170.trans (congrArg some (by kernel_rfl))⟩
 f26:=⟨Tryz.f171.name,by decide,Tryz.func171.trans (congrArg some (by kernel_rfl))⟩
 f27:=⟨Tryz.f172.name,by decide,Tryz.func172.trans (congrArg some (by kernel_rfl))⟩
 f28:=Tryz.func173.trans (congrArg some (by kernel_rfl))
 f29:=Tryz.func174.trans (congrArg some (by kernel_rfl))
 f46:=⟨Tryz.f186.name,by decide,Tryz.func186.trans (congrArg some (by kernel_rfl))⟩
 f47:=Tryz.func187.trans (congrArg some (by kernel_rfl))
 f48:=Tryz.func188.trans (congrArg some (by kernel_rfl))
 f49:=⟨Tryz.f189.name,by decide,Tryz.func189.trans (congrArg some (by kernel_rfl))⟩
 f50:=⟨Tryz.f190.name,by decide,Tryz.func190.trans (congrArg some (by kernel_rfl))⟩
 f57:=⟨Tryz.f202.name,by decide,Tryz.func202.trans (congrArg some (by kernel_rfl))⟩
 t0:=Tryz.underlying0
 a0:=Tryz.isAgg0
 z0:=Tryz.sizeOf0
 v0:=Tryz.zeroValue0
 t3:=Tryz.underlying3
 a3:=Tryz.isAgg3
 z3:=Tryz.sizeOf3
 v3:=Tryz.zeroValue3
 t4:=Tryz.underlying4
 a4:=Tryz.isAgg4
 z4:=Tryz.sizeOf4
 v4:=Tryz.zeroValue4
 t5:=Tryz.underlying5
 a5:=Tryz.isAgg5
 z5:=Tryz.sizeOf5
 v5:=Tryz.zeroValue5
 t9:=Tryz.underlying9
 a9:=Tryz.isAgg9
 z9:=Tryz.sizeOf9
 v9:=Tryz.zeroValue9
 t22:=Tryz.underlying44
 a22:=Tryz.isAgg44
 z22:=Tryz.sizeOf44
 v22:=Tryz.zeroValue44
 t25:=Tryz.underlying182
 a25:=Tryz.isAgg182
 z25:=Tryz.sizeOf182
 v25:=Tryz.zeroValue182
 t39:=Tryz.underlying222
 a39:=Tryz.isAgg222
 z39:=Tryz.sizeOf222
 v39:=Tryz.zeroValue222
 t45:=Tryz.underlying230
 a45:=Tryz.isAgg230
 z45:=Tryz.sizeOf230
 v45:=Tryz.zeroValue230
 t46:=Tryz.underlying231
 a46:=Tryz.isAgg231
 z46:=Tryz.sizeOf231
 v46:=Tryz.zeroValue231
 t50:=Tryz.underlying178
 a50:=Tryz.isAgg178
 z50:=Tryz.sizeOf178
 v50:=Tryz.zeroValue178
 t53:=Tryz.underlying237
 a53:=Tryz.isAgg237
 z53:=Tryz.sizeOf237
 v53:=Tryz.zeroValue237
 t55:=Tryz.underlying239
 a55:=Tryz.isAgg239
 z55:=Tryz.sizeOf239
 v55:=Tryz.zeroValue239
 t66:=Tryz.underlying251
 a66:=Tryz.isAgg251
 z66:=Tryz.sizeOf251
 v66:=Tryz.zeroValue251
 t70:=Tryz.underlying196
 a70:=Tryz.isAgg196
 z70:=Tryz.sizeOf196
 v70:=Tryz.zeroValue196
 t76:=Tryz.underlying265
 a76:=Tryz.isAgg265
 z76:=Tryz.sizeOf265
 v76:=Tryz.zeroValue265
 t77:=Tryz.underlying266
 a77:=Tryz.isAgg266
 z77:=Tryz.sizeOf266
 v77:=Tryz.zeroValue266 }
end Go.Proofs
