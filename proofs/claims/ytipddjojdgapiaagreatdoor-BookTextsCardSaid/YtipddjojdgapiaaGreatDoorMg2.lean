/- Book: the text of a record, walked (printed by mktw1.py). -/
import Derived.Test.YtipddjojdgapiaaGreatDoorMg1
import Derived.Test.YtipddjojdgapiaaGreatDoorMa
import Derived.Deep.RegionWith
import Derived.WalkLawsBesides
import Derived.Recover
import Derived.Shelf.SlSortCmp.WholeK
import Derived.KernelRfl
import Derived.Test.YtipddjojdgapiaaGreatDoorChecked
import Derived.Test.YtipddjojdgapiaaGreatDoorMp
import Derived.StillTailTactics
import Derived.Test.YtipddjojdgapiaaGreatDoorMt
namespace Go.VE
open Go.RowKit Go.Proofs Go.Shelf Go.Lib
set_option maxRecDepth 100000
set_option maxHeartbeats 1500000
structure LaidW (w:World):Prop where
 l:Laid w
 s:nX≤w.heap.size
theorem LaidW.below {w w':World} {B:Nat} (h:LaidW w) (hb:Below B w w') (hB:nX≤B):LaidW w' :=
 ⟨h.l.kept fun b hn=>hb.block b (by omega),Nat.le_trans h.s hb.size⟩
theorem below_grow (w:World) (k:Nat) (os:Array Obj):Below w.heap.size w (Sort.grow (w.drewN k) os):=by
 refine ⟨rfl,rfl,rfl,?_,fun i hi=>?_⟩
 ·show w.heap.size≤(w.heap++os).size
  rw [Array.size_append];omega
 ·show (w.heap++os)[i]?=w.heap[i]?
  rw [Array.getElem?_append,if_pos hi]
theorem itoaL (n:Nat) (h1:n≤9223372036854775807) (w:World) (hL:LaidW w):Calls Tryz.prog 142 #[.int .i64 n] w fun e w'=>e=.returned (.string ⟨(Lib.decDigits n).toArray⟩)∧Below w.heap.size w w':=by
 refine (Tryz.strconv_Itoa n (by omega) (by omega) w (hL.l.tab (by kernel_rfl))).mono ?_
 rintro e w' ⟨rfl,k,os,rfl⟩
 exact ⟨by rw [Lib.itoa_nonneg],below_grow w k os⟩
theorem bs_size (l:List UInt8):(⟨l.toArray⟩:ByteArray).size=l.length:=by simp [ByteArray.size]
theorem bs_list (s:ByteArray):s=⟨s.data.toList.toArray⟩:=by cases s;simp
theorem bs_app (a b:List UInt8):(⟨a.toArray⟩:ByteArray)++⟨b.toArray⟩=⟨(a++b).toArray⟩:=by
 rw [bs_list (_++_)]
 simp
theorem strC_app (a:List UInt8) (b:List UInt8):Lib.byteCells a++Lib.strCells ⟨b.toArray⟩=Lib.byteCells (a++b):=by
 simp [Lib.byteCells,Lib.strCells]
theorem wS (B b:Nat) (bs:List Value) (s:ByteArray) (w:World) (h:Lib.IsBuilderF 204 5 B b bs w) (hlen:bs.length+s.size≤140737488355328) (hBw:B≤w.heap.size) :
  Calls Tryz.prog 141 #[.pointer (some ⟨b,0,none⟩),.string s] w fun e w'=>e=.returned (.tuple #[.int .i64 s.size,.nilIface])∧(Lib.BuilderAtF 204 5 B b (.pointer (some ⟨b,0,none⟩)) (bs++Lib.strCells s) w'∧Below B w w'):=Tryz.Builder_WriteString_f B b bs s w h hlen hBw
theorem wSb (B:Nat) (l t:List UInt8) (w:World) (h:Lib.IsBuilderF 204 5 B B (Lib.byteCells l) w) (hlen:l.length≤200) (ht:t.length≤5) (hBw:B≤w.heap.size) :
  Calls Tryz.prog 141 #[.pointer (some ⟨B,0,none⟩),.string ⟨t.toArray⟩] w fun e w'=>e=.returned (.tuple #[.int .i64 t.length,.nilIface])∧(Lib.IsBuilderF 204 5 B B (Lib.byteCells (l++t)) w'∧Below B w w'):=by
 refine (wS B B _ _ w h (by rw [bs_size,byteCells_length];omega) hBw).mono ?_
 rintro e w' ⟨rfl,k,d⟩
 rw [strC_app] at k
 exact ⟨by rw [bs_size],.inr k,d⟩
theorem blt_below {T e:TypeId} {B b:Nat} {bs:List Value} {w w':World} (h:Lib.IsBuilderF T e B b bs w) (hb:Below w.heap.size w w'):Lib.IsBuilderF T e B b bs w':=by
 have go:∀ p,Lib.BuilderAtF T e B b p bs w→Lib.BuilderAtF T e B b p bs w':=by
  intro p h
  have hlt:=h.lt
  obtain ⟨hB,v,hv,hown,hne⟩:=h
  refine ⟨hB,v,(hb.block _ hlt).trans hv,hown.kept (row:=none) ⟨hb.os,hb.tape,hb.output,hb.size,fun k hk _=>hb.block k hk⟩ ?_,hne⟩
  cases v.ownBlock<;>simp
 exact h.elim (fun h=>.inl (go _ h)) (fun h=>.inr (go _ h))
def dg (n:Nat):List UInt8:=Lib.decDigits n++[32]
theorem dg_len {n:Nat} (h:n≤9999):(dg n).length≤5:=by
 have:=(dec_len4 h).2
 simp only [dg,List.length_append,List.length_cons,List.length_nil]
 omega
theorem ix0 (c0 c1 c2 c3 c4 c5 c6:Value) (W:World):(Instr.index 205 (.agg #[c0,c1,c2,c3,c4,c5,c6]) (.int .i64 0)).run Tryz.prog W=.ok c0 W:=by kernel_rfl
theorem ix1 (c0 c1 c2 c3 c4 c5 c6:Value) (W:World):(Instr.index 205 (.agg #[c0,c1,c2,c3,c4,c5,c6]) (.int .i64 1)).run Tryz.prog W=.ok c1 W:=by kernel_rfl
theorem ix2 (c0 c1 c2 c3 c4 c5 c6:Value) (W:World):(Instr.index 205 (.agg #[c0,c1,c2,c3,c4,c5,c6]) (.int .i64 2)).run Tryz.prog W=.ok c2 W:=by kernel_rfl
theorem ix3 (c0 c1 c2 c3 c4 c5 c6:Value) (W:World):(Instr.index 205 (.agg #[c0,c1,c2,c3,c4,c5,c6]) (.int .i64 3)).run Tryz.prog W=.ok c3 W:=by kernel_rfl
theorem ix4 (c0 c1 c2 c3 c4 c5 c6:Value) (W:World):(Instr.index 205 (.agg #[c0,c1,c2,c3,c4,c5,c6]) (.int .i64 4)).run Tryz.prog W=.ok c4 W:=by kernel_rfl
theorem ix5 (c0 c1 c2 c3 c4 c5 c6:Value) (W:World):(Instr.index 205 (.agg #[c0,c1,c2,c3,c4,c5,c6]) (.int .i64 5)).run Tryz.prog W=.ok c5 W:=by kernel_rfl
theorem ix6 (c0 c1 c2 c3 c4 c5 c6:Value) (W:World):(Instr.index 205 (.agg #[c0,c1,c2,c3,c4,c5,c6]) (.int .i64 6)).run Tryz.prog W=.ok c6 W:=by kernel_rfl
theorem ixs (a0 a1 a2 a3 a4 a5 a6:Nat) (i z:Nat) (h:[a0,a1,a2,a3,a4,a5,a6][i]?=some z) (W:World):(Instr.index 205 (.agg #[.int .i64 a0,.int .i64 a1,.int .i64 a2,.int .i64 a3,.int .i64 a4,.int .i64 a5,.int .i64 a6]) (.int .i64 i)).run Tryz.prog W=.ok (.int .i64 z) W:=by
 match i,h with
 | 0,h=>simp at h;subst h;exact ix0 ..
 | 1,h=>simp at h;subst h;exact ix1 ..
 | 2,h=>simp at h;subst h;exact ix2 ..
 | 3,h=>simp at h;subst h;exact ix3 ..
 | 4,h=>simp at h;subst h;exact ix4 ..
 | 5,h=>simp at h;subst h;exact ix5 ..
 | 6,h=>simp at h;subst h;exact ix6 ..
 | i+7,h=>simp at h
theorem tk_len {l:List Nat} (h:∀ z∈l,z≤9999) (i:Nat):((l.take i).flatMap dg).length≤5*(l.take i).length:=by
 have:∀ l:List Nat,(∀ z∈l,z≤9999)→(l.flatMap dg).length≤5*l.length:=by
  intro l
  induction l with
  | nil=>intro _;simp
  | cons z t ih =>
   intro h
   have h1:=dg_len (h z (by simp))
   have h2:=ih fun y hy=>h y (List.mem_cons_of_mem _ hy)
   simp only [List.flatMap_cons,List.length_append,List.length_cons] at h2 ⊢
   omega
 exact this _ fun z hz=>h z (List.mem_of_mem_take hz)
theorem text_c (a0 a1 a2 a3 a4 a5 a6:Nat) (t:List UInt8) (h0:a0≤9999) (h1:a1≤9999) (h2:a2≤9999) (h3:a3≤9999) (h4:a4≤9999) (h5:a5≤9999) (h6:a6≤9999) (ht:t.length≤160) (w:World) (hL:LaidW w) :
  Calls Tryz.prog 103 #[.agg #[.int .i64 a0,.int .i64 a1,.int .i64 a2,.int .i64 a3,.int .i64 a4,.int .i64 a5,.int .i64 a6,.string ⟨t.toArray⟩]] w fun e w'=>e=.returned (.string ⟨((dg a0++dg a1++dg a2++dg a3++dg a4++dg a5++dg a6)++t).toArray⟩)∧Below w.heap.size w w':=by
 have hx:=hL.s
 have hlen:[a0,a1,a2,a3,a4,a5,a6].length=7:=rfl
 have hsm:∀ z∈[a0,a1,a2,a3,a4,a5,a6],z≤9999:=by
  intro z hz
  simp only [List.mem_cons,List.not_mem_nil,or_false] at hz
  rcases hz with rfl | rfl | rfl | rfl | rfl | rfl | rfl<;>assumption
 have hfin:dg a0++dg a1++dg a2++dg a3++dg a4++dg a5++dg a6=[a0,a1,a2,a3,a4,a5,a6].flatMap dg:=by simp
 rw [hfin]
 have hix:=ixs a0 a1 a2 a3 a4 a5 a6
 clear hfin h0 h1 h2 h3 h4 h5 h6
 obtain ⟨l,hl⟩:∃ l,[a0,a1,a2,a3,a4,a5,a6]=l:=⟨_,rfl⟩
 rw [hl] at hlen hsm hix ⊢
 clear hl
 obtain ⟨f,hf⟩:∃ f,l.flatMap dg=f:=⟨_,rfl⟩
 rw [hf]
 go_enter Tryz.func103,Tryz.ntmps103
 go_wp2
 obtain ⟨W,hW⟩:∃ W,w.alloc (Obj.cells #[Value.int .i64 a0,Value.int .i64 a1,Value.int .i64 a2,Value.int .i64 a3,Value.int .i64 a4,Value.int .i64 a5,Value.int .i64 a6,Value.string ⟨t.toArray⟩] 25)=W:=⟨_,rfl⟩
 have hWs:W.heap.size=w.heap.size+1:=by rw [←hW];simp
 have c7:W.cell? ⟨w.heap.size,7,none⟩=some (.string ⟨t.toArray⟩):=by
  rw [←hW,Go.Joins.cell_of_block (heap_alloc_new w _)];rfl
 have bW:Below w.heap.size w W:=by rw [←hW];exact (Below.refl _ w).alloc (Nat.le_refl _) _
 have k0:Lib.IsBuilderF 204 5 W.heap.size W.heap.size (Lib.byteCells []) (W.alloc (.cells #[.pointer none,.slice none 0 0] 204)):=Lib.IsBuilderF.of (Lib.fresh_isBuilder 204 5 W)
 have b0:Below W.heap.size W (W.alloc (.cells #[.pointer none,.slice none 0 0] 204)):=(Below.refl _ W).alloc (Nat.le_refl _) _
 obtain ⟨W0,hW0⟩:∃ W0,W.alloc (.cells #[.pointer none,.slice none 0 0] 204)=W0:=⟨_,rfl⟩
 rw [hW0] at k0 b0
 rw [hWs] at k0 b0
 rw [hW,hW0]
 have L0:LaidW W0:=(hL.below bW hx).below b0 (by omega)
 have hWn:nX≤w.heap.size+1:=by omega
 have LW:LaidW W:=hL.below bW hx
 have hLW:∀ {u:World},Below (w.heap.size+1) W u→LaidW u:=fun h=>LW.below h hWn
 clear hW0 hW
 go_loopg [25] 7 (fun g z25 wr=>∃ i:Nat,z25=.int .i64 i∧i+g=7∧Lib.IsBuilderF 204 5 (w.heap.size+1) (w.heap.size+1) (Lib.byteCells ((l.take i).flatMap dg)) wr∧Below (w.heap.size+1) W wr∧LaidW wr)
 case atStart=>exact ⟨0,rfl,rfl,by simpa using k0,b0,L0⟩
 case round =>
  obtain ⟨i,rfl,hg,hk,hb,hLr⟩:=hrel
  clear k0 b0 L0
  by_cases hi:i < 7
  ·have hz:l[i]?=some l[i]:=List.getElem?_eq_getElem (by omega)
   have hzm:=hsm l[i] (List.getElem_mem (by omega))
   have hiz:=hix i l[i] hz
   have htk:(l.take (i+1)).flatMap dg=(l.take i).flatMap dg++dg l[i]:=by rw [List.take_add_one,hz,Option.toList_some,List.flatMap_append,List.flatMap_cons,List.flatMap_nil,List.append_nil]
   have hln:=tk_len hsm i
   have hli:(l.take i).length≤7:=by rw [List.length_take];omega
   generalize l[i]=z at hz hzm hiz htk
   have hstr:(⟨(Lib.decDigits z).toArray⟩:ByteArray)++⟨#[32]⟩=⟨(dg z).toArray⟩:=bs_app (Lib.decDigits z) [32]
   have s1:¬ 9223372036854775807 < (Lib.decDigits z).length+1:=by have:=(dec_len4 hzm).2;omega
   have A:Aside ((l.take (i+1)).flatMap dg=(l.take i).flatMap dg++dg z∧Below (w.heap.size+1) W wr):=⟨htk,hb⟩
   have hw:∀ u,Below wr.heap.size wr u→Calls Tryz.prog 141 #[.pointer (some ⟨w.heap.size+1,0,none⟩),.string ⟨(dg z).toArray⟩] u fun e w'=>e=.returned (.tuple #[.int .i64 (dg z).length,.nilIface])∧(Lib.IsBuilderF 204 5 (w.heap.size+1) (w.heap.size+1) (Lib.byteCells ((l.take i).flatMap dg++dg z)) w'∧Below (w.heap.size+1) W w'):=fun u e0=>by
    refine (wSb (w.heap.size+1) _ (dg z) u (blt_below hk e0) (by omega) (dg_len hzm) (by have:=hb.size;have:=e0.size;omega)).mono ?_
    rintro e W1 ⟨rfl,k1,d0⟩
    exact ⟨rfl,k1,(hb.trans (e0.mono (by have:=hb.size;omega))).trans d0⟩
   clear htk hix hz hsm hk hb
   obtain ⟨g,rfl⟩:∃ g,gk=g+1:=⟨gk - 1,by omega⟩
   go_wp2_with (first
    | (go_at_call 142;refine (itoaL z (by omega) _ hLr).mono ?_;rintro e u ⟨rfl,e0⟩)
    | (go_at_call 141;refine (hw u e0).mono ?_;rintro e W1 ⟨rfl,k1,d0⟩))
   obtain ⟨htk,hb⟩:=A.out
   go_roundg g
   case measure=>omega
   case rel=>exact ⟨i+1,by simp,by omega,by rw [htk];exact k1,d0,hLW d0⟩
  ·obtain rfl:i=7:=by omega
   obtain rfl:gk=0:=by omega
   rw [List.take_of_length_le (by omega),hf] at hk
   have cw:=(hb.cell (p:=⟨w.heap.size,7,none⟩) (by show w.heap.size < w.heap.size+1;omega)).trans c7
   have hs5:=tk_len hsm 7
   rw [List.take_of_length_le (by omega),hf] at hs5
   have hs6:¬ 9223372036854775807 < f.length+t.length:=by omega
   go_wp2
   go_region_with (go_at_call 143;refine (Tryz.Builder_String_any_f (w.heap.size+1) (w.heap.size+1) f wr.drew (blt_below hk ((Below.refl wr.heap.size wr).drew)) (by have:=hb.size;show _≤wr.heap.size;omega)).mono ?_;rintro e w9 ⟨rfl,k9,d9⟩;have c9:=(d9.cell (p:=⟨w.heap.size,7,none⟩) (by show w.heap.size < w.heap.size+1;omega)).trans (show wr.drew.cell? ⟨w.heap.size,7,none⟩=some (.string ⟨t.toArray⟩) from cw))
   all_goals go_wp2
   all_goals go_ret
   all_goals (have bb:Below (w.heap.size+1) W w9:=hb.trans ((Below.refl (w.heap.size+1) wr).drew.trans d9))
   all_goals (refine ⟨?_,bW.trans (bb.mono (by omega))⟩)
   all_goals (show Ending.returned (Value.string (_++_))=_;rw [bs_app])
end Go.VE
namespace Go.VE
open Go.RowKit Go.Proofs Go.Shelf Go.Lib
set_option maxRecDepth 100000
set_option maxHeartbeats 4000000
theorem atoi_max {l:List UInt8} {v:Int} (h:Lib.atoiAll l=.ok v):v≤9223372036854775807:=by
 unfold Lib.atoiAll at h
 split at h
 ·cases h
 ·rename_i c r
  simp only at h
  split at h
  ·cases h
  ·cases h
  ·rename_i u _
   split at h
   ·cases h
   ·split at h
    ·cases h
    ·rename_i h1 h2
     injection h with h
     subst h
     split<;>omega
theorem below_bytes (w:World) (t:ByteArray):Below w.heap.size w (Lib.bytesWorld w 5 t) :=
 ⟨rfl,rfl,rfl,by rw [Lib.bytesWorld_size];omega,fun k hk=>Lib.bytesWorld_at_old w 5 t k hk⟩
theorem below_or {w w1:World} (h:w1=w∨∃ t,w1=Lib.bytesWorld w 5 t):Below w.heap.size w w1:=by
 rcases h with rfl | ⟨t,rfl⟩
 ·exact Below.refl _ _
 ·exact below_bytes w t
abbrev wrongV:Value:=.iface 195 (.agg #[])
theorem atoi_any (s:List UInt8) (hs:s.length≤281474976710656) (w:World) (hL:LaidW w):Calls Tryz.prog 150 #[.string ⟨s.toArray⟩] w fun e w'=>Below w.heap.size w w'∧∃ (v:Int) (er:Value),e=.returned (.tuple #[.int .i64 v,er]):=by
 have hsz:=bs_size s
 rcases ha:Lib.atoiAll s with v | _ | _
 ·have hmx:=atoi_max ha
  refine (Tryz.strconv_Atoi_ok ⟨s.toArray⟩ (by rw [hsz];omega) v (by simpa using ha) w).mono ?_
  rintro e w1 ⟨rfl,hw1⟩
  exact ⟨below_or hw1,_,_,rfl⟩
 ·obtain ⟨ev,h1,h2⟩:=hL.l.s
  refine (Tryz.strconv_Atoi_syntax ⟨s.toArray⟩ (by rw [hsz];omega) (by simpa using ha) ev w h1 h2).mono ?_
  rintro e w1 ⟨N,rfl,-,-,hw1⟩
  exact ⟨hw1,_,_,rfl⟩
 ·obtain ⟨ev,h1,h2⟩:=hL.l.r
  refine (Tryz.strconv_Atoi_range ⟨s.toArray⟩ (by rw [hsz];omega) (by simpa using ha) ev w h1 h2).mono ?_
  rintro e w1 ⟨N,rfl,-,-,hw1⟩
  exact ⟨hw1,_,_,rfl⟩
def numO (s:List UInt8):Ending:=match cutSp s with
 | some (a,r)=>(match numA a with
  | some n=>.returned (.tuple #[.int .i64 n,.string ⟨r.toArray⟩])
  | none=>.panicked [{ v:=wrongV,recovered:=false }])
 | none=>.panicked [{ v:=wrongV,recovered:=false }]
theorem numN (s:List UInt8) (hl:s.length≤281474976710656) (w:World) (hL:LaidW w) (A:Aside (∀ w,Calls Tryz.prog 149 #[.string ⟨s.toArray⟩,.string ⟨#[32]⟩] w fun e w'=>e=.returned (.tuple #[.string ⟨s.toArray⟩,.string ⟨#[]⟩,.bool false])∧Below w.heap.size w w')) :
  Calls Tryz.prog 136 #[.string ⟨s.toArray⟩] w fun e w'=>Below w.heap.size w w'∧e=.panicked [{ v:=wrongV,recovered:=false }]:=by
 have LW:∀ {u:World},Below w.heap.size w u→LaidW u:=fun h=>hL.below h hL.s
 have hat:=fun (w:World) (h:LaidW w)=>atoi_any s hl w h
 have B:Aside (∀ w,LaidW w→Calls Tryz.prog 150 #[.string ⟨s.toArray⟩] w fun e w'=>Below w.heap.size w w'∧∃ (v:Int) (er:Value),e=.returned (.tuple #[.int .i64 v,er])):=hat
 clear hat
 obtain ⟨S,hS⟩:∃ S,(⟨s.toArray⟩:ByteArray)=S:=⟨_,rfl⟩
 rw [hS] at A B ⊢
 clear hS
 go_enter Tryz.func136,Tryz.ntmps136
 go_wp2_with (first
  | (go_at_call 149;refine (A.out _).mono ?_;rintro e w1 ⟨rfl,b1⟩)
  | (go_at_call 150;refine (B.out _ (LW b1)).mono ?_;rintro e w2 ⟨b2,v,er,rfl⟩))
 exact ⟨rfl,b1.trans (b2.mono b1.size),rfl⟩
theorem numA_neg {a:List UInt8} {v:Int} (ha:atoiAll a=.ok v) (h0:v < 0):numA a=none:=by
 unfold numA
 rw [ha]
 exact if_pos (.inl h0)
theorem numA_ne {a:List UInt8} {n:Nat} (ha:atoiAll a=.ok (n:Int)) (h:decDigits n≠a):numA a=none:=by
 unfold numA
 rw [ha]
 exact if_pos (.inr (by simpa using h))
theorem numA_eq {a:List UInt8} {n:Nat} (ha:atoiAll a=.ok (n:Int)) (h:decDigits n=a):numA a=some n:=by
 unfold numA
 rw [ha]
 have:¬ ((n:Int) < 0∨decDigits (n:Int).toNat≠a):=by
  rintro (h' | h')
  ·omega
  ·exact h' h
 exact if_neg this
theorem numA_syn {a:List UInt8} (ha:atoiAll a=Go.Lib.NumEnd.syntax):numA a=none:=by
 unfold numA
 rw [ha]
theorem numA_rng {a:List UInt8} (ha:atoiAll a=.range):numA a=none:=by
 unfold numA
 rw [ha]
theorem numNeg {s a r:List UInt8} {w:World} (hL:LaidW w) (A:Aside (∀ w,Calls Tryz.prog 149 #[.string ⟨s.toArray⟩,.string ⟨#[32]⟩] w fun e w'=>e=.returned (.tuple #[.string ⟨a.toArray⟩,.string ⟨r.toArray⟩,.bool true])∧Below w.heap.size w w')) {v:Int} (B:Aside (∀ w,Calls Tryz.prog 150 #[.string ⟨a.toArray⟩] w fun e w'=>e=.returned (.tuple #[.int .i64 v,.nilIface])∧(w'=w∨∃ t,w'=Lib.bytesWorld w 5 t))) (h0:v < 0):Calls Tryz.prog 136 #[.string ⟨s.toArray⟩] w fun e w'=>Below w.heap.size w w'∧e=.panicked [{ v:=wrongV,recovered:=false }]:=by
 obtain ⟨a',ha'⟩:∃ S,(⟨a.toArray⟩:ByteArray)=S:=⟨_,rfl⟩
 rw [ha'] at A B
 clear ha'
 obtain ⟨S,hS⟩:∃ S,(⟨s.toArray⟩:ByteArray)=S:=⟨_,rfl⟩
 rw [hS] at A ⊢
 clear hS
 go_enter Tryz.func136,Tryz.ntmps136
 go_wp2_with (first
  | (go_at_call 149;refine (A.out _).mono ?_;rintro e w1 ⟨rfl,b1⟩)
  | (go_at_call 150;refine (B.out _).mono ?_;rintro e w2 ⟨rfl,b2⟩;have b2':=below_or b2;clear b2))
 exact ⟨rfl,b1.trans (b2'.mono b1.size),rfl⟩
theorem numErr {s a r:List UInt8} {w:World} (hL:LaidW w) (A:Aside (∀ w,Calls Tryz.prog 149 #[.string ⟨s.toArray⟩,.string ⟨#[32]⟩] w fun e w'=>e=.returned (.tuple #[.string ⟨a.toArray⟩,.string ⟨r.toArray⟩,.bool true])∧Below w.heap.size w w')) (B:Aside (∀ w,LaidW w→Calls Tryz.prog 150 #[.string ⟨a.toArray⟩] w fun e w'=>Below w.heap.size w w'∧∃ (v:Int) (N:Nat),e=.returned (.tuple #[.int .i64 v,.iface 244 (.pointer (some ⟨N,0,none⟩))]))):Calls Tryz.prog 136 #[.string ⟨s.toArray⟩] w fun e w'=>Below w.heap.size w w'∧e=.panicked [{ v:=wrongV,recovered:=false }]:=by
 have LW:∀ {u:World},Below w.heap.size w u→LaidW u:=fun h=>hL.below h hL.s
 obtain ⟨a',ha'⟩:∃ S,(⟨a.toArray⟩:ByteArray)=S:=⟨_,rfl⟩
 rw [ha'] at A B
 clear ha'
 obtain ⟨S,hS⟩:∃ S,(⟨s.toArray⟩:ByteArray)=S:=⟨_,rfl⟩
 rw [hS] at A ⊢
 clear hS
 go_enter Tryz.func136,Tryz.ntmps136
 go_wp2_with (first
  | (go_at_call 149;refine (A.out _).mono ?_;rintro e w1 ⟨rfl,b1⟩)
  | (go_at_call 150;refine (B.out _ (LW b1)).mono ?_;rintro e w2 ⟨b2,v,N,rfl⟩))
 exact ⟨rfl,b1.trans (b2.mono b1.size),rfl⟩
theorem numGood {s a r:List UInt8} {w:World} (hL:LaidW w) (A:Aside (∀ w,Calls Tryz.prog 149 #[.string ⟨s.toArray⟩,.string ⟨#[32]⟩] w fun e w'=>e=.returned (.tuple #[.string ⟨a.toArray⟩,.string ⟨r.toArray⟩,.bool true])∧Below w.heap.size w w')) {n:Nat} (hn:n≤9223372036854775807) (B:Aside (∀ w,Calls Tryz.prog 150 #[.string ⟨a.toArray⟩] w fun e w'=>e=.returned (.tuple #[.int .i64 n,.nilIface])∧(w'=w∨∃ t,w'=Lib.bytesWorld w 5 t))) (hd:(⟨(decDigits n).toArray⟩:ByteArray)=⟨a.toArray⟩):Calls Tryz.prog 136 #[.string ⟨s.toArray⟩] w fun e w'=>Below w.heap.size w w'∧e=.returned (.tuple #[.int .i64 n,.string ⟨r.toArray⟩]):=by
 have LW:∀ {u:World},Below w.heap.size w u→LaidW u:=fun h=>hL.below h hL.s
 have h0:¬ (n:Int) < 0:=by omega
 obtain ⟨S,hS⟩:∃ S,(⟨s.toArray⟩:ByteArray)=S:=⟨_,rfl⟩
 rw [hS] at A ⊢
 clear hS
 obtain ⟨q,hq⟩:∃ S,(⟨r.toArray⟩:ByteArray)=S:=⟨_,rfl⟩
 rw [hq] at A
 try rw [hq]
 clear hq
 obtain ⟨a',ha'⟩:∃ S,(⟨a.toArray⟩:ByteArray)=S:=⟨_,rfl⟩
 rw [ha'] at A B hd
 clear ha'
 have I:Aside (∀ w,LaidW w→Calls Tryz.prog 142 #[.int .i64 n] w fun e w'=>e=.returned (.string ⟨(decDigits n).toArray⟩)∧Below w.heap.size w w'):=fun w h=>itoaL n hn w h
 obtain ⟨d',hd'⟩:∃ S,(⟨(decDigits n).toArray⟩:ByteArray)=S:=⟨_,rfl⟩
 rw [hd'] at I hd
 clear hd'
 subst hd
 go_enter Tryz.func136,Tryz.ntmps136
 go_wp2_with (first
  | (go_at_call 149;refine (A.out _).mono ?_;rintro e w1 ⟨rfl,b1⟩)
  | (go_at_call 150;refine (B.out _).mono ?_;rintro e w2 ⟨rfl,b2⟩;have b2':=b1.trans ((below_or b2).mono b1.size);clear b2 b1)
  | (go_at_call 142;refine (I.out _ (LW b2')).mono ?_;rintro e w3 ⟨rfl,b3⟩))
 go_ret2
 exact ⟨b2'.trans (b3.mono b2'.size),rfl⟩
theorem toL_ne {x y:ByteArray} (h:x≠y):(x.toList==y.toList)=false:=by
 rw [beq_eq_false_iff_ne,ByteArray.toList_eq,ByteArray.toList_eq]
 intro e
 exact h (ByteArray.ext (Array.ext' e))
theorem numBad {s a r:List UInt8} {w:World} (hL:LaidW w) (A:Aside (∀ w,Calls Tryz.prog 149 #[.string ⟨s.toArray⟩,.string ⟨#[32]⟩] w fun e w'=>e=.returned (.tuple #[.string ⟨a.toArray⟩,.string ⟨r.toArray⟩,.bool true])∧Below w.heap.size w w')) {n:Nat} (hn:n≤9223372036854775807) (B:Aside (∀ w,Calls Tryz.prog 150 #[.string ⟨a.toArray⟩] w fun e w'=>e=.returned (.tuple #[.int .i64 n,.nilIface])∧(w'=w∨∃ t,w'=Lib.bytesWorld w 5 t))) (hd:(⟨(decDigits n).toArray⟩:ByteArray)≠⟨a.toArray⟩):Calls Tryz.prog 136 #[.string ⟨s.toArray⟩] w fun e w'=>Below w.heap.size w w'∧e=.panicked [{ v:=wrongV,recovered:=false }]:=by
 have LW:∀ {u:World},Below w.heap.size w u→LaidW u:=fun h=>hL.below h hL.s
 have h0:¬ (n:Int) < 0:=by omega
 obtain ⟨S,hS⟩:∃ S,(⟨s.toArray⟩:ByteArray)=S:=⟨_,rfl⟩
 rw [hS] at A ⊢
 clear hS
 obtain ⟨q,hq⟩:∃ S,(⟨r.toArray⟩:ByteArray)=S:=⟨_,rfl⟩
 rw [hq] at A
 try rw [hq]
 clear hq
 obtain ⟨a',ha'⟩:∃ S,(⟨a.toArray⟩:ByteArray)=S:=⟨_,rfl⟩
 rw [ha'] at A B hd
 clear ha'
 have I:Aside (∀ w,LaidW w→Calls Tryz.prog 142 #[.int .i64 n] w fun e w'=>e=.returned (.string ⟨(decDigits n).toArray⟩)∧Below w.heap.size w w'):=fun w h=>itoaL n hn w h
 obtain ⟨d',hd'⟩:∃ S,(⟨(decDigits n).toArray⟩:ByteArray)=S:=⟨_,rfl⟩
 rw [hd'] at I hd
 clear hd'
 have hd2:(d'.toList==a'.toList)=false:=toL_ne hd
 go_enter Tryz.func136,Tryz.ntmps136
 go_wp2_with (first
  | (go_at_call 149;refine (A.out _).mono ?_;rintro e w1 ⟨rfl,b1⟩)
  | (go_at_call 150;refine (B.out _).mono ?_;rintro e w2 ⟨rfl,b2⟩;have b2':=b1.trans ((below_or b2).mono b1.size);clear b2 b1)
  | (go_at_call 142;refine (I.out _ (LW b2')).mono ?_;rintro e w3 ⟨rfl,b3⟩))
 all_goals first
  | exact ⟨rfl,b2'.trans (b3.mono b2'.size),rfl⟩
  | (exfalso;rename_i h;exact absurd h hd)
  | trace_state
theorem ne_str {x y:List UInt8} (h:x≠y):(⟨x.toArray⟩:ByteArray)≠⟨y.toArray⟩:=fun e=>h (by
 have:=congrArg (fun b:ByteArray=>b.data.toList) e
 simpa using this)
theorem num_c (s:List UInt8) (hl:s.length≤281474976710656) (w:World) (hL:LaidW w):Calls Tryz.prog 136 #[.string ⟨s.toArray⟩] w fun e w'=>Below w.heap.size w w'∧e=numO s:=by
 have hcut:=cut149 s hl
 unfold cutO at hcut
 unfold numO
 cases hc:cutSp s with
 | none =>
  rw [hc] at hcut
  exact numN s hl w hL hcut
 | some p =>
  obtain ⟨a,r⟩:=p
  rw [hc] at hcut
  obtain ⟨hs,hb⟩:=cut_inv s a r hc
  have hal:a.length≤281474976710656:=by rw [hs] at hl;simp only [List.length_append] at hl;omega
  have hsz:=bs_size a
  have ea:(⟨a.toArray⟩:ByteArray).data.toList=a:=by simp
  simp only
  rcases ha:Lib.atoiAll a with v | _ | _
  ·have hmx:=atoi_max ha
   have hat:=Tryz.strconv_Atoi_ok ⟨a.toArray⟩ (by rw [hsz];omega) v (by rw [ea];exact ha)
   by_cases h0:v < 0
   ·rw [numA_neg ha h0]
    exact numNeg hL hcut hat h0
   ·obtain ⟨n,rfl⟩:=Int.eq_ofNat_of_zero_le (show 0≤v by omega)
    by_cases hd:Lib.decDigits n=a
    ·rw [numA_eq ha hd]
     exact numGood hL hcut (by omega) hat (by rw [hd])
    ·rw [numA_ne ha hd]
     exact numBad hL hcut (by omega) hat (ne_str hd)
  ·rw [numA_syn ha]
   refine numErr hL hcut fun w hL=>?_
   obtain ⟨ev,h1,h2⟩:=hL.l.s
   refine (Tryz.strconv_Atoi_syntax ⟨a.toArray⟩ (by rw [hsz];omega) (by rw [ea];exact ha) ev w h1 h2).mono ?_
   rintro e w1 ⟨N,rfl,-,-,hw1⟩
   exact ⟨hw1,_,_,rfl⟩
  ·rw [numA_rng ha]
   refine numErr hL hcut fun w hL=>?_
   obtain ⟨ev,h1,h2⟩:=hL.l.r
   refine (Tryz.strconv_Atoi_range ⟨a.toArray⟩ (by rw [hsz];omega) (by rw [ea];exact ha) ev w h1 h2).mono ?_
   rintro e w1 ⟨N,rfl,-,-,hw1⟩
   exact ⟨hw1,_,_,rfl⟩
end Go.VE
namespace Go.VE
open Go.RowKit Go.Proofs Go.Shelf Go.Lib
set_option maxRecDepth 100000
set_option maxHeartbeats 4000000
theorem idle135 (p q:Addr) (w:World):CallsD Tryz.prog 135 #[.pointer (some p),.pointer (some q)] .returning w fun e u' w'=>e=.returned (.tuple #[])∧u'=.returning∧w'=w:=by
 refine callsD_of_wpS Tryz.func135 rfl fun c₀ cs hu=>?_
 apply wpS_seq
 apply wpS_region
 simp [wpOpsS,go_sem,recoverD,hu,Tryz.ntmps135,Exit.thenS]
 refine wpS_of_wp ?_
 go_wp2
 cases c₀
 simp_all [bodyPostS,results,Tryz.results135]
theorem assert195 (W:World) (v:Value):(Instr.typeAssert (.iface 195 v) 20 195 true).run Tryz.prog W=.ok (.tuple #[v,.bool true]) W:=by kernel_rfl
theorem catch135 (b c:Nat) (x0 x1 x2 x3 x4 x5 x6 x7 y:Value) (older:List PanicEntry) (w:World) (hbc:b≠c) (hb:w.heap[b]?=some (.cells #[x0,x1,x2,x3,x4,x5,x6,x7] 25 (0,0))) (hc:w.heap[c]?=some (.cells #[y] 4 (0,0))) :
  CallsD Tryz.prog 135 #[.pointer (some ⟨b,0,none⟩),.pointer (some ⟨c,0,none⟩)] (.panicking ({ v:=wrongV,recovered:=false }::older)) w fun e u' w' =>
   e=.returned (.tuple #[])∧u'=.panicking ({ v:=wrongV,recovered:=true }::older)∧w'=(((((((((w.setCell ⟨b,0,none⟩ (.int .i64 0)).setCell ⟨b,1,none⟩ (.int .i64 0)).setCell ⟨b,2,none⟩ (.int .i64 0)).setCell ⟨b,3,none⟩ (.int .i64 0)).setCell ⟨b,4,none⟩ (.int .i64 0)).setCell ⟨b,5,none⟩ (.int .i64 0)).setCell ⟨b,6,none⟩ (.int .i64 0)).setCell ⟨b,7,none⟩ (.string ⟨#[]⟩)).setCell ⟨c,0,none⟩ (.bool false)).alloc (.cells #[] 195):=by
 have h0:=Go.Joins.cell_of_block hb 0
 have f0:=Go.Joins.unfrozen_of_block hb 0
 have h1:=Go.Joins.cell_of_block hb 1
 have f1:=Go.Joins.unfrozen_of_block hb 1
 have h2:=Go.Joins.cell_of_block hb 2
 have f2:=Go.Joins.unfrozen_of_block hb 2
 have h3:=Go.Joins.cell_of_block hb 3
 have f3:=Go.Joins.unfrozen_of_block hb 3
 have h4:=Go.Joins.cell_of_block hb 4
 have f4:=Go.Joins.unfrozen_of_block hb 4
 have h5:=Go.Joins.cell_of_block hb 5
 have f5:=Go.Joins.unfrozen_of_block hb 5
 have h6:=Go.Joins.cell_of_block hb 6
 have f6:=Go.Joins.unfrozen_of_block hb 6
 have h7:=Go.Joins.cell_of_block hb 7
 have f7:=Go.Joins.unfrozen_of_block hb 7
 have hy:=Go.Joins.cell_of_block hc 0
 have fy:=Go.Joins.unfrozen_of_block hc 0
 have hlb:b < w.heap.size:=(Array.getElem?_eq_some_iff.1 hb).1
 have hlc:c < w.heap.size:=(Array.getElem?_eq_some_iff.1 hc).1
 clear hb hc
 refine callsD_of_wpS Tryz.func135 rfl fun c₀ cs hu=>?_
 apply wpS_seq
 apply wpS_region
 simp [wpOpsS,go_sem,recoverD,hu,Tryz.ntmps135,Exit.thenS]
 have has:=fun W=>assert195 W (.agg #[])
 refine wpS_of_wp ?_
 go_wp2
 cases c₀
 simp_all [bodyPostS,results,Tryz.results135]
end Go.VE
namespace Go.Proofs
open Go.Shelf
def Tryz.sortRec_ren:Go.Shelf.Ren:=⟨fun | 6=>146 | 15=>156 | 14=>155 | 28=>173 | 29=>174 | 20=>165 | 21=>166 | 22=>167 | 23=>168 | 24=>169 | 25=>170 | 26=>171 | 27=>172 | 46=>186 | 47=>187 | 48=>188 | 49=>189 | 50=>190 | 57=>202 | n=>n,fun | 22=>44 | 24=>25 | 25=>182 | 3=>3 | 39=>222 | 0=>0 | 53=>237 | 55=>239 | 4=>4 | 46=>231 | 45=>230 | 50=>178 | 5=>5 | 9=>9 | 66=>251 | 70=>196 | 76=>265 | 77=>266 | n=>n,fun | n=>n⟩
theorem Tryz.sortRec:Go.Proofs.SlLaysF0.n6 Tryz.prog Tryz.sortRec_ren:={
 mixed:=by kernel_rfl
 f6:=⟨Tryz.f146.name,by decide,Tryz.func146.trans (congrArg some (by kernel_rfl))⟩
 f14:=⟨Tryz.f155.name,by decide,Tryz.func155.trans (congrArg some (by kernel_rfl))⟩
 f15:=Tryz.func156.trans (congrArg some (by kernel_rfl))
 f20:=⟨Tryz.f165.name,by decide,Tryz.func165.trans (congrArg some (by kernel_rfl))⟩
 f21:=⟨Tryz.f166.name,by decide,Tryz.func166.trans (congrArg some (by kernel_rfl))⟩
 f22:=⟨Tryz.f167.name,by decide,Tryz.func167.trans (congrArg some (by kernel_rfl))⟩
 f23:=⟨Tryz.f168.name,by decide,Tryz.func168.trans (congrArg some (by kernel_rfl))⟩
 f24:=⟨Tryz.f169.name,by decide,Tryz.func169.trans (congrArg some (by kernel_rfl))⟩
 f25:=⟨Tryz.f170.name,by decide,Tryz.func170.trans (congrArg some (by kernel_rfl))⟩
 f26:=⟨Tryz.f171.name,by decide,Tryz.func171.trans (congrArg some (by kernel_rfl))⟩
 f27:=⟨Tryz.f172.name,by decide,Tryz.func172.trans (congrArg some (by kernel_rfl))⟩
 f28:=Tryz.func173.trans (congrArg some (by kernel_rfl))
 f29:=Tryz.func174.trans (congrArg some (by kernel_rfl))
 f46:=⟨Tryz.f186.name,by decide,Tryz.func186.trans (congrArg some (by kernel_rfl))⟩
 f47:=Tryz.func187.trans (congrArg some (by kernel_rfl))
 f48:=Tryz.func188.trans (congrArg some (by kernel_rfl))
 f49:=⟨Tryz.f189.name,by decide,Tryz.func189.trans (congrArg some (by kernel_rfl))⟩
 f50:=⟨Tryz.f190.name,by decide,Tryz.func190.trans (congrArg some (by kernel_rfl))⟩
 f57:=⟨Tryz.f202.name,by decide,Tryz.func202.trans (congrArg some (by kernel_rfl))⟩
 t0:=Tryz.underlying0
 a0:=Tryz.isAgg0
 z0:=Tryz.sizeOf0
 v0:=Tryz.zeroValue0
 t3:=Tryz.underlying3
 a3:=Tryz.isAgg3
 z3:=Tryz.sizeOf3
 v3:=Tryz.zeroValue3
 t4:=Tryz.underlying4
 a4:=Tryz.isAgg4
 z4:=Tryz.sizeOf4
 v4:=Tryz.zeroValue4
 t5:=Tryz.underlying5
 a5:=Tryz.isAgg5
 z5:=Tryz.sizeOf5
 v5:=Tryz.zeroValue5
 t9:=Tryz.underlying9
 a9:=Tryz.isAgg9
 z9:=Tryz.sizeOf9
 v9:=Tryz.zeroValue9
 t22:=Tryz.underlying44
 a22:=Tryz.isAgg44
 z22:=Tryz.sizeOf44
 v22:=Tryz.zeroValue44
 t25:=Tryz.underlying182
 a25:=Tryz.isAgg182
 z25:=Tryz.sizeOf182
 v25:=Tryz.zeroValue182
 t39:=Tryz.underlying222
 a39:=Tryz.isAgg222
 z39:=Tryz.sizeOf222
 v39:=Tryz.zeroValue222
 t45:=Tryz.underlying230
 a45:=Tryz.isAgg230
 z45:=Tryz.sizeOf230
 v45:=Tryz.zeroValue230
 t46:=Tryz.underlying231
 a46:=Tryz.isAgg231
 z46:=Tryz.sizeOf231
 v46:=Tryz.zeroValue231
 t50:=Tryz.underlying178
 a50:=Tryz.isAgg178
 z50:=Tryz.sizeOf178
 v50:=Tryz.zeroValue178
 t53:=Tryz.underlying237
 a53:=Tryz.isAgg237
 z53:=Tryz.sizeOf237
 v53:=Tryz.zeroValue237
 t55:=Tryz.underlying239
 a55:=Tryz.isAgg239
 z55:=Tryz.sizeOf239
 v55:=Tryz.zeroValue239
 t66:=Tryz.underlying251
 a66:=Tryz.isAgg251
 z66:=Tryz.sizeOf251
 v66:=Tryz.zeroValue251
 t70:=Tryz.underlying196
 a70:=Tryz.isAgg196
 z70:=Tryz.sizeOf196
 v70:=Tryz.zeroValue196
 t76:=Tryz.underlying265
 a76:=Tryz.isAgg265
 z76:=Tryz.sizeOf265
 v76:=Tryz.zeroValue265
 t77:=Tryz.underlying266
 a77:=Tryz.isAgg266
 z77:=Tryz.sizeOf266
 v77:=Tryz.zeroValue266 }
end Go.Proofs
namespace Go.VE
open Go.RowKit Go.Proofs Go.Shelf Go.Lib
set_option maxRecDepth 100000
set_option maxHeartbeats 600000
theorem nan175 (a:Int) (w:World):Calls Tryz.prog 175 #[.int .i64 a] w fun e w'=>e=.returned (.bool false)∧w'=w:=by
 go_enter Tryz.func175,Tryz.ntmps175
 go_wp2
 go_ret
 exact ⟨rfl,rfl⟩
def cmpI (a b:Int):Int:=if a < b then -1 else if b < a then 1 else 0
theorem cmp158 (a b:Int) (w:World):Calls Tryz.prog 158 #[.int .i64 a,.int .i64 b] w fun e w'=>e=.returned (.int .i64 (cmpI a b))∧w'=w:=by
 by_cases h1:a < b
 ·have e:cmpI a b=-1:=by simp [cmpI,h1]
  rw [e]
  go_enter Tryz.func158,Tryz.ntmps158
  go_wp2_with (go_at_call 175;refine (nan175 _ _).mono ?_;rintro e w' ⟨rfl,rfl⟩)
  go_ret
  exact ⟨rfl,rfl⟩
 ·by_cases h2:b < a
  ·have e:cmpI a b=1:=by simp [cmpI,h1,h2]
   rw [e]
   go_enter Tryz.func158,Tryz.ntmps158
   go_wp2_with (go_at_call 175;refine (nan175 _ _).mono ?_;rintro e w' ⟨rfl,rfl⟩)
   go_ret
   exact ⟨rfl,rfl⟩
  ·have e:cmpI a b=0:=by simp [cmpI,h1,h2]
   rw [e]
   go_enter Tryz.func158,Tryz.ntmps158
   go_wp2_with (go_at_call 175;refine (nan175 _ _).mono ?_;rintro e w' ⟨rfl,rfl⟩)
   go_ret
   exact ⟨rfl,rfl⟩
def orI (a c:Int):Int:=if a≠0 then a else c
theorem or157 (a c:Int) (b:Nat) (w:World) (h0:w.cell? ⟨b,0,none⟩=some (.int .i64 a)) (h1:w.cell? ⟨b,1,none⟩=some (.int .i64 c)):Calls Tryz.prog 157 #[.slice (some ⟨b,0,none⟩) 2 2] w fun e w'=>e=.returned (.int .i64 (orI a c))∧w'=w:=by
 by_cases ha:a=0
 ·subst ha
  rw [show orI 0 c=c from rfl]
  by_cases hc:c=0
  ·subst hc
   go_enter Tryz.func157,Tryz.ntmps157
   go_wp2
   refine wp_loop_rounds 3 ?_
   rw [rounds_succ]
   go_wp2
   rw [rounds_succ]
   go_wp2
   rw [rounds_succ]
   go_wp2
   go_ret
   exact ⟨rfl,rfl⟩
  ·go_enter Tryz.func157,Tryz.ntmps157
   go_wp2
   refine wp_loop_rounds 3 ?_
   rw [rounds_succ]
   go_wp2
   rw [rounds_succ]
   go_wp2
   go_ret
   exact ⟨rfl,rfl⟩
 ·rw [show orI a c=a from if_pos ha]
  go_enter Tryz.func157,Tryz.ntmps157
  go_wp2
  refine wp_loop_rounds 3 ?_
  rw [rounds_succ]
  go_wp2
  go_ret
  exact ⟨rfl,rfl⟩
def cmpR (p n q m:Int):Int:=orI (cmpI p q) (cmpI n m)
theorem grown3 (w:World) (A B C:Obj):(((w.alloc A).alloc B).drew).alloc C=Sort.grow (w.drewN 1) #[A,B,C]:=by
 unfold Sort.grow World.drewN World.drew World.alloc
 simp only [World.mk.injEq,and_true]
 apply Array.ext'
 simp
theorem cmp147 (p n q m:Int) (w:World):Calls Tryz.prog 147 #[.agg #[.int .i64 p,.int .i64 n],.agg #[.int .i64 q,.int .i64 m]] w fun e w'=>e=.returned (.int .i64 (cmpR p n q m))∧∃ k os,w'=Sort.grow (w.drewN k) os:=by
 unfold cmpR
 go_enter Tryz.func147,Tryz.ntmps147
 go_wp2
 have e158:∀ args w,(callFunc 158 args).run Tryz.prog w=.ok (.enter 158 args) w:=enters_of Tryz.func158 (by kernel_rfl) rfl
 obtain ⟨W,hW⟩:∃ W,((w.alloc (.cells #[.int .i64 p,.int .i64 n] 23)).alloc (.cells #[.int .i64 q,.int .i64 m] 23))=W:=⟨_,rfl⟩
 rw [hW]
 have B1:W.heap[w.heap.size+1]?=some (.cells #[.int .i64 q,.int .i64 m] 23 (0,0)):=by rw [←hW];exact heap_alloc2_new _ _ _
 have B0:W.heap[w.heap.size]?=some (.cells #[.int .i64 p,.int .i64 n] 23 (0,0)):=by rw [←hW,heap_alloc_old _ _ (by simp)];exact heap_alloc_new _ _
 have c0:W.cell? ⟨w.heap.size,0,none⟩=some (.int .i64 p):=Go.Joins.cell_of_block B0 0
 have c1:W.cell? ⟨w.heap.size,1,none⟩=some (.int .i64 n):=Go.Joins.cell_of_block B0 1
 have c2:W.cell? ⟨w.heap.size+1,0,none⟩=some (.int .i64 q):=Go.Joins.cell_of_block B1 0
 have c3:W.cell? ⟨w.heap.size+1,1,none⟩=some (.int .i64 m):=Go.Joins.cell_of_block B1 1
 refine wp_region_still_tail 10 (by kernel_rfl) (by kernel_rfl) ?_
 simp only [List.take_succ_cons,List.take_zero,List.drop_succ_cons,List.drop_zero]
 still_step
 still_step
 still_step
 still_step
 still_call (cmp158 p q _)
 still_step
 still_step
 still_step
 still_step
 still_call (cmp158 n m _)
 refine wpStill_nil ?_
 change wpList _ _ _ _ _ W.drew
 have hd:W.drew=W.drewN 1:=rfl
 obtain ⟨w2,hw2⟩:∃ w2,W.drew=w2:=⟨_,rfl⟩
 rw [hw2]
 go_wp2_with (go_at_call 157;refine (or157 (cmpI p q) (cmpI n m) w2.heap.size (w2.alloc (.cells #[.int .i64 (cmpI p q),.int .i64 (cmpI n m)] 3)) (Go.Joins.cell_of_block (heap_alloc_new w2 _) 0) (Go.Joins.cell_of_block (heap_alloc_new w2 _) 1)).mono ?_;rintro e w' ⟨rfl,rfl⟩)
 go_ret
 refine ⟨rfl,1,#[.cells #[.int .i64 p,.int .i64 n] 23,.cells #[.int .i64 q,.int .i64 m] 23,.cells #[.int .i64 (cmpI p q),.int .i64 (cmpI n m)] 3],?_⟩
 rw [←hw2,← hW]
 exact grown3 _ _ _ _
end Go.VE
namespace Go.VE
open Go.RowKit Go.Proofs Go.Shelf Go.Lib
set_option maxRecDepth 100000
set_option maxHeartbeats 1500000
theorem plain_c (s:List UInt8) (h:s.length≤1000) (w:World):Calls Tryz.prog 129 #[.string ⟨s.toArray⟩] w fun e w'=>e=.returned (.bool (s.all okB))∧Below w.heap.size w w':=by
 have hsz:=bs_size s
 have hcv:=Go.Lib.run_convert_string_bytes (P:=Tryz.prog) w 9 190 5 ⟨s.toArray⟩ Tryz.underlying9 Tryz.underlying190 Tryz.underlying5
 rw [hsz] at hcv
 have hbw:Below w.heap.size w (bytesWorld w 5 ⟨s.toArray⟩):=⟨rfl,rfl,rfl,by rw [bytesWorld_size];omega,fun k hk=>bytesWorld_at_old w 5 _ k hk⟩
 have hcell:∀ (j:Nat) (x:UInt8),s[j]?=some x→(bytesWorld w 5 ⟨s.toArray⟩).cell? ⟨w.heap.size,j,none⟩=some (.int .u8 x.toNat):=fun j x hx=>by
  obtain ⟨hj,rfl⟩:=List.getElem?_eq_some_iff.1 hx
  rw [bytesWorld_cell w 5 _ j (by rw [hsz];exact hj)]
  simp [List.getD,hj]
 obtain ⟨W,hW⟩:∃ W,bytesWorld w 5 ⟨s.toArray⟩=W:=⟨_,rfl⟩
 obtain ⟨c,hc⟩:∃ c,grownCap w s.length 0 5=c:=⟨_,rfl⟩
 rw [hW,hc] at hcv
 rw [hW] at hbw hcell
 clear hW hc
 have HC:Aside (∀ (j:Nat) (x:UInt8),s[j]?=some x→W.cell? ⟨w.heap.size,j,none⟩=some (.int .u8 x.toNat)):=hcell
 clear hcell
 go_enter Tryz.func129,Tryz.ntmps129
 go_wp2
 go_loopg [8] s.length (fun g z8 wr=>∃ i:Nat,z8=.int .i64 i∧i+g=s.length∧(s.take i).all okB=true∧wr=W)
 case atStart=>exact ⟨0,rfl,by omega,by simp,rfl⟩
 case round =>
  obtain ⟨i,rfl,hg,hk,rfl⟩:=hrel
  by_cases hi:i < s.length
  ·have hx:s[i]?=some s[i]:=List.getElem?_eq_getElem hi
   generalize s[i]=x at hx
   have hci:=HC.out i x hx
   have htk:(s.take (i+1)).all okB=((s.take i).all okB&&okB x):=by rw [List.take_add_one,hx];simp
   obtain ⟨g,rfl⟩:∃ g,gk=g+1:=⟨gk - 1,by omega⟩
   have i3:(i:Int) < (s.length:Int):=by omega
   by_cases hb:okB x=true
   ·have hb':=okB_bnd hb
    have hb1:¬ (x.toNat:Int) < 32:=by omega
    have hb2:¬ (126:Int) < (x.toNat:Int):=by omega
    go_wp2
    go_roundg g
    case measure=>omega
    case rel=>exact ⟨i+1,by simp,by omega,by rw [htk,hk,hb];rfl,rfl⟩
   ·have hall:s.all okB=false:=by
     rw [←Bool.not_eq_true,List.all_eq_true]
     intro h
     exact hb (h x (List.mem_of_getElem? hx))
    have hb':(x.toNat:Int) < 32∨(126:Int) < (x.toNat:Int):=by
     have:¬ (32≤x.toNat∧x.toNat≤126):=fun h=>hb (by simp only [okB,decide_eq_true_eq];exact h)
     omega
    rcases hb' with h1 | h1
    ·go_wp2
     go_ret
     refine ⟨?_,hbw⟩
     first | rfl | (rw [hall];rfl)
    ·have h2:¬ (x.toNat:Int) < 32:=by omega
     go_wp2
     go_ret
     refine ⟨?_,hbw⟩
     first | rfl | (rw [hall];rfl)
  ·obtain rfl:i=s.length:=by omega
   obtain rfl:gk=0:=by omega
   rw [List.take_length] at hk
   go_wp2
   go_ret
   refine ⟨?_,hbw⟩
   first | rfl | (rw [hk];rfl)
end Go.VE
namespace Go.VE
open Go.RowKit Go.Proofs Go.Shelf Go.Lib
set_option maxRecDepth 100000
set_option maxHeartbeats 1500000
noncomputable abbrev CF:Cf3:=cf3 tb Tryz.prog
theorem sc_of {Fn:Nat→List D→Out} (hF:FnOK Tryz.prog CF Fn) {f:Nat} {sh:List Sh} {xs:List D} {vs:List VD} {j:Nat} {ys:List Yr} {rs:RS} (h1:CF.ash f=some sh) (h2:vdsOf sh xs=some vs) (h3:Fn f xs=some (j,ys)) (h4:(CF.rsk f)[j]?=some rs):SC Tryz.prog f vs (pack (rvsAt ys rs 0)):=hF f sh xs vs j ys rs h1 h2 h3 h4
theorem isT_some {o:Out} {b:Bool} (h:isT o=some b):o=some (0,[.d (bl b)]):=by
 unfold isT at h
 split at h
 ·rw [dBool_some h]
 ·cases h
theorem outS_some {o:Out} {ys:List Yr} (h:outS o=some ys):o=some (0,ys):=by
 unfold outS at h
 split at h
 ·cases h;rfl
 ·cases h
theorem post_lit {w w':World} {U:Nat→Prop} {r:RV} {v:Value} (hU:∀ b,U b→b < w.heap.size) (hb:Below w.heap.size w w') (h:RvR w' U r v []):Post w U r (.returned v) w' :=
 ⟨v,U,[],rfl,hb,fun _ h=>h,fun b h=>⟨Nat.lt_of_lt_of_le (hU b h) hb.size,.inl h⟩,List.nodup_nil,by simp,h⟩
theorem laidW {w:World} {U:Nat→Prop} (hU:∀ b,U b→b < w.heap.size) (h:XX w U):LaidW w:=⟨h.2,by have:=hU 5 (h.1 5 (by decide));show 6≤_;omega⟩
theorem il_v {w:World} {U:Nat→Prop} {z:Int} {v:Value} (h:DR w U (il z) v):v=.int .i64 z:=h.1
theorem sD_v {w:World} {U:Nat→Prop} {s:List UInt8} {v:Value} (h:DR w U (sD s) v):v=.string ⟨s.toArray⟩:=h.1
theorem recR_v {w:World} {U:Nat→Prop} {r:Rec} {cs:List Value} (h:FR w U (recR r) cs):cs=[.int .i64 r.p,.int .i64 r.no,.int .i64 r.kd,.int .i64 r.dy,.int .i64 r.kn,.int .i64 r.op,.int .i64 r.on,.string ⟨r.tx.toArray⟩]:=by
 simp only [recR,FR] at h
 obtain ⟨_,_,rfl,h1,_,_,rfl,h2,_,_,rfl,h3,_,_,rfl,h4,_,_,rfl,h5,_,_,rfl,h6,_,_,rfl,h7,_,_,rfl,h8,rfl⟩:=h
 rw [il_v h1,il_v h2,il_v h3,il_v h4,il_v h5,il_v h6,il_v h7,sD_v h8]
theorem recR_f {w:World} {U:Nat→Prop} (r:Rec):FR w U (recR r) [.int .i64 r.p,.int .i64 r.no,.int .i64 r.kd,.int .i64 r.dy,.int .i64 r.kn,.int .i64 r.op,.int .i64 r.on,.string ⟨r.tx.toArray⟩]:=by
 simp only [recR,FR]
 exact ⟨_,_,rfl,⟨rfl,rfl⟩,_,_,rfl,⟨rfl,rfl⟩,_,_,rfl,⟨rfl,rfl⟩,_,_,rfl,⟨rfl,rfl⟩,_,_,rfl,⟨rfl,rfl⟩,_,_,rfl,⟨rfl,rfl⟩,_,_,rfl,⟨rfl,rfl⟩,_,_,rfl,⟨rfl,rfl⟩,rfl⟩
theorem agg_v {w:World} {U:Nat→Prop} {xs:List D} {vs:List Value} (h:VDF w U [.agg xs] vs):∃ cs,vs=[.agg cs.toArray]∧FR w U xs cs:=by
 simp only [VDF,VDR] at h
 obtain ⟨_,_,rfl,⟨cs,rfl,hc⟩,rfl⟩:=h
 exact ⟨cs.toList,by simp,hc⟩
theorem one_v {w:World} {U:Nat→Prop} {x:D} {vs:List Value} (h:VDF w U [.one x] vs):∃ v,vs=[v]∧DR w U x v:=by
 simp only [VDF,VDR] at h
 obtain ⟨v,_,rfl,hc,rfl⟩:=h
 exact ⟨v,rfl,hc⟩
theorem arr_of {vs:Array Value} {l:List Value} (h:vs.toList=l):vs=l.toArray:=by rw [←h]
theorem sc103 {r:Rec} (hok:okR r=true):SC Tryz.prog 103 [.agg (recR r)] (.one (.d (sD (txt r)))):=by
 refine ⟨enters_of Tryz.func103 (by kernel_rfl) rfl,fun w U vs hU hX hv=>?_⟩
 obtain ⟨cs,h1,h2⟩:=agg_v hv
 rw [arr_of h1,recR_v h2]
 have hs:=okR_small hok
 have ht:r.tx.length≤160:=by
  simp only [okR,Bool.and_eq_true,decide_eq_true_eq] at hok
  exact hok.1.1.2.2.2.2.2.2.2
 obtain ⟨p,no,kd,dy,kn,op,on,tx⟩:=r
 simp only [numsR,List.mem_cons,List.not_mem_nil,or_false,forall_eq_or_imp,forall_eq] at hs
 obtain ⟨k1,k2,k3,k4,k5,k6,k7⟩:=hs
 obtain ⟨a,rfl⟩:=Int.eq_ofNat_of_zero_le k1.1
 obtain ⟨b,rfl⟩:=Int.eq_ofNat_of_zero_le k2.1
 obtain ⟨c,rfl⟩:=Int.eq_ofNat_of_zero_le k3.1
 obtain ⟨d,rfl⟩:=Int.eq_ofNat_of_zero_le k4.1
 obtain ⟨e,rfl⟩:=Int.eq_ofNat_of_zero_le k5.1
 obtain ⟨u,rfl⟩:=Int.eq_ofNat_of_zero_le k6.1
 obtain ⟨v,rfl⟩:=Int.eq_ofNat_of_zero_le k7.1
 have e1:txt ⟨a,b,c,d,e,u,v,tx⟩=(dg a++dg b++dg c++dg d++dg e++dg u++dg v)++tx:=by
  simp [txt,numsR,dcZ,dg]
 refine (text_c a b c d e u v tx (by omega) (by omega) (by omega) (by omega) (by omega) (by omega) (by omega) ht w (laidW hU hX)).mono ?_
 rintro x w' ⟨rfl,hb⟩
 refine post_lit hU hb ?_
 rw [e1]
 exact ⟨rfl,rfl,rfl⟩
theorem sc129 {s:List UInt8} (h:s.length≤1000):SC Tryz.prog 129 [.one (sD s)] (.one (.d (bl (s.all okB)))):=by
 refine ⟨enters_of Tryz.func129 (by kernel_rfl) rfl,fun w U vs hU hX hv=>?_⟩
 obtain ⟨v,h1,h2⟩:=one_v hv
 rw [arr_of h1,sD_v h2]
 refine (plain_c s h w).mono ?_
 rintro x w' ⟨rfl,hb⟩
 exact post_lit hU hb ⟨rfl,rfl,rfl⟩
theorem sc130 {s:List UInt8} (h0:s≠[]) (h1:s.length≤1000) (hok:s.all okB=true):SC Tryz.prog 130 [.one (sD s)] (.agg [.d (sD (third 0 s)),.d (sD (third 1 s)),.d (sD (third 2 s))]):=by
 refine ⟨enters_of Tryz.func130 (by kernel_rfl) rfl,fun w U vs hU hX hv=>?_⟩
 obtain ⟨v,h2,h3⟩:=one_v hv
 rw [arr_of h2,sD_v h3]
 refine (thirds_c s (List.length_pos_iff.2 h0) h1 hok w).mono ?_
 rintro x w' ⟨rfl,hb⟩
 refine post_lit hU hb ⟨_,rfl,?_⟩
 exact ⟨_,_,[],[],rfl,rfl,⟨rfl,rfl,rfl⟩,_,_,[],[],rfl,rfl,⟨rfl,rfl,rfl⟩,_,_,[],[],rfl,rfl,⟨rfl,rfl,rfl⟩,rfl,rfl⟩
theorem ok103 {xs:List D} {vs:List VD} {j:Nat} {ys:List Yr} {rs:RS} {sh:List Sh} (h1:CF.ash 103=some sh) (h2:vdsOf sh xs=some vs) (h3:tText xs=some (j,ys)) (h4:(CF.rsk 103)[j]?=some rs):SC Tryz.prog 103 vs (pack (rvsAt ys rs 0)):=by
 unfold tText at h3
 split at h3
 ·cases h3
 ·rename_i r hr
  split at h3
  ·rename_i hok
   cases h3
   rw [recD_some hr] at h2
   cases h1
   cases h2
   cases h4
   exact sc103 hok
  ·cases h3
theorem ok129 {xs:List D} {vs:List VD} {j:Nat} {ys:List Yr} {rs:RS} {sh:List Sh} (h1:CF.ash 129=some sh) (h2:vdsOf sh xs=some vs) (h3:tPlain xs=some (j,ys)) (h4:(CF.rsk 129)[j]?=some rs):SC Tryz.prog 129 vs (pack (rvsAt ys rs 0)):=by
 unfold tPlain at h3
 split at h3
 ·split at h3
  ·cases h3
  ·rename_i s hs
   split at h3
   ·rename_i hl
    cases h3
    rw [dStr_some hs] at h2
    cases h1
    cases h2
    cases h4
    exact sc129 hl
   ·cases h3
 ·cases h3
theorem ok130 {xs:List D} {vs:List VD} {j:Nat} {ys:List Yr} {rs:RS} {sh:List Sh} (h1:CF.ash 130=some sh) (h2:vdsOf sh xs=some vs) (h3:tThirds xs=some (j,ys)) (h4:(CF.rsk 130)[j]?=some rs):SC Tryz.prog 130 vs (pack (rvsAt ys rs 0)):=by
 unfold tThirds at h3
 split at h3
 ·split at h3
  ·cases h3
  ·rename_i s hs
   split at h3
   ·rename_i hl
    cases h3
    rw [dStr_some hs] at h2
    cases h1
    cases h2
    cases h4
    exact sc130 hl.1 hl.2.1 hl.2.2
   ·cases h3
 ·cases h3
end Go.VE
