/- Book: what stands ahead of a blank, walked. -/
import Derived.Test.YtipddjojdgapiaaGreatDoorMg2
import Derived.Test.YtipddjojdgapiaaGreatDoorMp
import Derived.Lib.IndexLaws
import Derived.Handy
import Derived.Test.YtipddjojdgapiaaGreatDoorChecked
import Derived.WalkKit
import Derived.Deep.LoopGhost
import Derived.Deep.OwnRows
import Derived.Lib.BufferWrite
import Derived.Lib.SmallJoins
import Derived.Laws.CopyOwn
import Derived.KernelRfl
import Derived.Test.YtipddjojdgapiaaGreatDoorMa
import Derived.Deep.RegionWith
import Derived.WalkLawsBesides
import Derived.Recover
namespace Go.VE
open Go.RowKit Go.Proofs Go.Shelf Go.Lib
set_option maxRecDepth 100000
set_option maxHeartbeats 1500000
theorem cut_idx:∀ (s:List UInt8),match cutSp s with
  | some (a,r)=>indexByte s 32=a.length∧s=a++32::r
  | none=>indexByte s 32=-1
 | []=>rfl
 | b::s=>by
  have ih:=cut_idx s
  unfold cutSp indexByte
  by_cases hb:b=32
  ·subst hb
   simp
  ·rw [if_neg hb]
   have hb':(b==32)=false:=by simpa using hb
   rw [hb',if_neg (by decide)]
   cases hc:cutSp s with
   | none =>
    rw [hc] at ih
    simp only at ih
    simp [ih]
   | some p =>
    obtain ⟨a,r⟩:=p
    rw [hc] at ih
    simp only at ih
    simp only [Option.map_some]
    rw [ih.1]
    refine ⟨?_,by rw [ih.2];rfl⟩
    have:((a.length:Int)==-1)=false:=by
     rw [beq_eq_false_iff_ne];omega
    rw [this,if_neg (by decide),List.length_cons]
    omega
theorem ext_l (a r:List UInt8):(⟨(a++32::r).toArray⟩:ByteArray).extract 0 a.length=⟨a.toArray⟩:=by
 apply ByteArray.ext
 rw [ByteArray.data_extract]
 simp
theorem ext_r (a r:List UInt8) {n:Nat} (hn:n=(a++32::r).length):(⟨(a++32::r).toArray⟩:ByteArray).extract (a.length+1) n=⟨r.toArray⟩:=by
 subst hn
 apply ByteArray.ext
 rw [ByteArray.data_extract]
 apply Array.ext'
 simp only [List.extract_toArray]
 simp only [List.extract,List.drop_append]
 rw [List.drop_of_length_le (by omega),List.nil_append,show a.length+1 - a.length=1 by omega]
 simp only [List.drop_succ_cons,List.drop_zero,List.size_toArray,List.length_append,List.length_cons]
 exact List.take_of_length_le (by omega)
def cutO (s:List UInt8):Ending:=match cutSp s with
 | some (a,r)=>.returned (.tuple #[.string ⟨a.toArray⟩,.string ⟨r.toArray⟩,.bool true])
 | none=>.returned (.tuple #[.string ⟨s.toArray⟩,.string ⟨#[]⟩,.bool false])
theorem cut159 (s:List UInt8) (hl:s.length≤281474976710656) (w:World):Calls Tryz.prog 159 #[.string ⟨s.toArray⟩,.string ⟨#[32]⟩] w fun e w'=>e=cutO s∧Below w.heap.size w w':=by
 have hi:=cut_idx s
 have hx:=Tryz.stringslite_Index_one ⟨s.toArray⟩ 32
 unfold cutO
 cases hc:cutSp s with
 | none =>
  rw [hc] at hi
  simp only at hi
  have hx':∀ w,Calls Tryz.prog 176 #[.string ⟨s.toArray⟩,.string ⟨#[32]⟩] w fun e w'=>e=.returned (.int .i64 (-1))∧w'=w:=fun w=>by
   have:=hx w
   rwa [show (⟨s.toArray⟩:ByteArray).data.toList=s by simp,hi] at this
  clear hx
  go_enter Tryz.func159,Tryz.ntmps159
  go_wp2_with (go_at_call 176;refine (hx' _).mono ?_;rintro e w' ⟨rfl,rfl⟩)
  go_ret3
  exact ⟨rfl,Below.refl _ _⟩
 | some p =>
  obtain ⟨a,r⟩:=p
  rw [hc] at hi
  simp only at hi
  obtain ⟨hi,rfl⟩:=hi
  have hx':∀ w,Calls Tryz.prog 176 #[.string ⟨(a++32::r).toArray⟩,.string ⟨#[32]⟩] w fun e w'=>e=.returned (.int .i64 a.length)∧w'=w:=fun w=>by
   have:=hx w
   rwa [show (⟨(a++32::r).toArray⟩:ByteArray).data.toList=a++32::r by simp,hi] at this
  clear hx hi
  have hsz:(⟨(a++32::r).toArray⟩:ByteArray).size=a.length+1+r.length:=by
   show (a++32::r).toArray.size=_
   simp;omega
  have e1:=ext_l a r
  have e2:=ext_r a r (n:=(⟨(a++32::r).toArray⟩:ByteArray).size) rfl
  obtain ⟨S,hS⟩:∃ S,(⟨(a++32::r).toArray⟩:ByteArray)=S:=⟨_,rfl⟩
  rw [hS] at hx' hsz e1 e2 ⊢
  clear hS
  have g0:(0:Int)≤(a.length:Int):=by omega
  have g1:(a.length:Int)≤(S.size:Int):=by omega
  have g2:(0:Int)≤(a.length:Int)+1:=by omega
  have g3:(a.length:Int)+1≤(S.size:Int):=by omega
  have hl':a.length+1≤281474976710656:=by simp only [List.length_append,List.length_cons] at hl;omega
  have g5:wrap64 ((a.length:Int)+1)=(a.length:Int)+1:=by unfold wrap64;omega
  clear hsz hl
  have g4:((a.length:Int)+1).toNat=a.length+1:=by omega
  go_enter Tryz.func159,Tryz.ntmps159
  go_wp2_with (go_at_call 176;refine (hx' _).mono ?_;rintro e w' ⟨rfl,rfl⟩)
  go_region
  go_wp2
  go_ret3
  exact ⟨rfl,(Below.refl _ _).drew⟩
theorem cut149 (s:List UInt8) (hl:s.length≤281474976710656) (w:World):Calls Tryz.prog 149 #[.string ⟨s.toArray⟩,.string ⟨#[32]⟩] w fun e w'=>e=cutO s∧Below w.heap.size w w':=by
 have h:=fun w=>cut159 s hl w
 unfold cutO at h ⊢
 cases hc:cutSp s with
 | none =>
  rw [hc] at h
  simp only at h
  go_enter Tryz.func149,Tryz.ntmps149
  go_wp2_with (go_at_call 159;refine (h _).mono ?_;rintro e w1 ⟨rfl,b1⟩)
  go_ret3
  exact ⟨rfl,b1⟩
 | some p =>
  obtain ⟨a,r⟩:=p
  rw [hc] at h
  simp only at h
  go_enter Tryz.func149,Tryz.ntmps149
  go_wp2_with (go_at_call 159;refine (h _).mono ?_;rintro e w1 ⟨rfl,b1⟩)
  go_ret3
  exact ⟨rfl,b1⟩
end Go.VE
namespace Go.VE
open Go.RowKit Go.Proofs Go.Lib
set_option maxRecDepth 100000
set_option maxHeartbeats 4000000
theorem half132 (n:Nat) (h:n≤100000) (w:World):Calls Tryz.prog 132 #[.int .i64 n] w fun e w'=>e=.returned (.int .i64 ((n+1) / 2:Nat))∧w'=w:=by
 have e:((n:Int)+1) / 2=((n+1) / 2:Nat):=by omega
 go_enter Tryz.func132,Tryz.ntmps132
 go_wp2
 go_ret
 refine ⟨?_,rfl⟩
 show Ending.returned (Value.int .i64 (((n:Int)+1) / 2))=_
 rw [e]
def pads (s:List UInt8):List UInt8:=s++if s.length % 2=1 then [32] else []
theorem pads_len {s:List UInt8} {n:Nat} (h:(s.length+1) / 2=n):(pads s).length=2*n:=by
 unfold pads
 split
 ·simp only [List.length_append,List.length_cons,List.length_nil];omega
 ·simp only [List.length_append,List.length_nil];omega
theorem pads_ok {s:List UInt8} (h:s.all okB=true) {i:Nat} {x:UInt8} (hx:(pads s)[i]?=some x):32≤x.toNat∧x.toNat≤126:=by
 have hm:=List.mem_of_getElem? hx
 unfold pads at hm
 rcases List.mem_append.1 hm with hm | hm
 ·exact okB_bnd (List.all_eq_true.1 h x hm)
 ·split at hm
  ·simp at hm;subst hm;decide
  ·cases hm
theorem duo_pads:∀ (s:List UInt8) (i:Nat) (x y:UInt8),(pads s)[2*i]?=some x→(pads s)[2*i+1]?=some y→(duo s)[i]?=some (x,y)
 | [],i,x,y,h,_=>by simp [pads] at h
 | [a],0,x,y,h,h'=>by simp [pads] at h h';simp [duo,h,h']
 | [a],i+1,x,y,h,_=>by simp [pads,show 2*(i+1)=2*i+1+1 by omega] at h
 | a::b::r,0,x,y,h,h'=>by simp [pads] at h h';simp [duo,h,h']
 | a::b::r,i+1,x,y,h,h'=>by
  have e:pads (a::b::r)=a::b::pads r:=by
   simp only [pads,List.length_cons,show (r.length+1+1) % 2=r.length % 2 by omega,List.cons_append]
  rw [e,show 2*(i+1)=2*i+1+1 by omega] at h h'
  rw [duo,List.getElem?_cons_succ]
  exact duo_pads r i x y (by simpa using h) (by simpa using h')
theorem third_at {s:List UInt8} {i:Nat} {x y:UInt8} (hx:(pads s)[2*i]?=some x) (hy:(pads s)[2*i+1]?=some y) (q:Nat):(third q s)[i]?=some (pick3 q (x,y)):=by
 rw [third,List.getElem?_map,duo_pads s i x y hx hy]
 rfl
def rowQ (q:Nat) (s:List UInt8) (n i:Nat):Array Value:=(byteCells ((third q s).take i)++List.replicate (n - i) (Value.int .u8 0)).toArray
theorem rowQ_set {q:Nat} {s:List UInt8} {n i:Nat} {b:UInt8} (hn:(s.length+1) / 2=n) (hi:i < n) (h:(third q s)[i]?=some b):(rowQ q s n i).setIfInBounds i (Value.int .u8 b.toNat)=rowQ q s n (i+1):=by
 have hl:(byteCells ((third q s).take i)).length=i:=by
  rw [byteCells_length,List.length_take,third_len,hn];omega
 unfold rowQ
 rw [List.setIfInBounds_toArray]
 congr 1
 rw [List.set_append_right _ _ (by omega),hl,Nat.sub_self,show n - i=(n - (i+1))+1 by omega,List.replicate_succ,List.set_cons_zero,List.take_add_one,h]
 simp [byteCells]
theorem rowQ_zero (q:Nat) (s:List UInt8) (n:Nat):rowQ q s n 0=madeCells #[.int .u8 0] n:=by
 unfold rowQ madeCells
 apply Array.ext
 ·simp [byteCells]
 ·intro j h1 h2
  simp [byteCells,Nat.mod_one]
theorem rowQ_full {q:Nat} {s:List UInt8} {n:Nat} (hn:(s.length+1) / 2=n):rowQ q s n n=(byteCells (third q s)).toArray:=by
 unfold rowQ
 rw [Nat.sub_self,List.take_of_length_le (by rw [third_len,hn];exact Nat.le_refl _)]
 simp
theorem rowQ_at {q:Nat} {s:List UInt8} {n i:Nat} (hn:(s.length+1) / 2=n) (hi:i < n):(rowQ q s n i)[i]?=some (.int .u8 0):=by
 have hl:(byteCells ((third q s).take i)).length=i:=by
  rw [byteCells_length,List.length_take,third_len,hn];omega
 unfold rowQ
 rw [List.getElem?_toArray,List.getElem?_append_right (by omega),hl,Nat.sub_self,show n - i=(n - (i+1))+1 by omega,List.replicate_succ,List.getElem?_cons_zero]
structure Thr (s:List UInt8) (n:Nat) (w:World) (i:Nat) (wr:World):Prop where
 bx:wr.heap[w.heap.size]?=some (.cells #[.string ⟨#[]⟩,.string ⟨#[]⟩,.string ⟨#[]⟩] 186 (0,0))
 ob:wr.heap[w.heap.size+1]?=some (.cells #[.slice (some ⟨w.heap.size+1+1,0,none⟩) n n,.slice (some ⟨w.heap.size+1+1+1,0,none⟩) n n,.slice (some ⟨w.heap.size+1+1+1+1,0,none⟩) n n] 215 (0,0))
 r0:wr.heap[w.heap.size+1+1]?=some (.cells (rowQ 0 s n i) 5 (0,0))
 r1:wr.heap[w.heap.size+1+1+1]?=some (.cells (rowQ 1 s n i) 5 (0,0))
 r2:wr.heap[w.heap.size+1+1+1+1]?=some (.cells (rowQ 2 s n i) 5 (0,0))
 pd:wr.heap[w.heap.size+1+1+1+1+1]?=some (.cells (byteCells (pads s)).toArray 5 (0,0))
 be:Below w.heap.size w wr
theorem setC_same {w:World} {b i t:Nat} {cs:Array Value} {v:Value} (h:w.heap[b]?=some (.cells cs t (0,0))):(w.setCell ⟨b,i,none⟩ v).heap[b]?=some (.cells (cs.setIfInBounds i v) t (0,0)):=by
 obtain ⟨hb,e⟩:=Array.getElem?_eq_some_iff.1 h
 simp [World.setCell,hb,Array.getElem_modify,e]
theorem setC_other {w:World} {b i k:Nat} {v:Value} (h:k≠b):(w.setCell ⟨b,i,none⟩ v).heap[k]?=w.heap[k]?:=Below.heap_setCell _ _ _ _ h
theorem Thr.next {s:List UInt8} {n:Nat} {w wr:World} {i:Nat} (hk:Thr s n w i wr) (hn:(s.length+1) / 2=n) (hi:i < n) {x y:UInt8} (x1:32≤x.toNat) (y1:32≤y.toNat) (hx:(pads s)[2*i]?=some x) (hy:(pads s)[2*i+1]?=some y) :
  Thr s n w (i+1) (((wr.setCell ⟨w.heap.size+1+1,i,none⟩ (.int .u8 x.toNat)).setCell ⟨w.heap.size+1+1+1,i,none⟩ (.int .u8 y.toNat)).setCell ⟨w.heap.size+1+1+1+1,i,none⟩ (.int .u8 (32+((x.toNat:Int) - 32+((y.toNat:Int) - 32)) % 95))).drew.drew:=by
 have e0:=rowQ_set hn hi (third_at hx hy 0)
 have e1:=rowQ_set hn hi (third_at hx hy 1)
 have e2:=rowQ_set hn hi (third_at hx hy 2)
 have p0:pick3 0 (x,y)=x:=rfl
 have p1:pick3 1 (x,y)=y:=rfl
 have p2:((pick3 2 (x,y)).toNat:Int)=32+((x.toNat:Int) - 32+((y.toNat:Int) - 32)) % 95:=by
  show ((addB x y).toNat:Int)=_
  rw [addB_nat]
  omega
 rw [p0] at e0
 rw [p1] at e1
 rw [p2] at e2
 refine ⟨?_,?_,?_,?_,?_,?_,?_⟩
 ·exact (setC_other (by omega)).trans ((setC_other (by omega)).trans ((setC_other (by omega)).trans hk.bx))
 ·exact (setC_other (by omega)).trans ((setC_other (by omega)).trans ((setC_other (by omega)).trans hk.ob))
 ·have:=setC_same (i:=i) (v:=.int .u8 x.toNat) hk.r0
  rw [e0] at this
  exact (setC_other (by omega)).trans ((setC_other (by omega)).trans this)
 ·have:=setC_same (i:=i) (v:=.int .u8 y.toNat) ((setC_other (b:=w.heap.size+1+1) (i:=i) (v:=.int .u8 x.toNat) (by omega)).trans hk.r1)
  rw [e1] at this
  exact (setC_other (by omega)).trans this
 ·have:=setC_same (i:=i) (v:=.int .u8 (32+((x.toNat:Int) - 32+((y.toNat:Int) - 32)) % 95)) ((setC_other (b:=w.heap.size+1+1+1) (i:=i) (v:=.int .u8 y.toNat) (by omega)).trans ((setC_other (b:=w.heap.size+1+1) (i:=i) (v:=.int .u8 x.toNat) (by omega)).trans hk.r2))
  rw [e2] at this
  exact this
 ·exact (setC_other (by omega)).trans ((setC_other (by omega)).trans ((setC_other (by omega)).trans hk.pd))
 ·exact ((((hk.be.setCell (p:=⟨w.heap.size+1+1,i,none⟩) (by simp;omega) _).setCell (p:=⟨w.heap.size+1+1+1,i,none⟩) (by simp;omega) _).setCell (p:=⟨w.heap.size+1+1+1+1,i,none⟩) (by simp;omega) _).drew).drew
theorem bytes_of {s:List UInt8} {n q:Nat} {wr:World} {blk:Nat} (hn:(s.length+1) / 2=n) (hb:wr.heap[blk]?=some (.cells (rowQ q s n n) 5 (0,0))) :
  (convert 190 9 (.slice (some ⟨blk,0,none⟩) n n)).run Tryz.prog wr=.ok (.string ⟨(third q s).toArray⟩) wr:=by
 have hl:(third q s).length=n:=by rw [third_len,hn]
 rw [rowQ_full hn] at hb
 have:=run_convert_bytes_back (P:=Tryz.prog) wr 190 9 5 ⟨blk,0,none⟩ n (third q s) Tryz.underlying190 Tryz.underlying5 Tryz.underlying9 (by
  intro j hj
  rw [Addr.add_lit,Go.Joins.cell_of_block hb,Nat.zero_add]
  simp [byteCells,hj])
 rwa [hl] at this
theorem pad_row {s:List UInt8} {n:Nat} (h0:0 < s.length) (hn:(s.length+1) / 2=n) (hsz:(⟨s.toArray⟩:ByteArray).size=s.length) :
  (List.take 0 ((madeCells #[Value.int IntKind.u8 0] (2*n)).setIfInBounds (2*n - 1) (Value.int IntKind.u8 32)).toList++byteCells (ByteArray.mk s.toArray).data.toList++List.drop (0+(ByteArray.mk s.toArray).size) ((madeCells #[Value.int IntKind.u8 0] (2*n)).setIfInBounds (2*n - 1) (Value.int IntKind.u8 32)).toList).toArray=(byteCells (pads s)).toArray:=by
 congr 1
 rw [hsz,List.take_zero,List.nil_append,Nat.zero_add]
 show byteCells s++_=_
 unfold pads
 have hl:(madeCells #[Value.int IntKind.u8 0] (2*n)).size=2*n:=size_madeCells _ _
 by_cases h2:s.length % 2=1
 ·rw [if_pos h2]
  have e:s.length=2*n - 1:=by omega
  rw [Array.toList_setIfInBounds,List.drop_set,if_neg (by omega),e,Nat.sub_self]
  have hd:∃ v,List.drop (2*n - 1) (madeCells #[Value.int IntKind.u8 0] (2*n)).toList=[v]:=by
   refine List.length_eq_one_iff.1 ?_
   rw [List.length_drop,Array.length_toList,hl]
   omega
  obtain ⟨v,hv⟩:=hd
  rw [hv]
  simp [byteCells]
 ·rw [if_neg h2]
  have e:s.length=2*n:=by omega
  rw [List.drop_of_length_le (by simp [hl,e])]
  simp
theorem five (w:World) (a b c d e:Obj):(((((w.alloc a).alloc b).alloc c).alloc d).alloc e).heap[w.heap.size]?=some a∧(((((w.alloc a).alloc b).alloc c).alloc d).alloc e).heap[w.heap.size+1]?=some b∧(((((w.alloc a).alloc b).alloc c).alloc d).alloc e).heap[w.heap.size+1+1]?=some c ∧
  (((((w.alloc a).alloc b).alloc c).alloc d).alloc e).heap[w.heap.size+1+1+1]?=some d∧(((((w.alloc a).alloc b).alloc c).alloc d).alloc e).heap[w.heap.size+1+1+1+1]?=some e:=by
 simp only [World.alloc]
 refine ⟨?_,?_,?_,?_,?_⟩
 ·rw [Array.getElem?_push,if_neg (by simp only [Array.size_push];omega),Array.getElem?_push,if_neg (by simp only [Array.size_push];omega),Array.getElem?_push,if_neg (by simp only [Array.size_push];omega),Array.getElem?_push,if_neg (by simp only [Array.size_push];omega),Array.getElem?_push,if_pos (by simp only [Array.size_push])]
 ·rw [Array.getElem?_push,if_neg (by simp only [Array.size_push];omega),Array.getElem?_push,if_neg (by simp only [Array.size_push];omega),Array.getElem?_push,if_neg (by simp only [Array.size_push];omega),Array.getElem?_push,if_pos (by simp only [Array.size_push])]
 ·rw [Array.getElem?_push,if_neg (by simp only [Array.size_push];omega),Array.getElem?_push,if_neg (by simp only [Array.size_push];omega),Array.getElem?_push,if_pos (by simp only [Array.size_push])]
 ·rw [Array.getElem?_push,if_neg (by simp only [Array.size_push];omega),Array.getElem?_push,if_pos (by simp only [Array.size_push])]
 ·rw [Array.getElem?_push,if_pos (by simp only [Array.size_push])]
theorem thirds_c (s:List UInt8) (h0:0 < s.length) (h1:s.length≤1000) (hok:s.all okB=true) (w:World):Calls Tryz.prog 130 #[.string ⟨s.toArray⟩] w fun e w' =>
  e=.returned (.agg #[.string ⟨(third 0 s).toArray⟩,.string ⟨(third 1 s).toArray⟩,.string ⟨(third 2 s).toArray⟩])∧Below w.heap.size w w':=by
 obtain ⟨n,hn⟩:∃ n,(s.length+1) / 2=n:=⟨_,rfl⟩
 have hsz:(⟨s.toArray⟩:ByteArray).size=s.length:=by simp [ByteArray.size]
 have hhalf:∀ w,Calls Tryz.prog 132 #[.int .i64 s.length] w fun e w'=>e=.returned (.int .i64 n)∧w'=w:=fun w=>by
  have:=half132 s.length (by omega) w
  rwa [hn] at this
 have hmk:=fun w=>run_make_row' (P:=Tryz.prog) 190 5 (.int .u8 0) 1 Tryz.underlying190 (by kernel_rfl) rfl .i64 .i64 n (by omega) (by omega) w
 have q1:(0:Int)≤2*(n:Int) - 1:=by omega
 have q2:2*(n:Int) - 1 < 2*(n:Int):=by omega
 have q3:(2*(n:Int) - 1).toNat=2*n - 1:=by omega
 go_enter Tryz.func130,Tryz.ntmps130
 go_wp2_with (go_at_call 132;refine (hhalf _).mono ?_;rintro e w' ⟨rfl,rfl⟩)
 refine wp_loop_rounds 4 ?_
 rw [rounds_succ]
 go_wp2
 rw [rounds_succ]
 go_wp2
 rw [rounds_succ]
 go_wp2
 rw [rounds_succ]
 go_wp2
 obtain ⟨W,hW⟩:∃ W,(((((w.alloc (Obj.cells #[Value.string { data:=#[] },Value.string { data:=#[] },Value.string { data:=#[] }] 186)).alloc (Obj.cells #[Value.slice (some { block:=w.heap.size+1+1,off:=0 }) n n,Value.slice (some { block:=w.heap.size+1+1+1,off:=0 }) n n,Value.slice (some { block:=w.heap.size+1+1+1+1,off:=0 }) n n] 215)).alloc (Obj.cells (madeCells #[Value.int IntKind.u8 0] n) 5)).alloc (Obj.cells (madeCells #[Value.int IntKind.u8 0] n) 5)).alloc (Obj.cells (madeCells #[Value.int IntKind.u8 0] n) 5))=W:=⟨_,rfl⟩
 rw [hW]
 have hmk2:∀ w:World,(Instr.makeSlice 190 (.int .i64 (2*(n:Int))) (.int .i64 (2*(n:Int)))).run Tryz.prog w=.ok (.slice (some ⟨w.heap.size,0,none⟩) (2*n) (2*n)) (w.alloc (.cells (madeCells #[.int .u8 0] (2*n)) 5)):=fun w=>by
  have:=run_make_row' (P:=Tryz.prog) 190 5 (.int .u8 0) 1 Tryz.underlying190 (by kernel_rfl) rfl .i64 .i64 (2*n) (by omega) (by omega) w
  simpa using this
 have hs5:(madeCells #[Value.int IntKind.u8 0] (2*n)).size=2*n:=size_madeCells _ _
 have hl5:2*n - 1 < 2*n:=by omega
 have hc5:(W.alloc (Obj.cells (madeCells #[Value.int IntKind.u8 0] (2*n)) 5)).cell? ⟨W.heap.size,2*n - 1,none⟩=some (.int .u8 0):=by
  rw [Go.Joins.cell_of_block (heap_alloc_new W _)]
  simp [madeCells,Nat.mod_one,hl5]
 rw [hmk2]
 go_wp2
 have hWs:W.heap.size=w.heap.size+1+1+1+1+1:=by rw [←hW];simp
 have hcp:=run_copy_row_string (P:=Tryz.prog) (W.alloc (Obj.cells ((madeCells #[Value.int IntKind.u8 0] (2*n)).setIfInBounds (2*n - 1) (Value.int IntKind.u8 32)) 5)) 190 9 3 5 W.heap.size 0 (2*n) (2*n) ⟨s.toArray⟩ _ 5 Tryz.underlying190 (by kernel_rfl) (heap_alloc_new W _) (by omega) (by simp only [Array.size_setIfInBounds,size_madeCells];omega)
 rw [hcp]
 clear hcp
 rw [hWs]
 obtain ⟨V,hV⟩:∃ V,(W.alloc (Obj.cells ((madeCells #[Value.int IntKind.u8 0] (2*n)).setIfInBounds (2*n - 1) (Value.int IntKind.u8 32)) 5)).setRow (w.heap.size+1+1+1+1+1) (List.take 0 ((madeCells #[Value.int IntKind.u8 0] (2*n)).setIfInBounds (2*n - 1) (Value.int IntKind.u8 32)).toList++byteCells (ByteArray.mk s.toArray).data.toList++List.drop (0+(ByteArray.mk s.toArray).size) ((madeCells #[Value.int IntKind.u8 0] (2*n)).setIfInBounds (2*n - 1) (Value.int IntKind.u8 32)).toList).toArray=V:=⟨_,rfl⟩
 rw [hV]
 have hT:Thr s n w 0 V:=by
  have hW2:∀ k,k < w.heap.size+1+1+1+1+1→V.heap[k]?=W.heap[k]?:=fun k hk=>by
   rw [←hV,setRow_other _ _ _ _ (by omega)]
   exact heap_alloc_old W _ (by omega)
  have hg:=setRow_heap (W.alloc (Obj.cells ((madeCells #[Value.int IntKind.u8 0] (2*n)).setIfInBounds (2*n - 1) (Value.int IntKind.u8 32)) 5)) W.heap.size _ (List.take 0 ((madeCells #[Value.int IntKind.u8 0] (2*n)).setIfInBounds (2*n - 1) (Value.int IntKind.u8 32)).toList++byteCells (ByteArray.mk s.toArray).data.toList++List.drop (0+(ByteArray.mk s.toArray).size) ((madeCells #[Value.int IntKind.u8 0] (2*n)).setIfInBounds (2*n - 1) (Value.int IntKind.u8 32)).toList).toArray 5 (0,0) (heap_alloc_new W _)
  rw [hWs,hV,pad_row h0 hn hsz] at hg
  have hb:Below w.heap.size w V:=by
   rw [←hV]
   refine below_setRow ?_ (by omega) _
   rw [←hW]
   exact (((((((Below.refl _ w).alloc (Nat.le_refl _) _).alloc (by simp) _).alloc (by simp;omega) _).alloc (by simp;omega) _).alloc (by simp;omega) _).alloc (by simp;omega) _)
  rw [←hW] at hW2
  refine ⟨(hW2 _ (by omega)).trans ?_,(hW2 _ (by omega)).trans ?_,(hW2 _ (by omega)).trans ?_,(hW2 _ (by omega)).trans ?_,(hW2 _ (by omega)).trans ?_,hg,hb⟩
  ·exact (five w _ _ _ _ _).1
  ·exact (five w _ _ _ _ _).2.1
  ·rw [rowQ_zero];exact (five w _ _ _ _ _).2.2.1
  ·rw [rowQ_zero];exact (five w _ _ _ _ _).2.2.2.1
  ·rw [rowQ_zero];exact (five w _ _ _ _ _).2.2.2.2
 clear hc5 hV hWs hmk hmk2 hhalf hW
 clear W
 clear hs5
 rw [Result.andThen_ok,Oper.upon_value]
 go_wp2
 have hpl:=pads_len hn
 go_loopg [33] n (fun g z33 wr=>∃ i:Nat,z33=.int .i64 i∧i+g=n∧Thr s n w i wr)
 case atStart=>exact ⟨0,rfl,by omega,hT⟩
 case round =>
  obtain ⟨i,rfl,hg,hk⟩:=hrel
  clear hT
  by_cases hi:i < n
  ·obtain ⟨g,rfl⟩:∃ g,gk=g+1:=⟨gk - 1,by omega⟩
   obtain ⟨x,hx⟩:∃ x,(pads s)[2*i]?=some x:=⟨_,List.getElem?_eq_getElem (by omega)⟩
   obtain ⟨y,hy⟩:∃ y,(pads s)[2*i+1]?=some y:=⟨_,List.getElem?_eq_getElem (by omega)⟩
   have c0:wr.cell? ⟨w.heap.size+1+1+1+1+1,2*i,none⟩=some (.int .u8 x.toNat):=by
    rw [Go.Joins.cell_of_block hk.pd]
    simp [byteCells,hx]
   have c1:wr.cell? ⟨w.heap.size+1+1+1+1+1,2*i+1,none⟩=some (.int .u8 y.toNat):=by
    rw [Go.Joins.cell_of_block hk.pd]
    simp [byteCells,hy]
   have d0:=Go.Joins.cell_of_block hk.ob 0
   have d1:=Go.Joins.cell_of_block hk.ob 1
   have d2:=Go.Joins.cell_of_block hk.ob 2
   have e0:=(Go.Joins.cell_of_block hk.r0 i).trans (rowQ_at hn hi)
   have e1:=(Go.Joins.cell_of_block hk.r1 i).trans (rowQ_at hn hi)
   have e2:=(Go.Joins.cell_of_block hk.r2 i).trans (rowQ_at hn hi)
   have f0:=Go.Joins.unfrozen_of_block hk.r0 i
   have f1:=Go.Joins.unfrozen_of_block hk.r1 i
   have f2:=Go.Joins.unfrozen_of_block hk.r2 i
   have i1:(2:Int)*(i:Int) < 2*(n:Int):=by omega
   have i2:(2:Int)*(i:Int)+1 < 2*(n:Int):=by omega
   have i3:(i:Int) < (n:Int):=by omega
   obtain ⟨x1,x2⟩:=pads_ok hok hx
   obtain ⟨y1,y2⟩:=pads_ok hok hy
   go_wp2
   go_region
   go_wp2
   go_region
   go_wp2
   go_roundg g
   case measure=>omega
   case rel=>exact ⟨i+1,by simp,by omega,hk.next hn hi x1 y1 hx hy⟩
  ·obtain rfl:i=n:=by omega
   obtain rfl:gk=0:=by omega
   have d0:=Go.Joins.cell_of_block hk.ob 0
   have d1:=Go.Joins.cell_of_block hk.ob 1
   have d2:=Go.Joins.cell_of_block hk.ob 2
   have b0:=Go.Joins.cell_of_block hk.bx 0
   have b1:=Go.Joins.cell_of_block hk.bx 1
   have b2:=Go.Joins.cell_of_block hk.bx 2
   have g0:=Go.Joins.unfrozen_of_block hk.bx 0
   have g1:=Go.Joins.unfrozen_of_block hk.bx 1
   have g2:=Go.Joins.unfrozen_of_block hk.bx 2
   have hv:=fun (q:Nat) (blk:Nat) (hb:wr.heap[blk]?=some (.cells (rowQ q s i i) 5 (0,0)))=>bytes_of (q:=q) (blk:=blk) hn hb
   have hv0:=hv 0 _ hk.r0
   have hv1:=hv 1 _ hk.r1
   have hv2:=hv 2 _ hk.r2
   clear hv
   go_wp2
   have hb3:=setC_same (i:=2) (v:=.string ⟨(third 2 s).toArray⟩) (setC_same (i:=1) (v:=.string ⟨(third 1 s).toArray⟩) (setC_same (i:=0) (v:=.string ⟨(third 0 s).toArray⟩) hk.bx))
   refine ⟨rfl,_,results_cell_row (p:=2) (ty:=186) Tryz.results130 _ _ w.heap.size 186 _ (0,0) _ rfl hb3 Tryz.underlying186 rfl (by kernel_rfl),rfl,?_⟩
   exact (((hk.be.setCell (p:=⟨w.heap.size,0,none⟩) (Nat.le_refl _) _).setCell (p:=⟨w.heap.size,1,none⟩) (Nat.le_refl _) _).setCell (p:=⟨w.heap.size,2,none⟩) (Nat.le_refl _) _)
end Go.VE
namespace Go.VE
open Go.RowKit Go.Proofs Go.Shelf Go.Lib
set_option maxRecDepth 100000
set_option maxHeartbeats 1500000
structure LaidW (w:World):Prop where
 l:Laid w
 s:nX≤w.heap.size
theorem LaidW.below {w w':World} {B:Nat} (h:LaidW w) (hb:Below B w w') (hB:nX≤B):LaidW w' :=
 ⟨h.l.kept fun b hn=>hb.block b (by omega),Nat.le_trans h.s hb.size⟩
theorem below_grow (w:World) (k:Nat) (os:Array Obj):Below w.heap.size w (Sort.grow (w.drewN k) os):=by
 refine ⟨rfl,rfl,rfl,?_,fun i hi=>?_⟩
 ·show w.heap.size≤(w.heap++os).size
  rw [Array.size_append];omega
 ·show (w.heap++os)[i]?=w.heap[i]?
  rw [Array.getElem?_append,if_pos hi]
theorem itoaL (n:Nat) (h1:n≤9223372036854775807) (w:World) (hL:LaidW w):Calls Tryz.prog 142 #[.int .i64 n] w fun e w'=>e=.returned (.string ⟨(Lib.decDigits n).toArray⟩)∧Below w.heap.size w w':=by
 refine (Tryz.strconv_Itoa n (by omega) (by omega) w (hL.l.tab (by kernel_rfl))).mono ?_
 rintro e w' ⟨rfl,k,os,rfl⟩
 exact ⟨by rw [Lib.itoa_nonneg],below_grow w k os⟩
theorem bs_size (l:List UInt8):(⟨l.toArray⟩:ByteArray).size=l.length:=by simp [ByteArray.size]
theorem bs_list (s:ByteArray):s=⟨s.data.toList.toArray⟩:=by cases s;simp
theorem bs_app (a b:List UInt8):(⟨a.toArray⟩:ByteArray)++⟨b.toArray⟩=⟨(a++b).toArray⟩:=by
 rw [bs_list (_++_)]
 simp
theorem strC_app (a:List UInt8) (b:List UInt8):Lib.byteCells a++Lib.strCells ⟨b.toArray⟩=Lib.byteCells (a++b):=by
 simp [Lib.byteCells,Lib.strCells]
theorem wS (B b:Nat) (bs:List Value) (s:ByteArray) (w:World) (h:Lib.IsBuilderF 204 5 B b bs w) (hlen:bs.length+s.size≤140737488355328) (hBw:B≤w.heap.size) :
  Calls Tryz.prog 141 #[.pointer (some ⟨b,0,none⟩),.string s] w fun e w'=>e=.returned (.tuple #[.int .i64 s.size,.nilIface])∧(Lib.BuilderAtF 204 5 B b (.pointer (some ⟨b,0,none⟩)) (bs++Lib.strCells s) w'∧Below B w w'):=Tryz.Builder_WriteString_f B b bs s w h hlen hBw
theorem wSb (B:Nat) (l t:List UInt8) (w:World) (h:Lib.IsBuilderF 204 5 B B (Lib.byteCells l) w) (hlen:l.length≤200) (ht:t.length≤5) (hBw:B≤w.heap.size) :
  Calls Tryz.prog 141 #[.pointer (some ⟨B,0,none⟩),.string ⟨t.toArray⟩] w fun e w'=>e=.returned (.tuple #[.int .i64 t.length,.nilIface])∧(Lib.IsBuilderF 204 5 B B (Lib.byteCells (l++t)) w'∧Below B w w'):=by
 refine (wS B B _ _ w h (by rw [bs_size,byteCells_length];omega) hBw).mono ?_
 rintro e w' ⟨rfl,k,d⟩
 rw [strC_app] at k
 exact ⟨by rw [bs_size],.inr k,d⟩
theorem blt_below {T e:TypeId} {B b:Nat} {bs:List Value} {w w':World} (h:Lib.IsBuilderF T e B b bs w) (hb:Below w.heap.size w w'):Lib.IsBuilderF T e B b bs w':=by
 have go:∀ p,Lib.BuilderAtF T e B b p bs w→Lib.BuilderAtF T e B b p bs w':=by
  intro p h
  have hlt:=h.lt
  obtain ⟨hB,v,hv,hown,hne⟩:=h
  refine ⟨hB,v,(hb.block _ hlt).trans hv,hown.kept (row:=none) ⟨hb.os,hb.tape,hb.output,hb.size,fun k hk _=>hb.block k hk⟩ ?_,hne⟩
  cases v.ownBlock<;>simp
 exact h.elim (fun h=>.inl (go _ h)) (fun h=>.inr (go _ h))
def dg (n:Nat):List UInt8:=Lib.decDigits n++[32]
theorem dg_len {n:Nat} (h:n≤9999):(dg n).length≤5:=by
 have:=(dec_len4 h).2
 simp only [dg,List.length_append,List.length_cons,List.length_nil]
 omega
theorem ix0 (c0 c1 c2 c3 c4 c5 c6:Value) (W:World):(Instr.index 205 (.agg #[c0,c1,c2,c3,c4,c5,c6]) (.int .i64 0)).run Tryz.prog W=.ok c0 W:=by kernel_rfl
theorem ix1 (c0 c1 c2 c3 c4 c5 c6:Value) (W:World):(Instr.index 205 (.agg #[c0,c1,c2,c3,c4,c5,c6]) (.int .i64 1)).run Tryz.prog W=.ok c1 W:=by kernel_rfl
theorem ix2 (c0 c1 c2 c3 c4 c5 c6:Value) (W:World):(Instr.index 205 (.agg #[c0,c1,c2,c3,c4,c5,c6]) (.int .i64 2)).run Tryz.prog W=.ok c2 W:=by kernel_rfl
theorem ix3 (c0 c1 c2 c3 c4 c5 c6:Value) (W:World):(Instr.index 205 (.agg #[c0,c1,c2,c3,c4,c5,c6]) (.int .i64 3)).run Tryz.prog W=.ok c3 W:=by kernel_rfl
theorem ix4 (c0 c1 c2 c3 c4 c5 c6:Value) (W:World):(Instr.index 205 (.agg #[c0,c1,c2,c3,c4,c5,c6]) (.int .i64 4)).run Tryz.prog W=.ok c4 W:=by kernel_rfl
theorem ix5 (c0 c1 c2 c3 c4 c5 c6:Value) (W:World):(Instr.index 205 (.agg #[c0,c1,c2,c3,c4,c5,c6]) (.int .i64 5)).run Tryz.prog W=.ok c5 W:=by kernel_rfl
theorem ix6 (c0 c1 c2 c3 c4 c5 c6:Value) (W:World):(Instr.index 205 (.agg #[c0,c1,c2,c3,c4,c5,c6]) (.int .i64 6)).run Tryz.prog W=.ok c6 W:=by kernel_rfl
theorem ixs (a0 a1 a2 a3 a4 a5 a6:Nat) (i z:Nat) (h:[a0,a1,a2,a3,a4,a5,a6][i]?=some z) (W:World):(Instr.index 205 (.agg #[.int .i64 a0,.int .i64 a1,.int .i64 a2,.int .i64 a3,.int .i64 a4,.int .i64 a5,.int .i64 a6]) (.int .i64 i)).run Tryz.prog W=.ok (.int .i64 z) W:=by
 match i,h with
 | 0,h=>simp at h;subst h;exact ix0 ..
 | 1,h=>simp at h;subst h;exact ix1 ..
 | 2,h=>simp at h;subst h;exact ix2 ..
 | 3,h=>simp at h;subst h;exact ix3 ..
 | 4,h=>simp at h;subst h;exact ix4 ..
 | 5,h=>simp at h;subst h;exact ix5 ..
 | 6,h=>simp at h;subst h;exact ix6 ..
 | i+7,h=>simp at h
theorem tk_len {l:List Nat} (h:∀ z∈l,z≤9999) (i:Nat):((l.take i).flatMap dg).length≤5*(l.take i).length:=by
 have:∀ l:List Nat,(∀ z∈l,z≤9999)→(l.flatMap dg).length≤5*l.length:=by
  intro l
  induction l with
  | nil=>intro _;simp
  | cons z t ih =>
   intro h
   have h1:=dg_len (h z (by simp))
   have h2:=ih fun y hy=>h y (List.mem_cons_of_mem _ hy)
   simp only [List.flatMap_cons,List.length_append,List.length_cons] at h2 ⊢
   omega
 exact this _ fun z hz=>h z (List.mem_of_mem_take hz)
theorem text_c (a0 a1 a2 a3 a4 a5 a6:Nat) (t:List UInt8) (h0:a0≤9999) (h1:a1≤9999) (h2:a2≤9999) (h3:a3≤9999) (h4:a4≤9999) (h5:a5≤9999) (h6:a6≤9999) (ht:t.length≤160) (w:World) (hL:LaidW w) :
  Calls Tryz.prog 103 #[.agg #[.int .i64 a0,.int .i64 a1,.int .i64 a2,.int .i64 a3,.int .i64 a4,.int .i64 a5,.int .i64 a6,.string ⟨t.toArray⟩]] w fun e w'=>e=.returned (.string ⟨((dg a0++dg a1++dg a2++dg a3++dg a4++dg a5++dg a6)++t).toArray⟩)∧Below w.heap.size w w':=by
 have hx:=hL.s
 have hlen:[a0,a1,a2,a3,a4,a5,a6].length=7:=rfl
 have hsm:∀ z∈[a0,a1,a2,a3,a4,a5,a6],z≤9999:=by
  intro z hz
  simp only [List.mem_cons,List.not_mem_nil,or_false] at hz
  rcases hz with rfl | rfl | rfl | rfl | rfl | rfl | rfl<;>assumption
 have hfin:dg a0++dg a1++dg a2++dg a3++dg a4++dg a5++dg a6=[a0,a1,a2,a3,a4,a5,a6].flatMap dg:=by simp
 rw [hfin]
 have hix:=ixs a0 a1 a2 a3 a4 a5 a6
 clear hfin h0 h1 h2 h3 h4 h5 h6
 obtain ⟨l,hl⟩:∃ l,[a0,a1,a2,a3,a4,a5,a6]=l:=⟨_,rfl⟩
 rw [hl] at hlen hsm hix ⊢
 clear hl
 obtain ⟨f,hf⟩:∃ f,l.flatMap dg=f:=⟨_,rfl⟩
 rw [hf]
 go_enter Tryz.func103,Tryz.ntmps103
 go_wp2
 obtain ⟨W,hW⟩:∃ W,w.alloc (Obj.cells #[Value.int .i64 a0,Value.int .i64 a1,Value.int .i64 a2,Value.int .i64 a3,Value.int .i64 a4,Value.int .i64 a5,Value.int .i64 a6,Value.string ⟨t.toArray⟩] 25)=W:=⟨_,rfl⟩
 have hWs:W.heap.size=w.heap.size+1:=by rw [←hW];simp
 have c7:W.cell? ⟨w.heap.size,7,none⟩=some (.string ⟨t.toArray⟩):=by
  rw [←hW,Go.Joins.cell_of_block (heap_alloc_new w _)];rfl
 have bW:Below w.heap.size w W:=by rw [←hW];exact (Below.refl _ w).alloc (Nat.le_refl _) _
 have k0:Lib.IsBuilderF 204 5 W.heap.size W.heap.size (Lib.byteCells []) (W.alloc (.cells #[.pointer none,.slice none 0 0] 204)):=Lib.IsBuilderF.of (Lib.fresh_isBuilder 204 5 W)
 have b0:Below W.heap.size W (W.alloc (.cells #[.pointer none,.slice none 0 0] 204)):=(Below.refl _ W).alloc (Nat.le_refl _) _
 obtain ⟨W0,hW0⟩:∃ W0,W.alloc (.cells #[.pointer none,.slice none 0 0] 204)=W0:=⟨_,rfl⟩
 rw [hW0] at k0 b0
 rw [hWs] at k0 b0
 rw [hW,hW0]
 have L0:LaidW W0:=(hL.below bW hx).below b0 (by omega)
 have hWn:nX≤w.heap.size+1:=by omega
 have LW:LaidW W:=hL.below bW hx
 have hLW:∀ {u:World},Below (w.heap.size+1) W u→LaidW u:=fun h=>LW.below h hWn
 clear hW0 hW
 go_loopg [25] 7 (fun g z25 wr=>∃ i:Nat,z25=.int .i64 i∧i+g=7∧Lib.IsBuilderF 204 5 (w.heap.size+1) (w.heap.size+1) (Lib.byteCells ((l.take i).flatMap dg)) wr∧Below (w.heap.size+1) W wr∧LaidW wr)
 case atStart=>exact ⟨0,rfl,rfl,by simpa using k0,b0,L0⟩
 case round =>
  obtain ⟨i,rfl,hg,hk,hb,hLr⟩:=hrel
  clear k0 b0 L0
  by_cases hi:i < 7
  ·have hz:l[i]?=some l[i]:=List.getElem?_eq_getElem (by omega)
   have hzm:=hsm l[i] (List.getElem_mem (by omega))
   have hiz:=hix i l[i] hz
   have htk:(l.take (i+1)).flatMap dg=(l.take i).flatMap dg++dg l[i]:=by rw [List.take_add_one,hz,Option.toList_some,List.flatMap_append,List.flatMap_cons,List.flatMap_nil,List.append_nil]
   have hln:=tk_len hsm i
   have hli:(l.take i).length≤7:=by rw [List.length_take];omega
   generalize l[i]=z at hz hzm hiz htk
   have hstr:(⟨(Lib.decDigits z).toArray⟩:ByteArray)++⟨#[32]⟩=⟨(dg z).toArray⟩:=bs_app (Lib.decDigits z) [32]
   have s1:¬ 9223372036854775807 < (Lib.decDigits z).length+1:=by have:=(dec_len4 hzm).2;omega
   have A:Aside ((l.take (i+1)).flatMap dg=(l.take i).flatMap dg++dg z∧Below (w.heap.size+1) W wr):=⟨htk,hb⟩
   have hw:∀ u,Below wr.heap.size wr u→Calls Tryz.prog 141 #[.pointer (some ⟨w.heap.size+1,0,none⟩),.string ⟨(dg z).toArray⟩] u fun e w'=>e=.returned (.tuple #[.int .i64 (dg z).length,.nilIface])∧(Lib.IsBuilderF 204 5 (w.heap.size+1) (w.heap.size+1) (Lib.byteCells ((l.take i).flatMap dg++dg z)) w'∧Below (w.heap.size+1) W w'):=fun u e0=>by
    refine (wSb (w.heap.size+1) _ (dg z) u (blt_below hk e0) (by omega) (dg_len hzm) (by have:=hb.size;have:=e0.size;omega)).mono ?_
    rintro e W1 ⟨rfl,k1,d0⟩
    exact ⟨rfl,k1,(hb.trans (e0.mono (by have:=hb.size;omega))).trans d0⟩
   clear htk hix hz hsm hk hb
   obtain ⟨g,rfl⟩:∃ g,gk=g+1:=⟨gk - 1,by omega⟩
   go_wp2_with (first
    | (go_at_call 142;refine (itoaL z (by omega) _ hLr).mono ?_;rintro e u ⟨rfl,e0⟩)
    | (go_at_call 141;refine (hw u e0).mono ?_;rintro e W1 ⟨rfl,k1,d0⟩))
   obtain ⟨htk,hb⟩:=A.out
   go_roundg g
   case measure=>omega
   case rel=>exact ⟨i+1,by simp,by omega,by rw [htk];exact k1,d0,hLW d0⟩
  ·obtain rfl:i=7:=by omega
   obtain rfl:gk=0:=by omega
   rw [List.take_of_length_le (by omega),hf] at hk
   have cw:=(hb.cell (p:=⟨w.heap.size,7,none⟩) (by show w.heap.size < w.heap.size+1;omega)).trans c7
   have hs5:=tk_len hsm 7
   rw [List.take_of_length_le (by omega),hf] at hs5
   have hs6:¬ 9223372036854775807 < f.length+t.length:=by omega
   go_wp2
   go_region_with (go_at_call 143;refine (Tryz.Builder_String_any_f (w.heap.size+1) (w.heap.size+1) f wr.drew (blt_below hk ((Below.refl wr.heap.size wr).drew)) (by have:=hb.size;show _≤wr.heap.size;omega)).mono ?_;rintro e w9 ⟨rfl,k9,d9⟩;have c9:=(d9.cell (p:=⟨w.heap.size,7,none⟩) (by show w.heap.size < w.heap.size+1;omega)).trans (show wr.drew.cell? ⟨w.heap.size,7,none⟩=some (.string ⟨t.toArray⟩) from cw))
   all_goals go_wp2
   all_goals go_ret
   all_goals (have bb:Below (w.heap.size+1) W w9:=hb.trans ((Below.refl (w.heap.size+1) wr).drew.trans d9))
   all_goals (refine ⟨?_,bW.trans (bb.mono (by omega))⟩)
   all_goals (show Ending.returned (Value.string (_++_))=_;rw [bs_app])
end Go.VE
namespace Go.VE
open Go.RowKit Go.Proofs Go.Shelf Go.Lib
set_option maxRecDepth 100000
set_option maxHeartbeats 4000000
theorem atoi_max {l:List UInt8} {v:Int} (h:Lib.atoiAll l=.ok v):v≤9223372036854775807:=by
 unfold Lib.atoiAll at h
 split at h
 ·cases h
 ·rename_i c r
  simp only at h
  split at h
  ·cases h
  ·cases h
  ·rename_i u _
   split at h
   ·cases h
   ·split at h
    ·cases h
    ·rename_i h1 h2
     injection h with h
     subst h
     split<;>omega
theorem below_bytes (w:World) (t:ByteArray):Below w.heap.size w (Lib.bytesWorld w 5 t) :=
 ⟨rfl,rfl,rfl,by rw [Lib.bytesWorld_size];omega,fun k hk=>Lib.bytesWorld_at_old w 5 t k hk⟩
theorem below_or {w w1:World} (h:w1=w∨∃ t,w1=Lib.bytesWorld w 5 t):Below w.heap.size w w1:=by
 rcases h with rfl | ⟨t,rfl⟩
 ·exact Below.refl _ _
 ·exact below_bytes w t
abbrev wrongV:Value:=.iface 195 (.agg #[])
theorem atoi_any (s:List UInt8) (hs:s.length≤281474976710656) (w:World) (hL:LaidW w):Calls Tryz.prog 150 #[.string ⟨s.toArray⟩] w fun e w'=>Below w.heap.size w w'∧∃ (v:Int) (er:Value),e=.returned (.tuple #[.int .i64 v,er]):=by
 have hsz:=bs_size s
 rcases ha:Lib.atoiAll s with v | _ | _
 ·have hmx:=atoi_max ha
  refine (Tryz.strconv_Atoi_ok ⟨s.toArray⟩ (by rw [hsz];omega) v (by simpa using ha) w).mono ?_
  rintro e w1 ⟨rfl,hw1⟩
  exact ⟨below_or hw1,_,_,rfl⟩
 ·obtain ⟨ev,h1,h2⟩:=hL.l.s
  refine (Tryz.strconv_Atoi_syntax ⟨s.toArray⟩ (by rw [hsz];omega) (by simpa using ha) ev w h1 h2).mono ?_
  rintro e w1 ⟨N,rfl,-,-,hw1⟩
  exact ⟨hw1,_,_,rfl⟩
 ·obtain ⟨ev,h1,h2⟩:=hL.l.r
  refine (Tryz.strconv_Atoi_range ⟨s.toArray⟩ (by rw [hsz];omega) (by simpa using ha) ev w h1 h2).mono ?_
  rintro e w1 ⟨N,rfl,-,-,hw1⟩
  exact ⟨hw1,_,_,rfl⟩
def numO (s:List UInt8):Ending:=match cutSp s with
 | some (a,r)=>(match numA a with
  | some n=>.returned (.tuple #[.int .i64 n,.string ⟨r.toArray⟩])
  | none=>.panicked [{ v:=wrongV,recovered:=false }])
 | none=>.panicked [{ v:=wrongV,recovered:=false }]
theorem numN (s:List UInt8) (hl:s.length≤281474976710656) (w:World) (hL:LaidW w) (A:Aside (∀ w,Calls Tryz.prog 149 #[.string ⟨s.toArray⟩,.string ⟨#[32]⟩] w fun e w'=>e=.returned (.tuple #[.string ⟨s.toArray⟩,.string ⟨#[]⟩,.bool false])∧Below w.heap.size w w')) :
  Calls Tryz.prog 136 #[.string ⟨s.toArray⟩] w fun e w'=>Below w.heap.size w w'∧e=.panicked [{ v:=wrongV,recovered:=false }]:=by
 have LW:∀ {u:World},Below w.heap.size w u→LaidW u:=fun h=>hL.below h hL.s
 have hat:=fun (w:World) (h:LaidW w)=>atoi_any s hl w h
 have B:Aside (∀ w,LaidW w→Calls Tryz.prog 150 #[.string ⟨s.toArray⟩] w fun e w'=>Below w.heap.size w w'∧∃ (v:Int) (er:Value),e=.returned (.tuple #[.int .i64 v,er])):=hat
 clear hat
 obtain ⟨S,hS⟩:∃ S,(⟨s.toArray⟩:ByteArray)=S:=⟨_,rfl⟩
 rw [hS] at A B ⊢
 clear hS
 go_enter Tryz.func136,Tryz.ntmps136
 go_wp2_with (first
  | (go_at_call 149;refine (A.out _).mono ?_;rintro e w1 ⟨rfl,b1⟩)
  | (go_at_call 150;refine (B.out _ (LW b1)).mono ?_;rintro e w2 ⟨b2,v,er,rfl⟩))
 exact ⟨rfl,b1.trans (b2.mono b1.size),rfl⟩
theorem numA_neg {a:List UInt8} {v:Int} (ha:atoiAll a=.ok v) (h0:v < 0):numA a=none:=by
 unfold numA
 rw [ha]
 exact if_pos (.inl h0)
theorem numA_ne {a:List UInt8} {n:Nat} (ha:atoiAll a=.ok (n:Int)) (h:decDigits n≠a):numA a=none:=by
 unfold numA
 rw [ha]
 exact if_pos (.inr (by simpa using h))
theorem numA_eq {a:List UInt8} {n:Nat} (ha:atoiAll a=.ok (n:Int)) (h:decDigits n=a):numA a=some n:=by
 unfold numA
 rw [ha]
 have:¬ ((n:Int) < 0∨decDigits (n:Int).toNat≠a):=by
  rintro (h' | h')
  ·omega
  ·exact h' h
 exact if_neg this
theorem numA_syn {a:List UInt8} (ha:atoiAll a=Go.Lib.NumEnd.syntax):numA a=none:=by
 unfold numA
 rw [ha]
theorem numA_rng {a:List UInt8} (ha:atoiAll a=.range):numA a=none:=by
 unfold numA
 rw [ha]
theorem numNeg {s a r:List UInt8} {w:World} (hL:LaidW w) (A:Aside (∀ w,Calls Tryz.prog 149 #[.string ⟨s.toArray⟩,.string ⟨#[32]⟩] w fun e w'=>e=.returned (.tuple #[.string ⟨a.toArray⟩,.string ⟨r.toArray⟩,.bool true])∧Below w.heap.size w w')) {v:Int} (B:Aside (∀ w,Calls Tryz.prog 150 #[.string ⟨a.toArray⟩] w fun e w'=>e=.returned (.tuple #[.int .i64 v,.nilIface])∧(w'=w∨∃ t,w'=Lib.bytesWorld w 5 t))) (h0:v < 0):Calls Tryz.prog 136 #[.string ⟨s.toArray⟩] w fun e w'=>Below w.heap.size w w'∧e=.panicked [{ v:=wrongV,recovered:=false }]:=by
 obtain ⟨a',ha'⟩:∃ S,(⟨a.toArray⟩:ByteArray)=S:=⟨_,rfl⟩
 rw [ha'] at A B
 clear ha'
 obtain ⟨S,hS⟩:∃ S,(⟨s.toArray⟩:ByteArray)=S:=⟨_,rfl⟩
 rw [hS] at A ⊢
 clear hS
 go_enter Tryz.func136,Tryz.ntmps136
 go_wp2_with (first
  | (go_at_call 149;refine (A.out _).mono ?_;rintro e w1 ⟨rfl,b1⟩)
  | (go_at_call 150;refine (B.out _).mono ?_;rintro e w2 ⟨rfl,b2⟩;have b2':=below_or b2;clear b2))
 exact ⟨rfl,b1.trans (b2'.mono b1.size),rfl⟩
theorem numErr {s a r:List UInt8} {w:World} (hL:LaidW w) (A:Aside (∀ w,Calls Tryz.prog 149 #[.string ⟨s.toArray⟩,.string ⟨#[32]⟩] w fun e w'=>e=.returned (.tuple #[.string ⟨a.toArray⟩,.string ⟨r.toArray⟩,.bool true])∧Below w.heap.size w w')) (B:Aside (∀ w,LaidW w→Calls Tryz.prog 150 #[.string ⟨a.toArray⟩] w fun e w'=>Below w.heap.size w w'∧∃ (v:Int) (N:Nat),e=.returned (.tuple #[.int .i64 v,.iface 244 (.pointer (some ⟨N,0,none⟩))]))):Calls Tryz.prog 136 #[.string ⟨s.toArray⟩] w fun e w'=>Below w.heap.size w w'∧e=.panicked [{ v:=wrongV,recovered:=false }]:=by
 have LW:∀ {u:World},Below w.heap.size w u→LaidW u:=fun h=>hL.below h hL.s
 obtain ⟨a',ha'⟩:∃ S,(⟨a.toArray⟩:ByteArray)=S:=⟨_,rfl⟩
 rw [ha'] at A B
 clear ha'
 obtain ⟨S,hS⟩:∃ S,(⟨s.toArray⟩:ByteArray)=S:=⟨_,rfl⟩
 rw [hS] at A ⊢
 clear hS
 go_enter Tryz.func136,Tryz.ntmps136
 go_wp2_with (first
  | (go_at_call 149;refine (A.out _).mono ?_;rintro e w1 ⟨rfl,b1⟩)
  | (go_at_call 150;refine (B.out _ (LW b1)).mono ?_;rintro e w2 ⟨b2,v,N,rfl⟩))
 exact ⟨rfl,b1.trans (b2.mono b1.size),rfl⟩
theorem numGood {s a r:List UInt8} {w:World} (hL:LaidW w) (A:Aside (∀ w,Calls Tryz.prog 149 #[.string ⟨s.toArray⟩,.string ⟨#[32]⟩] w fun e w'=>e=.returned (.tuple #[.string ⟨a.toArray⟩,.string ⟨r.toArray⟩,.bool true])∧Below w.heap.size w w')) {n:Nat} (hn:n≤9223372036854775807) (B:Aside (∀ w,Calls Tryz.prog 150 #[.string ⟨a.toArray⟩] w fun e w'=>e=.returned (.tuple #[.int .i64 n,.nilIface])∧(w'=w∨∃ t,w'=Lib.bytesWorld w 5 t))) (hd:(⟨(decDigits n).toArray⟩:ByteArray)=⟨a.toArray⟩):Calls Tryz.prog 136 #[.string ⟨s.toArray⟩] w fun e w'=>Below w.heap.size w w'∧e=.returned (.tuple #[.int .i64 n,.string ⟨r.toArray⟩]):=by
 have LW:∀ {u:World},Below w.heap.size w u→LaidW u:=fun h=>hL.below h hL.s
 have h0:¬ (n:Int) < 0:=by omega
 obtain ⟨S,hS⟩:∃ S,(⟨s.toArray⟩:ByteArray)=S:=⟨_,rfl⟩
 rw [hS] at A ⊢
 clear hS
 obtain ⟨q,hq⟩:∃ S,(⟨r.toArray⟩:ByteArray)=S:=⟨_,rfl⟩
 rw [hq] at A
 try rw [hq]
 clear hq
 obtain ⟨a',ha'⟩:∃ S,(⟨a.toArray⟩:ByteArray)=S:=⟨_,rfl⟩
 rw [ha'] at A B hd
 clear ha'
 have I:Aside (∀ w,LaidW w→Calls Tryz.prog 142 #[.int .i64 n] w fun e w'=>e=.returned (.string ⟨(decDigits n).toArray⟩)∧Below w.heap.size w w'):=fun w h=>itoaL n hn w h
 obtain ⟨d',hd'⟩:∃ S,(⟨(decDigits n).toArray⟩:ByteArray)=S:=⟨_,rfl⟩
 rw [hd'] at I hd
 clear hd'
 subst hd
 go_enter Tryz.func136,Tryz.ntmps136
 go_wp2_with (first
  | (go_at_call 149;refine (A.out _).mono ?_;rintro e w1 ⟨rfl,b1⟩)
  | (go_at_call 150;refine (B.out _).mono ?_;rintro e w2 ⟨rfl,b2⟩;have b2':=b1.trans ((below_or b2).mono b1.size);clear b2 b1)
  | (go_at_call 142;refine (I.out _ (LW b2')).mono ?_;rintro e w3 ⟨rfl,b3⟩))
 go_ret2
 exact ⟨b2'.trans (b3.mono b2'.size),rfl⟩
theorem toL_ne {x y:ByteArray} (h:x≠y):(x.toList==y.toList)=false:=by
 rw [beq_eq_false_iff_ne,ByteArray.toList_eq,ByteArray.toList_eq]
 intro e
 exact h (ByteArray.ext (Array.ext' e))
theorem numBad {s a r:List UInt8} {w:World} (hL:LaidW w) (A:Aside (∀ w,Calls Tryz.prog 149 #[.string ⟨s.toArray⟩,.string ⟨#[32]⟩] w fun e w'=>e=.returned (.tuple #[.string ⟨a.toArray⟩,.string ⟨r.toArray⟩,.bool true])∧Below w.heap.size w w')) {n:Nat} (hn:n≤9223372036854775807) (B:Aside (∀ w,Calls Tryz.prog 150 #[.string ⟨a.toArray⟩] w fun e w'=>e=.returned (.tuple #[.int .i64 n,.nilIface])∧(w'=w∨∃ t,w'=Lib.bytesWorld w 5 t))) (hd:(⟨(decDigits n).toArray⟩:ByteArray)≠⟨a.toArray⟩):Calls Tryz.prog 136 #[.string ⟨s.toArray⟩] w fun e w'=>Below w.heap.size w w'∧e=.panicked [{ v:=wrongV,recovered:=false }]:=by
 have LW:∀ {u:World},Below w.heap.size w u→LaidW u:=fun h=>hL.below h hL.s
 have h0:¬ (n:Int) < 0:=by omega
 obtain ⟨S,hS⟩:∃ S,(⟨s.toArray⟩:ByteArray)=S:=⟨_,rfl⟩
 rw [hS] at A ⊢
 clear hS
 obtain ⟨q,hq⟩:∃ S,(⟨r.toArray⟩:ByteArray)=S:=⟨_,rfl⟩
 rw [hq] at A
 try rw [hq]
 clear hq
 obtain ⟨a',ha'⟩:∃ S,(⟨a.toArray⟩:ByteArray)=S:=⟨_,rfl⟩
 rw [ha'] at A B hd
 clear ha'
 have I:Aside (∀ w,LaidW w→Calls Tryz.prog 142 #[.int .i64 n] w fun e w'=>e=.returned (.string ⟨(decDigits n).toArray⟩)∧Below w.heap.size w w'):=fun w h=>itoaL n hn w h
 obtain ⟨d',hd'⟩:∃ S,(⟨(decDigits n).toArray⟩:ByteArray)=S:=⟨_,rfl⟩
 rw [hd'] at I hd
 clear hd'
 have hd2:(d'.toList==a'.toList)=false:=toL_ne hd
 go_enter Tryz.func136,Tryz.ntmps136
 go_wp2_with (first
  | (go_at_call 149;refine (A.out _).mono ?_;rintro e w1 ⟨rfl,b1⟩)
  | (go_at_call 150;refine (B.out _).mono ?_;rintro e w2 ⟨rfl,b2⟩;have b2':=b1.trans ((below_or b2).mono b1.size);clear b2 b1)
  | (go_at_call 142;refine (I.out _ (LW b2')).mono ?_;rintro e w3 ⟨rfl,b3⟩))
 all_goals first
  | exact ⟨rfl,b2'.trans (b3.mono b2'.size),rfl⟩
  | (exfalso;rename_i h;exact absurd h hd)
  | trace_state
theorem ne_str {x y:List UInt8} (h:x≠y):(⟨x.toArray⟩:ByteArray)≠⟨y.toArray⟩:=fun e=>h (by
 have:=congrArg (fun b:ByteArray=>b.data.toList) e
 simpa using this)
theorem num_c (s:List UInt8) (hl:s.length≤281474976710656) (w:World) (hL:LaidW w):Calls Tryz.prog 136 #[.string ⟨s.toArray⟩] w fun e w'=>Below w.heap.size w w'∧e=numO s:=by
 have hcut:=cut149 s hl
 unfold cutO at hcut
 unfold numO
 cases hc:cutSp s with
 | none =>
  rw [hc] at hcut
  exact numN s hl w hL hcut
 | some p =>
  obtain ⟨a,r⟩:=p
  rw [hc] at hcut
  obtain ⟨hs,hb⟩:=cut_inv s a r hc
  have hal:a.length≤281474976710656:=by rw [hs] at hl;simp only [List.length_append] at hl;omega
  have hsz:=bs_size a
  have ea:(⟨a.toArray⟩:ByteArray).data.toList=a:=by simp
  simp only
  rcases ha:Lib.atoiAll a with v | _ | _
  ·have hmx:=atoi_max ha
   have hat:=Tryz.strconv_Atoi_ok ⟨a.toArray⟩ (by rw [hsz];omega) v (by rw [ea];exact ha)
   by_cases h0:v < 0
   ·rw [numA_neg ha h0]
    exact numNeg hL hcut hat h0
   ·obtain ⟨n,rfl⟩:=Int.eq_ofNat_of_zero_le (show 0≤v by omega)
    by_cases hd:Lib.decDigits n=a
    ·rw [numA_eq ha hd]
     exact numGood hL hcut (by omega) hat (by rw [hd])
    ·rw [numA_ne ha hd]
     exact numBad hL hcut (by omega) hat (ne_str hd)
  ·rw [numA_syn ha]
   refine numErr hL hcut fun w hL=>?_
   obtain ⟨ev,h1,h2⟩:=hL.l.s
   refine (Tryz.strconv_Atoi_syntax ⟨a.toArray⟩ (by rw [hsz];omega) (by rw [ea];exact ha) ev w h1 h2).mono ?_
   rintro e w1 ⟨N,rfl,-,-,hw1⟩
   exact ⟨hw1,_,_,rfl⟩
  ·rw [numA_rng ha]
   refine numErr hL hcut fun w hL=>?_
   obtain ⟨ev,h1,h2⟩:=hL.l.r
   refine (Tryz.strconv_Atoi_range ⟨a.toArray⟩ (by rw [hsz];omega) (by rw [ea];exact ha) ev w h1 h2).mono ?_
   rintro e w1 ⟨N,rfl,-,-,hw1⟩
   exact ⟨hw1,_,_,rfl⟩
end Go.VE
namespace Go.VE
open Go.RowKit Go.Proofs Go.Shelf Go.Lib
set_option maxRecDepth 100000
set_option maxHeartbeats 4000000
theorem idle135 (p q:Addr) (w:World):CallsD Tryz.prog 135 #[.pointer (some p),.pointer (some q)] .returning w fun e u' w'=>e=.returned (.tuple #[])∧u'=.returning∧w'=w:=by
 refine callsD_of_wpS Tryz.func135 rfl fun c₀ cs hu=>?_
 apply wpS_seq
 apply wpS_region
 simp [wpOpsS,go_sem,recoverD,hu,Tryz.ntmps135,Exit.thenS]
 refine wpS_of_wp ?_
 go_wp2
 cases c₀
 simp_all [bodyPostS,results,Tryz.results135]
theorem assert195 (W:World) (v:Value):(Instr.typeAssert (.iface 195 v) 20 195 true).run Tryz.prog W=.ok (.tuple #[v,.bool true]) W:=by kernel_rfl
theorem catch135 (b c:Nat) (x0 x1 x2 x3 x4 x5 x6 x7 y:Value) (older:List PanicEntry) (w:World) (hbc:b≠c) (hb:w.heap[b]?=some (.cells #[x0,x1,x2,x3,x4,x5,x6,x7] 25 (0,0))) (hc:w.heap[c]?=some (.cells #[y] 4 (0,0))) :
  CallsD Tryz.prog 135 #[.pointer (some ⟨b,0,none⟩),.pointer (some ⟨c,0,none⟩)] (.panicking ({ v:=wrongV,recovered:=false }::older)) w fun e u' w' =>
   e=.returned (.tuple #[])∧u'=.panicking ({ v:=wrongV,recovered:=true }::older)∧w'=(((((((((w.setCell ⟨b,0,none⟩ (.int .i64 0)).setCell ⟨b,1,none⟩ (.int .i64 0)).setCell ⟨b,2,none⟩ (.int .i64 0)).setCell ⟨b,3,none⟩ (.int .i64 0)).setCell ⟨b,4,none⟩ (.int .i64 0)).setCell ⟨b,5,none⟩ (.int .i64 0)).setCell ⟨b,6,none⟩ (.int .i64 0)).setCell ⟨b,7,none⟩ (.string ⟨#[]⟩)).setCell ⟨c,0,none⟩ (.bool false)).alloc (.cells #[] 195):=by
 have h0:=Go.Joins.cell_of_block hb 0
 have f0:=Go.Joins.unfrozen_of_block hb 0
 have h1:=Go.Joins.cell_of_block hb 1
 have f1:=Go.Joins.unfrozen_of_block hb 1
 have h2:=Go.Joins.cell_of_block hb 2
 have f2:=Go.Joins.unfrozen_of_block hb 2
 have h3:=Go.Joins.cell_of_block hb 3
 have f3:=Go.Joins.unfrozen_of_block hb 3
 have h4:=Go.Joins.cell_of_block hb 4
 have f4:=Go.Joins.unfrozen_of_block hb 4
 have h5:=Go.Joins.cell_of_block hb 5
 have f5:=Go.Joins.unfrozen_of_block hb 5
 have h6:=Go.Joins.cell_of_block hb 6
 have f6:=Go.Joins.unfrozen_of_block hb 6
 have h7:=Go.Joins.cell_of_block hb 7
 have f7:=Go.Joins.unfrozen_of_block hb 7
 have hy:=Go.Joins.cell_of_block hc 0
 have fy:=Go.Joins.unfrozen_of_block hc 0
 have hlb:b < w.heap.size:=(Array.getElem?_eq_some_iff.1 hb).1
 have hlc:c < w.heap.size:=(Array.getElem?_eq_some_iff.1 hc).1
 clear hb hc
 refine callsD_of_wpS Tryz.func135 rfl fun c₀ cs hu=>?_
 apply wpS_seq
 apply wpS_region
 simp [wpOpsS,go_sem,recoverD,hu,Tryz.ntmps135,Exit.thenS]
 have has:=fun W=>assert195 W (.agg #[])
 refine wpS_of_wp ?_
 go_wp2
 cases c₀
 simp_all [bodyPostS,results,Tryz.results135]
end Go.VE
