/- Bell: what is laid of variables; Itoa; rows of a word and numbers. -/
import Derived.Test.YtaagapoglhndjaaGreatDoorMg0
import Derived.Lib.SmallJoins
import Derived.Deep.LoopGhost
import Derived.Lib.FieldsP
import Derived.Lib.SplitLaws
import Derived.Lib.AtoiAll
import Derived.Lib.Atoi
import Derived.Lib.ItoaNum
import Derived.Laws.RangeString
import Derived.Laws.RangeAny
namespace Go.VE
open Go.RowKit Go.Proofs Go.Shelf
set_option maxRecDepth 100000
set_option maxHeartbeats 4000000
structure Laid (w:World):Prop where
 m:∃ m,w.cell? ⟨0,0,none⟩=some (.int .i64 m)
 s:∃ ev,w.cell? ⟨4,0,none⟩=some ev∧(ev=.nilIface∨∃ te pe,ev=.iface te pe)
 r:∃ ev,w.cell? ⟨5,0,none⟩=some ev∧(ev=.nilIface∨∃ te pe,ev=.iface te pe)
 t:Lib.TabIs Tryz.prog w "internal/strconv.uint64pow10" .u64 Lib.pow10Tab
theorem cellLt {w:World} {p:Addr} {v:Value} (h:w.cell? p=some v):p.block < w.heap.size:=World.block_lt_of_cell? _ _ h
theorem Laid.below {w w':World} (h:Laid w) (hb:Below w.heap.size w w'):Laid w':=by
 obtain ⟨⟨m,h1⟩,⟨e,h2,h2'⟩,⟨f,h3,h3'⟩,h4⟩:=h
 exact ⟨⟨m,(hb.cell (cellLt h1)).trans h1⟩,⟨e,(hb.cell (cellLt h2)).trans h2,h2'⟩,⟨f,(hb.cell (cellLt h3)).trans h3,h3'⟩,Go.Joins.tab_stays (g:=1) (by kernel_rfl) h4 hb (Nat.le_refl _)⟩
theorem below_grow (w:World) (k:Nat) (os:Array Obj):Below w.heap.size w (Sort.grow (w.drewN k) os):=by
 refine ⟨rfl,rfl,rfl,?_,fun i hi=>?_⟩
 ·show w.heap.size≤(w.heap++os).size
  rw [Array.size_append];omega
 ·show (w.heap++os)[i]?=w.heap[i]?
  rw [Array.getElem?_append,if_pos hi]
theorem itoaL (n:Nat) (h1:n≤9223372036854775807) (w:World) (hL:Laid w):Calls Tryz.prog 91 #[.int .i64 n] w fun e w'=>e=.returned (.string ⟨(Lib.decDigits n).toArray⟩)∧Below w.heap.size w w':=by
 refine (Tryz.strconv_Itoa n (by omega) (by omega) w hL.t).mono ?_
 rintro e w' ⟨rfl,k,os,rfl⟩
 exact ⟨by rw [Lib.itoa_nonneg],below_grow w k os⟩
theorem bs_app (a b:List UInt8):(⟨a.toArray⟩:ByteArray)++⟨b.toArray⟩=⟨(a++b).toArray⟩:=by
 rw [bs_list (_++_)]
 simp
def rowNs (zs:List Nat):List UInt8:=zs.flatMap fun z=>[32]++Lib.decDigits z
def rowLn (wd:List UInt8) (zs:List Nat):List UInt8:=wd++rowNs zs++[10]
theorem rowG (wd:List UInt8) (zs:List Nat) (b:Nat) (w:World) (hL:Laid w) (hz:∀ z∈zs,z≤99999) (hn:zs.length≤3) (hw:wd.length≤5)
  (hc:∀ (i z:Nat),zs[i]?=some z→w.cell? ⟨b,i,none⟩=some (.int .i64 z)) :
  Calls Tryz.prog 55 #[.string ⟨wd.toArray⟩,.slice (some ⟨b,0,none⟩) zs.length zs.length] w fun e w'=>e=.returned (.string ⟨(rowLn wd zs).toArray⟩)∧Below w.heap.size w w':=by
 go_enter Tryz.func55,Tryz.ntmps55
 go_wp2
 go_loopg [0,9] zs.length (fun g z0 z9 wr=>∃ (i:Nat) (acc:List UInt8),z0=.string ⟨acc.toArray⟩∧z9=.int .i64 i∧i+g=zs.length∧acc.length≤5+6*i∧acc++rowNs (zs.drop i)=wd++rowNs zs∧Below w.heap.size w wr∧Laid wr)
 case atStart=>exact ⟨0,wd,rfl,rfl,by omega,by omega,by simp,Below.refl _ _,hL⟩
 case round =>
  obtain ⟨i,acc,rfl,rfl,hg,hal,he,hbw,hLr⟩:=hrel
  have A:Aside (acc++rowNs (zs.drop i)=wd++rowNs zs∧Below w.heap.size w wr):=⟨he,hbw⟩
  clear he hbw
  by_cases hi:i < zs.length
  ·have hci:=hc i zs[i] (List.getElem?_eq_getElem hi)
   have hcr:wr.cell? ⟨b,i,none⟩=some (.int .i64 zs[i]):=(A.out.2.cell (p:=⟨b,i,none⟩) (cellLt hci)).trans hci
   have hzz:=hz zs[i] (List.getElem_mem hi)
   have hzd:zs.drop i=zs[i]::zs.drop (i+1):=List.drop_eq_getElem_cons hi
   have hdl:=dec_len 4 zs[i] (by omega)
   generalize zs[i]=z at hcr hzz hzd hdl
   have A1:Aside (zs.drop i=z::zs.drop (i+1)):=hzd
   clear hzd hci
   have hs1:¬ 9223372036854775807 < 1+(Lib.decDigits z).length:=by omega
   have hs2:¬ 9223372036854775807 < acc.length+(1+(Lib.decDigits z).length):=by omega
   obtain ⟨g,rfl⟩:∃ g,gk=g+1:=⟨gk - 1,by omega⟩
   go_wp2_with (go_at_call 91;refine (itoaL z (by omega) _ hLr).mono ?_;rintro e w' ⟨rfl,hb'⟩)
   obtain ⟨he,hbw⟩:=A.out
   go_roundg g
   case measure=>omega
   case rel =>
    refine ⟨i+1,acc++([32]++Lib.decDigits z),by rw [bs_app,bs_app],by simp,by omega,by simp only [List.length_append,List.length_cons,List.length_nil];omega,?_,hbw.trans (hb'.mono hbw.size),hLr.below hb'⟩
    rw [←he,A1.out]
    simp [rowNs]
  ·have hg0:gk=0:=by omega
   have hiz:i=zs.length:=by omega
   subst hiz
   have hs1:¬ 9223372036854775807 < acc.length+1:=by omega
   go_wp2
   obtain ⟨he,hbw⟩:=A.out
   go_ret
   refine ⟨?_,hbw⟩
   rw [bs_app,rowLn,← he]
   simp [rowNs]
theorem rowLn_len {wd:List UInt8} (hw:wd.length≤5):∀ {zs:List Nat},(∀ z∈zs,z≤99999)→zs.length≤3→(rowLn wd zs).length≤24:=by
 intro zs hz hn
 have:∀ zs:List Nat,(∀ z∈zs,z≤99999)→(rowNs zs).length≤6*zs.length:=by
  intro zs
  induction zs with
  | nil=>intro _;simp [rowNs]
  | cons z t ih =>
   intro h
   have h1:=dec_len 4 z (by have:=h z (by simp);omega)
   have h2:=ih fun y hy=>h y (List.mem_cons_of_mem _ hy)
   simp only [rowNs,List.flatMap_cons,List.length_append,List.length_cons,List.length_nil] at h2 ⊢
   omega
 have:=this zs hz
 simp only [rowLn,List.length_append,List.length_cons,List.length_nil]
 omega
theorem rowG3 (wd:List UInt8) (f p n:Nat) (b:Nat) (w:World) (hL:Laid w) (hf:f≤99999) (hp:p≤99999) (hn:n≤99999) (hw:wd.length≤5)
  (h0:w.cell? ⟨b,0,none⟩=some (.int .i64 f)) (h1:w.cell? ⟨b,1,none⟩=some (.int .i64 p)) (h2:w.cell? ⟨b,2,none⟩=some (.int .i64 n)) :
  Calls Tryz.prog 55 #[.string ⟨wd.toArray⟩,.slice (some ⟨b,0,none⟩) 3 3] w fun e w'=>e=.returned (.string ⟨(rowLn wd [f,p,n]).toArray⟩)∧Below w.heap.size w w' :=
 rowG wd [f,p,n] b w hL (by intro z hz;simp at hz;omega) (by simp) hw (by
  intro i z h
  match i,h with
  | 0,h=>simp at h;subst h;exact h0
  | 1,h=>simp at h;subst h;exact h1
  | 2,h=>simp at h;subst h;exact h2
  | i+3,h=>simp at h)
theorem rowG2 (wd:List UInt8) (f n:Nat) (b:Nat) (w:World) (hL:Laid w) (hf:f≤99999) (hn:n≤99999) (hw:wd.length≤5)
  (h0:w.cell? ⟨b,0,none⟩=some (.int .i64 f)) (h1:w.cell? ⟨b,1,none⟩=some (.int .i64 n)) :
  Calls Tryz.prog 55 #[.string ⟨wd.toArray⟩,.slice (some ⟨b,0,none⟩) 2 2] w fun e w'=>e=.returned (.string ⟨(rowLn wd [f,n]).toArray⟩)∧Below w.heap.size w w' :=
 rowG wd [f,n] b w hL (by intro z hz;simp at hz;omega) (by simp) hw (by
  intro i z h
  match i,h with
  | 0,h=>simp at h;subst h;exact h0
  | 1,h=>simp at h;subst h;exact h1
  | i+2,h=>simp at h)
theorem blt_below {T e:TypeId} {B b:Nat} {bs:List Value} {w w':World} (h:Lib.IsBuilderF T e B b bs w) (hb:Below w.heap.size w w'):Lib.IsBuilderF T e B b bs w':=by
 have go:∀ p,Lib.BuilderAtF T e B b p bs w→Lib.BuilderAtF T e B b p bs w':=by
  intro p h
  have hlt:=h.lt
  obtain ⟨hB,v,hv,hown,hne⟩:=h
  refine ⟨hB,v,(hb.block _ hlt).trans hv,hown.kept (row:=none) ⟨hb.os,hb.tape,hb.output,hb.size,fun k hk _=>hb.block k hk⟩ ?_,hne⟩
  cases v.ownBlock<;>simp
 exact h.elim (fun h=>.inl (go _ h)) (fun h=>.inr (go _ h))
theorem below_alloc2 (w:World) (x y:Obj):Below w.heap.size w ((w.alloc x).alloc y) :=
 have c:=(Below.refl w.heap.size w).alloc (Nat.le_refl _) x
 c.alloc c.size y
end Go.VE
namespace Go.VE
open Go.Lib
set_option maxRecDepth 100000
def lns:List UInt8→List UInt8→List (List UInt8)
 | cur,[]=>if cur=[] then [] else [cur]
 | cur,b::r=>if b=10 then cur::lns [] r else lns (cur++[b]) r
def wds:List UInt8→List UInt8→List (List UInt8)
 | cur,[]=>if cur=[] then [] else [cur]
 | cur,b::r=>if b=32 then (if cur=[] then wds [] r else cur::wds [] r) else wds (cur++[b]) r
def spl:List UInt8→List UInt8→List (List UInt8)
 | cur,[]=>[cur]
 | cur,b::r=>if b=10 then cur::spl [] r else spl (cur++[b]) r
theorem spl_lns:∀ (l cur:List UInt8),spl cur l=lns cur l∨spl cur l=lns cur l++[[]]
 | [],cur=>by
  by_cases h:cur=[]
  ·subst h;exact .inr rfl
  ·refine .inl ?_;simp [spl,lns,h]
 | b::r,cur=>by
  simp only [spl,lns]
  split
  ·rcases spl_lns r [] with h | h<;>rw [h]<;>simp
  ·exact spl_lns r _
theorem spl_mem:∀ (l cur x:List UInt8),x∈spl cur l→x.length≤cur.length+l.length
 | [],cur,x,h=>by simp [spl] at h;subst h;simp
 | b::r,cur,x,h=>by
  simp only [spl] at h
  split at h
  ·rcases List.mem_cons.1 h with rfl | h
   ·simp
   ·have:=spl_mem r [] x h;simp at this ⊢;omega
  ·have:=spl_mem r _ x h;simp at this ⊢;omega
theorem spl_len:∀ (l cur:List UInt8),(spl cur l).length≤l.length+1
 | [],cur=>by simp [spl]
 | b::r,cur=>by
  simp only [spl]
  split
  ·have:=spl_len r [];simp;omega
  ·have:=spl_len r (cur++[b]);simp;omega
theorem index10 (b:UInt8) (l:List UInt8):index (b::l) [10]=if b=10 then 0 else if index l [10]=-1 then -1 else index l [10]+1:=by
 by_cases h:b=10
 ·subst h;simp [index,List.isPrefixOf]
 ·have hp:([10]:List UInt8).isPrefixOf (b::l)=false:=by simp [List.isPrefixOf,Ne.symm h]
  rw [index,hp,if_neg h]
  simp
theorem spl_miss:∀ (l cur:List UInt8),index l [10]=-1→spl cur l=[cur++l]
 | [],cur,_=>by simp [spl]
 | b::r,cur,h=>by
  rw [index10] at h
  by_cases hb:b=10
  ·rw [if_pos hb] at h;cases h
  ·rw [if_neg hb] at h
   have hge:=index_ge r [10]
   have:index r [10]=-1:=by split at h;assumption;omega
   rw [spl,if_neg hb,spl_miss r _ this];simp
theorem spl_hit:∀ (l cur:List UInt8) (i:Nat),index l [10]=i→spl cur l=(cur++l.take i)::spl [] (l.drop (i+1))
 | [],cur,i,h=>by simp [index] at h
 | b::r,cur,i,h=>by
  rw [index10] at h
  by_cases hb:b=10
  ·rw [if_pos hb] at h
   obtain rfl:i=0:=by omega
   simp [spl,hb]
  ·rw [if_neg hb] at h
   have hge:=index_ge r [10]
   split at h
   ·omega
   ·obtain ⟨j,rfl⟩:∃ j,i=j+1:=⟨i - 1,by omega⟩
    rw [spl,if_neg hb,spl_hit r _ j (by omega)];simp
theorem splitK10:∀ (k:Nat) (l:List UInt8),count l [10]=k→splitK [10] 0 k l=spl [] l
 | 0,l,h=>by
  have:index l [10]=-1:=by
   have hge:=index_ge l [10]
   by_cases hm:index l [10]=-1
   ·exact hm
   ·have:=count_hit (s:=l) (sub:=[10]) (i:=(index l [10]).toNat) (by simp) (by omega)
    omega
  rw [spl_miss l [] this];rfl
 | k+1,l,h=>by
  have hge:=index_ge l [10]
  have hm:index l [10]≠-1:=fun hm=>by rw [count_miss hm] at h;omega
  obtain ⟨i,hi⟩:∃ i:Nat,index l [10]=i:=⟨(index l [10]).toNat,by omega⟩
  have hc:=count_hit (s:=l) (sub:=[10]) (i:=i) (by simp) hi
  rw [spl_hit l [] i hi,splitK,if_neg (by simpa using hm),hi]
  simp only [Int.toNat_natCast,Nat.add_zero,List.length_cons,List.length_nil,List.nil_append]
  rw [splitK10 k (l.drop (i+1)) (by simp at hc;omega)]
theorem splitB10 (l:List UInt8):(splitB ⟨#[10]⟩ 0 (countB ⟨l.toArray⟩ ⟨#[10]⟩) ⟨l.toArray⟩)=(spl [] l).map fun x=>⟨x.toArray⟩:=by
 have h:=splitB_data ⟨#[10]⟩ 0 (countB ⟨l.toArray⟩ ⟨#[10]⟩) ⟨l.toArray⟩
 have e:splitK [10] 0 (count l [10]) l=spl [] l:=splitK10 _ l rfl
 have h2:(splitB ⟨#[10]⟩ 0 (countB ⟨l.toArray⟩ ⟨#[10]⟩) ⟨l.toArray⟩).map (·.data.toList)=spl [] l:=h.trans (by simpa [countB] using e)
 rw [←h2,List.map_map]
 conv=>lhs;rw [←List.map_id (splitB _ _ _ _)]
 exact List.map_congr_left fun x _=>by simp
theorem decode_tail (s:ByteArray) (pos j:Nat) (h1:1≤j) (h2:j < (Utf8.decode s pos).2):pos+j < s.size∧(s.get! (pos+j)).toNat / 64=2:=by
 rw [decode_at] at h2
 unfold decodeN at h2
 have h4:j=1∨j=2∨j=3∨4≤j:=by omega
 repeat' split at h2
 all_goals first
  | (exfalso;simp at h2;omega)
  | (rcases h4 with rfl | rfl | rfl | h4<;>first | (exfalso;simp at h2;omega) | (constructor<;>omega))
theorem get_bang {s:ByteArray} {i:Nat} (h:i < s.size):s.data.toList[i]?=some (s.get! i):=by
 have h':i < s.data.size:=h
 simp [ByteArray.get!,getElem!_pos s.data i h']
def isSp (c:Nat):Bool:=c==32
theorem wds_skip:∀ (m cur r:List UInt8),(∀ b∈m,b≠32)→wds cur (m++r)=wds (cur++m) r
 | [],cur,r,_=>by simp
 | b::m,cur,r,h=>by
  rw [List.cons_append,wds,if_neg (h b (by simp)),wds_skip m _ r fun x hx=>h x (by simp [hx])]
  simp
def openP (l:List UInt8) (st:Option Nat) (pos:Nat):List UInt8:=match st with
 | some a=>(l.drop a).take (pos - a)
 | none=>[]
theorem seg_add {l:List UInt8} {a p w:Nat} (h:a≤p):(l.drop a).take (p+w - a)=(l.drop a).take (p - a)++(l.drop p).take w:=by
 rw [show p+w - a=(p - a)+w by omega,List.take_add,List.drop_drop,show a+(p - a)=p by omega]
theorem spans_wds (s:ByteArray):∀ (f pos:Nat) (st:Option Nat) (acc:List (Nat×Nat)),s.size≤pos+f→pos≤s.size→(∀ a,st=some a→a < pos) →
  (closeSpans s (spansFromP isSp s f pos st acc)).map (fun x=>(s.data.toList.drop x.1).take (x.2 - x.1))=acc.map (fun x=>(s.data.toList.drop x.1).take (x.2 - x.1))++wds (openP s.data.toList st pos) (s.data.toList.drop pos)
 | f,pos,st,acc,hf,hp,ha=>by
  have hsz:s.data.toList.length=s.size:=Array.length_toList
  by_cases hlt:pos < s.size
  ·cases f with
   | zero=>omega
   | succ f =>
    have hb:=get_bang hlt
    have hd:s.data.toList.drop pos=s.get! pos::s.data.toList.drop (pos+1):=by
     have h':pos < s.data.toList.length:=by omega
     rw [List.drop_eq_getElem_cons h']
     rw [List.getElem?_eq_getElem h'] at hb
     injection hb with hb
     rw [hb]
    have hgl:s.get! pos=s[pos]'hlt:=by
     have h':pos < s.data.size:=hlt
     show getElem! s.data pos=s.data[pos]
     rw [getElem!_pos s.data pos h']
    unfold spansFromP
    rw [if_pos hlt]
    by_cases h32:(Utf8.decode s pos).1=32
    ·have hlow:((s[pos]'hlt)).toNat < 128:=by
      rcases Nat.lt_or_ge ((s[pos]'hlt)).toNat 128 with h | h
      ·exact h
      ·have:=(decode_high s pos hlt h).1;omega
     have hw:=decode_ascii s pos hlt hlow
     have hv:s.get! pos=32:=by
      rw [hgl]
      have:((s[pos]'hlt)).toNat=32:=by rw [hw] at h32;exact h32
      exact UInt8.toNat_inj.1 this
     have hw2:(Utf8.decode s pos).2=1:=by rw [hw]
     rw [if_pos (by simp [isSp,h32]),hw2,hd,hv]
     cases st with
     | none =>
      simp only
      rw [spans_wds s f (pos+1) none acc (by omega) (by omega) (by simp)]
      simp [openP,wds]
     | some a =>
      have haa:=ha a rfl
      simp only
      rw [spans_wds s f (pos+1) none _ (by omega) (by omega) (by simp)]
      have hne:openP s.data.toList (some a) pos≠[]:=by
       simp only [openP,ne_eq,← List.length_eq_zero_iff,List.length_take,List.length_drop];omega
      rw [wds,if_pos rfl,if_neg hne]
      simp [openP]
    ·have hpos:1≤(Utf8.decode s pos).2:=by
      rcases Nat.lt_or_ge ((s[pos]'hlt)).toNat 128 with h | h
      ·rw [decode_ascii s pos hlt h];exact Nat.le_refl _
      ·exact (decode_high s pos hlt h).2
     have hend:pos+(Utf8.decode s pos).2≤s.size:=by
      rcases Nat.lt_or_ge 1 (Utf8.decode s pos).2 with h | h
      ·have:=(decode_tail s pos ((Utf8.decode s pos).2 - 1) (by omega) (by omega)).1;omega
      ·omega
     have hno:∀ b∈(s.data.toList.drop pos).take (Utf8.decode s pos).2,b≠32:=by
      intro b hb'
      obtain ⟨j,hj,rfl⟩:=List.mem_iff_getElem.1 hb'
      simp only [List.length_take,List.length_drop] at hj
      have e1:((s.data.toList.drop pos).take (Utf8.decode s pos).2)[j]=s.get! (pos+j):=by
       have h3:pos+j < s.size:=by omega
       have:=get_bang h3
       rw [List.getElem_take,List.getElem_drop]
       rw [List.getElem?_eq_getElem (by omega)] at this
       exact Option.some.inj this
      rw [e1]
      rcases Nat.eq_zero_or_pos j with rfl | hj0
      ·intro h
       have h':(s[pos]'hlt).toNat=32:=by rw [←hgl];rw [Nat.add_zero] at h;rw [h];rfl
       have:=decode_ascii s pos hlt (by omega)
       rw [this] at h32
       exact h32 h'
      ·intro h
       have:=(decode_tail s pos j hj0 (by omega)).2
       rw [h] at this
       simp at this
     have hsplit:s.data.toList.drop pos=(s.data.toList.drop pos).take (Utf8.decode s pos).2++s.data.toList.drop (pos+(Utf8.decode s pos).2):=by
      rw [←List.drop_drop];exact (List.take_append_drop _ _).symm
     rw [if_neg (by simp [isSp,h32])]
     cases st with
     | none =>
      simp only
      rw [spans_wds s f _ (some pos) acc (by omega) hend (by simp;omega)]
      conv=>rhs;rw [hsplit,wds_skip _ _ _ hno]
      simp [openP]
     | some a =>
      have haa:=ha a rfl
      simp only
      rw [spans_wds s f _ (some a) acc (by omega) hend (by simp;omega)]
      conv=>rhs;rw [hsplit,wds_skip _ _ _ hno]
      simp only [openP]
      rw [seg_add (by omega)]
  ·have he:pos=s.size:=by omega
   rw [spansFromP_end isSp s f pos st acc hlt]
   have hd:s.data.toList.drop pos=[]:=List.drop_eq_nil_of_le (by omega)
   rw [hd,wds]
   cases st with
   | none=>simp [closeSpans,openP]
   | some a =>
    have haa:=ha a rfl
    have hne:openP s.data.toList (some a) pos≠[]:=by
     simp only [openP,ne_eq,← List.length_eq_zero_iff,List.length_take,List.length_drop];omega
    rw [if_neg hne]
    simp [closeSpans,openP,he]
theorem fields_wds (l:List UInt8):goFieldsP isSp ⟨l.toArray⟩=(wds [] l).map fun x=>⟨x.toArray⟩:=by
 have h:=spans_wds ⟨l.toArray⟩ l.length 0 none [] (by simp [ByteArray.size]) (by simp) (by simp)
 simp only [List.map_nil,List.nil_append,openP,List.drop_zero] at h
 unfold goFieldsP spansOfP
 have hs:(⟨l.toArray⟩:ByteArray).size=l.length:=by simp [ByteArray.size]
 rw [hs,← h,List.map_map]
 refine List.map_congr_left fun x _=>?_
 apply ByteArray.ext
 simp [ByteArray.data_extract]
def numW (w:List UInt8):Option Nat:=if 5 < w.length∨(w.head?=some 48∧1 < w.length) then none else Lib.decFrom 0 w
def numP (w:List UInt8):Option Nat:=match Lib.atoiAll w with
 | .ok v=>if v < 0∨5 < w.length∨Lib.decDigits v.toNat≠w then none else some v.toNat
 | _=>none
theorem decFrom_snoc:∀ (u:List UInt8) (acc:Nat) (b:UInt8),decFrom acc (u++[b])=(decFrom acc u).bind fun n=>(digitVal b).map fun d=>n*10+d
 | [],acc,b=>by simp only [List.nil_append,decFrom,Option.bind_some];cases digitVal b<;>rfl
 | c::u,acc,b=>by
  simp only [List.cons_append,decFrom]
  cases digitVal c with
  | none=>rfl
  | some d=>exact decFrom_snoc u _ b
theorem digit_of {b:UInt8} {d:Nat} (h:digitVal b=some d):d < 10∧b=UInt8.ofNat (48+d)∧(d=0↔b=48):=by
 unfold digitVal at h
 split at h
 ·rename_i h0
  injection h with h
  refine ⟨by omega,?_,?_⟩
  ·rw [←h,show 48+(b.toNat - 48)=b.toNat by omega];simp
  ·constructor
   ·intro e;exact UInt8.toNat_inj.1 (by show b.toNat=48;omega)
   ·rintro rfl;simpa using h.symm
 ·cases h
theorem decDigits_ten {v:Nat} (h:¬ v < 10):decDigits v=decDigits (v / 10)++[UInt8.ofNat (48+v % 10)]:=by rw [decDigits,dif_neg h]
theorem dec_ne (v:Nat):decDigits v≠[]:=by
 by_cases h:v < 10
 ·rw [decDigits_one h];simp
 ·rw [decDigits_ten h];simp
theorem dec_zero:∀ (v:Nat) (t:List UInt8),decDigits v=48::t→v=0∧t=[]
 | v,t,e=>by
  by_cases h:v < 10
  ·rw [decDigits_one h] at e
   injection e with e1 e2
   refine ⟨?_,e2.symm⟩
   have:=congrArg UInt8.toNat e1
   simp at this
   omega
  ·rw [decDigits_ten h] at e
   cases hd:decDigits (v / 10) with
   | nil=>exact absurd hd (dec_ne _)
   | cons c u =>
    rw [hd] at e
    simp only [List.cons_append] at e
    injection e with e1 e2
    subst e1
    have:=dec_zero (v / 10) u hd
    omega
termination_by v=>v
decreasing_by omega
theorem dec_digits:∀ (v:Nat),∀ b∈decDigits v,48≤b.toNat∧b.toNat≤57
 | v,b,hb=>by
  by_cases h:v < 10
  ·rw [decDigits_one h] at hb
   simp at hb
   subst hb
   simp
   omega
  ·rw [decDigits_ten h] at hb
   rcases List.mem_append.1 hb with hb | hb
   ·exact dec_digits (v / 10) b hb
   ·simp at hb
    subst hb
    have:v % 10 < 10:=Nat.mod_lt _ (by decide)
    simp
    omega
termination_by v=>v
decreasing_by omega
theorem dec_back:∀ (n:Nat) (w:List UInt8) (v:Nat),w.length=n→w≠[]→decFrom 0 w=some v→(w.head?≠some 48∨w.length=1)→decDigits v=w
 | 0,w,v,hn,hne,_,_=>absurd (List.length_eq_zero_iff.1 hn) hne
 | n+1,w,v,hn,hne,h,hz=>by
  obtain ⟨u,b,rfl⟩:∃ u b,w=u++[b]:=⟨w.dropLast,w.getLast hne,(List.dropLast_concat_getLast hne).symm⟩
  rw [decFrom_snoc] at h
  obtain ⟨a,ha,h⟩:=Option.bind_eq_some_iff.1 h
  obtain ⟨d,hd,rfl⟩:=Option.map_eq_some_iff.1 h
  obtain ⟨h10,hb,h0⟩:=digit_of hd
  by_cases hu:u=[]
  ·subst hu
   simp only [decFrom,Option.some.injEq] at ha
   subst ha
   rw [Nat.zero_mul,Nat.zero_add,decDigits_one h10,hb];rfl
  ·have hlen:0 < u.length:=List.length_pos_iff.2 hu
   have hh:u.head?≠some 48:=by
    rcases hz with hz | hz
    ·(rw [List.head?_append] at hz;cases u with | nil=>exact absurd rfl hu | cons c t=>simpa using hz)
    ·simp at hz;exact absurd hz hu
   have ih:=dec_back n u a (by simp at hn;omega) hu ha (.inl hh)
   have ha0:a≠0:=by
    rintro rfl
    rw [decDigits_one (by decide)] at ih
    rw [←ih] at hh
    exact hh rfl
   have:¬ a*10+d < 10:=by omega
   rw [decDigits_ten this,show (a*10+d) / 10=a by omega,show (a*10+d) % 10=d by omega,ih,hb]
theorem parse_dec:∀ (w:List UInt8) (acc:Nat),acc*10 ^ w.length+10 ^ w.length≤1000000→parseUint10 acc w=match decFrom acc w with
  | some v=>.ok v
  | none=>Go.Lib.NumEnd.syntax
 | [],acc,_=>rfl
 | b::r,acc,h=>by
  simp only [parseUint10,decFrom,digitVal]
  by_cases hb:48≤b.toNat∧b.toNat≤57
  ·rw [if_pos hb,if_pos hb]
   simp only [List.length_cons,Nat.pow_succ] at h
   have hp:0 < 10 ^ r.length:=Nat.pow_pos (by decide)
   have h1:acc*10*10 ^ r.length+10*10 ^ r.length≤1000000:=by
    rw [show acc*10*10 ^ r.length=acc*(10 ^ r.length*10) by rw [Nat.mul_assoc,Nat.mul_comm 10]]
    omega
   have h2:acc*10≤acc*10*10 ^ r.length:=Nat.le_mul_of_pos_right _ hp
   rw [if_neg (by omega),if_neg (by omega)]
   simp only
   refine parse_dec r _ ?_
   have:(acc*10+(b.toNat - 48))*10 ^ r.length≤acc*10*10 ^ r.length+9*10 ^ r.length:=by
    rw [Nat.add_mul]
    have:(b.toNat - 48)*10 ^ r.length≤9*10 ^ r.length:=Nat.mul_le_mul_right _ (by omega)
    omega
   omega
  ·rw [if_neg hb,if_neg hb]
theorem numP_W {w:List UInt8} (hne:w≠[]):numP w=numW w:=by
 obtain ⟨c,r,rfl⟩:∃ c r,w=c::r:=by cases w with | nil=>exact absurd rfl hne | cons c r=>exact ⟨c,r,rfl⟩
 by_cases h5:5 < (c::r).length
 ·have e:numW (c::r)=none:=by rw [numW,if_pos (.inl h5)]
  rw [e,numP]
  split
  ·rw [if_pos (.inr (.inl h5))]
  ·rfl
 by_cases hd:48≤c.toNat∧c.toNat≤57
 ·have hA:atoiAll (c::r)=match decFrom 0 (c::r) with
    | some v=>.ok (v:Int)
    | none=>Go.Lib.NumEnd.syntax:=by
   have hp:=parse_dec (c::r) 0 (by
    have:10 ^ (c::r).length≤10 ^ 5:=Nat.pow_le_pow_right (by decide) (by omega)
    omega)
   simp only [atoiAll]
   rw [if_neg (by omega),parseMag,if_neg (by simp),hp]
   have hlt:∀ v,decFrom 0 (c::r)=some v→v < 9223372036854775808:=by
    intro v hv
    have:∀ (w:List UInt8) (acc v:Nat),decFrom acc w=some v→v+1≤(acc+1)*10 ^ w.length:=by
     intro w
     induction w with
     | nil=>intro acc v h;simp [decFrom] at h;simp;omega
     | cons b w ih =>
      intro acc v h
      simp only [decFrom] at h
      split at h
      ·rename_i d hd
       have:=ih _ _ h
       have h10:=(digit_of hd).1
       have h2:(acc*10+d+1)*10 ^ w.length≤((acc+1)*10)*10 ^ w.length:=Nat.mul_le_mul_right _ (by omega)
       rw [List.length_cons,Nat.pow_succ,Nat.mul_comm (10 ^ w.length) 10,← Nat.mul_assoc]
       omega
      ·cases h
    have h1:=this _ _ _ hv
    have:10 ^ (c::r).length≤10 ^ 5:=Nat.pow_le_pow_right (by decide) (by omega)
    omega
   have hneg:¬ c.toNat=45:=by omega
   cases hv:decFrom 0 (c::r) with
   | none=>rfl
   | some v =>
    have:=hlt v hv
    simp only [hneg,not_false_eq_true,true_and,false_and,if_false]
    rw [if_neg (by omega)]
  rw [numP,hA,numW]
  by_cases hz:(c::r).head?=some 48∧1 < (c::r).length
  ·rw [if_pos (.inr hz)]
   cases hv:decFrom 0 (c::r) with
   | none=>rfl
   | some v =>
    simp only
    rw [if_pos]
    refine .inr (.inr fun e=>?_)
    simp only [List.head?_cons,Option.some.injEq] at hz
    have e':decDigits v=48::r:=by simpa [hz.1] using e
    have:=(dec_zero v r e').2
    rw [this] at hz
    simp at hz
  ·rw [if_neg (by intro h;rcases h with h | h;exact h5 h;exact hz h)]
   cases hv:decFrom 0 (c::r) with
   | none=>rfl
   | some v =>
    have hb:=dec_back _ (c::r) v rfl (by simp) hv (by
     by_cases h:(c::r).head?=some 48
     ·right
      have:¬ 1 < (c::r).length:=fun h'=>hz ⟨h,h'⟩
      simp at this ⊢;exact this
     ·exact .inl h)
    simp only
    rw [if_neg (by simp only [Int.toNat_natCast];intro h;rcases h with h | h | h;omega;exact h5 h;exact h hb)]
    simp
 ·have e:numW (c::r)=none:=by
   rw [numW]
   split
   ·rfl
   ·simp only [decFrom,digitVal]
    rw [if_neg hd]
  rw [e,numP]
  split
  ·rename_i v _
   rw [if_pos]
   refine .inr (.inr fun e=>?_)
   have:=dec_digits v.toNat c (by rw [e];simp)
   exact hd this
  ·rfl
end Go.VE
namespace Go.VE
open Go.RowKit Go.Proofs
set_option maxRecDepth 100000
def opL {α:Type}:List α→Option (List α)
 | []=>none
 | a::t=>some (a::t)
theorem opL_get {α:Type} (l:List α):(opL l).getD []=l:=by cases l<;>rfl
theorem r_slNm {Fn:Nat→List D→Out} {FnD:D→List Sh→List D→Out} {m:Nat} {α:Type} (s:Nat) (f:α→List D) (l:List α):(real Fn FnD m).slN s (l.map f)=dL s f (opL l):=by cases l<;>rfl
def rSd (l:List UInt8):List D:=[sd l]
theorem seg_next {l r:List UInt8} {a i:Nat} {b:UInt8} (h:l.drop i=b::r) (ha:a≤i):(l.drop a).take (i+1 - a)=(l.drop a).take (i - a)++[b]:=by
 have hb:l[i]?=some b:=by
  have:=congrArg (fun x=>x[0]?) h
  simpa using this
 rw [show i+1 - a=(i - a)+1 by omega,List.take_add_one,List.getElem?_drop,show a+(i - a)=i by omega,hb]
 rfl
theorem drop_next {l r:List UInt8} {i:Nat} {b:UInt8} (h:l.drop i=b::r):l.drop (i+1)=r∧l[i]?=some b∧i < l.length:=by
 have hb:l[i]?=some b:=by
  have:=congrArg (fun x=>x[0]?) h
  simpa using this
 refine ⟨?_,hb,(List.getElem?_eq_some_iff.1 hb).1⟩
 rw [←List.drop_drop,h];rfl
def lnQ (l:List UInt8) (o:Out):Prop:=∃ (acc:List (List UInt8)) (a:Nat),a≤l.length∧acc.length≤l.length∧acc++lns (l.drop a) []=lns [] l∧o=some (0,[.d (sd l),.n acc.length,.d (il a),.r (acc.map rSd)])
theorem fit16 {n:Nat} (h:n≤1000000):n*16≤140737488355328∧n≤9223372036854775807:=by omega
theorem l66' (n:Nat) (l:List UInt8) (hl:l.length≤100000):lnQ l (loopR [L66_0 (RP n)] M0 0 [.d (sd l),.n 0,.d (il 0),.d (il 0),.r []]):=by
 refine loop_pr (σ:=List (List UInt8)×Nat×Nat) [L66_0 (RP n)] (fun s=>(0,[.d (sd l),.n s.1.length,.d (il s.2.1),.d (il s.2.2),.r (s.1.map rSd)])) (fun s=>l.length - s.2.2) (fun s=>s.2.1≤s.2.2∧s.2.2≤l.length∧s.1.length≤s.2.2∧s.1++lns ((l.drop s.2.1).take (s.2.2 - s.2.1)) (l.drop s.2.2)=lns [] l) (lnQ l) ?_ M0 ([],0,0) ⟨Nat.le_refl _,by simp,by simp,by simp⟩ (by simp only [M0];omega)
 rintro ⟨acc,a,i⟩ k ⟨h1,h2,h3,h4⟩ ih
 simp only at h1 h2 h3 h4 ih ⊢
 refine ⟨_,rfl,?_⟩
 cases hd:l.drop i with
 | nil =>
  have hi:l.length≤i:=by simpa using hd
  obtain rfl:i=l.length:=by omega
  refine ⟨acc,a,h1,by omega,?_,?_⟩
  ·rw [←h4,hd,List.take_of_length_le (by simp)]
  ·simp only [L66_0,r_ld0,r_lds,r_lenSs,r_lss,Int.lt_irrefl,decide_false,r_cond,Bool.false_eq_true,if_false,r_out,r_ln0,r_lns,r_lr0,r_lrs]
 | cons b r =>
  obtain ⟨e1,e2,e3⟩:=drop_next hd
  have hlt:(i:Int) < (l.length:Int):=by omega
  have hw:IntKind.i64.wrap ((i:Int)+1)=((i+1:Nat):Int):=by rw [wrap_id (by omega) (by omega)];omega
  rw [hd] at h4
  by_cases hb:b=10
  ·subst hb
   have key:=ih (acc++[(l.drop a).take (i - a)],i+1,i+1) ⟨Nat.le_refl _,by simp only;omega,by simp only [List.length_append,List.length_cons,List.length_nil];omega,by
    rw [←h4];simp only [Nat.sub_self,List.take_zero,e1,lns,if_true,List.append_assoc,List.cons_append,List.nil_append]⟩ (by simp only;omega)
   have hf:=fit16 (n:=acc.length+1) (by omega)
   have e:L66_0 (RP n) k [.d (sd l),.n acc.length,.d (il a),.d (il i),.r (acc.map rSd)]=k 0 [.d (sd l),.n (acc++[(l.drop a).take (i - a)]).length,.d (il ((i+1:Nat):Int)),.d (il ((i+1:Nat):Int)),.r ((acc++[(l.drop a).take (i - a)]).map rSd)]:=by
    simp only [L66_0,r_ld0,r_lds,r_lenSs,r_lss,hlt,decide_true,r_cond,if_true,r_atSs e2,r_litU,r_eqlU10,r_cutSs h1 h2,r_natN,r_rows,r_len,List.length_cons,List.length_nil,Nat.zero_add,r_eqN,r_ln0,r_lns,r_lr0,r_lrs,List.length_map,r_seg0,List.take_succ_cons,List.take_zero,r_addN,r_fitsg,hf,and_self,r_liti,r_add,hw,r_app,List.length_append,List.map_append,List.map_cons,List.map_nil,rSd]
   rw [e]
   exact key
  ·have key:=ih (acc,a,i+1) ⟨by simp only;omega,by simp only;omega,by simp only;omega,by
    rw [←h4];simp only [seg_next hd h1,e1,lns,if_neg hb]⟩ (by simp only;omega)
   have e:L66_0 (RP n) k [.d (sd l),.n acc.length,.d (il a),.d (il i),.r (acc.map rSd)]=k 0 [.d (sd l),.n acc.length,.d (il a),.d (il ((i+1:Nat):Int)),.r (acc.map rSd)]:=by
    simp only [L66_0,r_ld0,r_lds,r_lenSs,r_lss,hlt,decide_true,r_cond,if_true,r_atSs e2,r_litU,r_eqlU10,hb,decide_false,Bool.false_eq_true,if_false,r_ln0,r_lns,r_lr0,r_lrs,r_liti,r_add,hw]
   rw [e]
   exact key
theorem s66' (n:Nat) (l:List UInt8) (hl:l.length≤100000):FN (n+1) 66 [sd l]=some (0,[.d (dL 1 rSd (opL (lns [] l)))]):=by
 rw [F66]
 obtain ⟨acc,a,h1,h2,h3,h4⟩:=l66' n l hl
 simp only [G66,r_natN,r_liti,r_rows,r_loop,h4,r_bnd0,r_ld0,r_lds,r_lenSs,r_lss]
 by_cases h:a < l.length
 ·have hlt:(a:Int) < (l.length:Int):=by omega
  have hne:l.drop a≠[]:=by simp;omega
  have hf:=fit16 (n:=acc.length+1) (by omega)
  rw [lns,if_neg hne] at h3
  have e:=r_slNm (Fn:=FN n) (FnD:=FnDof Tryz.prog (cf3 tb Tryz.prog) (FN n)) (m:=M0) 1 rSd (acc++[l.drop a])
  rw [List.map_append,List.map_cons,List.map_nil] at e
  simp only [hlt,decide_true,r_cond,if_true,r_cutSe h1,r_len,List.length_cons,List.length_nil,Nat.zero_add,r_eqN,r_ln0,r_lns,r_lr0,r_lrs,List.length_map,r_seg0,List.take_succ_cons,List.take_zero,r_addN,r_fitsg,hf,and_self,r_app,List.length_append,r_out]
  rw [show [sd (l.drop a)]=rSd (l.drop a) from rfl,e,h3]
 ·have hlt:¬ (a:Int) < (l.length:Int):=by omega
  have hne:l.drop a=[]:=by simp;omega
  rw [lns,if_pos hne,List.append_nil] at h3
  simp only [hlt,decide_false,r_cond,Bool.false_eq_true,if_false,r_ln0,r_lns,r_lr0,r_lrs,r_len,List.length_map,r_eqN,if_true,r_out,r_slNm,h3]
end Go.VE
namespace Go.VE
open Go.RowKit Go.Proofs
set_option maxRecDepth 100000
def wordsOf (l:List UInt8):List (List UInt8):=if l.head?=some 35 then [] else wds [] l
theorem cut_nil {l:List UInt8} {a i:Nat} (h1:a≤i) (h2:i≤l.length):(l.drop a).take (i - a)=[]↔¬ a < i:=by
 rw [←List.length_eq_zero_iff,List.length_take,List.length_drop]
 omega
theorem l67' (n:Nat) (l:List UInt8) (hl:l.length≤100000):loopR [L67_0 (RP n)] M0 0 [.d (sd l),.n 0,.d (il 0),.d (il 0),.r []]=some (0,[.n (wds [] l).length,.r ((wds [] l).map rSd)]):=by
 refine loop_ms (σ:=List (List UInt8)×Nat×Nat) [L67_0 (RP n)] (fun s=>(0,[.d (sd l),.n s.1.length,.d (il s.2.1),.d (il s.2.2),.r (s.1.map rSd)])) (fun s=>l.length+1 - s.2.2)
  (fun s=>s.1.length≤s.2.2∧((s.2.2≤l.length∧s.2.1≤s.2.2∧s.1++wds ((l.drop s.2.1).take (s.2.2 - s.2.1)) (l.drop s.2.2)=wds [] l)∨(s.2.2=l.length+1∧s.1=wds [] l))) (fun _=>some (0,[.n (wds [] l).length,.r ((wds [] l).map rSd)])) ?_ M0 ([],0,0) ⟨Nat.le_refl _,.inl ⟨by simp,by simp,by simp⟩⟩ (by simp only [M0];omega)
 rintro ⟨acc,a,i⟩ k ⟨h3,h⟩ ih
 simp only at h3 h ih ⊢
 refine ⟨_,rfl,?_⟩
 rcases h with ⟨h2,h1,h4⟩ | ⟨h1,h2⟩
 ·have hle:(i:Int)≤(l.length:Int):=by omega
  have hw:IntKind.i64.wrap ((i:Int)+1)=((i+1:Nat):Int):=by rw [wrap_id (by omega) (by omega)];omega
  have hf:=fit16 (n:=acc.length+1) (by omega)
  have hcn:=cut_nil h1 h2
  have hai:((a:Int) < (i:Int))=(a < i):=by rw [eq_iff_iff];omega
  cases hd:l.drop i with
  | nil =>
   have hi:l.length≤i:=by simpa using hd
   obtain rfl:i=l.length:=by omega
   rw [hd,wds] at h4
   have hlt:¬ (l.length:Int) < (l.length:Int):=by omega
   by_cases hc:a < l.length
   ·rw [if_neg (fun e=>hcn.1 e hc)] at h4
    have key:=ih (acc++[(l.drop a).take (l.length - a)],l.length+1,l.length+1) ⟨by simp only [List.length_append,List.length_cons,List.length_nil];omega,.inr ⟨rfl,h4⟩⟩ (by simp only;omega)
    rw [←key]
    simp only [L67_0,r_ld0,r_lds,r_lenSs,r_leq,hle,hlt,r_lss,decide_true,decide_false,Bool.false_eq_true,if_false,r_cond,if_true,r_gtr,hai,hc,r_cutSs h1 h2,r_natN,r_rows,r_len,List.length_cons,List.length_nil,Nat.zero_add,r_eqN,r_ln0,r_lns,r_lr0,r_lrs,List.length_map,r_seg0,List.take_succ_cons,List.take_zero,r_addN,r_fitsg,hf,and_self,r_liti,r_add,hw,r_app,List.length_append,List.map_append,List.map_cons,List.map_nil,rSd]
   ·rw [if_pos (hcn.2 hc),List.append_nil] at h4
    have key:=ih (acc,l.length+1,l.length+1) ⟨by simp only;omega,.inr ⟨rfl,h4⟩⟩ (by simp only;omega)
    rw [←key]
    simp only [L67_0,r_ld0,r_lds,r_lenSs,r_leq,hle,hlt,r_lss,decide_true,decide_false,Bool.false_eq_true,if_false,r_cond,if_true,r_gtr,hai,hc,r_ln0,r_lns,r_lr0,r_lrs,r_liti,r_add,hw]
  | cons b r =>
   obtain ⟨e1,e2,e3⟩:=drop_next hd
   have hlt:(i:Int) < (l.length:Int):=by omega
   rw [hd,wds] at h4
   by_cases hb:b=32
   ·rw [if_pos hb] at h4
    by_cases hc:a < i
    ·rw [if_neg (fun e=>hcn.1 e hc)] at h4
     have key:=ih (acc++[(l.drop a).take (i - a)],i+1,i+1) ⟨by simp only [List.length_append,List.length_cons,List.length_nil];omega,.inl ⟨by simp only;omega,Nat.le_refl _,by
      rw [←h4];simp only [Nat.sub_self,List.take_zero,e1,List.append_assoc,List.cons_append,List.nil_append]⟩⟩ (by simp only;omega)
     rw [←key]
     simp only [L67_0,r_ld0,r_lds,r_lenSs,r_leq,hle,hlt,r_lss,decide_true,r_cond,if_true,r_atSs e2,r_litU,r_neqU32,hb,Bool.not_true,Bool.false_eq_true,if_false,r_gtr,hai,hc,r_cutSs h1 h2,r_natN,r_rows,r_len,List.length_cons,List.length_nil,Nat.zero_add,r_eqN,r_ln0,r_lns,r_lr0,r_lrs,List.length_map,r_seg0,List.take_succ_cons,List.take_zero,r_addN,r_fitsg,hf,and_self,r_liti,r_add,hw,r_app,List.length_append,List.map_append,List.map_cons,List.map_nil,rSd]
    ·rw [if_pos (hcn.2 hc)] at h4
     have key:=ih (acc,i+1,i+1) ⟨by simp only;omega,.inl ⟨by simp only;omega,Nat.le_refl _,by
      rw [←h4];simp only [Nat.sub_self,List.take_zero,e1]⟩⟩ (by simp only;omega)
     rw [←key]
     simp only [L67_0,r_ld0,r_lds,r_lenSs,r_leq,hle,hlt,r_lss,decide_true,r_cond,if_true,r_atSs e2,r_litU,r_neqU32,hb,Bool.not_true,Bool.false_eq_true,if_false,r_gtr,hai,hc,decide_false,r_ln0,r_lns,r_lr0,r_lrs,r_liti,r_add,hw]
   ·rw [if_neg hb] at h4
    have key:=ih (acc,a,i+1) ⟨by simp only;omega,.inl ⟨by simp only;omega,by simp only;omega,by
     rw [←h4];simp only [seg_next hd h1,e1]⟩⟩ (by simp only;omega)
    rw [←key]
    simp only [L67_0,r_ld0,r_lds,r_lenSs,r_leq,hle,hlt,r_lss,decide_true,r_cond,if_true,r_atSs e2,r_litU,r_neqU32,hb,decide_false,Bool.not_false,r_ln0,r_lns,r_lr0,r_lrs,r_liti,r_add,hw]
 ·subst h1 h2
  have hle:¬ ((l.length+1:Nat):Int)≤(l.length:Int):=by omega
  simp only [L67_0,r_ld0,r_lds,r_lenSs,r_leq,hle,decide_false,r_cond,Bool.false_eq_true,if_false,r_out,r_ln0,r_lns,r_lr0,r_lrs]
theorem s67' (n:Nat) (l:List UInt8) (hl:l.length≤100000):FN (n+1) 67 [sd l]=some (0,[.d (dL 1 rSd (opL (wordsOf l)))]):=by
 rw [F67]
 cases l with
 | nil =>
  have h:=l67' n [] (by simp)
  simp only [G67,r_natN,r_liti,r_rows,r_lenSs,List.length_nil,r_gtr,Int.natCast_zero,Int.lt_irrefl,decide_false,r_cond,Bool.false_eq_true,if_false,r_out,r_bnd1,r_ld0,r_loop,h,r_bnd0,r_ln0,r_lns,r_lr0,r_lrs,r_len,List.length_map,r_eqN,if_true,r_slNm,wordsOf,List.head?_nil]
  rfl
 | cons b r =>
  have h:=l67' n (b::r) hl
  have h0:(0:Int) < ((b::r).length:Int):=by simp only [List.length_cons];omega
  have hb0:(b::r)[0]?=some b:=rfl
  have hat:=fun k=>r_atSs (Fn:=FN n) (FnD:=FnDof Tryz.prog (cf3 tb Tryz.prog) (FN n)) (m:=M0) hb0 k
  simp only [Int.natCast_zero] at hat
  by_cases hc:b=35
  ·subst hc
   simp only [G67,r_natN,r_liti,r_rows,r_lenSs,r_gtr,h0,decide_true,r_cond,if_true,hat,r_litU,r_eqlU35,r_out,r_bnd0,wordsOf,List.head?_cons]
   rfl
  ·have hh:¬ ((b::r).head?=some 35):=by simp [hc]
   simp only [G67,r_natN,r_liti,r_rows,r_lenSs,r_gtr,h0,decide_true,r_cond,if_true,hat,r_litU,r_eqlU35,hc,decide_false,Bool.false_eq_true,if_false,r_out,r_bnd1,r_ld0,r_loop,h,r_bnd0,r_ln0,r_lns,r_lr0,r_lrs,r_len,List.length_map,r_eqN,r_slNm,wordsOf,if_neg hh]
end Go.VE
namespace Go.VE
open Go.RowKit Go.Proofs
set_option maxRecDepth 100000
def numsW:List (List UInt8)→Option (List Nat)
 | []=>some []
 | w::r=>match numW w with
  | none=>none
  | some z=>(numsW r).map (z::·)
def rN (z:Nat):List D:=[il z]
section
variable {Fn:Nat→List D→Out} {FnD:D→List Sh→List D→Out} {m:Nat}
theorem r_lssU48 (b:UInt8) (f:Bool) (k:D→Out):(real Fn FnD m).bin .lss f (ub b) (.lit (.int .u8 48)) k=k (bl (decide (b.toNat < 48))):=by
 have:decide ((b.toNat:Int) < 48)=decide (b.toNat < 48):=by rw [decide_eq_decide];omega
 simp only [real,binD,aBin,optO,bl,Option.map_some]
 simp [this]
theorem r_gtrU57 (b:UInt8) (f:Bool) (k:D→Out):(real Fn FnD m).bin .gtr f (ub b) (.lit (.int .u8 57)) k=k (bl (decide (57 < b.toNat))):=by
 have:decide ((57:Int) < (b.toNat:Int))=decide (57 < b.toNat):=by rw [decide_eq_decide];omega
 simp only [real,binD,aBin,optO,bl,Option.map_some]
 simp [this]
theorem r_subU48 {b:UInt8} (h:48≤b.toNat) (f:Bool) (k:D→Out):(real Fn FnD m).bin .sub f (ub b) (.lit (.int .u8 48)) k=k (.lit (.int .u8 ((b.toNat - 48:Nat):Int))):=by
 have hb:=b.toNat_lt
 have:IntKind.u8.wrap ((b.toNat:Int) - 48)=((b.toNat - 48:Nat):Int):=by
  rw [←wrap8 (n:=b.toNat - 48) (by omega)];congr 1;omega
 simp only [real,binD,aBin,optO,Option.map_some]
 simp [this]
theorem r_cvI8 {n:Nat} (h:n < 256) (k:D→Out):(real Fn FnD m).cvI .i64 (.lit (.int .u8 n)) k=k (il n):=by
 simp only [real,il,wrap_id (show -9223372036854775808≤(n:Int) by omega) (show (n:Int)≤9223372036854775807 by omega)]
end
theorem cW (w:List UInt8) {Fn:Nat→List D→Out} {FnD:D→List Sh→List D→Out} {m:Nat}:(real Fn FnD m).cell (rSd w) 0=sd w:=rfl
theorem l97a (n N:Nat) (A:D) (I:Int) (R:Rr) (w:List UInt8) (hl:w.length≤5):loopR [L97_0 (RP n)] M0 0 [.d A,.n N,.d (il I),.d (sd w),.d (il 0),.d (il 0),.r R] =
  match Lib.decFrom 0 w with
  | none=>some (0,[.d (bl false)])
  | some z=>some (1,[.d A,.n N,.d (il I),.d (il z),.r R]):=by
 have:=range_loop (β:=Nat) w (by omega) (L97_0 (RP n)) (fun i v=>[.d A,.n N,.d (il I),.d (sd w),.d (il v),.d (il i),.r R]) (fun i v=>v < 10 ^ i)
  (fun _ r v=>match Lib.decFrom v r with
   | none=>some (0,[.d (bl false)])
   | some z=>some (1,[.d A,.n N,.d (il I),.d (il z),.r R])) ?_ ?_ M0 0 (by simp) (M0_big (by omega))
 ·exact this
 ·intro v k _
  simp only [L97_0,r_ld0,r_lds,r_lenSs,r_lss,Int.lt_irrefl,decide_false,r_cond,Bool.false_eq_true,if_false,r_out,r_ln0,r_lns,r_lr0,r_lrs,Lib.decFrom]
 ·intro i b r v k hi hd hlt hw hI ih
  have hlt':(i:Int) < (w.length:Int):=by omega
  have hp:(10:Nat) ^ i≤10 ^ 5:=Nat.pow_le_pow_right (by decide) (by omega)
  have hb:=b.toNat_lt
  by_cases h1:b.toNat < 48
  ·have hv:Lib.digitVal b=none:=by rw [Lib.digitVal,if_neg (by omega)]
   simp only [Lib.decFrom,hv]
   simp only [L97_0,r_ld0,r_lds,r_lenSs,r_lss,hlt',decide_true,r_cond,if_true,r_atSs hi,r_litU,r_lssU48,h1,r_out,r_litb]
  ·by_cases h2:57 < b.toNat
   ·have hv:Lib.digitVal b=none:=by rw [Lib.digitVal,if_neg (by omega)]
    simp only [Lib.decFrom,hv]
    simp only [L97_0,r_ld0,r_lds,r_lenSs,r_lss,hlt',decide_true,r_cond,if_true,r_atSs hi,r_litU,r_lssU48,h1,decide_false,Bool.false_eq_true,if_false,r_gtrU57,h2,r_out,r_litb]
   ·have hv:Lib.digitVal b=some (b.toNat - 48):=by rw [Lib.digitVal,if_pos (by omega)]
    have w1:IntKind.i64.wrap ((v:Int)*10)=((v*10:Nat):Int):=by rw [wrap_id (by omega) (by omega)];omega
    have w2:IntKind.i64.wrap (((v*10:Nat):Int)+((b.toNat - 48:Nat):Int))=((v*10+(b.toNat - 48):Nat):Int):=by rw [wrap_id (by omega) (by omega)];omega
    have ih':=ih (v*10+(b.toNat - 48)) (by rw [Nat.pow_succ];omega)
    rw [cast1] at ih'
    simp only [Lib.decFrom,hv]
    rw [←ih']
    simp only [L97_0,r_ld0,r_lds,r_lenSs,r_lss,hlt',decide_true,r_cond,if_true,r_atSs hi,r_litU,r_lssU48,h1,decide_false,Bool.false_eq_true,if_false,r_gtrU57,h2,r_liti,r_mul,w1,r_subU48 (show 48≤b.toNat by omega),r_cvI8 (show b.toNat - 48 < 256 by omega),r_add,w2,hw,r_ln0,r_lns,r_lr0,r_lrs]
theorem l97b (n:Nat) (ws:List (List UInt8)) (hl:ws.length≤1000000) (hne:∀ w∈ws,w≠[]):loopR [L97_1 (RP n)] M0 0 [.d (dL 1 rSd (some ws)),.n 0,.d (il 0),.r []] =
  match numsW ws with
  | none=>some (0,[.d (bl false)])
  | some zs=>some (1,[.n zs.length,.r (zs.map rN)]):=by
 have:=range_loop (β:=List Nat) ws (by omega) (L97_1 (RP n)) (fun i acc=>[.d (dL 1 rSd (some ws)),.n acc.length,.d (il i),.r (acc.map rN)]) (fun i acc=>acc.length=i)
  (fun _ r acc=>match numsW r with
   | none=>some (0,[.d (bl false)])
   | some zs=>some (1,[.n (acc++zs).length,.r ((acc++zs).map rN)])) ?_ ?_ M0 [] (by simp) (M0_big (by omega))
 ·exact this
 ·intro acc k _
  simp only [L97_1,r_ld0,r_lds,lenL,Option.getD_some,r_lss,Int.lt_irrefl,decide_false,r_cond,Bool.false_eq_true,if_false,r_out,r_ln0,r_lns,r_lr0,r_lrs,numsW,List.append_nil]
 ·intro i w r acc k hi hd hlt hw hI ih
  have hlt':(i:Int) < (ws.length:Int):=by omega
  have hrow:=fun k=>rowL (Fn:=FN n) (FnD:=FnDof Tryz.prog (cf3 tb Tryz.prog) (FN n)) (m:=M0) (f:=rSd) (o:=some ws) (i:=i) (c:=w) hi (n:=1) rfl k
  obtain ⟨b,t,hbt⟩:∃ b t,w=b::t:=by
   cases w with
   | nil=>exact absurd rfl (hne [] (List.mem_of_getElem? hi))
   | cons b t=>exact ⟨b,t,rfl⟩
  have hat:=fun k=>r_atSs (Fn:=FN n) (FnD:=FnDof Tryz.prog (cf3 tb Tryz.prog) (FN n)) (m:=M0) (l:=w) (i:=0) (b:=b) (by rw [hbt];rfl) k
  simp only [Int.natCast_zero] at hat
  have hhd:w.head?=some b:=by rw [hbt];rfl
  have e5:((5:Int) < (w.length:Int))=(5 < w.length):=by rw [eq_iff_iff];omega
  have e1:((1:Int) < (w.length:Int))=(1 < w.length):=by rw [eq_iff_iff];omega
  have hbad:∀ x,numW w=none→(match numsW (w::r) with
   | none=>some (0,[.d (bl false)])
   | some zs=>some (1,[.n (acc++zs).length,.r ((acc++zs).map rN)]):Out)=x→x=some (0,[.d (bl false)]):=by
   intro x h1 h2
   simp only [numsW,h1] at h2
   exact h2.symm
  by_cases h5:5 < w.length
  ·have hn:numW w=none:=by rw [numW,if_pos (.inl h5)]
   rw [hbad _ hn rfl]
   simp only [L97_1,r_ld0,r_lds,lenL,Option.getD_some,r_lss,hlt',decide_true,r_cond,if_true,hrow,cW,r_lenSs,r_liti,r_gtr,e5,h5,r_out,r_litb]
  ·by_cases h48:b=48∧1 < w.length
   ·have hn:numW w=none:=by rw [numW,if_pos (.inr ⟨by rw [hhd,h48.1],h48.2⟩)]
    rw [hbad _ hn rfl]
    simp only [L97_1,r_ld0,r_lds,lenL,Option.getD_some,r_lss,hlt',decide_true,r_cond,if_true,hrow,cW,r_lenSs,r_liti,r_gtr,e5,h5,decide_false,Bool.false_eq_true,if_false,hat,r_litU,r_eqlU48,h48.1,e1,h48.2,r_out,r_bnd0,r_litb]
   ·have hn:numW w=Lib.decFrom 0 w:=by rw [numW,if_neg];rw [hhd];rintro (h | h);exact h5 h;exact h48 ⟨Option.some.inj h.1,h.2⟩
    have hin:=l97a n acc.length (dL 1 rSd (some ws)) i (acc.map rN) w (by omega)
    have key:L97_1 (RP n) k [.d (dL 1 rSd (some ws)),.n acc.length,.d (il i),.r (acc.map rN)]=match Lib.decFrom 0 w with
      | none=>some (0,[.d (bl false)])
      | some z=>k 0 [.d (dL 1 rSd (some ws)),.n (acc++[z]).length,.d (il ((i+1:Nat):Int)),.r ((acc++[z]).map rN)]:=by
     have hf:(acc.length+1)*8≤140737488355328∧acc.length+1≤9223372036854775807:=by omega
     by_cases hb:b=48
     ·have h1:¬ 1 < w.length:=fun h=>h48 ⟨hb,h⟩
      simp only [L97_1,r_ld0,r_lds,lenL,Option.getD_some,r_lss,hlt',decide_true,r_cond,if_true,hrow,cW,r_lenSs,r_liti,r_gtr,e5,h5,decide_false,Bool.false_eq_true,if_false,hat,r_litU,r_eqlU48,hb,e1,h1,r_out,r_bnd0,r_litb,r_ln0,r_lns,r_lr0,r_lrs,r_loop,hin]
      cases Lib.decFrom 0 w with
      | none=>simp only [r_bnd0,r_ld0]
      | some z=>simp only [r_bnd1,r_ld0,r_lds,r_natN,r_rows,r_len,List.length_cons,List.length_nil,Nat.zero_add,r_eqN,if_true,r_ln0,r_lns,r_lr0,r_lrs,List.length_map,r_seg0,List.take_succ_cons,List.take_zero,r_addN,r_fitsg,hf,and_self,r_add,hw,cast1,r_app,List.length_append,List.map_append,List.map_cons,List.map_nil,rN]
     ·simp only [L97_1,r_ld0,r_lds,lenL,Option.getD_some,r_lss,hlt',decide_true,r_cond,if_true,hrow,cW,r_lenSs,r_liti,r_gtr,e5,h5,decide_false,Bool.false_eq_true,if_false,hat,r_litU,r_eqlU48,hb,r_out,r_bnd0,r_litb,r_ln0,r_lns,r_lr0,r_lrs,r_loop,hin]
      cases Lib.decFrom 0 w with
      | none=>simp only [r_bnd0,r_ld0]
      | some z=>simp only [r_bnd1,r_ld0,r_lds,r_natN,r_rows,r_len,List.length_cons,List.length_nil,Nat.zero_add,r_eqN,if_true,r_ln0,r_lns,r_lr0,r_lrs,List.length_map,r_seg0,List.take_succ_cons,List.take_zero,r_addN,r_fitsg,hf,and_self,r_add,hw,cast1,r_app,List.length_append,List.map_append,List.map_cons,List.map_nil,rN]
    rw [key]
    cases hz:Lib.decFrom 0 w with
    | none=>exact (hbad _ (hn.trans hz) rfl).symm
    | some z =>
     have ih':=ih (acc++[z]) (by simp [hI])
     simp only
     rw [ih']
     simp only [numsW,hn,hz]
     cases numsW r with
     | none=>rfl
     | some zs=>simp only [Option.map_some,List.append_assoc,List.cons_append,List.nil_append]
theorem s97' (n:Nat) (ws:List (List UInt8)) (hl:ws.length≤1000000) (hne:∀ w∈ws,w≠[]):FN (n+1) 97 [dL 1 rSd (some ws)] =
  match numsW ws with
  | none=>some (0,[.d (.lit (.slice none 0 0)),.d (bl false)])
  | some zs=>some (0,[.d (dL 1 rN (opL zs)),.d (bl true)]):=by
 rw [F97]
 simp only [G97,r_natN,r_liti,r_rows,r_loop,l97b n ws hl hne]
 cases numsW ws with
 | none=>simp only [r_bnd0,r_ld0,r_litNil,r_out]
 | some zs=>simp only [r_bnd1,r_ln0,r_lns,r_lr0,r_lrs,r_len,List.length_map,r_eqN,if_true,r_slNm,r_litb,r_out]
end Go.VE
