/- Texts, plainly: lines, words and numbers as Go's library gives them are those of a plain reading. -/
import Derived.Lib.FieldsP
import Derived.Lib.SplitLaws
import Derived.Lib.AtoiAll
import Derived.Lib.Atoi
import Derived.Lib.ItoaNum
import Derived.Laws.RangeString
import Derived.Laws.RangeAny
import Derived.Test.YtipddjojdgapiaaGreatDoorMh
namespace Go.VE
open Go.Lib
set_option maxRecDepth 100000
theorem decDigits_ten {v:Nat} (h:¬ v < 10):decDigits v=decDigits (v / 10)++[UInt8.ofNat (48+v % 10)]:=by rw [decDigits,dif_neg h]
theorem dec_ne (v:Nat):decDigits v≠[]:=by
 by_cases h:v < 10
 ·rw [decDigits_one h];simp
 ·rw [decDigits_ten h];simp
end Go.VE
namespace Go.VE
open Go.Lib
set_option maxRecDepth 100000
structure Rec where
 p:Int
 no:Int
 kd:Int
 dy:Int
 kn:Int
 op:Int
 on:Int
 tx:List UInt8
deriving DecidableEq
def okItem (p n:Int):Bool:=decide (0≤p∧p≤5∧0≤n∧n≤9999)
def plainB (s:List UInt8):Bool:=s.all fun b=>decide (32≤b.toNat∧b.toNat≤126)
def okR (r:Rec):Bool:=okItem r.p r.no&&decide (0≤r.kd∧r.kd≤60∧0≤r.dy∧r.dy≤4166∧0≤r.kn∧r.kn≤4166∧r.tx.length≤160)&&plainB r.tx &&
 (if r.kd≠0 then decide (r.op=0∧r.on=0) else decide (r.dy=0∧r.tx=[]∧r.op=r.p∧r.on < r.no)&&okItem r.op r.on)
def dcZ (z:Int):List UInt8:=decDigits z.toNat
def numsR (r:Rec):List Int:=[r.p,r.no,r.kd,r.dy,r.kn,r.op,r.on]
def txt (r:Rec):List UInt8:=(numsR r).flatMap (fun z=>dcZ z++[32])++r.tx
def cutSp:List UInt8→Option (List UInt8×List UInt8)
 | []=>none
 | b::r=>if b=32 then some ([],r) else (cutSp r).map fun x=>(b::x.1,x.2)
theorem cut_inv:∀ (s a r:List UInt8),cutSp s=some (a,r)→s=a++32::r∧∀ b∈a,b≠32
 | [],a,r,h=>by cases h
 | b::s,a,r,h=>by
  rw [cutSp] at h
  split at h
  ·rename_i hb
   simp only [Option.some.injEq,Prod.mk.injEq] at h
   obtain ⟨rfl,rfl⟩:=h
   exact ⟨by rw [hb];rfl,by simp⟩
  ·rename_i hb
   obtain ⟨⟨a',r'⟩,h1,h2⟩:=Option.map_eq_some_iff.1 h
   simp only [Prod.mk.injEq] at h2
   obtain ⟨rfl,rfl⟩:=h2
   obtain ⟨h3,h4⟩:=cut_inv s a' r' h1
   refine ⟨by rw [h3];rfl,?_⟩
   intro x hx
   rcases List.mem_cons.1 hx with rfl | hx
   ·exact hb
   ·exact h4 x hx
def numsG (f:List UInt8→Option Nat):Nat→List UInt8→Option (List Nat×List UInt8)
 | 0,s=>some ([],s)
 | k+1,s=>match cutSp s with
  | none=>none
  | some (w,r)=>match f w with
   | none=>none
   | some n=>(numsG f k r).map fun x=>(n::x.1,x.2)
def mkR:List Nat→List UInt8→Option Rec
 | [a,b,c,d,e,f,g],t=>some ⟨a,b,c,d,e,f,g,t⟩
 | _,_=>none
def numA (w:List UInt8):Option Nat:=match atoiAll w with
 | .ok v=>if v < 0∨decDigits v.toNat≠w then none else some v.toNat
 | _=>none
end Go.VE
namespace Go.VE
open Go.Lib
set_option maxRecDepth 100000
theorem dec_lenK:∀ (k v:Nat),v < 10 ^ (k+1)→(decDigits v).length≤k+1
 | 0,v,h=>by rw [decDigits_one (by omega)];simp
 | k+1,v,h=>by
  by_cases h10:v < 10
  ·rw [decDigits_one h10];simp
  ·rw [decDigits_ten h10,List.length_append]
   have:=dec_lenK k (v / 10) (by rw [Nat.pow_succ] at h;omega)
   simp only [List.length_cons,List.length_nil]
   omega
theorem okR_small {r:Rec} (h:okR r=true):∀ z∈numsR r,0≤z∧z≤9999:=by
 simp only [okR,okItem,Bool.and_eq_true,decide_eq_true_eq] at h
 obtain ⟨⟨⟨h1,h2⟩,_⟩,h3⟩:=h
 intro z hz
 simp only [numsR,List.mem_cons,List.not_mem_nil,or_false] at hz
 have h4:0≤r.op∧r.op≤9999∧0≤r.on∧r.on≤9999:=by
  split at h3
  ·simp only [decide_eq_true_eq] at h3;omega
  ·simp only [Bool.and_eq_true,decide_eq_true_eq] at h3;omega
 rcases hz with rfl | rfl | rfl | rfl | rfl | rfl | rfl<;>omega
end Go.VE
namespace Go.VE
open Go.Lib
set_option maxRecDepth 100000
def okB (b:UInt8):Bool:=decide (32≤b.toNat∧b.toNat≤126)
def duo:List UInt8→List (UInt8×UInt8)
 | []=>[]
 | [a]=>[(a,32)]
 | a::b::r=>(a,b)::duo r
def addB (x y:UInt8):UInt8:=UInt8.ofNat (32+(x.toNat - 32+(y.toNat - 32)) % 95)
def pick3 (q:Nat) (x:UInt8×UInt8):UInt8:=if q=0 then x.1 else if q=1 then x.2 else addB x.1 x.2
def third (q:Nat) (s:List UInt8):List UInt8:=(duo s).map (pick3 q)
theorem duo_len:∀ s:List UInt8,(duo s).length=(s.length+1) / 2
 | []=>rfl
 | [a]=>by simp [duo]
 | a::b::r=>by
  simp only [duo,List.length_cons,duo_len r]
  omega
theorem okB_bnd {b:UInt8} (h:okB b=true):32≤b.toNat∧b.toNat≤126:=by simpa [okB] using h
theorem addB_nat {x y:UInt8}:(addB x y).toNat=32+(x.toNat - 32+(y.toNat - 32)) % 95:=by
 have:(x.toNat - 32+(y.toNat - 32)) % 95 < 95:=Nat.mod_lt _ (by decide)
 simp only [addB,UInt8.toNat_ofNat']
 omega
theorem third_len (q:Nat) (s:List UInt8):(third q s).length=(s.length+1) / 2:=by rw [third,List.length_map,duo_len]
structure Strp where
 no:Int
 sz:Int
 tx:List UInt8
deriving DecidableEq
def strip (no:Nat) (s:List UInt8) (q:Nat):Strp:=⟨no,s.length,third q s⟩
theorem plainB_ok (s:List UInt8):plainB s=s.all okB:=rfl
theorem dec_len4 {n:Nat} (h:n≤9999):1≤(decDigits n).length∧(decDigits n).length≤4 :=
 ⟨List.length_pos_iff.2 (dec_ne n),dec_lenK 3 n (by omega)⟩
end Go.VE
namespace Go.VE
open Go.Lib
set_option maxRecDepth 100000
def many (l:List Rec) (k:Int):Nat:=l.countP fun r=>decide (r.p=k)
def ofP (l:List Rec) (k:Int):List Rec:=l.filter fun r=>decide (r.p=k)
theorem ofP_len (l:List Rec) (k:Int):(ofP l k).length=many l k:=List.countP_eq_length_filter.symm
def nextR (l:List Rec) (r:Rec):Bool:=decide (l.length < 60)&&okR r&&decide (r.no=(many l r.p:Int))
def logG:List Rec→List Rec→Bool
 | _,[]=>true
 | acc,r::t=>nextR acc r&&logG (acc++[r]) t
def isLog (l:List Rec):Bool:=logG [] l
theorem logG_snoc (r:Rec):∀ (l acc:List Rec),logG acc (l++[r])=(logG acc l&&nextR (acc++l) r)
 | [],acc=>by simp [logG]
 | x::t,acc=>by
  rw [List.cons_append,logG,logG,logG_snoc r t,List.append_assoc,List.singleton_append,Bool.and_assoc]
theorem isLog_snoc (l:List Rec) (r:Rec):isLog (l++[r])=(isLog l&&nextR l r):=by rw [isLog,logG_snoc,isLog,List.nil_append]
theorem log_ind {P:List Rec→Prop} (h0:P []) (h1:∀ l r,isLog l=true→nextR l r=true→P l→P (l++[r])):∀ l,isLog l=true→P l:=by
 have key:∀ m:List Rec,isLog m.reverse=true→P m.reverse:=by
  intro m
  induction m with
  | nil=>intro _;exact h0
  | cons r m ih =>
   intro h
   rw [List.reverse_cons] at h ⊢
   rw [isLog_snoc,Bool.and_eq_true] at h
   exact h1 _ _ h.1 h.2 (ih h.1)
 intro l h
 have:=key l.reverse
 rw [List.reverse_reverse] at this
 exact this h
theorem next_iff {l:List Rec} {r:Rec}:nextR l r=true↔l.length < 60∧okR r=true∧r.no=(many l r.p:Int):=by
 simp only [nextR,Bool.and_eq_true,decide_eq_true_eq,and_assoc]
theorem ofP_snoc (l:List Rec) (r:Rec) (k:Int):ofP (l++[r]) k=ofP l k++if r.p=k then [r] else []:=by
 unfold ofP
 rw [List.filter_append]
 by_cases h:r.p=k<;>simp [h]
theorem ofP_mem {l:List Rec} {k:Int} {r:Rec}:r∈ofP l k↔r∈l∧r.p=k:=by simp [ofP]
theorem many_snoc (l:List Rec) (r:Rec) (k:Int):many (l++[r]) k=many l k+if r.p=k then 1 else 0:=by
 rw [←ofP_len,ofP_snoc,List.length_append,ofP_len]
 by_cases h:r.p=k<;>simp [h]
theorem log_len {l:List Rec} (h:isLog l=true):l.length≤60:=by
 refine log_ind (P:=fun l=>l.length≤60) (by simp) ?_ l h
 intro l r _ hn _
 have:=(next_iff.1 hn).1
 simp only [List.length_append,List.length_cons,List.length_nil]
 omega
theorem log_okR {l:List Rec} (h:isLog l=true):∀ r∈l,okR r=true:=by
 refine log_ind (P:=fun l=>∀ r∈l,okR r=true) (by simp) ?_ l h
 intro l r _ hn ih x hx
 rcases List.mem_append.1 hx with hx | hx
 ·exact ih x hx
 ·rw [List.mem_singleton.1 hx]
  exact (next_iff.1 hn).2.1
theorem log_no {l:List Rec} (h:isLog l=true):∀ (k:Int) (n:Nat) (r:Rec),(ofP l k)[n]?=some r→r.no=n:=by
 refine log_ind (P:=fun l=>∀ (k:Int) (n:Nat) (r:Rec),(ofP l k)[n]?=some r→r.no=n) (by intro k n r h;simp [ofP] at h) ?_ l h
 intro l r _ hn ih k n x hx
 rw [ofP_snoc] at hx
 by_cases hr:r.p=k
 ·rw [if_pos hr] at hx
  by_cases hk:n < (ofP l k).length
  ·rw [List.getElem?_append_left hk] at hx
   exact ih k n x hx
  ·rw [List.getElem?_append_right (by omega)] at hx
   rcases Nat.lt_or_ge (n - (ofP l k).length) 1 with h1 | h1
   ·have h0:n=(ofP l k).length:=by omega
    rw [h0,Nat.sub_self] at hx
    have hx:r=x:=by simpa using hx
    rw [←hx,(next_iff.1 hn).2.2,hr,h0,ofP_len]
   ·rw [List.getElem?_eq_none (by simpa using h1)] at hx
    cases hx
 ·rw [if_neg hr,List.append_nil] at hx
  exact ih k n x hx
theorem log_no_lt {l:List Rec} (h:isLog l=true) {r:Rec} (hr:r∈l):0≤r.no∧r.no < many l r.p:=by
 obtain ⟨n,hn,e⟩:=List.mem_iff_getElem.1 (ofP_mem.2 ⟨hr,rfl⟩:r∈ofP l r.p)
 have h1:=log_no h r.p n r (by rw [List.getElem?_eq_getElem hn,e])
 rw [ofP_len] at hn
 omega
theorem log_par {r:Rec} (h:okR r=true):0≤r.p∧r.p≤5:=by
 simp only [okR,okItem,Bool.and_eq_true,decide_eq_true_eq] at h
 omega
def bef (a b:Rec):Prop:=a.p < b.p∨(a.p=b.p∧a.no < b.no)
instance (a b:Rec):Decidable (bef a b):=by unfold bef;infer_instance
def parishes:List Int:=[0,1,2,3,4,5]
def srt (l:List Rec):List Rec:=parishes.flatMap (ofP l)
theorem srt_sorted {l:List Rec} (h:isLog l=true):(srt l).Pairwise bef:=by
 rw [srt,List.pairwise_flatMap]
 constructor
 ·intro k _
  rw [List.pairwise_iff_getElem]
  intro i j hi hj hij
  have h1:=log_no h k i _ (List.getElem?_eq_getElem hi)
  have h2:=log_no h k j _ (List.getElem?_eq_getElem hj)
  have p1:=(ofP_mem.1 (List.getElem_mem hi)).2
  have p2:=(ofP_mem.1 (List.getElem_mem hj)).2
  exact .inr ⟨by rw [p1,p2],by omega⟩
 ·have:parishes.Pairwise (· < ·):=by decide
  refine this.imp ?_
  intro a b hab x hx y hy
  rw [ofP_mem] at hx hy
  exact .inl (by rw [hx.2,hy.2];exact hab)
theorem srt_mem {l:List Rec} (h:isLog l=true) {r:Rec}:r∈srt l↔r∈l:=by
 rw [srt,List.mem_flatMap]
 constructor
 ·rintro ⟨k,_,h⟩
  exact (ofP_mem.1 h).1
 ·intro hr
  refine ⟨r.p,?_,ofP_mem.2 ⟨hr,rfl⟩⟩
  have:=log_par (log_okR h r hr)
  simp only [parishes,List.mem_cons,List.not_mem_nil,or_false]
  omega
theorem srt_perm {l:List Rec} (h:isLog l=true):(srt l).Perm l:=by
 rw [List.perm_iff_count]
 intro a
 by_cases ha:a∈l
 ·have hp:=log_par (log_okR h a ha)
  have h1:∀ k:Int,a.p=k→(ofP l k).count a=l.count a:=by
   intro k hk
   exact List.count_filter (by simpa using hk)
  have h0:∀ k:Int,a.p≠k→(ofP l k).count a=0:=by
   intro k hk
   exact List.count_eq_zero.2 fun hm=>hk (ofP_mem.1 hm).2
  have e:(srt l).count a=(ofP l 0).count a+((ofP l 1).count a+((ofP l 2).count a+((ofP l 3).count a+((ofP l 4).count a+(ofP l 5).count a)))):=by
   simp only [srt,parishes,List.flatMap_cons,List.flatMap_nil,List.count_append,List.append_nil]
  rw [e]
  have:a.p=0∨a.p=1∨a.p=2∨a.p=3∨a.p=4∨a.p=5:=by omega
  rcases this with hk | hk | hk | hk | hk | hk <;>
   (rw [h1 _ hk];simp only [h0 0,h0 1,h0 2,h0 3,h0 4,h0 5,hk,ne_eq,Int.reduceEq,not_false_eq_true,Nat.zero_add,Nat.add_zero])
 ·rw [List.count_eq_zero.2 ha,List.count_eq_zero.2 fun hm=>ha ((srt_mem h).1 hm)]
theorem bef_asymm {a b:Rec} (h:bef a b):¬ bef b a:=by unfold bef at h ⊢;omega
theorem sorted_eq {a b:List Rec} (h1:a.Pairwise bef) (h2:b.Pairwise bef) (h:a.Perm b):a=b :=
 List.Perm.eq_of_pairwise (fun _ _ _ _ h1 h2=>absurd h2 (bef_asymm h1)) h1 h2 h
theorem srt_of {l m:List Rec} (h:isLog l=true) (hs:m.Pairwise bef) (hp:m.Perm l):m=srt l :=
 sorted_eq hs (srt_sorted h) (hp.trans (srt_perm h).symm)
def put:List Rec→Rec→List Rec
 | [],r=>[r]
 | x::t,r=>if bef x r then x::put t r else r::x::t
theorem put_perm (r:Rec):∀ l:List Rec,(put l r).Perm (r::l)
 | []=>.refl _
 | x::t=>by
  rw [put]
  split
  ·exact ((put_perm r t).cons x).trans (.swap r x t)
  ·exact .refl _
theorem bef_total {a b:Rec} (h:¬ bef a b) (hk:a.p≠b.p∨a.no≠b.no):bef b a:=by unfold bef at h ⊢;omega
theorem bef_trans {a b c:Rec} (h:bef a b) (h':bef b c):bef a c:=by unfold bef at h h' ⊢;omega
theorem put_sorted (r:Rec):∀ {l:List Rec},l.Pairwise bef→(∀ x∈l,x.p≠r.p∨x.no≠r.no)→(put l r).Pairwise bef
 | [],_,_=>by simp [put]
 | x::t,h,hk=>by
  rw [put]
  rw [List.pairwise_cons] at h
  split
  ·rename_i hb
   rw [List.pairwise_cons]
   refine ⟨?_,put_sorted r h.2 fun y hy=>hk y (by simp [hy])⟩
   intro y hy
   rcases List.mem_cons.1 ((put_perm r t).mem_iff.1 hy) with rfl | hy
   ·exact hb
   ·exact h.1 y hy
  ·rename_i hb
   have hb:=bef_total hb (hk x (by simp))
   rw [List.pairwise_cons]
   refine ⟨?_,List.pairwise_cons.2 h⟩
   intro y hy
   rcases List.mem_cons.1 hy with rfl | hy
   ·exact hb
   ·exact bef_trans hb (h.1 y hy)
def insort (l:List Rec):List Rec:=l.foldl put []
theorem next_new {l:List Rec} (h:isLog l=true) {r:Rec} (hn:nextR l r=true):∀ x∈l,x.p≠r.p∨x.no≠r.no:=by
 intro x hx
 by_cases hp:x.p=r.p
 ·have h1:=(log_no_lt h hx).2
  rw [hp] at h1
  have h2:=(next_iff.1 hn).2.2
  right
  omega
 ·exact .inl hp
theorem insort_eq {l:List Rec} (h:isLog l=true):insort l=srt l:=by
 refine log_ind (P:=fun l=>insort l=srt l) rfl ?_ l h
 intro l r hl hn ih
 have e:insort (l++[r])=put (insort l) r:=by simp [insort]
 rw [e,ih]
 have hlog:isLog (l++[r])=true:=by rw [isLog_snoc,hl,hn];rfl
 refine srt_of hlog (put_sorted r (srt_sorted hl) ?_) ?_
 ·intro x hx
  exact next_new hl hn x ((srt_mem hl).1 hx)
 ·exact (put_perm r _).trans (((srt_perm hl).cons r).trans (List.perm_append_comm (l₁:=[r]) (l₂:=l)))
end Go.VE
namespace Go.VE
open Go.RowKit
def sD (l:List UInt8):D:=.lit (.string ⟨l.toArray⟩)
def dInt:D→Option Int
 | .lit (.int .i64 z)=>some z
 | _=>none
def dBool:D→Option Bool
 | .lit (.bool b)=>some b
 | _=>none
def dStr:D→Option (List UInt8)
 | .lit (.string t)=>some t.data.toList
 | _=>none
def dNil:D→Bool
 | .lit (.slice none 0 0)=>true
 | _=>false
def recR (r:Rec):List D:=[il r.p,il r.no,il r.kd,il r.dy,il r.kn,il r.op,il r.on,sD r.tx]
def recD:List D→Option Rec
 | [a,b,c,d,e,f,g,t]=>match dInt a with
  | none=>none
  | some a=>match dInt b with
   | none=>none
   | some b=>match dInt c with
    | none=>none
    | some c=>match dInt d with
     | none=>none
     | some d=>match dInt e with
      | none=>none
      | some e=>match dInt f with
       | none=>none
       | some f=>match dInt g with
        | none=>none
        | some g=>match dStr t with
         | none=>none
         | some t=>some ⟨a,b,c,d,e,f,g,t⟩
 | _=>none
def recsD:List (List D)→Option (List Rec)
 | []=>some []
 | r::rs=>match recD r with
  | none=>none
  | some x=>match recsD rs with
   | none=>none
   | some l=>some (x::l)
def diffK (l:List Rec):Bool:=decide (l.Pairwise fun x y=>x.p≠y.p∨x.no≠y.no)
def zeroR:Rec:=⟨0,0,0,0,0,0,0,[]⟩
def tText (xs:List D):Out:=match recD xs with
 | none=>none
 | some r=>if okR r=true then some (0,[.d (sD (txt r))]) else none
def readR:Option Rec→List D
 | some r=>recR r++[bl true]
 | none=>recR zeroR++[bl false]
def tSorted (Fn:Nat→List D→Out):List D→Out
 | [x]=>match Fn 83 [x] with
  | some (1,[.d y])=>if dNil x=true∧dNil y=true then some (0,[.d (.lit (.slice none 0 0))]) else none
  | some (0,[.r rows])=>if dNil x=true then none else if rows.length≤1000 then (match recsD rows with
   | none=>none
   | some l=>if diffK l=true then some (0,[.d (.sl 8 ((insort l).map recR))]) else none) else none
  | _=>none
 | _=>none
def tThirds:List D→Out
 | [x]=>match dStr x with
  | none=>none
  | some s=>if s≠[]∧s.length≤1000∧s.all okB=true then some (0,[.d (sD (third 0 s)),.d (sD (third 1 s)),.d (sD (third 2 s))]) else none
 | _=>none
def stripD:List Yr→Option (Int×Int×List UInt8×Int×Int×List UInt8×Int×Int×List UInt8)
 | [.d a,.d b,.d c,.d d,.d e,.d f,.d g,.d h,.d i]=>match dInt a with
  | none=>none
  | some a=>match dInt b with
   | none=>none
   | some b=>match dStr c with
    | none=>none
    | some c=>match dInt d with
     | none=>none
     | some d=>match dInt e with
      | none=>none
      | some e=>match dStr f with
       | none=>none
       | some f=>match dInt g with
        | none=>none
        | some g=>match dInt h with
         | none=>none
         | some h=>match dStr i with
          | none=>none
          | some i=>some (a,b,c,d,e,f,g,h,i)
 | _=>none
def isOK:Out→Bool
 | some (0,[.d e])=>(match dInt e with | some z=>decide (z=0) | none=>false)
 | _=>false
def isNew:Out→Bool
 | some (0,[.d i,.d e])=>(match dBool i with | some false=>(match dInt e with | some z=>decide (z=0) | none=>false) | _=>false)
 | _=>false
def outS:Out→Option (List Yr)
 | some (0,ys)=>some ys
 | _=>none
def isI (x:D) (z:Int):Bool:=match dInt x with
 | some k=>decide (k=z)
 | none=>false
def isNil1:Out→Bool
 | some (1,[.d y])=>dNil y
 | _=>false
def isSame:Out→Int→Int→Int→Bool
 | some (0,[.d x,.d y,.d z,.d a,.d b,.d c]),p,q,r=>dNil x&&dNil y&&dNil z&&isI a p&&isI b q&&isI c r
 | _,_,_,_=>false
def tWrite (Fn:Nat→List D→Out):List D→Out
 | [a0,a1,a2,a3,a4,a5,l,r0,r1,r2,r3,r4,r5,r6,r7] =>
  if (dNil a0&&dNil a1&&dNil a2&&dNil l)=true then match dInt a3 with
   | none=>none
   | some b3=>match dInt a4 with
    | none=>none
    | some b4=>match dInt a5 with
     | none=>none
     | some b5=>match recD [r0,r1,r2,r3,r4,r5,r6,r7] with
      | none=>none
      | some r=>if (isOK (Fn 31 [.lit (.slice none 0 0),.lit (.slice none 0 0),.lit (.slice none 0 0),il b3,il b4,il b5,.lit (.slice none 0 0)])&&isNew (Fn 81 (.lit (.slice none 0 0)::recR r))&&isSame (Fn 82 [.lit (.slice none 0 0),.lit (.slice none 0 0),.lit (.slice none 0 0),il b3,il b4,il b5]) b3 b4 b5&&isNil1 (Fn 83 [.lit (.slice none 0 0)]))=true then (match outS (Fn 71 (recR r++[il 0])) with
       | none=>none
       | some ys=>match stripD ys with
        | none=>none
        | some (n0,z0,t0,n1,z1,t1,n2,z2,t2)=>some (0,[.d (.sl 3 [[il n0,il z0,sD t0]]),.d (.sl 3 [[il n1,il z1,sD t1]]),.d (.sl 3 [[il n2,il z2,sD t2]]),.d (il b3),.d (il b4),.d (il b5),.d (.sl 8 [recR r]),.d (il 0)])) else none
  else none
 | _=>none
def tPlain:List D→Out
 | [x]=>match dStr x with
  | none=>none
  | some s=>if s.length≤1000 then some (0,[.d (bl (s.all okB))]) else none
 | _=>none
def tRows (Fn:Nat→List D→Out):Nat→List D→Out
 | 0,_=>some (0,[.d (bl true)])
 | k+1,xs=>match Fn 153 [.sl 1 ((xs.take 6).map fun x=>[x]),.fn 154 []] with
  | some (0,[.d b])=>(match dBool b with
   | some true=>some (0,[.d (bl false)])
   | some false=>tRows Fn k (xs.drop 6)
   | none=>none)
  | _=>none
def tCounts (Fn:Nat→List D→Out) (xs:List D):Out:=if xs.length=36∧(xs.all fun x=>(dInt x).isSome)=true then tRows Fn 6 xs else none
def isT:Out→Option Bool
 | some (0,[.d b])=>dBool b
 | _=>none
def readO (Fn:Nat→List D→Out) (s:List UInt8):Option (Option Rec):=match numsG numA 7 s with
 | none=>some none
 | some (l,t)=>match mkR l t with
  | none=>none
  | some r=>match isT (Fn 69 (recR r)) with
   | some true=>some (some r)
   | some false=>some none
   | none=>none
def tRead (Fn:Nat→List D→Out):List D→Out
 | [x]=>match dStr x with
  | none=>none
  | some s=>if s.length≤281474976710656 then (match readO Fn s with
   | none=>none
   | some o=>some (0,(readR o).map .d)) else none
 | _=>none
def tThird3 (Fn:Nat→List D→Out):List D→Out
 | [r0,r1,r2,r3,r4,r5,r6,r7,no]=>match recD [r0,r1,r2,r3,r4,r5,r6,r7] with
  | none=>none
  | some r=>match dInt no with
   | none=>none
   | some no=>match isT (Fn 69 (recR r)) with
    | none=>none
    | some false=>some (0,[.d (.lit (.slice none 0 0)),.d (il 80)])
    | some true=>match isT (Fn 70 [il no,il 0,il 59]) with
     | none=>none
     | some false=>some (0,[.d (.lit (.slice none 0 0)),.d (il 1)])
     | some true=>match outS (Fn 71 (recR r++[il no])) with
      | none=>none
      | some ys=>match stripD ys with
       | none=>none
       | some (n0,z0,t0,n1,z1,t1,n2,z2,t2)=>match Fn 72 [.sl 3 [[il n0,il z0,sD t0],[il n1,il z1,sD t1],[il n2,il z2,sD t2]]] with
        | some (0,[.r rows])=>some (0,[.d (.sl 3 rows),.d (il 0)])
        | _=>none
 | _=>none
def tStrips (Fn:Nat→List D→Out):Nat→List (List D)→Option (List (List D)×List (List D)×List (List D))
 | _,[]=>some ([],[],[])
 | i,r::rs=>match recD r with
  | none=>none
  | some x=>match outS (Fn 71 (recR x++[il i])) with
   | none=>none
   | some ys=>match stripD ys with
    | none=>none
    | some (n0,z0,t0,n1,z1,t1,n2,z2,t2)=>match tStrips Fn (i+1) rs with
     | none=>none
     | some (a,b,c)=>some ([il n0,il z0,sD t0]::a,[il n1,il z1,sD t1]::b,[il n2,il z2,sD t2]::c)
def slZ:List (List D)→D
 | []=>.lit (.slice none 0 0)
 | rows=>.sl 3 rows
def isSl:D→Bool
 | .sl _ _=>true
 | x=>dNil x
def tBind (Fn:Nat→List D→Out):List D→Out
 | [x]=>match (if dNil x=true then some [] else match x with
   | .sl s rows=>if s=8∧rows.length≤1000 then some rows else none
   | _=>none) with
  | none=>none
  | some rows=>match tStrips Fn 0 rows with
   | none=>none
   | some (a,b,c)=>match outS (Fn 27 [slZ a,slZ b,slZ c,il 0,il 0,il 0]) with
    | some [.d x0,.d x1,.d x2,.d y0,.d y1,.d y2]=>if (isSl x0&&isSl x1&&isSl x2)=true then (match dInt y0 with
     | none=>none
     | some y0=>match dInt y1 with
      | none=>none
      | some y1=>match dInt y2 with
       | none=>none
       | some y2=>some (0,[.d x0,.d x1,.d x2,.d (il y0),.d (il y1),.d (il y2)])) else none
    | _=>none
 | _=>none
def BB (Fn:Nat→List D→Out) (f:Nat) (xs:List D):Out :=
 bif Nat.beq f 103 then tText xs else bif Nat.beq f 86 then tRead Fn xs else bif Nat.beq f 121 then tSorted Fn xs else bif Nat.beq f 130 then tThirds xs else bif Nat.beq f 129 then tPlain xs else
 bif Nat.beq f 144 then tCounts Fn xs else bif Nat.beq f 13 then tThird3 Fn xs else bif Nat.beq f 88 then tBind Fn xs else bif Nat.beq f 21 then tWrite Fn xs else none
def isTold (f:Nat):Bool:=Nat.beq f 103||Nat.beq f 86||Nat.beq f 121||Nat.beq f 130||Nat.beq f 129||Nat.beq f 144||Nat.beq f 13||Nat.beq f 88||Nat.beq f 21
theorem BB_not {Fn:Nat→List D→Out} {f:Nat} {xs:List D} (h:isTold f=false):BB Fn f xs=none:=by
 simp only [isTold,Bool.or_eq_false_iff] at h
 obtain ⟨⟨⟨⟨⟨⟨⟨⟨h1,h2⟩,h3⟩,h4⟩,h5⟩,h6⟩,h7⟩,h8⟩,h9⟩:=h
 unfold BB
 rw [h1,h2,h3,h4,h5,h6,h7,h8,h9]
 rfl
theorem dInt_some {x:D} {z:Int} (h:dInt x=some z):x=il z:=by
 unfold dInt at h
 split at h
 ·cases h;rfl
 ·cases h
theorem dBool_some {x:D} {z:Bool} (h:dBool x=some z):x=bl z:=by
 unfold dBool at h
 split at h
 ·cases h;rfl
 ·cases h
theorem dStr_some {x:D} {s:List UInt8} (h:dStr x=some s):x=sD s:=by
 unfold dStr at h
 split at h
 ·cases h;simp [sD]
 ·cases h
theorem dNil_some {x:D} (h:dNil x=true):x=.lit (.slice none 0 0):=by
 unfold dNil at h
 split at h
 ·rfl
 ·cases h
theorem recD_some {xs:List D} {r:Rec} (h:recD xs=some r):xs=recR r:=by
 unfold recD at h
 split at h
 ·split at h
  ·cases h
  rename_i e1
  split at h
  ·cases h
  rename_i e2
  split at h
  ·cases h
  rename_i e3
  split at h
  ·cases h
  rename_i e4
  split at h
  ·cases h
  rename_i e5
  split at h
  ·cases h
  rename_i e6
  split at h
  ·cases h
  rename_i e7
  split at h
  ·cases h
  rename_i e8
  cases h
  rw [dInt_some e1,dInt_some e2,dInt_some e3,dInt_some e4,dInt_some e5,dInt_some e6,dInt_some e7,dStr_some e8]
  rfl
 ·cases h
theorem recD_of (r:Rec):recD (recR r)=some r:=rfl
theorem recsD_some:∀ {rows:List (List D)} {l:List Rec},recsD rows=some l→rows=l.map recR
 | [],l,h=>by simp only [recsD,Option.some.injEq] at h;subst h;rfl
 | r::rs,l,h=>by
  simp only [recsD] at h
  split at h
  ·cases h
  ·rename_i x hx
   split at h
   ·cases h
   ·rename_i l' hl
    cases h
    rw [recD_some hx,recsD_some hl]
    rfl
theorem recsD_of:∀ l:List Rec,recsD (l.map recR)=some l
 | []=>rfl
 | r::l=>by simp only [List.map_cons,recsD,recD_of,recsD_of l]
theorem BB_high (Fn:Nat→List D→Out) (f:Nat) (xs:List D):BB Fn (f+1000000) xs=none:=by
 have h:∀ k:Nat,k < 1000000→Nat.beq (f+1000000) k=false:=fun k hk=>by
  cases e:Nat.beq (f+1000000) k with
  | false=>rfl
  | true=>have:=Nat.eq_of_beq_eq_true e;omega
 unfold BB
 rw [h 103 (by decide),h 86 (by decide),h 121 (by decide),h 130 (by decide),h 129 (by decide),h 144 (by decide),h 13 (by decide),h 88 (by decide),h 21 (by decide)]
 rfl
end Go.VE
