/- Texts, plainly: lines, words and numbers as Go's library gives them are those of a plain reading. -/
import Derived.Lib.FieldsP
import Derived.Lib.SplitLaws
import Derived.Lib.AtoiAll
import Derived.Lib.Atoi
import Derived.Lib.ItoaNum
import Derived.Laws.RangeString
import Derived.Laws.RangeAny
import Derived.Test.YtipddjojdgapiaaGreatDoorMh
namespace Go.VE
open Go.Lib
set_option maxRecDepth 100000
theorem decFrom_snoc:∀ (u:List UInt8) (acc:Nat) (b:UInt8),decFrom acc (u++[b])=(decFrom acc u).bind fun n=>(digitVal b).map fun d=>n*10+d
 | [],acc,b=>by simp only [List.nil_append,decFrom,Option.bind_some];cases digitVal b<;>rfl
 | c::u,acc,b=>by
  simp only [List.cons_append,decFrom]
  cases digitVal c with
  | none=>rfl
  | some d=>exact decFrom_snoc u _ b
theorem digit_of {b:UInt8} {d:Nat} (h:digitVal b=some d):d < 10∧b=UInt8.ofNat (48+d)∧(d=0↔b=48):=by
 unfold digitVal at h
 split at h
 ·rename_i h0
  injection h with h
  refine ⟨by omega,?_,?_⟩
  ·rw [←h,show 48+(b.toNat - 48)=b.toNat by omega];simp
  ·constructor
   ·intro e;exact UInt8.toNat_inj.1 (by show b.toNat=48;omega)
   ·rintro rfl;simpa using h.symm
 ·cases h
theorem decDigits_ten {v:Nat} (h:¬ v < 10):decDigits v=decDigits (v / 10)++[UInt8.ofNat (48+v % 10)]:=by rw [decDigits,dif_neg h]
theorem dec_ne (v:Nat):decDigits v≠[]:=by
 by_cases h:v < 10
 ·rw [decDigits_one h];simp
 ·rw [decDigits_ten h];simp
theorem dec_zero:∀ (v:Nat) (t:List UInt8),decDigits v=48::t→v=0∧t=[]
 | v,t,e=>by
  by_cases h:v < 10
  ·rw [decDigits_one h] at e
   injection e with e1 e2
   refine ⟨?_,e2.symm⟩
   have:=congrArg UInt8.toNat e1
   simp at this
   omega
  ·rw [decDigits_ten h] at e
   cases hd:decDigits (v / 10) with
   | nil=>exact absurd hd (dec_ne _)
   | cons c u =>
    rw [hd] at e
    simp only [List.cons_append] at e
    injection e with e1 e2
    subst e1
    have:=dec_zero (v / 10) u hd
    omega
termination_by v=>v
decreasing_by omega
theorem dec_digits:∀ (v:Nat),∀ b∈decDigits v,48≤b.toNat∧b.toNat≤57
 | v,b,hb=>by
  by_cases h:v < 10
  ·rw [decDigits_one h] at hb
   simp at hb
   subst hb
   simp
   omega
  ·rw [decDigits_ten h] at hb
   rcases List.mem_append.1 hb with hb | hb
   ·exact dec_digits (v / 10) b hb
   ·simp at hb
    subst hb
    have:v % 10 < 10:=Nat.mod_lt _ (by decide)
    simp
    omega
termination_by v=>v
decreasing_by omega
theorem dec_back:∀ (n:Nat) (w:List UInt8) (v:Nat),w.length=n→w≠[]→decFrom 0 w=some v→(w.head?≠some 48∨w.length=1)→decDigits v=w
 | 0,w,v,hn,hne,_,_=>absurd (List.length_eq_zero_iff.1 hn) hne
 | n+1,w,v,hn,hne,h,hz=>by
  obtain ⟨u,b,rfl⟩:∃ u b,w=u++[b]:=⟨w.dropLast,w.getLast hne,(List.dropLast_concat_getLast hne).symm⟩
  rw [decFrom_snoc] at h
  obtain ⟨a,ha,h⟩:=Option.bind_eq_some_iff.1 h
  obtain ⟨d,hd,rfl⟩:=Option.map_eq_some_iff.1 h
  obtain ⟨h10,hb,h0⟩:=digit_of hd
  by_cases hu:u=[]
  ·subst hu
   simp only [decFrom,Option.some.injEq] at ha
   subst ha
   rw [Nat.zero_mul,Nat.zero_add,decDigits_one h10,hb];rfl
  ·have hlen:0 < u.length:=List.length_pos_iff.2 hu
   have hh:u.head?≠some 48:=by
    rcases hz with hz | hz
    ·(rw [List.head?_append] at hz;cases u with | nil=>exact absurd rfl hu | cons c t=>simpa using hz)
    ·simp at hz;exact absurd hz hu
   have ih:=dec_back n u a (by simp at hn;omega) hu ha (.inl hh)
   have ha0:a≠0:=by
    rintro rfl
    rw [decDigits_one (by decide)] at ih
    rw [←ih] at hh
    exact hh rfl
   have:¬ a*10+d < 10:=by omega
   rw [decDigits_ten this,show (a*10+d) / 10=a by omega,show (a*10+d) % 10=d by omega,ih,hb]
theorem parse_dec:∀ (w:List UInt8) (acc:Nat),acc*10 ^ w.length+10 ^ w.length≤1000000000000000000→parseUint10 acc w=match decFrom acc w with
  | some v=>.ok v
  | none=>Go.Lib.NumEnd.syntax
 | [],acc,_=>rfl
 | b::r,acc,h=>by
  simp only [parseUint10,decFrom,digitVal]
  by_cases hb:48≤b.toNat∧b.toNat≤57
  ·rw [if_pos hb,if_pos hb]
   simp only [List.length_cons,Nat.pow_succ] at h
   have hp:0 < 10 ^ r.length:=Nat.pow_pos (by decide)
   have h1:acc*10*10 ^ r.length+10*10 ^ r.length≤1000000000000000000:=by
    rw [show acc*10*10 ^ r.length=acc*(10 ^ r.length*10) by rw [Nat.mul_assoc,Nat.mul_comm 10]]
    omega
   have h2:acc*10≤acc*10*10 ^ r.length:=Nat.le_mul_of_pos_right _ hp
   rw [if_neg (by omega),if_neg (by omega)]
   simp only
   refine parse_dec r _ ?_
   have:(acc*10+(b.toNat - 48))*10 ^ r.length≤acc*10*10 ^ r.length+9*10 ^ r.length:=by
    rw [Nat.add_mul]
    have:(b.toNat - 48)*10 ^ r.length≤9*10 ^ r.length:=Nat.mul_le_mul_right _ (by omega)
    omega
   omega
  ·rw [if_neg hb,if_neg hb]
end Go.VE
namespace Go.VE
open Go.Lib
set_option maxRecDepth 100000
structure Rec where
 p:Int
 no:Int
 kd:Int
 dy:Int
 kn:Int
 op:Int
 on:Int
 tx:List UInt8
deriving DecidableEq
def okItem (p n:Int):Bool:=decide (0≤p∧p≤5∧0≤n∧n≤9999)
def plainB (s:List UInt8):Bool:=s.all fun b=>decide (32≤b.toNat∧b.toNat≤126)
def okR (r:Rec):Bool:=okItem r.p r.no&&decide (0≤r.kd∧r.kd≤60∧0≤r.dy∧r.dy≤4166∧0≤r.kn∧r.kn≤4166∧r.tx.length≤160)&&plainB r.tx &&
 (if r.kd≠0 then decide (r.op=0∧r.on=0) else decide (r.dy=0∧r.tx=[]∧r.op=r.p∧r.on < r.no)&&okItem r.op r.on)
def dcZ (z:Int):List UInt8:=decDigits z.toNat
def numsR (r:Rec):List Int:=[r.p,r.no,r.kd,r.dy,r.kn,r.op,r.on]
def txt (r:Rec):List UInt8:=(numsR r).flatMap (fun z=>dcZ z++[32])++r.tx
def cutSp:List UInt8→Option (List UInt8×List UInt8)
 | []=>none
 | b::r=>if b=32 then some ([],r) else (cutSp r).map fun x=>(b::x.1,x.2)
theorem cut_app:∀ (a r:List UInt8),(∀ b∈a,b≠32)→cutSp (a++32::r)=some (a,r)
 | [],r,_=>by simp [cutSp]
 | b::a,r,h=>by
  rw [List.cons_append,cutSp,if_neg (h b (by simp)),cut_app a r fun x hx=>h x (by simp [hx])]
  rfl
theorem cut_inv:∀ (s a r:List UInt8),cutSp s=some (a,r)→s=a++32::r∧∀ b∈a,b≠32
 | [],a,r,h=>by cases h
 | b::s,a,r,h=>by
  rw [cutSp] at h
  split at h
  ·rename_i hb
   simp only [Option.some.injEq,Prod.mk.injEq] at h
   obtain ⟨rfl,rfl⟩:=h
   exact ⟨by rw [hb];rfl,by simp⟩
  ·rename_i hb
   obtain ⟨⟨a',r'⟩,h1,h2⟩:=Option.map_eq_some_iff.1 h
   simp only [Prod.mk.injEq] at h2
   obtain ⟨rfl,rfl⟩:=h2
   obtain ⟨h3,h4⟩:=cut_inv s a' r' h1
   refine ⟨by rw [h3];rfl,?_⟩
   intro x hx
   rcases List.mem_cons.1 hx with rfl | hx
   ·exact hb
   ·exact h4 x hx
def numsG (f:List UInt8→Option Nat):Nat→List UInt8→Option (List Nat×List UInt8)
 | 0,s=>some ([],s)
 | k+1,s=>match cutSp s with
  | none=>none
  | some (w,r)=>match f w with
   | none=>none
   | some n=>(numsG f k r).map fun x=>(n::x.1,x.2)
def mkR:List Nat→List UInt8→Option Rec
 | [a,b,c,d,e,f,g],t=>some ⟨a,b,c,d,e,f,g,t⟩
 | _,_=>none
def decG (f:List UInt8→Option Nat) (s:List UInt8):Option Rec :=
 match numsG f 7 s with
 | none=>none
 | some (l,t)=>match mkR l t with
  | none=>none
  | some r=>if okR r=true then some r else none
def num9 (w:List UInt8):Option Nat:=if w=[]∨9 < w.length∨(w.head?=some 48∧1 < w.length) then none else decFrom 0 w
def numA (w:List UInt8):Option Nat:=match atoiAll w with
 | .ok v=>if v < 0∨decDigits v.toNat≠w then none else some v.toNat
 | _=>none
theorem numA_dec {w:List UInt8} {n:Nat} (h:numA w=some n):decDigits n=w:=by
 unfold numA at h
 split at h
 ·split at h
  ·cases h
  ·rename_i h'
   injection h with h
   subst h
   have:=not_or.1 h'
   exact Classical.not_not.1 this.2
 ·cases h
theorem num9_dec {w:List UInt8} {n:Nat} (h:num9 w=some n):decDigits n=w:=by
 unfold num9 at h
 split at h
 ·cases h
 ·rename_i h'
  simp only [not_or] at h'
  refine dec_back _ w n rfl h'.1 h ?_
  by_cases h48:w.head?=some 48
  ·right
   have h1:¬ 1 < w.length:=fun h1=>h'.2.2 ⟨h48,h1⟩
   have h2:=List.length_pos_iff.2 h'.1
   omega
  ·exact .inl h48
end Go.VE
namespace Go.VE
open Go.Lib
set_option maxRecDepth 100000
theorem decFrom_decK:∀ v:Nat,decFrom 0 (decDigits v)=some v
 | v=>by
  by_cases h:v < 10
  ·rw [decDigits_one h]
   simp only [decFrom,digitVal]
   rw [if_pos (by simp;omega)]
   simp
   omega
  ·rw [decDigits_ten h,decFrom_snoc,decFrom_decK (v / 10)]
   have hm:v % 10 < 10:=Nat.mod_lt _ (by decide)
   have hd:digitVal (UInt8.ofNat (48+v % 10))=some (v % 10):=by
    unfold digitVal
    rw [if_pos (by simp;omega)]
    simp
    omega
   simp only [Option.bind_some,hd,Option.map_some]
   congr 1
   omega
termination_by v=>v
decreasing_by omega
theorem dec_lenK:∀ (k v:Nat),v < 10 ^ (k+1)→(decDigits v).length≤k+1
 | 0,v,h=>by rw [decDigits_one (by omega)];simp
 | k+1,v,h=>by
  by_cases h10:v < 10
  ·rw [decDigits_one h10];simp
  ·rw [decDigits_ten h10,List.length_append]
   have:=dec_lenK k (v / 10) (by rw [Nat.pow_succ] at h;omega)
   simp only [List.length_cons,List.length_nil]
   omega
theorem dec_long:∀ (k v:Nat),10 ^ k≤v→k < (decDigits v).length
 | 0,v,_=>List.length_pos_iff.2 (dec_ne v)
 | k+1,v,h=>by
  have hp:0 < 10 ^ k:=Nat.pow_pos (by decide)
  rw [Nat.pow_succ] at h
  rw [decDigits_ten (by omega),List.length_append]
  have:=dec_long k (v / 10) (by omega)
  simp only [List.length_cons,List.length_nil]
  omega
theorem head_dec {v:Nat} (h:(decDigits v).head?=some 48):(decDigits v).length=1:=by
 cases hd:decDigits v with
 | nil=>rw [hd] at h;cases h
 | cons c t =>
  rw [hd] at h
  simp at h
  subst h
  rw [(dec_zero v t hd).2]
  rfl
theorem num9_of {n:Nat} (h:n≤999999999):num9 (decDigits n)=some n:=by
 have hl:=dec_lenK 8 n (by omega)
 rw [num9,if_neg,decFrom_decK]
 rintro (h1 | h1 | ⟨h1,h2⟩)
 ·exact dec_ne n h1
 ·omega
 ·have:=head_dec h1;omega
theorem num9_none {n:Nat} (h:¬ n≤999999999):num9 (decDigits n)=none:=by
 have hl:=dec_long 9 n (by omega)
 rw [num9,if_pos (.inr (.inl hl))]
theorem atoi_dec {n:Nat} (h:n≤999999999):atoiAll (decDigits n)=.ok (n:Int):=by
 have hl:=dec_lenK 8 n (by omega)
 cases hd:decDigits n with
 | nil=>exact absurd hd (dec_ne n)
 | cons c r =>
  have hc:=dec_digits n c (by rw [hd];simp)
  have hp:=parse_dec (c::r) 0 (by
   rw [hd] at hl
   have:10 ^ (c::r).length≤10 ^ 9:=Nat.pow_le_pow_right (by decide) hl
   omega)
  rw [←hd,decFrom_decK,hd] at hp
  simp only [atoiAll]
  rw [if_neg (by omega),parseMag,if_neg (by simp),hp]
  have hneg:¬ c.toNat=45:=by omega
  simp only [hneg,not_false_eq_true,true_and,false_and,if_false]
  rw [if_neg (by omega)]
theorem numA_of {n:Nat} (h:n≤999999999):numA (decDigits n)=some n:=by
 rw [numA,atoi_dec h]
 simp only
 rw [if_neg (by simp)]
 simp
theorem num_same (w:List UInt8):(∃ n,n≤999999999∧numA w=some n∧num9 w=some n)∨(num9 w=none∧(numA w=none∨∃ n,999999999 < n∧numA w=some n)):=by
 cases h9:num9 w with
 | some n =>
  have hw:=num9_dec h9
  subst hw
  by_cases hn:n≤999999999
  ·exact .inl ⟨n,hn,numA_of hn,rfl⟩
  ·rw [num9_none hn] at h9;cases h9
 | none =>
  refine .inr ⟨rfl,?_⟩
  cases hA:numA w with
  | none=>exact .inl rfl
  | some n =>
   refine .inr ⟨n,?_,rfl⟩
   have hw:=numA_dec hA
   subst hw
   rcases Nat.lt_or_ge 999999999 n with h | h
   ·exact h
   ·rw [num9_of h] at h9;cases h9
theorem nums_same:∀ (k:Nat) (s:List UInt8),numsG numA k s=numsG num9 k s∨(numsG num9 k s=none∧∃ l t,numsG numA k s=some (l,t)∧∃ n∈l,999999999 < n)
 | 0,s=>.inl rfl
 | k+1,s=>by
  simp only [numsG]
  cases hc:cutSp s with
  | none=>exact .inl rfl
  | some x =>
   obtain ⟨w,r⟩:=x
   simp only
   rcases num_same w with ⟨n,hn,hA,h9⟩ | ⟨h9,hA | ⟨n,hn,hA⟩⟩
   ·rw [hA,h9]
    simp only
    rcases nums_same k r with h | ⟨h,l,t,h1,m,h2,h3⟩
    ·rw [h];exact .inl rfl
    ·refine .inr ⟨by rw [h];rfl,n::l,t,by rw [h1];rfl,m,List.mem_cons_of_mem _ h2,h3⟩
   ·rw [hA,h9];exact .inl rfl
   ·rw [hA,h9]
    simp only
    cases hr:numsG numA k r with
    | none=>exact .inl rfl
    | some y=>exact .inr ⟨by trivial,n::y.1,y.2,rfl,n,by simp,hn⟩
theorem mkR_some {l:List Nat} {t:List UInt8} {r:Rec} (h:mkR l t=some r):l.map (fun n:Nat=>(n:Int))=numsR r∧r.tx=t:=by
 match l,h with
 | [a,b,c,d,e,f,g],h =>
  simp only [mkR,Option.some.injEq] at h
  subst h
  exact ⟨rfl,rfl⟩
theorem okR_small {r:Rec} (h:okR r=true):∀ z∈numsR r,0≤z∧z≤9999:=by
 simp only [okR,okItem,Bool.and_eq_true,decide_eq_true_eq] at h
 obtain ⟨⟨⟨h1,h2⟩,_⟩,h3⟩:=h
 intro z hz
 simp only [numsR,List.mem_cons,List.not_mem_nil,or_false] at hz
 have h4:0≤r.op∧r.op≤9999∧0≤r.on∧r.on≤9999:=by
  split at h3
  ·simp only [decide_eq_true_eq] at h3;omega
  ·simp only [Bool.and_eq_true,decide_eq_true_eq] at h3;omega
 rcases hz with rfl | rfl | rfl | rfl | rfl | rfl | rfl<;>omega
theorem decG_same (s:List UInt8):decG numA s=decG num9 s:=by
 unfold decG
 rcases nums_same 7 s with h | ⟨h,l,t,h1,n,h2,h3⟩
 ·rw [h]
 ·rw [h,h1]
  simp only
  cases hr:mkR l t with
  | none=>rfl
  | some r =>
   simp only
   rw [if_neg]
   intro hok
   have h4:=okR_small hok (n:Int) (by
    rw [←(mkR_some hr).1]
    exact List.mem_map.2 ⟨n,h2,rfl⟩)
   omega
theorem dec_no32 (n:Nat):∀ b∈decDigits n,b≠32:=by
 rintro b hb rfl
 have:=dec_digits n 32 hb
 simp at this
theorem nums_of {f:List UInt8→Option Nat} (hf:∀ n:Nat,n≤9999→f (decDigits n)=some n):∀ (l:List Nat) (t:List UInt8),(∀ n∈l,n≤9999)→numsG f l.length (l.flatMap (fun n=>decDigits n++[32])++t)=some (l,t)
 | [],t,_=>rfl
 | n::l,t,h=>by
  have e:((n::l).flatMap (fun n=>decDigits n++[32])++t)=decDigits n++32::(l.flatMap (fun n=>decDigits n++[32])++t):=by simp
  rw [e,List.length_cons,numsG,cut_app _ _ (dec_no32 n)]
  simp only
  rw [hf n (h n (by simp))]
  simp only
  rw [nums_of hf l t fun m hm=>h m (by simp [hm])]
  rfl
theorem dec_txt {f:List UInt8→Option Nat} (hf:∀ n:Nat,n≤9999→f (decDigits n)=some n) {r:Rec} (h:okR r=true):decG f (txt r)=some r:=by
 have hs:=okR_small h
 obtain ⟨p,no,kd,dy,kn,op,on,tx⟩:=r
 simp only [numsR,List.mem_cons,List.not_mem_nil,or_false,forall_eq_or_imp,forall_eq] at hs
 obtain ⟨h1,h2,h3,h4,h5,h6,h7⟩:=hs
 obtain ⟨a,rfl⟩:=Int.eq_ofNat_of_zero_le h1.1
 obtain ⟨b,rfl⟩:=Int.eq_ofNat_of_zero_le h2.1
 obtain ⟨c,rfl⟩:=Int.eq_ofNat_of_zero_le h3.1
 obtain ⟨d,rfl⟩:=Int.eq_ofNat_of_zero_le h4.1
 obtain ⟨e,rfl⟩:=Int.eq_ofNat_of_zero_le h5.1
 obtain ⟨u,rfl⟩:=Int.eq_ofNat_of_zero_le h6.1
 obtain ⟨v,rfl⟩:=Int.eq_ofNat_of_zero_le h7.1
 have e1:txt ⟨a,b,c,d,e,u,v,tx⟩=[a,b,c,d,e,u,v].flatMap (fun n=>decDigits n++[32])++tx:=by
  simp [txt,numsR,dcZ]
 have e2:=nums_of hf [a,b,c,d,e,u,v] tx (by
  intro n hn
  simp only [List.mem_cons,List.not_mem_nil,or_false] at hn
  rcases hn with rfl | rfl | rfl | rfl | rfl | rfl | rfl<;>omega)
 rw [decG,e1,show (7:Nat)=[a,b,c,d,e,u,v].length from rfl,e2]
 simp only [mkR]
 rw [if_pos h]
theorem nums_inv {f:List UInt8→Option Nat} (hf:∀ w n,f w=some n→decDigits n=w):∀ (k:Nat) (s:List UInt8) (l:List Nat) (t:List UInt8),numsG f k s=some (l,t)→s=l.flatMap (fun n=>decDigits n++[32])++t
 | 0,s,l,t,h=>by
  simp only [numsG,Option.some.injEq,Prod.mk.injEq] at h
  obtain ⟨rfl,rfl⟩:=h
  rfl
 | k+1,s,l,t,h=>by
  simp only [numsG] at h
  cases hc:cutSp s with
  | none=>rw [hc] at h;cases h
  | some x =>
   obtain ⟨w,r⟩:=x
   rw [hc] at h
   simp only at h
   cases hw:f w with
   | none=>rw [hw] at h;cases h
   | some n =>
    rw [hw] at h
    simp only at h
    obtain ⟨⟨l',t'⟩,h1,h2⟩:=Option.map_eq_some_iff.1 h
    simp only [Prod.mk.injEq] at h2
    obtain ⟨rfl,rfl⟩:=h2
    have:=nums_inv hf k r l' t' h1
    rw [(cut_inv s w r hc).1,← hf w n hw,this]
    simp
theorem txt_dec {f:List UInt8→Option Nat} (hf:∀ w n,f w=some n→decDigits n=w) {s:List UInt8} {r:Rec} (h:decG f s=some r):txt r=s∧okR r=true:=by
 unfold decG at h
 cases hn:numsG f 7 s with
 | none=>rw [hn] at h;cases h
 | some x =>
  obtain ⟨l,t⟩:=x
  rw [hn] at h
  simp only at h
  cases hr:mkR l t with
  | none=>rw [hr] at h;cases h
  | some r' =>
   rw [hr] at h
   simp only at h
   split at h
   ·rename_i hok
    injection h with h
    subst h
    obtain ⟨h1,h2⟩:=mkR_some hr
    refine ⟨?_,hok⟩
    rw [nums_inv hf 7 s l t hn,txt,← h1,h2,List.flatMap_map]
    simp [dcZ]
   ·cases h
end Go.VE
namespace Go.VE
open Go.Lib
set_option maxRecDepth 100000
def okB (b:UInt8):Bool:=decide (32≤b.toNat∧b.toNat≤126)
def duo:List UInt8→List (UInt8×UInt8)
 | []=>[]
 | [a]=>[(a,32)]
 | a::b::r=>(a,b)::duo r
def addB (x y:UInt8):UInt8:=UInt8.ofNat (32+(x.toNat - 32+(y.toNat - 32)) % 95)
def pick3 (q:Nat) (x:UInt8×UInt8):UInt8:=if q=0 then x.1 else if q=1 then x.2 else addB x.1 x.2
def third (q:Nat) (s:List UInt8):List UInt8:=(duo s).map (pick3 q)
theorem duo_len:∀ s:List UInt8,(duo s).length=(s.length+1) / 2
 | []=>rfl
 | [a]=>by simp [duo]
 | a::b::r=>by
  simp only [duo,List.length_cons,duo_len r]
  omega
theorem okB_bnd {b:UInt8} (h:okB b=true):32≤b.toNat∧b.toNat≤126:=by simpa [okB] using h
theorem addB_nat {x y:UInt8}:(addB x y).toNat=32+(x.toNat - 32+(y.toNat - 32)) % 95:=by
 have:(x.toNat - 32+(y.toNat - 32)) % 95 < 95:=Nat.mod_lt _ (by decide)
 simp only [addB,UInt8.toNat_ofNat']
 omega
theorem third_len (q:Nat) (s:List UInt8):(third q s).length=(s.length+1) / 2:=by rw [third,List.length_map,duo_len]
theorem plainB_ok (s:List UInt8):plainB s=s.all okB:=rfl
theorem dec_len4 {n:Nat} (h:n≤9999):1≤(decDigits n).length∧(decDigits n).length≤4 :=
 ⟨List.length_pos_iff.2 (dec_ne n),dec_lenK 3 n (by omega)⟩
theorem txt_len {r:Rec} (h:okR r=true):14≤(txt r).length∧(txt r).length≤195:=by
 have hs:=okR_small h
 have ht:r.tx.length≤160:=by
  simp only [okR,Bool.and_eq_true,decide_eq_true_eq] at h
  exact h.1.1.2.2.2.2.2.2.2
 have key:∀ l:List Int,(∀ z∈l,0≤z∧z≤9999)→2*l.length≤(l.flatMap fun z=>dcZ z++[32]).length∧(l.flatMap fun z=>dcZ z++[32]).length≤5*l.length:=by
  intro l
  induction l with
  | nil=>intro _;simp
  | cons z r ih =>
   intro h
   have h1:=dec_len4 (n:=z.toNat) (by have:=h z (by simp);omega)
   have h2:=ih fun y hy=>h y (by simp [hy])
   simp only [List.flatMap_cons,List.length_append,List.length_cons,List.length_nil,dcZ] at h2 ⊢
   omega
 have:=key (numsR r) hs
 simp only [txt,List.length_append]
 have e:(numsR r).length=7:=rfl
 omega
end Go.VE
namespace Go.VE
open Go.Lib
set_option maxRecDepth 100000
def many (l:List Rec) (k:Int):Nat:=l.countP fun r=>decide (r.p=k)
def bef (a b:Rec):Prop:=a.p < b.p∨(a.p=b.p∧a.no < b.no)
instance (a b:Rec):Decidable (bef a b):=by unfold bef;infer_instance
theorem bef_asymm {a b:Rec} (h:bef a b):¬ bef b a:=by unfold bef at h ⊢;omega
theorem sorted_eq {a b:List Rec} (h1:a.Pairwise bef) (h2:b.Pairwise bef) (h:a.Perm b):a=b :=
 List.Perm.eq_of_pairwise (fun _ _ _ _ h1 h2=>absurd h2 (bef_asymm h1)) h1 h2 h
def put:List Rec→Rec→List Rec
 | [],r=>[r]
 | x::t,r=>if bef x r then x::put t r else r::x::t
theorem put_perm (r:Rec):∀ l:List Rec,(put l r).Perm (r::l)
 | []=>.refl _
 | x::t=>by
  rw [put]
  split
  ·exact ((put_perm r t).cons x).trans (.swap r x t)
  ·exact .refl _
theorem bef_total {a b:Rec} (h:¬ bef a b) (hk:a.p≠b.p∨a.no≠b.no):bef b a:=by unfold bef at h ⊢;omega
theorem bef_trans {a b c:Rec} (h:bef a b) (h':bef b c):bef a c:=by unfold bef at h h' ⊢;omega
theorem put_sorted (r:Rec):∀ {l:List Rec},l.Pairwise bef→(∀ x∈l,x.p≠r.p∨x.no≠r.no)→(put l r).Pairwise bef
 | [],_,_=>by simp [put]
 | x::t,h,hk=>by
  rw [put]
  rw [List.pairwise_cons] at h
  split
  ·rename_i hb
   rw [List.pairwise_cons]
   refine ⟨?_,put_sorted r h.2 fun y hy=>hk y (by simp [hy])⟩
   intro y hy
   rcases List.mem_cons.1 ((put_perm r t).mem_iff.1 hy) with rfl | hy
   ·exact hb
   ·exact h.1 y hy
  ·rename_i hb
   have hb:=bef_total hb (hk x (by simp))
   rw [List.pairwise_cons]
   refine ⟨?_,List.pairwise_cons.2 h⟩
   intro y hy
   rcases List.mem_cons.1 hy with rfl | hy
   ·exact hb
   ·exact bef_trans hb (h.1 y hy)
def insort (l:List Rec):List Rec:=l.foldl put []
end Go.VE
namespace Go.VE
open Go.RowKit
def sD (l:List UInt8):D:=.lit (.string ⟨l.toArray⟩)
def dInt:D→Option Int
 | .lit (.int .i64 z)=>some z
 | _=>none
def dBool:D→Option Bool
 | .lit (.bool b)=>some b
 | _=>none
def dStr:D→Option (List UInt8)
 | .lit (.string t)=>some t.data.toList
 | _=>none
def dNil:D→Bool
 | .lit (.slice none 0 0)=>true
 | _=>false
def recR (r:Rec):List D:=[il r.p,il r.no,il r.kd,il r.dy,il r.kn,il r.op,il r.on,sD r.tx]
def recD:List D→Option Rec
 | [a,b,c,d,e,f,g,t]=>match dInt a with
  | none=>none
  | some a=>match dInt b with
   | none=>none
   | some b=>match dInt c with
    | none=>none
    | some c=>match dInt d with
     | none=>none
     | some d=>match dInt e with
      | none=>none
      | some e=>match dInt f with
       | none=>none
       | some f=>match dInt g with
        | none=>none
        | some g=>match dStr t with
         | none=>none
         | some t=>some ⟨a,b,c,d,e,f,g,t⟩
 | _=>none
def recsD:List (List D)→Option (List Rec)
 | []=>some []
 | r::rs=>match recD r with
  | none=>none
  | some x=>match recsD rs with
   | none=>none
   | some l=>some (x::l)
def diffK (l:List Rec):Bool:=decide (l.Pairwise fun x y=>x.p≠y.p∨x.no≠y.no)
def zeroR:Rec:=⟨0,0,0,0,0,0,0,[]⟩
def tText (xs:List D):Out:=match recD xs with
 | none=>none
 | some r=>if okR r=true then some (0,[.d (sD (txt r))]) else none
def readR:Option Rec→List D
 | some r=>recR r++[bl true]
 | none=>recR zeroR++[bl false]
def tSorted (Fn:Nat→List D→Out):List D→Out
 | [x]=>match Fn 83 [x] with
  | some (1,[.d y])=>if dNil x=true∧dNil y=true then some (0,[.d (.lit (.slice none 0 0))]) else none
  | some (0,[.r rows])=>if dNil x=true then none else if rows.length≤1000 then (match recsD rows with
   | none=>none
   | some l=>if diffK l=true then some (0,[.d (.sl 8 ((insort l).map recR))]) else none) else none
  | _=>none
 | _=>none
def tThirds:List D→Out
 | [x]=>match dStr x with
  | none=>none
  | some s=>if s≠[]∧s.length≤1000∧s.all okB=true then some (0,[.d (sD (third 0 s)),.d (sD (third 1 s)),.d (sD (third 2 s))]) else none
 | _=>none
def stripD:List Yr→Option (Int×Int×List UInt8×Int×Int×List UInt8×Int×Int×List UInt8)
 | [.d a,.d b,.d c,.d d,.d e,.d f,.d g,.d h,.d i]=>match dInt a with
  | none=>none
  | some a=>match dInt b with
   | none=>none
   | some b=>match dStr c with
    | none=>none
    | some c=>match dInt d with
     | none=>none
     | some d=>match dInt e with
      | none=>none
      | some e=>match dStr f with
       | none=>none
       | some f=>match dInt g with
        | none=>none
        | some g=>match dInt h with
         | none=>none
         | some h=>match dStr i with
          | none=>none
          | some i=>some (a,b,c,d,e,f,g,h,i)
 | _=>none
def isOK:Out→Bool
 | some (0,[.d e])=>(match dInt e with | some z=>decide (z=0) | none=>false)
 | _=>false
def isNew:Out→Bool
 | some (0,[.d i,.d e])=>(match dBool i with | some false=>(match dInt e with | some z=>decide (z=0) | none=>false) | _=>false)
 | _=>false
def outS:Out→Option (List Yr)
 | some (0,ys)=>some ys
 | _=>none
def isI (x:D) (z:Int):Bool:=match dInt x with
 | some k=>decide (k=z)
 | none=>false
def isNil1:Out→Bool
 | some (1,[.d y])=>dNil y
 | _=>false
def isSame:Out→Int→Int→Int→Bool
 | some (0,[.d x,.d y,.d z,.d a,.d b,.d c]),p,q,r=>dNil x&&dNil y&&dNil z&&isI a p&&isI b q&&isI c r
 | _,_,_,_=>false
def tWrite (Fn:Nat→List D→Out):List D→Out
 | [a0,a1,a2,a3,a4,a5,l,r0,r1,r2,r3,r4,r5,r6,r7] =>
  if (dNil a0&&dNil a1&&dNil a2&&dNil l)=true then match dInt a3 with
   | none=>none
   | some b3=>match dInt a4 with
    | none=>none
    | some b4=>match dInt a5 with
     | none=>none
     | some b5=>match recD [r0,r1,r2,r3,r4,r5,r6,r7] with
      | none=>none
      | some r=>if (isOK (Fn 31 [.lit (.slice none 0 0),.lit (.slice none 0 0),.lit (.slice none 0 0),il b3,il b4,il b5,.lit (.slice none 0 0)])&&isNew (Fn 81 (.lit (.slice none 0 0)::recR r))&&isSame (Fn 82 [.lit (.slice none 0 0),.lit (.slice none 0 0),.lit (.slice none 0 0),il b3,il b4,il b5]) b3 b4 b5&&isNil1 (Fn 83 [.lit (.slice none 0 0)]))=true then (match outS (Fn 71 (recR r++[il 0])) with
       | none=>none
       | some ys=>match stripD ys with
        | none=>none
        | some (n0,z0,t0,n1,z1,t1,n2,z2,t2)=>some (0,[.d (.sl 3 [[il n0,il z0,sD t0]]),.d (.sl 3 [[il n1,il z1,sD t1]]),.d (.sl 3 [[il n2,il z2,sD t2]]),.d (il b3),.d (il b4),.d (il b5),.d (.sl 8 [recR r]),.d (il 0)])) else none
  else none
 | _=>none
def tPlain:List D→Out
 | [x]=>match dStr x with
  | none=>none
  | some s=>if s.length≤1000 then some (0,[.d (bl (s.all okB))]) else none
 | _=>none
def tRows (Fn:Nat→List D→Out):Nat→List D→Out
 | 0,_=>some (0,[.d (bl true)])
 | k+1,xs=>match Fn 153 [.sl 1 ((xs.take 6).map fun x=>[x]),.fn 154 []] with
  | some (0,[.d b])=>(match dBool b with
   | some true=>some (0,[.d (bl false)])
   | some false=>tRows Fn k (xs.drop 6)
   | none=>none)
  | _=>none
def tCounts (Fn:Nat→List D→Out) (xs:List D):Out:=if xs.length=36∧(xs.all fun x=>(dInt x).isSome)=true then tRows Fn 6 xs else none
def isT:Out→Option Bool
 | some (0,[.d b])=>dBool b
 | _=>none
def readO (Fn:Nat→List D→Out) (s:List UInt8):Option (Option Rec):=match numsG numA 7 s with
 | none=>some none
 | some (l,t)=>match mkR l t with
  | none=>none
  | some r=>match isT (Fn 69 (recR r)) with
   | some true=>some (some r)
   | some false=>some none
   | none=>none
def tRead (Fn:Nat→List D→Out):List D→Out
 | [x]=>match dStr x with
  | none=>none
  | some s=>if s.length≤281474976710656 then (match readO Fn s with
   | none=>none
   | some o=>some (0,(readR o).map .d)) else none
 | _=>none
def tThird3 (Fn:Nat→List D→Out):List D→Out
 | [r0,r1,r2,r3,r4,r5,r6,r7,no]=>match recD [r0,r1,r2,r3,r4,r5,r6,r7] with
  | none=>none
  | some r=>match dInt no with
   | none=>none
   | some no=>match isT (Fn 69 (recR r)) with
    | none=>none
    | some false=>some (0,[.d (.lit (.slice none 0 0)),.d (il 80)])
    | some true=>match isT (Fn 70 [il no,il 0,il 59]) with
     | none=>none
     | some false=>some (0,[.d (.lit (.slice none 0 0)),.d (il 1)])
     | some true=>match outS (Fn 71 (recR r++[il no])) with
      | none=>none
      | some ys=>match stripD ys with
       | none=>none
       | some (n0,z0,t0,n1,z1,t1,n2,z2,t2)=>match Fn 72 [.sl 3 [[il n0,il z0,sD t0],[il n1,il z1,sD t1],[il n2,il z2,sD t2]]] with
        | some (0,[.r rows])=>some (0,[.d (.sl 3 rows),.d (il 0)])
        | _=>none
 | _=>none
def tStrips (Fn:Nat→List D→Out):Nat→List (List D)→Option (List (List D)×List (List D)×List (List D))
 | _,[]=>some ([],[],[])
 | i,r::rs=>match recD r with
  | none=>none
  | some x=>match outS (Fn 71 (recR x++[il i])) with
   | none=>none
   | some ys=>match stripD ys with
    | none=>none
    | some (n0,z0,t0,n1,z1,t1,n2,z2,t2)=>match tStrips Fn (i+1) rs with
     | none=>none
     | some (a,b,c)=>some ([il n0,il z0,sD t0]::a,[il n1,il z1,sD t1]::b,[il n2,il z2,sD t2]::c)
def slZ:List (List D)→D
 | []=>.lit (.slice none 0 0)
 | rows=>.sl 3 rows
def isSl:D→Bool
 | .sl _ _=>true
 | x=>dNil x
def tBind (Fn:Nat→List D→Out):List D→Out
 | [x]=>match (if dNil x=true then some [] else match x with
   | .sl s rows=>if s=8∧rows.length≤1000 then some rows else none
   | _=>none) with
  | none=>none
  | some rows=>match tStrips Fn 0 rows with
   | none=>none
   | some (a,b,c)=>match outS (Fn 27 [slZ a,slZ b,slZ c,il 0,il 0,il 0]) with
    | some [.d x0,.d x1,.d x2,.d y0,.d y1,.d y2]=>if (isSl x0&&isSl x1&&isSl x2)=true then (match dInt y0 with
     | none=>none
     | some y0=>match dInt y1 with
      | none=>none
      | some y1=>match dInt y2 with
       | none=>none
       | some y2=>some (0,[.d x0,.d x1,.d x2,.d (il y0),.d (il y1),.d (il y2)])) else none
    | _=>none
 | _=>none
def BB (Fn:Nat→List D→Out) (f:Nat) (xs:List D):Out :=
 bif Nat.beq f 103 then tText xs else bif Nat.beq f 86 then tRead Fn xs else bif Nat.beq f 121 then tSorted Fn xs else bif Nat.beq f 130 then tThirds xs else bif Nat.beq f 129 then tPlain xs else
 bif Nat.beq f 144 then tCounts Fn xs else bif Nat.beq f 13 then tThird3 Fn xs else bif Nat.beq f 88 then tBind Fn xs else bif Nat.beq f 21 then tWrite Fn xs else none
def isTold (f:Nat):Bool:=Nat.beq f 103||Nat.beq f 86||Nat.beq f 121||Nat.beq f 130||Nat.beq f 129||Nat.beq f 144||Nat.beq f 13||Nat.beq f 88||Nat.beq f 21
theorem BB_not {Fn:Nat→List D→Out} {f:Nat} {xs:List D} (h:isTold f=false):BB Fn f xs=none:=by
 simp only [isTold,Bool.or_eq_false_iff] at h
 obtain ⟨⟨⟨⟨⟨⟨⟨⟨h1,h2⟩,h3⟩,h4⟩,h5⟩,h6⟩,h7⟩,h8⟩,h9⟩:=h
 unfold BB
 rw [h1,h2,h3,h4,h5,h6,h7,h8,h9]
 rfl
theorem dInt_some {x:D} {z:Int} (h:dInt x=some z):x=il z:=by
 unfold dInt at h
 split at h
 ·cases h;rfl
 ·cases h
theorem dBool_some {x:D} {z:Bool} (h:dBool x=some z):x=bl z:=by
 unfold dBool at h
 split at h
 ·cases h;rfl
 ·cases h
theorem dStr_some {x:D} {s:List UInt8} (h:dStr x=some s):x=sD s:=by
 unfold dStr at h
 split at h
 ·cases h;simp [sD]
 ·cases h
theorem dNil_some {x:D} (h:dNil x=true):x=.lit (.slice none 0 0):=by
 unfold dNil at h
 split at h
 ·rfl
 ·cases h
theorem recD_some {xs:List D} {r:Rec} (h:recD xs=some r):xs=recR r:=by
 unfold recD at h
 split at h
 ·split at h
  ·cases h
  rename_i e1
  split at h
  ·cases h
  rename_i e2
  split at h
  ·cases h
  rename_i e3
  split at h
  ·cases h
  rename_i e4
  split at h
  ·cases h
  rename_i e5
  split at h
  ·cases h
  rename_i e6
  split at h
  ·cases h
  rename_i e7
  split at h
  ·cases h
  rename_i e8
  cases h
  rw [dInt_some e1,dInt_some e2,dInt_some e3,dInt_some e4,dInt_some e5,dInt_some e6,dInt_some e7,dStr_some e8]
  rfl
 ·cases h
theorem recD_of (r:Rec):recD (recR r)=some r:=rfl
theorem recsD_some:∀ {rows:List (List D)} {l:List Rec},recsD rows=some l→rows=l.map recR
 | [],l,h=>by simp only [recsD,Option.some.injEq] at h;subst h;rfl
 | r::rs,l,h=>by
  simp only [recsD] at h
  split at h
  ·cases h
  ·rename_i x hx
   split at h
   ·cases h
   ·rename_i l' hl
    cases h
    rw [recD_some hx,recsD_some hl]
    rfl
theorem recsD_of:∀ l:List Rec,recsD (l.map recR)=some l
 | []=>rfl
 | r::l=>by simp only [List.map_cons,recsD,recD_of,recsD_of l]
theorem BB_high (Fn:Nat→List D→Out) (f:Nat) (xs:List D):BB Fn (f+1000000) xs=none:=by
 have h:∀ k:Nat,k < 1000000→Nat.beq (f+1000000) k=false:=fun k hk=>by
  cases e:Nat.beq (f+1000000) k with
  | false=>rfl
  | true=>have:=Nat.eq_of_beq_eq_true e;omega
 unfold BB
 rw [h 103 (by decide),h 86 (by decide),h 121 (by decide),h 130 (by decide),h 129 (by decide),h 144 (by decide),h 13 (by decide),h 88 (by decide),h 21 (by decide)]
 rfl
end Go.VE
