/- Book: operations over lists of records and strips, over strings and bytes, as equations. -/
import Derived.Test.YtipddjojdgapiaaGreatDoorMt
import Derived.Lib.SplitLaws
import Derived.Test.YtipddjojdgapiaaGreatDoorMg0
import Derived.Test.YtipddjojdgapiaaGreatDoorMp
namespace Go.VE
open Go.RowKit Go.Proofs
set_option maxRecDepth 100000
theorem pred_nat {i:Nat} (h:0 < i) (h2:i≤4611686018427387904):IntKind.i64.wrap ((i:Int) - 1)=((i - 1:Nat):Int):=by
 rw [wrap_id (by omega) (by omega)];omega
theorem cast1 (i:Nat):((i+1:Nat):Int)=(i:Int)+1:=by omega
def dL {α:Type} (n:Nat) (f:α→List D) (o:Option (List α)):D:=dSl n (o.map (·.map f))
abbrev dR (o:Option (List Rec)):D:=dL 8 recR o
abbrev ub (b:UInt8):D:=.lit (.int .u8 b.toNat)
section
variable {Fn:Nat→List D→Out} {FnD:D→List Sh→List D→Out} {m:Nat}
theorem getD_map {α β:Type} (f:α→β) (o:Option (List α)):(o.map (·.map f)).getD []=(o.getD []).map f:=by cases o<;>rfl
theorem lenL {α:Type} (n:Nat) (f:α→List D) (o:Option (List α)) (k:D→Out):(real Fn FnD m).lenD (dL n f o) k=k (il (o.getD []).length):=by rw [dL,r_lenDS,getD_map,List.length_map]
theorem rowL {α:Type} {n:Nat} {f:α→List D} {o:Option (List α)} {i:Nat} {c:α} (h:(o.getD [])[i]?=some c) (hn:(f c).length=n) (k:List D→Out):(real Fn FnD m).rowD n (dL n f o) (il i) k=k (f c):=by
 rw [dL,r_rowDSg,if_pos (by omega),getD_map,Int.toNat_natCast,List.getElem?_map,h];simp [hn]
theorem rowsL {α:Type} (n:Nat) (f:α→List D) (o:Option (List α)) (k:Rr→Out):(real Fn FnD m).rowsD n (dL n f o) k=k ((o.getD []).map f):=by rw [dL,r_rowsDS,getD_map]
theorem rowR {o:Option (List Rec)} {i:Nat} {c:Rec} (h:(o.getD [])[i]?=some c) (k:List D→Out):(real Fn FnD m).rowD 8 (dR o) (il i) k=k (recR c):=rowL h rfl k
theorem cR0 (b:Rec):(real Fn FnD m).cell (recR b) 0=il b.p:=rfl
theorem cR1 (b:Rec):(real Fn FnD m).cell (recR b) 1=il b.no:=rfl
theorem cR2 (b:Rec):(real Fn FnD m).cell (recR b) 2=il b.kd:=rfl
theorem cR3 (b:Rec):(real Fn FnD m).cell (recR b) 3=il b.dy:=rfl
theorem cR4 (b:Rec):(real Fn FnD m).cell (recR b) 4=il b.kn:=rfl
theorem cR5 (b:Rec):(real Fn FnD m).cell (recR b) 5=il b.op:=rfl
theorem cR6 (b:Rec):(real Fn FnD m).cell (recR b) 6=il b.on:=rfl
theorem cR7 (b:Rec):(real Fn FnD m).cell (recR b) 7=sD b.tx:=rfl
theorem r_litSe:(real Fn FnD m).lit (.string ByteArray.empty)=sD []:=rfl
theorem r_litU (n:Int):(real Fn FnD m).lit (.int .u8 n)=.lit (.int .u8 n):=rfl
theorem hk_size (l:List UInt8):(⟨l.toArray⟩:ByteArray).size=l.length:=by simp [ByteArray.size]
theorem hk_list (s:ByteArray):s=⟨s.data.toList.toArray⟩:=by cases s;simp
theorem bs_toList (l:List UInt8):(⟨l.toArray⟩:ByteArray).toList=l:=by
 exact ByteArray.toList_mk l
theorem r_lenSs (l:List UInt8) (k:D→Out):(real Fn FnD m).lenS (sD l) k=k (il l.length):=by simp [real,il,sD,hk_size]
theorem bs_get (l:List UInt8) (i:Nat):(⟨l.toArray⟩:ByteArray)[i]?=l[i]?:=by
 by_cases h:i < l.length
 ·rw [getElem?_pos (⟨l.toArray⟩:ByteArray) i (by rw [hk_size];exact h),getElem?_pos l i h];rfl
 ·rw [getElem?_neg (⟨l.toArray⟩:ByteArray) i (by rw [hk_size];exact h),getElem?_neg l i h]
theorem r_atSs {l:List UInt8} {i:Nat} {b:UInt8} (h:l[i]?=some b) (k:D→Out):(real Fn FnD m).atS (sD l) (il i) k=k (ub b):=by
 simp [real,il,sD,intD,strAt,bs_get,h]
theorem r_eqlSs (a b:List UInt8) (f:Bool) (k:D→Out):(real Fn FnD m).bin .eql f (sD a) (sD b) k=k (bl (decide (a=b))):=by
 have:(a==b)=decide (a=b):=by rw [Bool.eq_iff_iff];simp
 simp only [real,binD,sD,aStr,Option.map_some,optO,bs_toList,bl,this]
theorem r_neqSs (a b:List UInt8) (f:Bool) (k:D→Out):(real Fn FnD m).bin .neq f (sD a) (sD b) k=k (bl (!decide (a=b))):=by
 have:(a==b)=decide (a=b):=by rw [Bool.eq_iff_iff];simp
 simp only [real,binD,sD,aStr,Option.map_some,optO,bs_toList,bl,this]
theorem r_lssU (b c:UInt8) (f:Bool) (k:D→Out):(real Fn FnD m).bin .lss f (ub b) (ub c) k=k (bl (decide (b.toNat < c.toNat))):=by
 have:decide ((b.toNat:Int) < (c.toNat:Int))=decide (b.toNat < c.toNat):=by rw [decide_eq_decide];omega
 simp only [real,binD,aBin,optO,bl,Option.map_some]
 simp [this]
theorem r_gtrU (b c:UInt8) (f:Bool) (k:D→Out):(real Fn FnD m).bin .gtr f (ub b) (ub c) k=k (bl (decide (c.toNat < b.toNat))):=by
 have:decide ((c.toNat:Int) < (b.toNat:Int))=decide (c.toNat < b.toNat):=by rw [decide_eq_decide];omega
 simp only [real,binD,aBin,optO,bl,Option.map_some]
 simp [this]
def un (n:Nat):D:=.lit (.int .u8 n)
end
theorem litEq_i (a b:Int):litEq 1 (.int .i64 a) (.int .i64 b)=some (decide (a=b)):=by
 have:(a==b)=decide (a=b):=by rw [Bool.eq_iff_iff];simp
 simp only [litEq,if_true,this]
theorem litEq_s (a b:List UInt8):litEq 2 (.string ⟨a.toArray⟩) (.string ⟨b.toArray⟩)=some (decide (a=b)):=by
 have:(a==b)=decide (a=b):=by rw [Bool.eq_iff_iff];simp
 simp only [litEq,bs_toList,this]
theorem eq_recK (a b:Rec):cellsEq [1,1,1,1,1,1,1,2] ((recR a).map .d) ((recR b).map .d)=some (decide (a=b)):=by
 obtain ⟨a1,a2,a3,a4,a5,a6,a7,a8⟩:=a
 obtain ⟨b1,b2,b3,b4,b5,b6,b7,b8⟩:=b
 have e:∀ (x y z u v w s:Int) (t:List UInt8),(recR ⟨x,y,z,u,v,w,s,t⟩).map L.d=[.d (.lit (.int .i64 x)),.d (.lit (.int .i64 y)),.d (.lit (.int .i64 z)),.d (.lit (.int .i64 u)),.d (.lit (.int .i64 v)),.d (.lit (.int .i64 w)),.d (.lit (.int .i64 s)),.d (.lit (.string ⟨t.toArray⟩))]:=fun _ _ _ _ _ _ _ _=>rfl
 rw [e,e]
 simp only [cellsEq,litEq_i,litEq_s,Option.some.injEq]
 rw [Bool.eq_iff_iff]
 simp [and_assoc]
section
variable {Fn:Nat→List D→Out} {FnD:D→List Sh→List D→Out} {m:Nat}
theorem r_eqRec (ng:Bool) (a b:Rec) (k:D→Out):(real Fn FnD m).eqs [1,1,1,1,1,1,1,2] ng (recR a) (recR b) k=k (bl (if ng then !decide (a=b) else decide (a=b))):=by
 simp only [real,eq_recK];rfl
end
end Go.VE
namespace Go.VE
open Go.RowKit Go.Proofs
set_option maxRecDepth 100000
theorem told {n f:Nat} {xs:List D} {o:Nat×List Yr} (h:BB (FN n) f xs=some o):FN (n+1) f xs=some o:=by
 show (BB (FN n) f xs).or _=some o
 rw [h];rfl
theorem dStr_sD (s:List UInt8):dStr (sD s)=some s:=rfl
theorem t129 (n:Nat) (s:List UInt8) (h:s.length≤1000):FN (n+1) 129 [sD s]=some (0,[.d (bl (s.all okB))]):=by
 refine told ?_
 show tPlain [sD s]=_
 rw [tPlain,dStr_sD]
 simp only
 rw [if_pos h]
end Go.VE
namespace Go.VE
open Go.RowKit Go.Proofs
set_option maxRecDepth 100000
def inZ (a b c:Int):Bool:=decide (b≤a∧a≤c)
theorem s70 (n:Nat) (a b c:Int):FN (n+1) 70 [il a,il b,il c]=some (0,[.d (bl (inZ a b c))]):=by
 rw [F70];by_cases h:b≤a<;>simp [G70,h,inZ]
theorem s73 (n:Nat) (a b c:Int):FN (n+1) 73 [il a,il b,il c]=some (0,[.d (bl (inZ a b c))]):=by
 rw [F73];by_cases h:b≤a<;>simp [G73,h,inZ]
theorem s104 (n:Nat) (a:Int):FN (n+2) 104 [il a]=some (0,[.d (bl (inZ a 0 5))]):=by rw [F104];simp only [G104,r_call,r_liti,s70,r_bnd0,r_ld0,r_out]
theorem s105 (n:Nat) (a:Int):FN (n+2) 105 [il a]=some (0,[.d (bl (inZ a 0 5))]):=by rw [F105];simp only [G105,r_call,r_liti,s73,r_bnd0,r_ld0,r_out]
theorem s128 (n:Nat) (a:Int):FN (n+2) 128 [il a]=some (0,[.d (bl (inZ a 0 4166))]):=by rw [F128];simp only [G128,r_call,r_liti,s70,r_bnd0,r_ld0,r_out]
theorem s101 (n:Nat) (a:Int):FN (n+2) 101 [il a]=some (0,[.d (bl (inZ a 0 4166))]):=by rw [F101];simp only [G101,r_call,r_liti,s73,r_bnd0,r_ld0,r_out]
theorem okItem_in (p m:Int):okItem p m=(inZ p 0 5&&inZ m 0 9999):=by
 unfold okItem inZ
 rw [Bool.eq_iff_iff];simp;omega
theorem s127 (n:Nat) (a b:Int):FN (n+3) 127 [il a,il b]=some (0,[.d (bl (okItem a b))]):=by
 rw [F127,okItem_in]
 simp only [G127,r_call,r_liti,s104,s70,r_bnd0,r_ld0,r_out,r_cond,r_litb]
 cases inZ a 0 5<;>rfl
theorem s100 (n:Nat) (a b:Int):FN (n+3) 100 [il a,il b]=some (0,[.d (bl (okItem a b))]):=by
 rw [F100,okItem_in]
 simp only [G100,r_call,r_liti,s105,s73,r_bnd0,r_ld0,r_out,r_cond,r_litb]
 cases inZ a 0 5<;>rfl
section
variable {Fn:Nat→List D→Out} {FnD:D→List Sh→List D→Out} {m:Nat}
theorem r_lssU32 (b:UInt8) (f:Bool) (k:D→Out):(real Fn FnD m).bin .lss f (ub b) (.lit (.int .u8 32)) k=k (bl (decide (b.toNat < 32))):=r_lssU b 32 f k
theorem r_gtrU126 (b:UInt8) (f:Bool) (k:D→Out):(real Fn FnD m).bin .gtr f (ub b) (.lit (.int .u8 126)) k=k (bl (decide (126 < b.toNat))):=r_gtrU b 126 f k
end
def allO:Bool→Out
 | true=>some (1,[])
 | false=>some (0,[.d (bl false)])
theorem l102 (n:Nat) (s:List UInt8) (hs:s.length≤4611686018427387904):loopR [L102_0 (RP n)] M0 0 [.d (sD s),.d (il 0)]=allO (s.all okB):=by
 have:=range_loop (β:=Unit) s hs (L102_0 (RP n)) (fun i _=>[.d (sD s),.d (il i)]) (fun _ _=>True)
  (fun _ r _=>allO (r.all okB)) ?_ ?_ M0 () trivial (M0_big hs)
 ·exact this
 ·intro _ k _
  simp only [L102_0,r_ld0,r_lds,r_lenSs,r_lss,Int.lt_irrefl,decide_false,r_cond,Bool.false_eq_true,if_false,r_out,List.all_nil,allO]
 ·intro i b r _ k hi hd hlt hw _ ih
  have hlt':(i:Int) < (s.length:Int):=by omega
  have ih':=ih () trivial
  rw [cast1] at ih'
  simp only [L102_0,r_ld0,r_lds,r_lenSs,r_lss,hlt',decide_true,r_cond,if_true,r_atSs hi,r_litU,r_lssU32,r_gtrU126,r_litb,r_out,r_liti,r_add,hw,ih',List.all_cons,decide_eq_true_eq]
  by_cases h1:b.toNat < 32
  ·have:okB b=false:=by simp [okB];omega
   rw [if_pos h1,this]
   rfl
  ·rw [if_neg h1]
   by_cases h2:126 < b.toNat
   ·have:okB b=false:=by simp [okB];omega
    rw [if_pos h2,this]
    rfl
   ·have:okB b=true:=by simp [okB];omega
    rw [if_neg h2,this,Bool.true_and]
theorem s102 (n:Nat) (s:List UInt8) (hs:s.length≤4611686018427387904):FN (n+1) 102 [sD s]=some (0,[.d (bl (s.all okB))]):=by
 rw [F102]
 simp only [G102,r_loop,r_liti,l102 n s hs]
 cases h:s.all okB<;>simp [allO]
section
variable {Fn:Nat→List D→Out} {FnD:D→List Sh→List D→Out} {m:Nat}
end
theorem okR_in (p no kd dy kn op on:Int) (tx:List UInt8):okR ⟨p,no,kd,dy,kn,op,on,tx⟩=(okItem p no&&(inZ kd 0 60&&(inZ dy 0 4166&&(inZ kn 0 4166&&(decide (tx.length≤160)&&(tx.all okB&&(if kd≠0 then decide (op=0∧on=0) else decide (dy=0∧tx=[]∧op=p∧on < no)&&okItem op on))))))):=by
 unfold okR inZ
 rw [plainB_ok]
 simp only
 rw [Bool.eq_iff_iff]
 simp only [Bool.and_eq_true,decide_eq_true_eq,and_assoc]
theorem s69 (n:Nat) (r:Rec):FN (n+4) 69 (recR r)=some (0,[.d (bl (okR r))]):=by
 obtain ⟨p,no,kd,dy,kn,op,on,tx⟩:=r
 show FN (n+4) 69 [il p,il no,il kd,il dy,il kn,il op,il on,sD tx]=_
 rw [F69]
 simp only [G69,r_call,r_liti,r_litb,s127,s70,s128,r_bnd0,r_ld0,r_not,r_cond,r_out,r_lenSs,r_gtr,r_litSe,r_eqs2,r_neq,r_eql,r_lss,r_eqlSs]
 by_cases h1:okItem p no=true
 ·by_cases h2:inZ kd 0 60=true
  ·by_cases h3:inZ dy 0 4166=true
   ·by_cases h4:inZ kn 0 4166=true
    ·by_cases h5:tx.length≤160
     ·have h5':¬ ((160:Int) < (tx.length:Int)):=by omega
      simp only [h1,h2,h3,h4,h5,h5',and_self,decide_true,decide_false,Bool.not_true,Bool.false_eq_true,if_false,t129 _ _ (show tx.length≤1000 by omega),r_bnd0,r_ld0,r_not,r_cond,okR_in,Bool.true_and]
      by_cases h6:tx.all okB=true
      ·simp only [h6,Bool.not_true,Bool.false_eq_true,if_false,Bool.true_and]
       by_cases h7:kd=0
       ·subst h7
        simp only [ne_eq,not_true,decide_false,Bool.false_eq_true,if_false]
        by_cases h8:dy=0
        ·by_cases h9:tx=[]
         ·by_cases h10:okItem op on=true
          ·by_cases h11:op=p
           ·subst h11
            simp [h8,h9,h10]
           ·simp [h8,h9,h10,h11]
          ·simp [h8,h9,h10]
         ·simp [h8,h9]
        ·simp [h8]
       ·simp [h7]
      ·simp [h6]
     ·have h5':(160:Int) < (tx.length:Int):=by omega
      simp [h1,h2,h3,h4,h5,h5',okR_in]
    ·simp [h1,h2,h3,h4,okR_in]
   ·simp [h1,h2,h3,okR_in]
  ·simp [h1,h2,okR_in]
 ·simp [h1,okR_in]
theorem s35 (n:Nat) (r:Rec):FN (n+4) 35 (recR r)=some (0,[.d (il (if okR r=true then 0 else 80))]):=by
 obtain ⟨p,no,kd,dy,kn,op,on,tx⟩:=r
 show FN (n+4) 35 [il p,il no,il kd,il dy,il kn,il op,il on,sD tx]=_
 rw [F35]
 simp only [G35,r_call,r_liti,r_litb,s100,s73,s101,r_bnd0,r_ld0,r_not,r_cond,r_out,r_lenSs,r_gtr,r_litSe,r_eqs2,r_neq,r_eql,r_lss,r_geq,r_neqSs]
 by_cases h1:okItem p no=true
 ·by_cases h2:inZ kd 0 60=true
  ·by_cases h3:inZ dy 0 4166=true
   ·by_cases h4:inZ kn 0 4166=true
    ·by_cases h5:tx.length≤160
     ·have h5':¬ ((160:Int) < (tx.length:Int)):=by omega
      simp only [h1,h2,h3,h4,h5,h5',and_self,decide_true,decide_false,Bool.not_true,Bool.false_eq_true,if_false,s102 _ tx (show tx.length≤4611686018427387904 by omega),r_bnd0,r_ld0,r_not,r_cond,okR_in,Bool.true_and]
      by_cases h6:tx.all okB=true
      ·simp only [h6,Bool.not_true,Bool.false_eq_true,if_false,Bool.true_and]
       by_cases h7:kd=0
       ·subst h7
        simp only [ne_eq,not_true,decide_false,Bool.false_eq_true,if_false]
        by_cases h8:dy=0
        ·by_cases h9:tx=[]
         ·by_cases h10:okItem op on=true
          ·by_cases h11:op=p
           ·subst h11
            by_cases h12:on < no
            ·simp [h8,h9,h10,h12,show ¬ no≤on by omega]
            ·simp [h8,h9,h10,h12,show no≤on by omega]
           ·simp [h8,h9,h10,h11]
          ·simp [h8,h9,h10]
         ·simp [h8,h9]
        ·simp [h8]
       ·by_cases h8:op=0∧on=0
        ·simp [h7,h8]
        ·simp [h7,h8]
      ·simp [h6]
     ·have h5':(160:Int) < (tx.length:Int):=by omega
      simp [h1,h2,h3,h4,h5,h5',okR_in]
    ·simp [h1,h2,h3,h4,okR_in]
   ·simp [h1,h2,h3,okR_in]
  ·simp [h1,h2,okR_in]
 ·simp [h1,okR_in]
end Go.VE
namespace Go.VE
open Go.RowKit Go.Proofs
set_option maxRecDepth 100000
section
variable {Fn:Nat→List D→Out} {FnD:D→List Sh→List D→Out} {m:Nat}
theorem r_updN (i q:Nat) (a b:D):(real Fn FnD m).updN i q a b=if i=q then a else b:=rfl
end
theorem s72 (n:Nat) (l:Rr) (h:l.length≤1000):FN (n+1) 72 [.sl 3 l]=some (0,[.r l]):=by
 rw [F72]
 simp only [G72,r_nilE1,r_rowsD,r_natN,r_rows,r_len,List.length_nil,r_eqN,if_true,r_addN,Nat.zero_add,r_fitsg,r_app,List.nil_append,r_leN,Nat.le_refl,r_seg0,r_out,List.take_length]
 rw [if_pos ⟨by omega,by omega⟩]
theorem loop4 (b:(Nat→List Yr→Out)→List Yr→Out) (ys:List Yr):loopR [b] M0 0 ys=b (loopR [b] (18446744073709551612+3) ) ys:=rfl
theorem loop3 (b:(Nat→List Yr→Out)→List Yr→Out) (n:Nat) (ys:List Yr):loopR [b] (n+3) 0 ys=b (loopR [b] (n+2)) ys:=rfl
theorem loop2 (b:(Nat→List Yr→Out)→List Yr→Out) (n:Nat) (ys:List Yr):loopR [b] (n+2) 0 ys=b (loopR [b] (n+1)) ys:=rfl
end Go.VE
namespace Go.VE
open Go.RowKit Go.Proofs Go.Lib
set_option maxRecDepth 100000
theorem two_loop {α:Type} (l:List α) (hl:l.length≤4611686018427387904) (b0 b1:(Nat→List Yr→Out)→List Yr→Out) (en0:List Yr) (en1:Nat→List Yr) (I:Nat→Prop) (spec:Nat→List α→Out)
  (z0:l=[]→∀ k,b0 k en0=spec 0 [])
  (s0:∀ c r k,l=c::r→(I 1→k 1 (en1 1)=spec 1 r)→b0 k en0=spec 0 (c::r))
  (z1:I l.length→∀ k,b1 k (en1 l.length)=spec l.length [])
  (s1:∀ i c r k,0 < i→l[i]?=some c→l.drop i=c::r→i < l.length→IntKind.i64.wrap ((i:Int)+1)=(i:Int)+1→I i→(I (i+1)→k 1 (en1 (i+1))=spec (i+1) r)→b1 k (en1 i)=spec i (c::r)) :
  loopR [b0,b1] M0 0 en0=spec 0 l:=by
 have:=loop_ms (σ:=Nat) [b0,b1] (fun i=>if i=0 then (0,en0) else (1,en1 i)) (fun i=>l.length - i) (fun i=>i≤l.length∧(0 < i→I i)) (fun i=>spec i (l.drop i)) ?_ M0 0 ⟨by simp,fun h=>absurd h (by omega)⟩ (by simp only [M0];omega)
 ·simpa using this
 ·intro i k ⟨hi,hI⟩ ih
  by_cases h0:i=0
  ·subst h0
   refine ⟨b0,rfl,?_⟩
   simp only [if_true]
   cases hl':l with
   | nil=>exact z0 hl' k
   | cons c r =>
    rw [List.drop_zero]
    refine s0 c r k hl' fun h1=>?_
    have:=ih 1 ⟨by rw [hl'];simp,fun _=>h1⟩ (by rw [hl'];simp)
    simp only [show ¬ ((1:Nat)=0) by decide,if_false,hl',List.drop_succ_cons,List.drop_zero] at this
    exact this
  ·refine ⟨b1,by simp only [h0,if_false];rfl,?_⟩
   simp only [h0,if_false]
   by_cases h:i < l.length
   ·have hd:=List.drop_eq_getElem_cons h
    rw [hd]
    refine s1 i l[i] _ k (by omega) (by simp [h]) hd h (wrap_succ h hl) (hI (by omega)) fun h1=>?_
    have:=ih (i+1) ⟨h,fun _=>h1⟩ (by omega)
    simp only [show ¬ (i+1=0) by omega,if_false] at this
    exact this
   ·have:i=l.length:=by omega
    subst this
    simp only [List.drop_length]
    exact z1 (hI (by omega)) k
theorem many_cons (r:Rec) (l:List Rec) (k:Int):many (r::l) k=many l k+if r.p=k then 1 else 0:=by
 unfold many
 rw [List.countP_cons]
 simp
theorem many_leQ (l:List Rec) (k:Int):many l k≤l.length:=List.countP_le_length
theorem s98 (n:Nat) (o:Option (List Rec)) (q:Int) (hl:(o.getD []).length≤4611686018427387904):FN (n+1) 98 [dR o,il q]=some (0,[.d (il (many (o.getD []) q))]):=by
 rw [F98]
 have:=range_loop (β:=Nat) (o.getD []) hl (L98_0 (RP n)) (fun i v=>[.d (il q),.d (il v),.d (dR o),.d (il (o.getD []).length),.d (il i)]) (fun i v=>v≤i) (fun _ r v=>some (0,[.d (il ((v+many r q:Nat):Int))])) ?_ ?_ M0 0 (by simp) (M0_big hl)
 ·have this':loopR [L98_0 (RP n)] M0 0 [.d (il q),.d (il 0),.d (dR o),.d (il (o.getD []).length),.d (il 0)]=some (0,[.d (il ((0+many (o.getD []) q:Nat):Int))]):=this
  simp only [G98,lenL,r_loop,r_liti,this',r_bnd0,r_ld0,r_out,Nat.zero_add]
 ·intro v k _
  simp only [L98_0,r_ld0,r_lds,r_lss,Int.lt_irrefl,decide_false,Bool.false_eq_true,if_false,r_cond,r_out]
  rfl
 ·intro i c r v k hi hd hlt hw hv ih
  have hlt':(i:Int) < ((o.getD []).length:Int):=by omega
  have hw2:IntKind.i64.wrap ((v:Int)+1)=(v:Int)+1:=wrap_succ (show v < (o.getD []).length by omega) hl
  simp only [L98_0,r_ld0,r_lds,r_lss,hlt',decide_true,if_true,r_cond,rowR hi,cR0,r_eql,r_liti,r_add,hw,hw2,many_cons,decide_eq_true_eq]
  by_cases h:c.p=q
  ·have:=ih (v+1) (by omega)
   rw [cast1,cast1] at this
   rw [if_pos h,if_pos h,this]
   congr 5
   omega
  ·have:=ih v (by omega)
   rw [cast1] at this
   rw [if_neg h,if_neg h,this]
   rfl
theorem s90 (n:Nat) (o:Option (List Rec)) (r:Rec) (hl:(o.getD []).length≤4611686018427387904):FN (n+5) 90 (dR o::recR r)=some (0,[.d (bl (nextR (o.getD []) r))]):=by
 have h:=s35 n r
 have h2:=s98 (n+3) o r.p hl
 unfold nextR
 generalize many (o.getD []) r.p=M at h2 ⊢
 obtain ⟨p,no,kd,dy,kn,op,on,tx⟩:=r
 show FN (n+5) 90 [dR o,il p,il no,il kd,il dy,il kn,il op,il on,sD tx]=_
 rw [F90]
 simp only [recR] at h
 simp only at h2
 simp only [G90,lenL,r_lss,r_liti,r_litb,r_cond,r_call,h,r_bnd0,r_ld0,r_eql,h2,r_out]
 by_cases h1:(o.getD []).length < 60
 ·have h1':(((o.getD []).length:Nat):Int) < 60:=by omega
  by_cases hr:okR ⟨p,no,kd,dy,kn,op,on,tx⟩=true
  ·simp only [h1,h1',decide_true,if_true,hr,Bool.true_and]
  ·simp [h1',hr]
 ·have h1':¬ ((((o.getD []).length:Nat):Int) < 60):=by omega
  simp [h1,h1']
def en97 (o:Option (List Rec)) (i:Nat):List Yr:=[.n ((o.getD []).take i).length,.n ((o.getD []).take i).length,.d (dR o),.d (il (o.getD []).length),.d (il i),.r (((o.getD []).take i).map recR)]
theorem take_one {α:Type} {l:List α} {c:α} {r:List α} (h:l=c::r):l.take 1=[c]:=by rw [h];rfl
theorem take_snoc {α:Type} {l:List α} {i:Nat} {c:α} (h:l[i]?=some c):l.take (i+1)=l.take i++[c]:=by
 rw [List.take_add_one,h];rfl
theorem l97 (n:Nat) (o:Option (List Rec)) (hl:(o.getD []).length≤4611686018427387904) (c90:∀ (q:Option (List Rec)) r,(q.getD []).length≤4611686018427387904→FN n 90 (dR q::recR r)=some (0,[.d (bl (nextR (q.getD []) r))])) :
  loopR [L97_0 (RP n),L97_1 (RP n)] M0 0 [.d (dR o),.d (il (o.getD []).length),.d (il 0)]=allO (isLog (o.getD [])):=by
 have:=two_loop (o.getD []) hl (L97_0 (RP n)) (L97_1 (RP n)) [.d (dR o),.d (il (o.getD []).length),.d (il 0)] (en97 o) (fun i=>i≤60) (fun i r=>allO (logG ((o.getD []).take i) r)) ?_ ?_ ?_ ?_
 ·exact this
 ·intro h k
  simp only [L97_0,r_ld0,r_lds,h,List.length_nil,r_lss,show ¬ ((0:Int) < ((0:Nat):Int)) by decide,decide_false,Bool.false_eq_true,if_false,r_cond,r_out,logG,allO]
 ·intro c r k h ih
  have hi:(o.getD [])[0]?=some c:=by rw [h];rfl
  have hlt:(0:Int) < (((o.getD []).length:Nat):Int):=by rw [h];simp only [List.length_cons];omega
  have cc:=c90 none c (by simp)
  have rr:∀ k:List D→Out,(RP n).rowD 8 (dR o) (il 0) k=k (recR c):=fun k=>rowR (i:=0) hi k
  rw [List.take_zero,logG,List.nil_append]
  simp only [Option.getD_none] at cc
  have e1:en97 o 1=[.n 1,.n 1,.d (dR o),.d (il (o.getD []).length),.d (il 1),.r [recR c]]:=by rw [en97,take_one h];rfl
  have w1:IntKind.i64.wrap (0+1)=1:=by decide
  have hf:1*72≤140737488355328∧1≤9223372036854775807:=by decide
  have cc':FN n 90 [.lit (.slice none 0 0),il c.p,il c.no,il c.kd,il c.dy,il c.kn,il c.op,il c.on,sD c.tx]=some (0,[.d (bl (nextR [] c))]):=cc
  rw [e1,take_one h] at ih
  simp only [L97_0,r_ld0,r_lds,r_lss,hlt,decide_true,if_true,r_cond,rr,r_litNil,cR0,cR1,cR2,cR3,cR4,cR5,cR6,cR7,r_call,cc',r_bnd0,r_not,r_litb,r_out,r_natN,r_rows,r_len,List.length_cons,List.length_nil,Nat.zero_add,r_eqN,r_seg0,List.take_succ_cons,List.take_zero,r_isNil1,r_fitsg,if_pos hf,r_liti,r_add,w1]
  cases hn:nextR [] c with
  | false=>simp only [Bool.not_false,if_true,Bool.false_and];rfl
  | true =>
   simp only [Bool.not_true,Bool.false_eq_true,if_false,Bool.true_and]
   exact ih (by decide)
 ·intro _ k
  simp only [en97,L97_1,r_ld0,r_lds,r_lss,Int.lt_irrefl,decide_false,Bool.false_eq_true,if_false,r_cond,r_out,logG,allO]
 ·intro i c r k hi0 hi hd hlt hw hI ih
  have hlt':(i:Int) < (((o.getD []).length:Nat):Int):=by omega
  have cc:=c90 (some ((o.getD []).take i)) c (by simp only [Option.getD_some,List.length_take];omega)
  simp only [Option.getD_some] at cc
  have hm:(((o.getD []).take i).map recR).length=((o.getD []).take i).length:=List.length_map _
  have ht:(((o.getD []).take i).map recR).take ((o.getD []).take i).length=((o.getD []).take i).map recR:=List.take_of_length_le (by simp)
  have hlen:((o.getD []).take i).length=i:=by rw [List.length_take];omega
  have hf:(((o.getD []).take i).length+1)*72≤140737488355328∧((o.getD []).take i).length+1≤9223372036854775807:=by omega
  have cc':FN n 90 [.sl 8 (((o.getD []).take i).map recR),il c.p,il c.no,il c.kd,il c.dy,il c.kn,il c.op,il c.on,sD c.tx]=some (0,[.d (bl (nextR ((o.getD []).take i) c))]):=cc
  have e1:en97 o (i+1)=[.n (((o.getD []).take i).length+1),.n (((o.getD []).take i).length+1),.d (dR o),.d (il (o.getD []).length),.d (il ((i:Int)+1)),.r (((o.getD []).take i).map recR++[recR c])]:=by
   rw [en97,take_snoc hi,List.length_append,List.map_append,cast1];rfl
  rw [e1,take_snoc hi] at ih
  rw [logG]
  simp only [en97,L97_1,r_ld0,r_lds,r_ln0,r_lns,r_lr0,r_lrs,r_lss,hlt',decide_true,if_true,r_cond,rowR hi,cR0,cR1,cR2,cR3,cR4,cR5,cR6,cR7,r_len,hm,r_eqN,r_seg0,ht,r_slD,r_call,cc',r_bnd0,r_litsg,List.all_cons,List.all_nil,yl_b,Bool.and_true,r_not,r_litb,r_out,r_natN,r_rows,List.length_cons,List.length_nil,Nat.zero_add,List.take_succ_cons,List.take_zero,r_addN,r_fitsg,if_pos hf,r_liti,r_add,hw,r_app]
  cases hn:nextR ((o.getD []).take i) c with
  | false=>simp only [Bool.not_false,if_true,Bool.false_and];rfl
  | true =>
   have h60:=(next_iff.1 hn).1
   rw [hlen] at h60
   simp only [Bool.not_true,Bool.false_eq_true,if_false,Bool.true_and]
   exact ih (by omega)
theorem s97 (n:Nat) (o:Option (List Rec)) (hl:(o.getD []).length≤4611686018427387904):FN (n+6) 97 [dR o]=some (0,[.d (bl (isLog (o.getD [])))]):=by
 have l:=l97 (n+5) o hl fun q r h=>s90 n q r h
 rw [F97]
 simp only [G97,lenL,r_loop,r_liti,l,r_litb]
 cases isLog (o.getD [])<;>rfl
end Go.VE
namespace Go.VE
open Go.RowKit Go.Proofs Go.Lib
set_option maxRecDepth 100000
def sixP (r:Rec):Prop:=0≤r.p∧r.p≤5
theorem okR_six {r:Rec} (h:okR r=true):sixP r:=by
 simp only [okR,okItem,Bool.and_eq_true,decide_eq_true_eq] at h
 exact ⟨h.1.1.1.1,h.1.1.1.2.1⟩
def cnts (l:List Rec):List D:=[il (many l 0),il (many l 1),il (many l 2),il (many l 3),il (many l 4),il (many l 5)]
theorem sel_cnt {Fn:Nat→List D→Out} {FnD:D→List Sh→List D→Out} {m:Nat} (l:List Rec) {u:Nat} (h:u < 6):(real Fn FnD m).selN u (cnts l)=il (many l u):=by
 match u,h with
 | 0,_=>rfl
 | 1,_=>rfl
 | 2,_=>rfl
 | 3,_=>rfl
 | 4,_=>rfl
 | 5,_=>rfl
theorem many_add (l:List Rec) (c:Rec) (k:Int):many (l++[c]) k=many l k+if c.p=k then 1 else 0:=many_snoc l c k
theorem s107 (n:Nat) (o:Option (List Rec)) (hl:(o.getD []).length≤4611686018427387904) (hp:∀ r∈o.getD [],sixP r):FN (n+1) 107 [dR o]=some (0,(cnts (o.getD [])).map .d):=by
 rw [F107]
 have:=range_loop (β:=Unit) (o.getD []) hl (L107_0 (RP n)) (fun i _=>[.d (dR o),.d (il (o.getD []).length),.d (il i)]++(cnts ((o.getD []).take i)).map .d++[.d (il 0),.d (il 0),.d (il 0),.d (il 0),.d (il 0),.d (il 0)]) (fun _ _=>True)
  (fun _ _ _=>some (0,(cnts (o.getD [])).map .d++[.d (il 0),.d (il 0),.d (il 0),.d (il 0),.d (il 0),.d (il 0)])) ?_ ?_ M0 () trivial (M0_big hl)
 ·have this':loopR [L107_0 (RP n)] M0 0 [.d (dR o),.d (il (o.getD []).length),.d (il 0),.d (il 0),.d (il 0),.d (il 0),.d (il 0),.d (il 0),.d (il 0),.d (il 0),.d (il 0),.d (il 0),.d (il 0),.d (il 0),.d (il 0)]=_:=this
  simp only [G107,lenL,r_loop,r_liti,this',cnts,List.map_cons,List.map_nil,List.cons_append,List.nil_append,r_bnd0,r_ld0,r_lds,r_out]
 ·intro _ k _
  simp only [L107_0,cnts,List.map_cons,List.map_nil,List.cons_append,List.nil_append,List.take_length,r_ld0,r_lds,r_lss,Int.lt_irrefl,decide_false,Bool.false_eq_true,if_false,r_cond,r_out]
 ·intro i c r _ k hi hd hlt hw _ ih
  have hlt':(i:Int) < (((o.getD []).length:Nat):Int):=by omega
  have hc:=hp c (List.mem_of_getElem? hi)
  obtain ⟨u,hu⟩:=Int.eq_ofNat_of_zero_le hc.1
  have hu6:u < 6:=by have:=hc.2;omega
  have ix:∀ k:Nat→Out,(RP n).inx (il c.p) 6 k=k u:=fun k=>by rw [hu,r_inxg,if_pos (by omega),Int.toNat_natCast]
  have hsel:(RP n).selN u [il (many ((o.getD []).take i) 0),il (many ((o.getD []).take i) 1),il (many ((o.getD []).take i) 2),il (many ((o.getD []).take i) 3),il (many ((o.getD []).take i) 4),il (many ((o.getD []).take i) 5)]=il (many ((o.getD []).take i) u):=sel_cnt _ hu6
  have hml:=many_leQ ((o.getD []).take i) (u:Int)
  have htl:((o.getD []).take i).length≤(o.getD []).length:=by rw [List.length_take];omega
  have w1:IntKind.i64.wrap ((many ((o.getD []).take i) (u:Int):Int)+1)=((many ((o.getD []).take i) (u:Int)+1:Nat):Int):=by rw [wrap_id (by omega) (by omega)];omega
  have up:∀ j:Nat,(RP n).updN u j (il ((many ((o.getD []).take i) (u:Int)+1:Nat):Int)) (il (many ((o.getD []).take i) (j:Int)))=il (many ((o.getD []).take (i+1)) (j:Int)):=fun j=>by
   rw [r_updN,take_snoc hi,many_add,hu]
   by_cases h:u=j
   ·subst h;simp
   ·have:¬ ((u:Int)=(j:Int)):=by omega
    simp [h,this]
  have up0:=up 0
  have up1:=up 1
  have up2:=up 2
  have up3:=up 3
  have up4:=up 4
  have up5:=up 5
  have ih':=ih () trivial
  rw [cast1] at ih'
  simp only [cnts,List.map_cons,List.map_nil,List.cons_append,List.nil_append] at ih' ⊢
  simp only [show ((0:Nat):Int)=0 by rfl,show ((1:Nat):Int)=1 by rfl,show ((2:Nat):Int)=2 by rfl,show ((3:Nat):Int)=3 by rfl,show ((4:Nat):Int)=4 by rfl,show ((5:Nat):Int)=5 by rfl] at up0 up1 up2 up3 up4 up5
  simp only [L107_0,r_ld0,r_lds,r_lss,hlt',decide_true,if_true,r_cond,rowR hi,cR0,r_natN,ix,r_addN,r_leN,show u+1≤6 by omega,hsel,r_liti,r_add,w1,hw,up0,up1,up2,up3,up4,up5]
  exact ih'
theorem s87 (n:Nat) (o:Option (List Rec)) (r:Rec) (hl:(o.getD []).length≤4611686018427387904) (hp:∀ r∈o.getD [],sixP r):FN (n+5) 87 (dR o::recR r)=some (0,[.d (bl (nextR (o.getD []) r))]):=by
 have h:=s69 n r
 have h2:=s107 (n+3) o hl hp
 have h6:=okR_six (r:=r)
 unfold nextR
 obtain ⟨p,no,kd,dy,kn,op,on,tx⟩:=r
 show FN (n+5) 87 [dR o,il p,il no,il kd,il dy,il kn,il op,il on,sD tx]=_
 rw [F87]
 simp only [recR] at h
 simp only [cnts,List.map_cons,List.map_nil] at h2
 simp only [G87,lenL,r_lss,r_liti,r_litb,r_cond,r_call,h,r_bnd0,r_ld0,r_lds,r_out]
 by_cases h1:(o.getD []).length < 60
 ·have h1':(((o.getD []).length:Nat):Int) < 60:=by omega
  by_cases hr:okR ⟨p,no,kd,dy,kn,op,on,tx⟩=true
  ·have hc:=h6 hr
   unfold sixP at hc
   simp only at hc
   obtain ⟨u,hu⟩:=Int.eq_ofNat_of_zero_le hc.1
   subst hu
   have hu6:u < 6:=by omega
   have ix:∀ k:Nat→Out,(RP (n+4)).inx (il u) 6 k=k u:=fun k=>by rw [r_inxg,if_pos (by omega),Int.toNat_natCast]
   have hsel:=sel_cnt (Fn:=FN (n+4)) (FnD:=FnDof Tryz.prog (cf3 tb Tryz.prog) (FN (n+4))) (m:=M0) (o.getD []) hu6
   unfold cnts at hsel
   simp only [h1,h1',decide_true,if_true,hr,Bool.true_and,h2,r_bnd0,r_ld0,r_lds,r_natN,ix,hsel,r_eql]
  ·simp [h1',hr]
 ·have h1':¬ ((((o.getD []).length:Nat):Int) < 60):=by omega
  simp [h1,h1']
def en122 (o:Option (List Rec)) (i:Nat):List Yr:=[.n ((o.getD []).take i).length,.n ((o.getD []).take i).length,.d (dR o),.d (il (o.getD []).length),.d (il i),.r (((o.getD []).take i).map recR)]
theorem l122 (n:Nat) (o:Option (List Rec)) (hl:(o.getD []).length≤4611686018427387904) (c87:∀ (q:Option (List Rec)) r,(q.getD []).length≤4611686018427387904→(∀ x∈q.getD [],sixP x)→FN n 87 (dR q::recR r)=some (0,[.d (bl (nextR (q.getD []) r))])) :
  loopR [L122_0 (RP n),L122_1 (RP n)] M0 0 [.d (dR o),.d (il (o.getD []).length),.d (il 0)]=allO (isLog (o.getD [])):=by
 have:=two_loop (o.getD []) hl (L122_0 (RP n)) (L122_1 (RP n)) [.d (dR o),.d (il (o.getD []).length),.d (il 0)] (en122 o) (fun i=>i≤60∧∀ x∈(o.getD []).take i,sixP x) (fun i r=>allO (logG ((o.getD []).take i) r)) ?_ ?_ ?_ ?_
 ·exact this
 ·intro h k
  simp only [L122_0,r_ld0,r_lds,h,List.length_nil,r_lss,show ¬ ((0:Int) < ((0:Nat):Int)) by decide,decide_false,Bool.false_eq_true,if_false,r_cond,r_out,logG,allO]
 ·intro c r k h ih
  have hi:(o.getD [])[0]?=some c:=by rw [h];rfl
  have hlt:(0:Int) < (((o.getD []).length:Nat):Int):=by rw [h];simp only [List.length_cons];omega
  have cc:=c87 none c (by simp) (by simp)
  have rr:∀ k:List D→Out,(RP n).rowD 8 (dR o) (il 0) k=k (recR c):=fun k=>rowR (i:=0) hi k
  rw [List.take_zero,logG,List.nil_append]
  simp only [Option.getD_none] at cc
  have e1:en122 o 1=[.n 1,.n 1,.d (dR o),.d (il (o.getD []).length),.d (il 1),.r [recR c]]:=by rw [en122,take_one h];rfl
  have w1:IntKind.i64.wrap (0+1)=1:=by decide
  have hf:1*72≤140737488355328∧1≤9223372036854775807:=by decide
  have cc':FN n 87 [.lit (.slice none 0 0),il c.p,il c.no,il c.kd,il c.dy,il c.kn,il c.op,il c.on,sD c.tx]=some (0,[.d (bl (nextR [] c))]):=cc
  rw [e1,take_one h] at ih
  simp only [L122_0,r_ld0,r_lds,r_lss,hlt,decide_true,if_true,r_cond,rr,r_litNil,cR0,cR1,cR2,cR3,cR4,cR5,cR6,cR7,r_call,cc',r_bnd0,r_not,r_litb,r_out,r_natN,r_rows,r_len,List.length_cons,List.length_nil,Nat.zero_add,r_eqN,r_seg0,List.take_succ_cons,List.take_zero,r_isNil1,r_fitsg,if_pos hf,r_liti,r_add,w1]
  cases hn:nextR [] c with
  | false=>simp only [Bool.not_false,if_true,Bool.false_and];rfl
  | true =>
   simp only [Bool.not_true,Bool.false_eq_true,if_false,Bool.true_and]
   exact ih ⟨by decide,fun x hx=>by rw [List.mem_singleton] at hx;rw [hx];exact okR_six (next_iff.1 hn).2.1⟩
 ·intro _ k
  simp only [en122,L122_1,r_ld0,r_lds,r_lss,Int.lt_irrefl,decide_false,Bool.false_eq_true,if_false,r_cond,r_out,logG,allO]
 ·intro i c r k hi0 hi hd hlt hw hI ih
  have hlt':(i:Int) < (((o.getD []).length:Nat):Int):=by omega
  have cc:=c87 (some ((o.getD []).take i)) c (by simp only [Option.getD_some,List.length_take];omega) hI.2
  simp only [Option.getD_some] at cc
  have hm:(((o.getD []).take i).map recR).length=((o.getD []).take i).length:=List.length_map _
  have ht:(((o.getD []).take i).map recR).take ((o.getD []).take i).length=((o.getD []).take i).map recR:=List.take_of_length_le (by simp)
  have hlen:((o.getD []).take i).length=i:=by rw [List.length_take];omega
  have hf:(((o.getD []).take i).length+1)*72≤140737488355328∧((o.getD []).take i).length+1≤9223372036854775807:=by omega
  have cc':FN n 87 [.sl 8 (((o.getD []).take i).map recR),il c.p,il c.no,il c.kd,il c.dy,il c.kn,il c.op,il c.on,sD c.tx]=some (0,[.d (bl (nextR ((o.getD []).take i) c))]):=cc
  have e1:en122 o (i+1)=[.n (((o.getD []).take i).length+1),.n (((o.getD []).take i).length+1),.d (dR o),.d (il (o.getD []).length),.d (il ((i:Int)+1)),.r (((o.getD []).take i).map recR++[recR c])]:=by
   rw [en122,take_snoc hi,List.length_append,List.map_append,cast1];rfl
  rw [e1,take_snoc hi] at ih
  rw [logG]
  simp only [en122,L122_1,r_ld0,r_lds,r_ln0,r_lns,r_lr0,r_lrs,r_lss,hlt',decide_true,if_true,r_cond,rowR hi,cR0,cR1,cR2,cR3,cR4,cR5,cR6,cR7,r_len,hm,r_eqN,r_seg0,ht,r_slD,r_call,cc',r_bnd0,r_litsg,List.all_cons,List.all_nil,yl_b,Bool.and_true,r_not,r_litb,r_out,r_natN,r_rows,List.length_cons,List.length_nil,Nat.zero_add,List.take_succ_cons,List.take_zero,r_addN,r_fitsg,if_pos hf,r_liti,r_add,hw,r_app]
  cases hn:nextR ((o.getD []).take i) c with
  | false=>simp only [Bool.not_false,if_true,Bool.false_and];rfl
  | true =>
   have h60:=(next_iff.1 hn).1
   rw [hlen] at h60
   simp only [Bool.not_true,Bool.false_eq_true,if_false,Bool.true_and]
   exact ih ⟨by omega,fun x hx=>by
    rw [List.mem_append,List.mem_singleton] at hx
    rcases hx with hx | rfl
    ·exact hI.2 x hx
    ·exact okR_six (next_iff.1 hn).2.1⟩
theorem s122 (n:Nat) (o:Option (List Rec)) (hl:(o.getD []).length≤4611686018427387904):FN (n+6) 122 [dR o]=some (0,[.d (bl (isLog (o.getD [])))]):=by
 have l:=l122 (n+5) o hl fun q r h hp=>s87 n q r h hp
 rw [F122]
 simp only [G122,lenL,r_loop,r_liti,l,r_litb]
 cases isLog (o.getD [])<;>rfl
end Go.VE
namespace Go.VE
open Go.Lib
set_option maxRecDepth 100000
theorem log_iff {l:List Rec}:isLog l=true↔l.length≤60∧(∀ r∈l,okR r=true)∧∀ (k:Int) (n:Nat) (r:Rec),(ofP l k)[n]?=some r→r.no=n:=by
 constructor
 ·intro h
  exact ⟨log_len h,log_okR h,log_no h⟩
 ·have key:∀ m:List Rec,m.reverse.length≤60→(∀ r∈m.reverse,okR r=true)→(∀ (k:Int) (n:Nat) (r:Rec),(ofP m.reverse k)[n]?=some r→r.no=n)→isLog m.reverse=true:=by
   intro m
   induction m with
   | nil=>intro _ _ _;rfl
   | cons r m ih =>
    intro h1 h2 h3
    rw [List.reverse_cons] at h1 h2 h3 ⊢
    rw [List.length_append,List.length_singleton] at h1
    rw [isLog_snoc,Bool.and_eq_true]
    constructor
    ·refine ih (by omega) (fun x hx=>h2 x (List.mem_append_left _ hx)) ?_
     intro k n x hx
     refine h3 k n x ?_
     rw [ofP_snoc,List.getElem?_append_left (List.getElem?_eq_some_iff.1 hx).1]
     exact hx
    ·rw [next_iff]
     refine ⟨by omega,h2 r (by simp),?_⟩
     refine h3 r.p _ r ?_
     rw [ofP_snoc,if_pos rfl,List.getElem?_append_right (by rw [ofP_len];exact Nat.le_refl _),ofP_len,Nat.sub_self]
     rfl
  rintro ⟨h1,h2,h3⟩
  have:=key l.reverse
  rw [List.reverse_reverse] at this
  exact this h1 h2 h3
def sameI (a b:Rec):Bool:=decide (a.p=b.p∧a.no=b.no)
def isBook (l:List Rec):Prop:=isLog l=true∧l.Pairwise bef
theorem book_srt {l:List Rec} (h:isBook l):srt l=l:=(srt_of h.1 h.2 (.refl _)).symm
def clash (a b:List Rec):Prop:=∃ x∈a,∃ r∈b,sameI x r=true∧x≠r
def freshG (a b:List Rec):List Rec:=b.filter fun r=>!(a.any fun x=>sameI x r)
def joined (a b:List Rec):List Rec:=a++freshG a b
theorem filter_drop {α:Type} (q:α→Bool):∀ (l:List α) (m:Nat),(∀ i x,l[i]?=some x→(q x=true↔m≤i))→l.filter q=l.drop m
 | [],m,_=>by simp
 | x::t,0,h=>by
  rw [List.drop_zero]
  refine List.filter_eq_self.2 fun y hy=>?_
  obtain ⟨i,hi,e⟩:=List.mem_iff_getElem.1 hy
  exact (h i y (by rw [List.getElem?_eq_getElem hi,e])).2 (Nat.zero_le _)
 | x::t,m+1,h=>by
  have h0:q x=false:=by
   have:=(h 0 x rfl)
   cases hq:q x with
   | false=>rfl
   | true=>exact absurd (this.1 hq) (by omega)
  rw [List.filter_cons,h0,List.drop_succ_cons]
  simp only [Bool.false_eq_true,if_false]
  refine filter_drop q t m fun i y hy=>?_
  rw [h (i+1) y (by simpa using hy)]
  omega
theorem log_has {l:List Rec} (h:isLog l=true) {k:Int} {n:Nat} (hn:n < many l k):∃ r∈l,r.p=k∧r.no=n∧(ofP l k)[n]?=some r:=by
 rw [←ofP_len] at hn
 have h1:=ofP_mem.1 (List.getElem_mem hn)
 exact ⟨_,h1.1,h1.2,log_no h k n _ (List.getElem?_eq_getElem hn),List.getElem?_eq_getElem hn⟩
theorem log_at {l:List Rec} (h:isLog l=true) {r:Rec} (hr:r∈l):(ofP l r.p)[r.no.toNat]?=some r:=by
 obtain ⟨n,hn,e⟩:=List.mem_iff_getElem.1 (ofP_mem.2 ⟨hr,rfl⟩:r∈ofP l r.p)
 have h1:=log_no h r.p n r (by rw [List.getElem?_eq_getElem hn,e])
 rw [h1,Int.toNat_natCast,List.getElem?_eq_getElem hn,e]
theorem any_same {a:List Rec} (ha:isLog a=true) {k:Int} {n:Nat} {r:Rec} (hp:r.p=k) (hn:r.no=n):(a.any fun x=>sameI x r)=true↔n < many a k:=by
 rw [List.any_eq_true]
 constructor
 ·rintro ⟨x,hx,h⟩
  simp only [sameI,decide_eq_true_eq] at h
  have:=(log_no_lt ha hx).2
  rw [h.1,hp] at this
  omega
 ·intro h
  obtain ⟨x,hx,h1,h2,_⟩:=log_has ha h
  exact ⟨x,hx,by simp only [sameI,decide_eq_true_eq];omega⟩
theorem joined_ofP {a b:List Rec} (ha:isLog a=true) (hb:isLog b=true) (k:Int):ofP (joined a b) k=ofP a k++(ofP b k).drop (many a k):=by
 unfold joined
 have e:ofP (a++freshG a b) k=ofP a k++ofP (freshG a b) k:=by simp [ofP]
 rw [e]
 congr 1
 have e2:ofP (freshG a b) k=(ofP b k).filter fun r=>!(a.any fun x=>sameI x r):=by
  simp only [ofP,freshG,List.filter_filter,Bool.and_comm]
 rw [e2]
 refine filter_drop _ _ _ fun i r hr=>?_
 have hn:=log_no hb k i r hr
 obtain ⟨hi,hr'⟩:=List.getElem?_eq_some_iff.1 hr
 have hp:=(ofP_mem.1 (List.getElem_mem hi)).2
 rw [hr'] at hp
 have:=any_same ha hp hn
 cases hq:(a.any fun x=>sameI x r) with
 | true=>simp only [hq,true_iff] at this;simp;omega
 | false=>simp only [hq,Bool.false_eq_true,false_iff] at this;simp;omega
theorem joined_at {a b:List Rec} (ha:isLog a=true) (hb:isLog b=true) (k:Int) (n:Nat):(ofP (joined a b) k)[n]?=if n < many a k then (ofP a k)[n]? else (ofP b k)[n]?:=by
 rw [joined_ofP ha hb,List.getElem?_append,ofP_len]
 split
 ·rfl
 ·rw [List.getElem?_drop]
  congr 1
  omega
theorem joined_ok {a b:List Rec} (ha:isLog a=true) (hb:isLog b=true):∀ r∈joined a b,okR r=true:=by
 intro r hr
 rcases List.mem_append.1 hr with hr | hr
 ·exact log_okR ha r hr
 ·exact log_okR hb r (List.mem_filter.1 hr).1
theorem joined_log {a b:List Rec} (ha:isLog a=true) (hb:isLog b=true) (hl:(joined a b).length≤60):isLog (joined a b)=true:=by
 rw [log_iff]
 refine ⟨hl,joined_ok ha hb,?_⟩
 intro k n r hr
 rw [joined_at ha hb] at hr
 split at hr
 ·exact log_no ha k n r hr
 ·exact log_no hb k n r hr
noncomputable def joinP (a b:List Rec):List Rec×Int:=by
 classical
 exact if clash a b then ([],82) else if 60 < (joined a b).length then ([],2) else (srt (joined a b),0)
end Go.VE
namespace Go.VE
open Go.Lib
set_option maxRecDepth 100000
structure Bnd where
 st:Nat→List Strp
 sw:Nat→Int
def stripsF (q:Nat):Nat→List Rec→List Strp
 | _,[]=>[]
 | n,r::t=>strip n (txt r) q::stripsF q (n+1) t
def boundS (q:Nat) (l:List Rec):List Strp:=stripsF q 0 l
def isBound (b:Bnd) (l:List Rec):Prop:=isLog l=true∧∀ q,q < 3→b.st q=boundS q l∧0≤b.sw q∧b.sw q≤l.length
end Go.VE
namespace Go.VE
open Go.Lib
set_option maxRecDepth 100000
def addsP (l:List Rec) (r:Rec):Bool×Int :=
 if okR r=true then match l.find? (fun x=>sameI x r) with
  | some x=>if x=r then (true,0) else (false,82)
  | none=>if (many l r.p:Int) < r.no then (false,83) else if l.length=60 then (false,2) else (false,0)
 else (false,80)
theorem same_eq {l:List Rec} (h:isLog l=true) {x r:Rec} (hx:x∈l) (hr:r∈l) (hs:sameI x r=true):x=r:=by
 simp only [sameI,decide_eq_true_eq] at hs
 have e1:=log_at h hx
 have e2:=log_at h hr
 rw [hs.1,hs.2,e2] at e1
 simpa using e1.symm
def Pre (G:List Rec) (k:Int) (l:List Rec):Prop:=ofP l k=G.take (many l k)∧many l k≤G.length
end Go.VE
namespace Go.VE
open Go.Lib
set_option maxRecDepth 100000
structure Ltr where
 fr:Nat
 to:Nat
 ab:Nat
 many:Nat
 first:Nat
 recs:List Rec
structure Twn where
 L:Nat→List Rec
 B:Nat→Bnd
 S:Nat→Nat
def Twn.F (t:Twn) (k:Nat):List Rec:=ofP ((t.L k).take (t.S k)) k
structure Firm (b:Bnd) (l:List Rec) (s:Nat):Prop where
 bnd:isBound b l
 sw:∀ q,q < 3→(s:Int)≤b.sw q
theorem Firm.le {b:Bnd} {l:List Rec} {s:Nat} (h:Firm b l s):s≤l.length:=by
 have h1:=h.sw 0 (by decide)
 have h2:=(h.bnd.2 0 (by decide)).2.2
 omega
structure Inv (t:Twn):Prop where
 firm:∀ i,i < 6→Firm (t.B i) (t.L i) (t.S i)
 pre:∀ j k,j < 6→k < 6→j≠k→Pre (t.F k) k (t.L j)
structure LtrOK (t:Twn) (x:Ltr):Prop where
 fr:x.fr < 6
 to:x.to < 6
 ne:x.fr≠x.to
 ab:x.ab < 6
 many:x.many≤Go.VE.many ((t.L x.fr).take (t.S x.fr)) x.ab
 first:x.first≤60
 len:x.recs.length≤6
 mem:∀ r∈x.recs,r∈t.F x.ab
 no:∀ (i:Nat) (r:Rec),x.recs[i]?=some r→r.no=((x.first+i:Nat):Int)
def updN {α:Type} (f:Nat→α) (i:Nat) (x:α):Nat→α:=fun j=>if j=i then x else f j
theorem updN_same {α:Type} (f:Nat→α) (i:Nat) (x:α):updN f i x i=x:=if_pos rfl
theorem updN_ne {α:Type} (f:Nat→α) {i j:Nat} (x:α) (h:j≠i):updN f i x j=f j:=if_neg h
def Twn.upd (t:Twn) (me:Nat) (l:List Rec) (b:Bnd) (s:Nat):Twn:=⟨updN t.L me l,updN t.B me b,updN t.S me s⟩
theorem ofP_pre {l m:List Rec} (h:l <+: m) (k:Int):ofP l k <+: ofP m k:=by
 obtain ⟨r,rfl⟩:=h
 exact ⟨ofP r k,by simp [ofP]⟩
theorem many_pre {l m:List Rec} (h:l <+: m) (k:Int):many l k≤many m k:=by
 rw [←ofP_len,← ofP_len]
 exact (ofP_pre h k).length_le
theorem Pre.grow {G G':List Rec} {k:Int} {l:List Rec} (h:Pre G k l) (hg:G <+: G'):Pre G' k l:=by
 obtain ⟨r,rfl⟩:=hg
 refine ⟨?_,by rw [List.length_append];have:=h.2;omega⟩
 rw [List.take_append_of_le_length h.2]
 exact h.1
theorem Pre.cut {G:List Rec} {k:Int} {l m:List Rec} (h:Pre G k l) (hm:m <+: l):Pre G k m:=by
 have h1:=ofP_pre hm k
 have h2:=many_pre hm k
 refine ⟨?_,by have:=h.2;omega⟩
 have:=List.prefix_iff_eq_take.1 h1
 rw [this,h.1,List.take_take,ofP_len]
 congr 1
 omega
theorem Pre.other {G:List Rec} {k:Int} {l new:List Rec} (h:Pre G k l) (hn:∀ r∈new,r.p≠k):Pre G k (l++new):=by
 have e:ofP (l++new) k=ofP l k:=by
  have:ofP new k=[]:=List.filter_eq_nil_iff.2 fun r hr=>by simpa using hn r hr
  show (l++new).filter _=_
  rw [List.filter_append]
  show ofP l k++ofP new k=_
  rw [this,List.append_nil]
 have e2:many (l++new) k=many l k:=by rw [←ofP_len,e,ofP_len]
 exact ⟨by rw [e,e2];exact h.1,by rw [e2];exact h.2⟩
theorem F_grow {t:Twn} {me:Nat} {l:List Rec} {b:Bnd} {s:Nat} (hg:(t.L me).take (t.S me) <+: l.take s) (k:Nat):t.F k <+: (t.upd me l b s).F k:=by
 unfold Twn.F
 by_cases hk:k=me
 ·subst hk
  simp only [Twn.upd,updN_same]
  exact ofP_pre hg _
 ·simp only [Twn.upd,updN_ne _ _ hk]
  exact List.prefix_refl _
theorem Inv.upd {t:Twn} (h:Inv t) {me:Nat} {l:List Rec} {b:Bnd} {s:Nat} (hf:Firm b l s) (hg:(t.L me).take (t.S me) <+: l.take s) (hp:∀ k,k < 6→k≠me→Pre (t.F k) k l):Inv (t.upd me l b s):=by
 constructor
 ·intro i hi
  by_cases hk:i=me
  ·subst hk
   simp only [Twn.upd,updN_same]
   exact hf
  ·simp only [Twn.upd,updN_ne _ _ hk]
   exact h.firm i hi
 ·intro j k hj hk hjk
  have hF:=F_grow (b:=b) hg k
  by_cases hm:j=me
  ·subst hm
   have e:(t.upd j l b s).L j=l:=updN_same _ _ _
   rw [e]
   exact (hp k hk (Ne.symm hjk)).grow hF
  ·have e:(t.upd me l b s).L j=t.L j:=updN_ne _ _ hm
   rw [e]
   exact (h.pre j k hj hk hjk).grow hF
theorem LtrOK.upd {t:Twn} {x:Ltr} (h:LtrOK t x) {me:Nat} {l:List Rec} {b:Bnd} {s:Nat} (hg:(t.L me).take (t.S me) <+: l.take s):LtrOK (t.upd me l b s) x:=by
 refine ⟨h.fr,h.to,h.ne,h.ab,?_,h.first,h.len,fun r hr=>(F_grow hg x.ab).subset (h.mem r hr),h.no⟩
 refine Nat.le_trans h.many ?_
 by_cases hk:x.fr=me
 ·rw [←hk] at hg
  simp only [Twn.upd,← hk,updN_same]
  exact many_pre hg _
 ·simp only [Twn.upd,updN_ne _ _ hk]
  exact Nat.le_refl _
end Go.VE
namespace Go.VE
open Go.Lib
set_option maxRecDepth 100000
structure Two where
 a:Nat
 c:Nat
 G:Nat→List Rec
 big:Nat→Nat
 sm:Nat→Nat
structure LtrE (w:Two) (L:Nat→List Rec) (x:Ltr):Prop where
 ab:x.ab < 6
 mem:∀ r∈x.recs,r∈w.G x.ab
 no:∀ (i:Nat) (r:Rec),x.recs[i]?=some r→r.no=((x.first+i:Nat):Int)
 way:(x.to=w.big x.ab∧x.fr=w.sm x.ab∧x.many≤many (L (w.sm x.ab)) x.ab) ∨
  (x.to=w.sm x.ab∧x.fr=w.big x.ab∧x.many=(w.G x.ab).length∧((x.first < (w.G x.ab).length∧x.first≤many (L (w.sm x.ab)) x.ab∧x.recs.length=min 6 ((w.G x.ab).length - x.first))∨x.first=(w.G x.ab).length))
theorem LtrE.grow {w:Two} {L L':Nat→List Rec} {x:Ltr} (h:LtrE w L x) (hg:∀ i (k:Int),many (L i) k≤many (L' i) k):LtrE w L' x:=by
 refine ⟨h.ab,h.mem,h.no,?_⟩
 rcases h.way with ⟨h1,h2,h3⟩ | ⟨h1,h2,h3,h4⟩
 ·exact .inl ⟨h1,h2,Nat.le_trans h3 (hg _ _)⟩
 ·refine .inr ⟨h1,h2,h3,?_⟩
  rcases h4 with ⟨h4,h5,h6⟩ | h4
  ·exact .inl ⟨h4,Nat.le_trans h5 (hg _ _),h6⟩
  ·exact .inr h4
end Go.VE
namespace Go.VE
open Go.Lib
set_option maxRecDepth 100000
end Go.VE
namespace Go.VE
open Go.Lib
set_option maxRecDepth 100000
end Go.VE
