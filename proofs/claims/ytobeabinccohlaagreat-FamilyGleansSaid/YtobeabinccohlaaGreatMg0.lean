/- The functions. -/
import Derived.Test.YtobeabinccohlaaGreatMf0
import Derived.Test.YtobeabinccohlaaGreatMf1
import Derived.Test.YtobeabinccohlaaGreatMf2
import Derived.Test.YtobeabinccohlaaGreatMh
import Derived.KernelRfl
namespace Go.VE
open Go.RowKit Go.Proofs
structure E9 where
 src:Int
 a:Int
 b:Int
 f1:Int
 f2:Int
 t1:Int
 t2:Int
 kn:Int
 un:Int
structure E5 where
 src:Int
 a:Int
 day:Int
 kn:Int
 un:Int
def r9 (e:E9):List D:=[il e.src,il e.a,il e.b,il e.f1,il e.f2,il e.t1,il e.t2,il e.kn,il e.un]
def r5 (e:E5):List D:=[il e.src,il e.a,il e.day,il e.kn,il e.un]
theorem s49 (n:Nat) (x lo hi:Int):FN (n+1) 49 [il x,il lo,il hi]=some (0,[.d (bl (decide (lo≤x∧x≤hi)))]):=by
 rw [F49]
 simp only [G49,q1q,q69,q00,q0P,q0b]
 by_cases h:lo≤x<;>simp [h]
theorem qgY (n:Nat) (x lo hi:Int):FN (n+1) 135 [il x,il lo,il hi]=some (0,[.d (bl (decide (lo≤x∧x≤hi)))]):=by
 rw [F135]
 simp only [G135,q69,q00,q0P,q0b]
 by_cases h:lo≤x<;>simp [h]
theorem s25 (n:Nat) (x:Int):FN (n+2) 25 [il x]=some (0,[.d (bl (decide (0≤x∧x≤4166)))]):=by
 rw [F25];simp [G25,s49]
theorem s26 (n:Nat) (x:Int):FN (n+2) 26 [il x]=some (0,[.d (bl (decide (1≤x∧x≤99)))]):=by
 rw [F26];simp [G26,s49]
theorem s65 (n:Nat) (x:Int):FN (n+2) 65 [il x]=some (0,[.d (bl (decide (1≤x∧x≤999)))]):=by
 rw [F65];simp [G65,s49]
theorem s132 (n:Nat) (x:Int):FN (n+2) 132 [il x]=some (0,[.d (bl (decide (1≤x∧x≤99999)))]):=by
 rw [F132];simp [G132,s49]
theorem s136 (n:Nat) (x:Int):FN (n+2) 136 [il x]=some (0,[.d (bl (decide (0≤x∧x≤4166)))]):=by
 rw [F136];simp [G136,qgY]
theorem s129 (n:Nat) (x:Int):FN (n+2) 129 [il x]=some (0,[.d (bl (decide (1≤x∧x≤99)))]):=by
 rw [F129];simp [G129,qgY]
theorem s128 (n:Nat) (x:Int):FN (n+2) 128 [il x]=some (0,[.d (bl (decide (1≤x∧x≤999)))]):=by
 rw [F128];simp [G128,qgY]
theorem s127 (n:Nat) (x:Int):FN (n+2) 127 [il x]=some (0,[.d (bl (decide (1≤x∧x≤99999)))]):=by
 rw [F127];simp [G127,qgY]
def q2L (f1 f2 t1 t2:Int):Prop:=0≤f1∧f1≤f2∧f2≤t1∧t1≤t2∧t2≤4166
instance (f1 f2 t1 t2:Int):Decidable (q2L f1 f2 t1 t2):=by unfold q2L;infer_instance
def q27 (kn un:Int):Prop:=0≤kn∧kn≤4166∧(un=0∨kn+1≤un∧un≤4166)
instance (kn un:Int):Decidable (q27 kn un):=by unfold q27;infer_instance
theorem s133 (n:Nat) (f1 f2 t1 t2:Int):FN (n+1) 133 [il f1,il f2,il t1,il t2]=some (0,[.d (bl (decide (q2L f1 f2 t1 t2)))]):=by
 rw [F133]
 simp only [G133,q04,q69,q00,q0P,q0b,q2L]
 by_cases h1:0≤f1<;>by_cases h2:f1≤f2<;>by_cases h3:f2≤t1<;>by_cases h4:t1≤t2<;>simp [h1,h2,h3,h4]
theorem s130 (n:Nat) (f1 f2 t1 t2:Int):FN (n+3) 130 [il f1,il f2,il t1,il t2]=some (0,[.d (bl (decide (q2L f1 f2 t1 t2)))]):=by
 rw [F130]
 simp only [G130,q04,q69,q00,q0P,q0b,q2L,q06,s136,q01,q02]
 by_cases h1:0≤f1<;>by_cases h2:f1≤f2<;>by_cases h3:f2≤t1<;>by_cases h4:t1≤t2<;>simp [h1,h2,h3,h4]
 all_goals (intros;omega)
theorem s134 (n:Nat) (kn un:Int):FN (n+3) 134 [il kn,il un]=some (0,[.d (bl (decide (q27 kn un)))]):=by
 rw [F134]
 simp only [G134,q06,s25,q01,q02,q00,q04,q0F,q0P,q0b,q0u,s49,q2n,q27]
 by_cases h:0≤kn∧kn≤4166
 ·rw [q0l (by omega) (by omega)]
  by_cases h2:un=0<;>simp [h,h2,s49]
 ·simp only [h,decide_false,Bool.false_eq_true,if_false]
  have:¬ (0≤kn∧kn≤4166∧(un=0∨kn+1≤un∧un≤4166)):=by omega
  simp only [this,decide_false]
theorem s131 (n:Nat) (kn un:Int):FN (n+3) 131 [il kn,il un]=some (0,[.d (bl (decide (q27 kn un)))]):=by
 rw [F131]
 simp only [G131,q06,s136,q01,q02,q00,q04,q0F,q0P,q0b,q0u,qgY,q2n,q27]
 by_cases h:0≤kn∧kn≤4166
 ·rw [q0l (by omega) (by omega)]
  by_cases h2:un=0<;>simp [h,h2,qgY]
 ·simp only [h,decide_false,Bool.false_eq_true,if_false]
  have:¬ (0≤kn∧kn≤4166∧(un=0∨kn+1≤un∧un≤4166)):=by omega
  simp only [this,decide_false]
def q28 (e:E9):Prop:=(1≤e.src∧e.src≤99999)∧(1≤e.a∧e.a≤999)∧(1≤e.b∧e.b≤99)∧q2L e.f1 e.f2 e.t1 e.t2∧q27 e.kn e.un
instance (e:E9):Decidable (q28 e):=by unfold q28;infer_instance
def q29 (e:E9):Prop:=(1≤e.src∧e.src≤99999)∧(2≤e.a∧e.a≤99)∧(1≤e.b∧e.b≤e.a - 1)∧q2L e.f1 e.f2 e.t1 e.t2∧q27 e.kn e.un
instance (e:E9):Decidable (q29 e):=by unfold q29;infer_instance
def q2a (e:E9):Prop:=(1≤e.src∧e.src≤99999)∧(1≤e.a∧e.a≤999)∧(0≤e.b∧e.b≤999)∧e.b≠e.a∧q2L e.f1 e.f2 e.t1 e.t2∧q27 e.kn e.un
instance (e:E9):Decidable (q2a e):=by unfold q2a;infer_instance
def q3Y (e:E5):Prop:=(1≤e.src∧e.src≤99999)∧(1≤e.a∧e.a≤999)∧(0≤e.day∧e.day≤4166)∧q27 e.kn e.un
instance (e:E5):Decidable (q3Y e):=by unfold q3Y;infer_instance
theorem s58 (n:Nat) (e:E9):FN (n+4) 58 (r9 e)=some (0,[.d (il (if q28 e then 0 else 30))]):=by
 rw [r9,F58]
 simp only [G58,q06,s132,s65,s26,s133,s134,q01,q02,q0V,q00,q04,q0b,q28]
 by_cases h1:1≤e.src∧e.src≤99999<;>by_cases h2:1≤e.a∧e.a≤999<;>by_cases h3:1≤e.b∧e.b≤99<;>by_cases h4:q2L e.f1 e.f2 e.t1 e.t2<;>by_cases h5:q27 e.kn e.un<;>simp only [h1,h2,h3,h4,h5,decide_true,decide_false,Bool.not_true,Bool.not_false,if_true,if_false,and_true,true_and,and_false,false_and,Bool.false_eq_true]
theorem s57 (n:Nat) (e:E9):FN (n+4) 57 (r9 e)=some (0,[.d (il (if q28 e then 0 else 30))]):=by
 rw [r9,F57]
 simp only [G57,q06,s127,s128,s129,s130,s131,q01,q02,q0V,q00,q04,q0b,q28]
 by_cases h1:1≤e.src∧e.src≤99999<;>by_cases h2:1≤e.a∧e.a≤999<;>by_cases h3:1≤e.b∧e.b≤99<;>by_cases h4:q2L e.f1 e.f2 e.t1 e.t2<;>by_cases h5:q27 e.kn e.un<;>simp only [h1,h2,h3,h4,h5,decide_true,decide_false,Bool.not_true,Bool.not_false,if_true,if_false,and_true,true_and,and_false,false_and,Bool.false_eq_true]
theorem s60 (n:Nat) (e:E9):FN (n+4) 60 (r9 e)=some (0,[.d (il (if q29 e then 0 else 31))]):=by
 rw [r9,F60]
 simp only [G60,q06,s132,s49,s133,s134,q01,q02,q0V,q00,q04,q0b,q0U,q29]
 by_cases h2:2≤e.a∧e.a≤99
 ·rw [q0l (by omega) (by omega)]
  by_cases h1:1≤e.src∧e.src≤99999<;>by_cases h3:1≤e.b∧e.b≤e.a - 1<;>by_cases h4:q2L e.f1 e.f2 e.t1 e.t2<;>by_cases h5:q27 e.kn e.un<;>simp only [h1,h2,h3,h4,h5,decide_true,decide_false,Bool.not_true,Bool.not_false,if_true,if_false,and_true,true_and,and_false,false_and,Bool.false_eq_true]
 ·by_cases h1:1≤e.src∧e.src≤99999<;>simp only [h1,h2,decide_true,decide_false,Bool.not_true,Bool.not_false,if_true,if_false,and_true,true_and,and_false,false_and,Bool.false_eq_true]
theorem s59 (n:Nat) (e:E9):FN (n+4) 59 (r9 e)=some (0,[.d (il (if q29 e then 0 else 31))]):=by
 rw [r9,F59]
 simp only [G59,q06,s127,qgY,s130,s131,q01,q02,q0V,q00,q04,q0b,q0U,q29]
 by_cases h2:2≤e.a∧e.a≤99
 ·rw [q0l (by omega) (by omega)]
  by_cases h1:1≤e.src∧e.src≤99999<;>by_cases h3:1≤e.b∧e.b≤e.a - 1<;>by_cases h4:q2L e.f1 e.f2 e.t1 e.t2<;>by_cases h5:q27 e.kn e.un<;>simp only [h1,h2,h3,h4,h5,decide_true,decide_false,Bool.not_true,Bool.not_false,if_true,if_false,and_true,true_and,and_false,false_and,Bool.false_eq_true]
 ·by_cases h1:1≤e.src∧e.src≤99999<;>simp only [h1,h2,decide_true,decide_false,Bool.not_true,Bool.not_false,if_true,if_false,and_true,true_and,and_false,false_and,Bool.false_eq_true]
theorem s62 (n:Nat) (e:E9):FN (n+4) 62 (r9 e)=some (0,[.d (il (if q2a e then 0 else 32))]):=by
 rw [r9,F62]
 simp only [G62,q06,s132,s65,s49,s133,s134,q01,q02,q0V,q00,q04,q0b,q0F,q2a]
 have h0:∃ q:Bool,decide (e.b=e.a)=q∧(e.b≠e.a↔q=false):=by by_cases h:e.b=e.a<;>simp [h]
 obtain ⟨q,hq1,hq2⟩:=h0
 simp only [hq1,hq2]
 by_cases h1:1≤e.src∧e.src≤99999<;>by_cases h2:1≤e.a∧e.a≤999<;>by_cases h3:0≤e.b∧e.b≤999<;>cases q<;>by_cases h4:q2L e.f1 e.f2 e.t1 e.t2<;>by_cases h5:q27 e.kn e.un<;>simp only [h1,h2,h3,h4,h5,decide_true,decide_false,Bool.not_true,Bool.not_false,if_true,if_false,and_true,true_and,and_false,false_and,Bool.false_eq_true,reduceCtorEq]
theorem s61 (n:Nat) (e:E9):FN (n+4) 61 (r9 e)=some (0,[.d (il (if q2a e then 0 else 32))]):=by
 rw [r9,F61]
 simp only [G61,q06,s127,s128,qgY,s130,s131,q01,q02,q0V,q00,q04,q0b,q0F,q2a]
 have h0:∃ q:Bool,decide (e.b=e.a)=q∧(e.b≠e.a↔q=false):=by by_cases h:e.b=e.a<;>simp [h]
 obtain ⟨q,hq1,hq2⟩:=h0
 simp only [hq1,hq2]
 by_cases h1:1≤e.src∧e.src≤99999<;>by_cases h2:1≤e.a∧e.a≤999<;>by_cases h3:0≤e.b∧e.b≤999<;>cases q<;>by_cases h4:q2L e.f1 e.f2 e.t1 e.t2<;>by_cases h5:q27 e.kn e.un<;>simp only [h1,h2,h3,h4,h5,decide_true,decide_false,Bool.not_true,Bool.not_false,if_true,if_false,and_true,true_and,and_false,false_and,Bool.false_eq_true,reduceCtorEq]
theorem s64 (n:Nat) (e:E5):FN (n+4) 64 (r5 e)=some (0,[.d (il (if q3Y e then 0 else 33))]):=by
 rw [r5,F64]
 simp only [G64,q06,s132,s65,s25,s134,q01,q02,q0V,q00,q04,q0b,q3Y]
 by_cases h1:1≤e.src∧e.src≤99999<;>by_cases h2:1≤e.a∧e.a≤999<;>by_cases h3:0≤e.day∧e.day≤4166<;>by_cases h5:q27 e.kn e.un<;>simp only [h1,h2,h3,h5,decide_true,decide_false,Bool.not_true,Bool.not_false,if_true,if_false,and_true,true_and,and_false,false_and,Bool.false_eq_true]
theorem s63 (n:Nat) (e:E5):FN (n+4) 63 (r5 e)=some (0,[.d (il (if q3Y e then 0 else 33))]):=by
 rw [r5,F63]
 simp only [G63,q06,s127,s128,s136,s131,q01,q02,q0V,q00,q04,q0b,q3Y]
 by_cases h1:1≤e.src∧e.src≤99999<;>by_cases h2:1≤e.a∧e.a≤999<;>by_cases h3:0≤e.day∧e.day≤4166<;>by_cases h5:q27 e.kn e.un<;>simp only [h1,h2,h3,h5,decide_true,decide_false,Bool.not_true,Bool.not_false,if_true,if_false,and_true,true_and,and_false,false_and,Bool.false_eq_true]
def q3U (kn un k:Int):Bool:=decide (kn≤k∧(un=0∨k < un))
theorem s42 (n:Nat) (kn un k:Int):FN (n+1) 42 [il kn,il un,il k]=some (0,[.d (bl (q3U kn un k))]):=by
 rw [F42]
 simp only [G42,q69,q00,q04,q0F,q0P,q2V,q0b,q2n,q01,q02,q3U]
 by_cases h1:kn≤k<;>by_cases h2:un=0<;>simp [h1,h2]
theorem s173 (n:Nat) (kn un k:Int):FN (n+1) 173 [il kn,il un,il k]=some (0,[.d (bl (q3U kn un k))]):=by
 rw [F173]
 simp only [G173,q69,q00,q04,q0F,q0P,q2V,q0b,q2n,q01,q02,q3U]
 by_cases h1:kn≤k<;>by_cases h2:un=0<;>simp [h1,h2]
def q2p (f1 t2 d:Int):Bool:=decide (f1≤d∧d < t2)
def q2c (f2 t1 d:Int):Bool:=decide (f2≤d∧d < t1)
theorem qf4 (n:Nat) (f1 f2 t1 t2 d:Int):FN (n+1) 208 [il f1,il f2,il t1,il t2,il d]=some (0,[.d (bl (q2p f1 t2 d))]):=by
 rw [F208]
 simp only [G208,q69,q00,q0P,q2V,q0b,q2p]
 by_cases h1:f1≤d<;>simp [h1]
theorem q7o (n:Nat) (f1 f2 t1 t2 d:Int):FN (n+1) 209 [il f1,il f2,il t1,il t2,il d]=some (0,[.d (bl (q2c f2 t1 d))]):=by
 rw [F209]
 simp only [G209,q69,q00,q0P,q2V,q0b,q2c]
 by_cases h1:f2≤d<;>simp [h1]
def q67 (yes no:Bool):Int:=if yes then (if no then 2 else 1) else 0
def qhr (f1 f2 t1 t2 d:Int):Int:=if q2p f1 t2 d then (if q2c f2 t1 d then 1 else 2) else 0
theorem s160 (n:Nat) (f1 f2 t1 t2 d:Int):FN (n+1) 160 [il f1,il f2,il t1,il t2,il d]=some (0,[.d (il (qhr f1 f2 t1 t2 d))]):=by
 rw [F160]
 simp only [G160,q0B,q00,q04,q1q,q69,q0b,qhr,q2p,q2c,decide_eq_true_eq]
 repeat' split
 all_goals first | rfl | (exfalso;omega)
theorem s84 (n:Nat) (y m:Bool):FN (n+1) 84 [bl y,bl m]=some (0,[.d (il (q67 y m))]):=by
 rw [F84];cases y<;>cases m<;>simp [G84,q67]
theorem s167 (n:Nat) (y m:Bool):FN (n+1) 167 [bl y,bl m]=some (0,[.d (il (q67 y m))]):=by
 rw [F167];cases y<;>cases m<;>simp [G167,q67]
end Go.VE
namespace Go.VE
open Go.RowKit Go.Proofs
section
variable {Fn:Nat→List D→Out} {FnD:D→List Sh→List D→Out} {m:Nat}
def d9 (o:Option (List E9)):D:=dSl 9 (o.map (·.map r9))
def d5 (o:Option (List E5)):D:=dSl 5 (o.map (·.map r5))
theorem q4q {α β:Type} (f:α→β) (o:Option (List α)):(o.map (·.map f)).getD []=(o.getD []).map f:=by cases o<;>rfl
theorem q6O (o:Option (List E9)) (k:D→Out):(q05 Fn FnD m).lenD (d9 o) k=k (il (o.getD []).length):=by rw [d9,q6z,q4q,List.length_map]
theorem qib (o:Option (List E5)) (k:D→Out):(q05 Fn FnD m).lenD (d5 o) k=k (il (o.getD []).length):=by rw [d5,q6z,q4q,List.length_map]
theorem q4u {o:Option (List E9)} {i:Nat} {c:E9} (h:(o.getD [])[i]?=some c) (k:List D→Out):(q05 Fn FnD m).rowD 9 (d9 o) (il i) k=k (r9 c):=by
 rw [d9,q51,if_pos (by omega),q4q,Int.toNat_natCast,List.getElem?_map,h];rfl
theorem qh1 {o:Option (List E5)} {i:Nat} {c:E5} (h:(o.getD [])[i]?=some c) (k:List D→Out):(q05 Fn FnD m).rowD 5 (d5 o) (il i) k=k (r5 c):=by
 rw [d5,q51,if_pos (by omega),q4q,Int.toNat_natCast,List.getElem?_map,h];rfl
end
def ltO:Option Int→Int→Bool
 | none,_=>true
 | some q,x=>decide (q < x)
def okL {α:Type} (ok:α→Bool) (src:α→Int):Option Int→List α→Bool
 | _,[]=>true
 | p,e::r=>ok e&&ltO p (src e)&&okL ok src (some (src e)) r
def q1E {α:Type} (src:α→Int) (l:List α) (i:Nat):Option Int:=if i=0 then none else (l[i - 1]?).map src
theorem q2o {α:Type} (src:α→Int) {l:List α} {i:Nat} {c:α} (h:l[i]?=some c):q1E src l (i+1)=some (src c):=by
 simp [q1E,h]
theorem q30 {i:Nat} (h:0 < i) (h2:i≤4611686018427387904):IntKind.i64.wrap ((i:Int) - 1)=((i - 1:Nat):Int):=by
 rw [q0l (by omega) (by omega)];omega
set_option maxRecDepth 10000 in
theorem l24_0 (n:Nat) (a b c:Option (List E9)) (o:Option (List E5)) (hl:(a.getD []).length≤4611686018427387904) :
  q0I [qeX (RP (n+4))] M0 0 [.d (d9 a),.d (d9 b),.d (d9 c),.d (d5 o),.d (d9 a),.d (il (a.getD []).length),.d (il 0)] =
   if okL (fun e=>decide (q28 e)) (·.src) none (a.getD [])=true then some (1,[.d (d9 a),.d (d9 b),.d (d9 c),.d (d5 o)]) else some (0,[.d (il 34)]):=by
 have:=q0t (β:=Unit) (a.getD []) hl (qeX (RP (n+4))) (fun i _=>[.d (d9 a),.d (d9 b),.d (d9 c),.d (d5 o),.d (d9 a),.d (il (a.getD []).length),.d (il i)]) (fun _ _=>True)
  (fun i r _=>if okL (fun e=>decide (q28 e)) (·.src) (q1E (·.src) (a.getD []) i) r=true then some (1,[.d (d9 a),.d (d9 b),.d (d9 c),.d (d5 o)]) else some (0,[.d (il 34)]))
  (fun _ k _=>by simp [qeX,okL]) ?_ M0 () trivial (q1A hl)
 ·exact this
 ·intro i e r _ k hi hd hlt hw _ ih
  have ih':=ih () trivial
  rw [q2o _ hi] at ih'
  have hlt':(i:Int) < ((a.getD []).length:Int):=by omega
  simp only [qeX,q02,q07,q0B,q00,hlt',decide_true,if_true,q4u hi]
  rw [show [(RP (n+4)).cell (r9 e) 0,(RP (n+4)).cell (r9 e) 1,(RP (n+4)).cell (r9 e) 2,(RP (n+4)).cell (r9 e) 3,(RP (n+4)).cell (r9 e) 4,(RP (n+4)).cell (r9 e) 5,(RP (n+4)).cell (r9 e) 6,(RP (n+4)).cell (r9 e) 7,(RP (n+4)).cell (r9 e) 8]=r9 e from rfl]
  simp only [q06,s58,q01,q02,q04,q0L,q2V,q00,q0b,q0u,hw,okL]
  by_cases h1:q28 e
  ·simp only [h1,if_true,decide_true,Bool.true_and,ne_eq,not_true,decide_false,Bool.false_eq_true,if_false]
   by_cases h0:i=0
   ·subst h0
    rw [if_neg (by simp)]
    simp only [q1E,if_true,ltO,Bool.true_and]
    exact ih'
   ·rw [if_pos (by simp;omega),q0U,q30 (by omega) (by omega)]
    have hp:(a.getD [])[i - 1]?=some ((a.getD [])[i - 1]'(by omega)):=List.getElem?_eq_getElem (by omega)
    rw [q4u hp]
    simp only [r9,q0a,q1q,q00,decide_eq_true_eq]
    have hq:q1E (·.src) (a.getD []) i=some ((a.getD [])[i - 1]'(by omega)).src:=by simp [q1E,h0,hp]
    rw [hq]
    by_cases h2:e.src≤((a.getD [])[i - 1]'(by omega)).src
    ·have h3:ltO (some ((a.getD [])[i - 1]'(by omega)).src) e.src=false:=by simp [ltO];omega
     rw [if_pos h2]
     simp only [h3,Bool.false_and,Bool.false_eq_true,if_false]
    ·have h3:ltO (some ((a.getD [])[i - 1]'(by omega)).src) e.src=true:=by simp [ltO];omega
     rw [if_neg h2]
     simp only [h3,Bool.true_and]
     exact ih'
  ·simp [h1]
set_option maxRecDepth 10000 in
theorem l24_1 (n:Nat) (a b c:Option (List E9)) (o:Option (List E5)) (hl:(b.getD []).length≤4611686018427387904) :
  q0I [qeW (RP (n+4))] M0 0 [.d (d9 a),.d (d9 b),.d (d9 c),.d (d5 o),.d (d9 b),.d (il (b.getD []).length),.d (il 0)] =
   if okL (fun e=>decide (q29 e)) (·.src) none (b.getD [])=true then some (1,[.d (d9 a),.d (d9 b),.d (d9 c),.d (d5 o)]) else some (0,[.d (il 34)]):=by
 have:=q0t (β:=Unit) (b.getD []) hl (qeW (RP (n+4))) (fun i _=>[.d (d9 a),.d (d9 b),.d (d9 c),.d (d5 o),.d (d9 b),.d (il (b.getD []).length),.d (il i)]) (fun _ _=>True)
  (fun i r _=>if okL (fun e=>decide (q29 e)) (·.src) (q1E (·.src) (b.getD []) i) r=true then some (1,[.d (d9 a),.d (d9 b),.d (d9 c),.d (d5 o)]) else some (0,[.d (il 34)]))
  (fun _ k _=>by simp [qeW,okL]) ?_ M0 () trivial (q1A hl)
 ·exact this
 ·intro i e r _ k hi hd hlt hw _ ih
  have ih':=ih () trivial
  rw [q2o _ hi] at ih'
  have hlt':(i:Int) < ((b.getD []).length:Int):=by omega
  simp only [qeW,q02,q07,q0B,q00,hlt',decide_true,if_true,q4u hi]
  rw [show [(RP (n+4)).cell (r9 e) 0,(RP (n+4)).cell (r9 e) 1,(RP (n+4)).cell (r9 e) 2,(RP (n+4)).cell (r9 e) 3,(RP (n+4)).cell (r9 e) 4,(RP (n+4)).cell (r9 e) 5,(RP (n+4)).cell (r9 e) 6,(RP (n+4)).cell (r9 e) 7,(RP (n+4)).cell (r9 e) 8]=r9 e from rfl]
  simp only [q06,s60,q01,q02,q04,q0L,q2V,q00,q0b,q0u,hw,okL]
  by_cases h1:q29 e
  ·simp only [h1,if_true,decide_true,Bool.true_and,ne_eq,not_true,decide_false,Bool.false_eq_true,if_false]
   by_cases h0:i=0
   ·subst h0
    rw [if_neg (by simp)]
    simp only [q1E,if_true,ltO,Bool.true_and]
    exact ih'
   ·rw [if_pos (by simp;omega),q0U,q30 (by omega) (by omega)]
    have hp:(b.getD [])[i - 1]?=some ((b.getD [])[i - 1]'(by omega)):=List.getElem?_eq_getElem (by omega)
    rw [q4u hp]
    simp only [r9,q0a,q1q,q00,decide_eq_true_eq]
    have hq:q1E (·.src) (b.getD []) i=some ((b.getD [])[i - 1]'(by omega)).src:=by simp [q1E,h0,hp]
    rw [hq]
    by_cases h2:e.src≤((b.getD [])[i - 1]'(by omega)).src
    ·have h3:ltO (some ((b.getD [])[i - 1]'(by omega)).src) e.src=false:=by simp [ltO];omega
     rw [if_pos h2]
     simp only [h3,Bool.false_and,Bool.false_eq_true,if_false]
    ·have h3:ltO (some ((b.getD [])[i - 1]'(by omega)).src) e.src=true:=by simp [ltO];omega
     rw [if_neg h2]
     simp only [h3,Bool.true_and]
     exact ih'
  ·simp [h1]
set_option maxRecDepth 10000 in
theorem l24_2 (n:Nat) (a b c:Option (List E9)) (o:Option (List E5)) (hl:(c.getD []).length≤4611686018427387904) :
  q0I [qeV (RP (n+4))] M0 0 [.d (d9 a),.d (d9 b),.d (d9 c),.d (d5 o),.d (d9 c),.d (il (c.getD []).length),.d (il 0)] =
   if okL (fun e=>decide (q2a e)) (·.src) none (c.getD [])=true then some (1,[.d (d9 a),.d (d9 b),.d (d9 c),.d (d5 o)]) else some (0,[.d (il 34)]):=by
 have:=q0t (β:=Unit) (c.getD []) hl (qeV (RP (n+4))) (fun i _=>[.d (d9 a),.d (d9 b),.d (d9 c),.d (d5 o),.d (d9 c),.d (il (c.getD []).length),.d (il i)]) (fun _ _=>True)
  (fun i r _=>if okL (fun e=>decide (q2a e)) (·.src) (q1E (·.src) (c.getD []) i) r=true then some (1,[.d (d9 a),.d (d9 b),.d (d9 c),.d (d5 o)]) else some (0,[.d (il 34)]))
  (fun _ k _=>by simp [qeV,okL]) ?_ M0 () trivial (q1A hl)
 ·exact this
 ·intro i e r _ k hi hd hlt hw _ ih
  have ih':=ih () trivial
  rw [q2o _ hi] at ih'
  have hlt':(i:Int) < ((c.getD []).length:Int):=by omega
  simp only [qeV,q02,q07,q0B,q00,hlt',decide_true,if_true,q4u hi]
  rw [show [(RP (n+4)).cell (r9 e) 0,(RP (n+4)).cell (r9 e) 1,(RP (n+4)).cell (r9 e) 2,(RP (n+4)).cell (r9 e) 3,(RP (n+4)).cell (r9 e) 4,(RP (n+4)).cell (r9 e) 5,(RP (n+4)).cell (r9 e) 6,(RP (n+4)).cell (r9 e) 7,(RP (n+4)).cell (r9 e) 8]=r9 e from rfl]
  simp only [q06,s62,q01,q02,q04,q0L,q2V,q00,q0b,q0u,hw,okL]
  by_cases h1:q2a e
  ·simp only [h1,if_true,decide_true,Bool.true_and,ne_eq,not_true,decide_false,Bool.false_eq_true,if_false]
   by_cases h0:i=0
   ·subst h0
    rw [if_neg (by simp)]
    simp only [q1E,if_true,ltO,Bool.true_and]
    exact ih'
   ·rw [if_pos (by simp;omega),q0U,q30 (by omega) (by omega)]
    have hp:(c.getD [])[i - 1]?=some ((c.getD [])[i - 1]'(by omega)):=List.getElem?_eq_getElem (by omega)
    rw [q4u hp]
    simp only [r9,q0a,q1q,q00,decide_eq_true_eq]
    have hq:q1E (·.src) (c.getD []) i=some ((c.getD [])[i - 1]'(by omega)).src:=by simp [q1E,h0,hp]
    rw [hq]
    by_cases h2:e.src≤((c.getD [])[i - 1]'(by omega)).src
    ·have h3:ltO (some ((c.getD [])[i - 1]'(by omega)).src) e.src=false:=by simp [ltO];omega
     rw [if_pos h2]
     simp only [h3,Bool.false_and,Bool.false_eq_true,if_false]
    ·have h3:ltO (some ((c.getD [])[i - 1]'(by omega)).src) e.src=true:=by simp [ltO];omega
     rw [if_neg h2]
     simp only [h3,Bool.true_and]
     exact ih'
  ·simp [h1]
set_option maxRecDepth 10000 in
theorem l24_3 (n:Nat) (a b c:Option (List E9)) (o:Option (List E5)) (hl:(o.getD []).length≤4611686018427387904) :
  q0I [qeU (RP (n+4))] M0 0 [.d (d9 a),.d (d9 b),.d (d9 c),.d (d5 o),.d (d5 o),.d (il (o.getD []).length),.d (il 0)] =
   if okL (fun e=>decide (q3Y e)) (·.src) none (o.getD [])=true then some (1,[]) else some (0,[.d (il 34)]):=by
 have:=q0t (β:=Unit) (o.getD []) hl (qeU (RP (n+4))) (fun i _=>[.d (d9 a),.d (d9 b),.d (d9 c),.d (d5 o),.d (d5 o),.d (il (o.getD []).length),.d (il i)]) (fun _ _=>True)
  (fun i r _=>if okL (fun e=>decide (q3Y e)) (·.src) (q1E (·.src) (o.getD []) i) r=true then some (1,[]) else some (0,[.d (il 34)]))
  (fun _ k _=>by simp [qeU,okL]) ?_ M0 () trivial (q1A hl)
 ·exact this
 ·intro i e r _ k hi hd hlt hw _ ih
  have ih':=ih () trivial
  rw [q2o _ hi] at ih'
  have hlt':(i:Int) < ((o.getD []).length:Int):=by omega
  simp only [qeU,q02,q07,q0B,q00,hlt',decide_true,if_true,qh1 hi]
  rw [show [(RP (n+4)).cell (r5 e) 0,(RP (n+4)).cell (r5 e) 1,(RP (n+4)).cell (r5 e) 2,(RP (n+4)).cell (r5 e) 3,(RP (n+4)).cell (r5 e) 4]=r5 e from rfl]
  simp only [q06,s64,q01,q02,q04,q0L,q2V,q00,q0b,q0u,hw,okL]
  by_cases h1:q3Y e
  ·simp only [h1,if_true,decide_true,Bool.true_and,ne_eq,not_true,decide_false,Bool.false_eq_true,if_false]
   by_cases h0:i=0
   ·subst h0
    rw [if_neg (by simp)]
    simp only [q1E,if_true,ltO,Bool.true_and]
    exact ih'
   ·rw [if_pos (by simp;omega),q0U,q30 (by omega) (by omega)]
    have hp:(o.getD [])[i - 1]?=some ((o.getD [])[i - 1]'(by omega)):=List.getElem?_eq_getElem (by omega)
    rw [qh1 hp]
    simp only [r5,q0a,q1q,q00,decide_eq_true_eq]
    have hq:q1E (·.src) (o.getD []) i=some ((o.getD [])[i - 1]'(by omega)).src:=by simp [q1E,h0,hp]
    rw [hq]
    by_cases h2:e.src≤((o.getD [])[i - 1]'(by omega)).src
    ·have h3:ltO (some ((o.getD [])[i - 1]'(by omega)).src) e.src=false:=by simp [ltO];omega
     rw [if_pos h2]
     simp only [h3,Bool.false_and,Bool.false_eq_true,if_false]
    ·have h3:ltO (some ((o.getD [])[i - 1]'(by omega)).src) e.src=true:=by simp [ltO];omega
     rw [if_neg h2]
     simp only [h3,Bool.true_and]
     exact ih'
  ·simp [h1]
def q0M (a b c:List E9) (o:List E5):Bool:=decide (a.length≤60∧b.length≤60∧c.length≤60∧o.length≤60)&&okL (fun e=>decide (q28 e)) (·.src) none a&&okL (fun e=>decide (q29 e)) (·.src) none b&&okL (fun e=>decide (q2a e)) (·.src) none c&&okL (fun e=>decide (q3Y e)) (·.src) none o
set_option maxRecDepth 10000 in
theorem s24 (n:Nat) (a b c:Option (List E9)) (o:Option (List E5)):FN (n+5) 24 [d9 a,d9 b,d9 c,d5 o]=some (0,[.d (il (if q0M (a.getD []) (b.getD []) (c.getD []) (o.getD []) then 0 else 34))]):=by
 rw [F24]
 simp only [G24,q6O,qib,q04,q2V,q00,q0b,decide_eq_true_eq]
 by_cases h:((a.getD []).length≤60∧(b.getD []).length≤60∧(c.getD []).length≤60∧(o.getD []).length≤60)
 ·obtain ⟨h1,h2,h3,h4⟩:=h
  rw [if_neg (by omega),if_neg (by omega),if_neg (by omega),if_neg (by omega)]
  simp only [q0k,l24_0 n a b c o (by omega),q0M,h1,h2,h3,h4,and_self,decide_true,Bool.true_and]
  by_cases g1:okL (fun e=>decide (q28 e)) (·.src) none (a.getD [])=true
  ·simp only [g1,if_true,q53,q02,q07,q6O,q0k,l24_1 n a b c o (by omega),Bool.true_and]
   by_cases g2:okL (fun e=>decide (q29 e)) (·.src) none (b.getD [])=true
   ·simp only [g2,if_true,q53,q02,q07,q6O,q0k,l24_2 n a b c o (by omega),Bool.true_and]
    by_cases g3:okL (fun e=>decide (q2a e)) (·.src) none (c.getD [])=true
    ·simp only [g3,if_true,q53,q02,q07,qib,q0k,l24_3 n a b c o (by omega),Bool.true_and]
     by_cases g4:okL (fun e=>decide (q3Y e)) (·.src) none (o.getD [])=true
     ·simp only [g4,if_true,q53]
     ·simp [g4]
    ·simp [g3]
   ·simp [g2]
  ·simp [g1]
 ·have hk:q0M (a.getD []) (b.getD []) (c.getD []) (o.getD [])=false:=by simp [q0M,h]
  rw [hk]
  simp only [Bool.false_eq_true,if_false]
  repeat' split
  all_goals first | rfl | (exfalso;omega)
end Go.VE
namespace Go.VE
open Go.RowKit Go.Proofs
def rI (z:Int):List D:=[il z]
def dI (o:Option (List Int)):D:=dSl 1 (o.map (·.map rI))
section
variable {Fn:Nat→List D→Out} {FnD:D→List Sh→List D→Out} {m:Nat}
theorem q3s (o:Option (List Int)) (k:D→Out):(q05 Fn FnD m).lenD (dI o) k=k (il (o.getD []).length):=by rw [dI,q6z,q4q,List.length_map]
theorem q3X {o:Option (List Int)} {i:Nat} {c:Int} (h:(o.getD [])[i]?=some c) (k:List D→Out):(q05 Fn FnD m).rowD 1 (dI o) (il i) k=k (rI c):=by
 rw [dI,q51,if_pos (by omega),q4q,Int.toNat_natCast,List.getElem?_map,h];rfl
end
noncomputable abbrev FD (n:Nat):D→List Sh→List D→Out:=q1e Tryz.prog (cf3 tb Tryz.prog) (FN n)
def fnd {α:Type} (p:α→Bool):List α→Option Nat
 | []=>none
 | e::r=>if p e then some 0 else (fnd p r).map (·+1)
def q65 {α:Type} (p:α→Bool) (l:List α):Int:=match fnd p l with
 | some i=>(i:Int)
 | none=>-1
theorem q5K {α:Type} (p:α→Bool) (l:List α):decide (0≤q65 p l)=l.any p:=by
 have h:(fnd p l).isSome=l.any p:=by
  induction l with
  | nil=>rfl
  | cons e r ih =>
   simp only [fnd,List.any_cons]
   cases p e<;>simp [ih]
 unfold q65
 cases hf:fnd p l with
 | none=>rw [hf] at h;rw [←h];decide
 | some i=>rw [hf] at h;rw [←h];simp
theorem qgG {P:Program} {cfg:Cf3} {Fn:Nat→List D→Out} {f:Nat} {caps:List D} {sh:List Sh} {ds:List D} {vs:List VD} (h3:f < 2000000) (hv:q3C sh ds=some vs):q1e P cfg Fn (.fn f caps) sh ds=FnV cfg Fn f (vs++caps.map .one):=by
 simp only [q1e,hv,if_pos h3]
theorem FD_gen {T:Tb3} {P:Program} {Fn:Nat→List D→Out} {f:Nat} {caps:List D} {sh sh':List Sh} {ds:List D} {vs:List VD} {xs:List D} {z:D} (hlt:f < 1000000) (hv:q3C sh ds=some vs) (hash:T.ash f=some sh') (hx:q1M sh' (vs++caps.map .one)=some xs)
  (hr:T.rsk f=[[(false,[.d])]]) (hf:Fn f xs=some (0,[.d z])):q1e P (cf3 T P) Fn (.fn f caps) sh ds=some (0,[.d z]):=by
 have h1:(cf3 T P).ash f=some sh':=by simp only [cf3,if_pos hlt,hash]
 have h2:qbl ((cf3 T P).rsk f)=true:=by simp only [cf3,hr];rfl
 have h3:f < 2000000:=Nat.lt_of_lt_of_le hlt (by decide)
 rw [qgG h3 hv]
 simp only [FnV,h1,hx,h2,if_true,hf]
theorem q3Z {n f:Nat} {caps:List D} {sh:List Sh} (sh':List Sh) {ds:List D} (vs:List VD) {xs:List D} {z:D} (hlt:f < 1000000) (hv:q3C sh ds=some vs) (hash:tb.ash f=some sh') (hx:q1M sh' (vs++caps.map .one)=some xs)
  (hr:tb.rsk f=[[(false,[.d])]]) (hf:FN n f xs=some (0,[.d z])):FD n (.fn f caps) sh ds=some (0,[.d z]):=FD_gen hlt hv hash hx hr hf
theorem s181 (n:Nat) (o:Option (List E9)) (hl:(o.getD []).length≤4611686018427387904) (x:D) (p:E9→Bool) (hp:∀ e∈o.getD [],FD n x [.agg 9] (r9 e)=some (0,[.d (bl (p e))])) :
  FN (n+1) 181 [d9 o,x]=some (0,[.d (il (q65 p (o.getD [])))]):=by
 rw [F181]
 simp only [G181,q6O,q04,q0k]
 have:=q0t (β:=Unit) (o.getD []) hl (qbM (RP n)) (fun i _=>[.d (d9 o),.d x,.d (il (o.getD []).length),.d (il i)]) (fun _ _=>True)
  (fun i r _=>match fnd p r with | some j=>some (0,[.d (il ((i+j:Nat):Int))]) | none=>some (1,[]))
  (fun _ k _=>by simp [qbM,fnd]) ?_ M0 () trivial (q1A hl)
 ·simp only [Int.natCast_zero,List.drop_zero,Nat.zero_add] at this
  rw [this]
  unfold q65
  cases fnd p (o.getD [])<;>simp
 ·intro i e r _ k hi hd hlt hw _ ih
  have ih':=ih () trivial
  have hlt':(i:Int) < ((o.getD []).length:Int):=by omega
  have hmem:e∈o.getD []:=List.mem_of_getElem? hi
  simp only [qbM,q02,q07,q0B,q00,hlt',decide_true,if_true,q4u hi]
  rw [show [(RP n).cell (r9 e) 0,(RP n).cell (r9 e) 1,(RP n).cell (r9 e) 2,(RP n).cell (r9 e) 3,(RP n).cell (r9 e) 4,(RP n).cell (r9 e) 5,(RP n).cell (r9 e) 6,(RP n).cell (r9 e) 7,(RP n).cell (r9 e) 8]=r9 e from rfl]
  have hpe:q1e Tryz.prog (cf3 tb Tryz.prog) (FN n) x [.agg 9] (r9 e)=some (0,[.d (bl (p e))]):=hp e hmem
  rw [q1T,hpe]
  simp only [q01,q02,q00,q0b,q0u,q04,hw]
  by_cases h:p e=true
  ·simp only [h,if_true,fnd,Nat.add_zero]
  ·have h':p e=false:=by simpa using h
   simp only [h',Bool.false_eq_true,if_false,fnd]
   refine Eq.trans ?_ (Eq.trans ih' ?_)
   ·rfl
   ·cases fnd p r with
    | none=>rfl
    | some j=>simp only [Option.map_some];congr 5;omega
theorem s190 (n:Nat) (o:Option (List E9)) (hl:(o.getD []).length≤4611686018427387904) (x:D) (p:E9→Bool) (hp:∀ e∈o.getD [],FD n x [.agg 9] (r9 e)=some (0,[.d (bl (p e))])) :
  FN (n+2) 190 [d9 o,x]=some (0,[.d (bl ((o.getD []).any p))]):=by
 rw [F190]
 simp only [G190,q06,s181 n o hl x p hp,q01,q02,q04,q1q,q0b,q5K]
theorem s119 (n:Nat) (o:Option (List E9)) (hl:(o.getD []).length≤4611686018427387904) (x:D) (p:E9→Bool) (hp:∀ e∈o.getD [],FD n x [.agg 9] (r9 e)=some (0,[.d (bl (p e))])) :
  FN (n+3) 119 [d9 o,x]=some (0,[.d (bl ((o.getD []).any p))]):=by
 rw [F119]
 simp only [G119,q06,s190 n o hl x p hp,q01,q02,q0b]
theorem s182 (n:Nat) (o:Option (List E9)) (hl:(o.getD []).length≤4611686018427387904) (x:D) (p:E9→Bool) (hp:∀ e∈o.getD [],FD n x [.agg 9] (r9 e)=some (0,[.d (bl (p e))])) :
  FN (n+1) 182 [d9 o,x]=some (0,[.d (il (q65 p (o.getD [])))]):=by
 rw [F182]
 simp only [G182,q6O,q04,q0k]
 have:=q0t (β:=Unit) (o.getD []) hl (qbL (RP n)) (fun i _=>[.d (d9 o),.d x,.d (il (o.getD []).length),.d (il i)]) (fun _ _=>True)
  (fun i r _=>match fnd p r with | some j=>some (0,[.d (il ((i+j:Nat):Int))]) | none=>some (1,[]))
  (fun _ k _=>by simp [qbL,fnd]) ?_ M0 () trivial (q1A hl)
 ·simp only [Int.natCast_zero,List.drop_zero,Nat.zero_add] at this
  rw [this]
  unfold q65
  cases fnd p (o.getD [])<;>simp
 ·intro i e r _ k hi hd hlt hw _ ih
  have ih':=ih () trivial
  have hlt':(i:Int) < ((o.getD []).length:Int):=by omega
  have hmem:e∈o.getD []:=List.mem_of_getElem? hi
  simp only [qbL,q02,q07,q0B,q00,hlt',decide_true,if_true,q4u hi]
  rw [show [(RP n).cell (r9 e) 0,(RP n).cell (r9 e) 1,(RP n).cell (r9 e) 2,(RP n).cell (r9 e) 3,(RP n).cell (r9 e) 4,(RP n).cell (r9 e) 5,(RP n).cell (r9 e) 6,(RP n).cell (r9 e) 7,(RP n).cell (r9 e) 8]=r9 e from rfl]
  have hpe:q1e Tryz.prog (cf3 tb Tryz.prog) (FN n) x [.agg 9] (r9 e)=some (0,[.d (bl (p e))]):=hp e hmem
  rw [q1T,hpe]
  simp only [q01,q02,q00,q0b,q0u,q04,hw]
  by_cases h:p e=true
  ·simp only [h,if_true,fnd,Nat.add_zero]
  ·have h':p e=false:=by simpa using h
   simp only [h',Bool.false_eq_true,if_false,fnd]
   refine Eq.trans ?_ (Eq.trans ih' ?_)
   ·rfl
   ·cases fnd p r with
    | none=>rfl
    | some j=>simp only [Option.map_some];congr 5;omega
theorem s191 (n:Nat) (o:Option (List E9)) (hl:(o.getD []).length≤4611686018427387904) (x:D) (p:E9→Bool) (hp:∀ e∈o.getD [],FD n x [.agg 9] (r9 e)=some (0,[.d (bl (p e))])) :
  FN (n+2) 191 [d9 o,x]=some (0,[.d (bl ((o.getD []).any p))]):=by
 rw [F191]
 simp only [G191,q06,s182 n o hl x p hp,q01,q02,q04,q1q,q0b,q5K]
theorem s121 (n:Nat) (o:Option (List E9)) (hl:(o.getD []).length≤4611686018427387904) (x:D) (p:E9→Bool) (hp:∀ e∈o.getD [],FD n x [.agg 9] (r9 e)=some (0,[.d (bl (p e))])) :
  FN (n+3) 121 [d9 o,x]=some (0,[.d (bl ((o.getD []).any p))]):=by
 rw [F121]
 simp only [G121,q06,s191 n o hl x p hp,q01,q02,q0b]
theorem s183 (n:Nat) (o:Option (List E9)) (hl:(o.getD []).length≤4611686018427387904) (x:D) (p:E9→Bool) (hp:∀ e∈o.getD [],FD n x [.agg 9] (r9 e)=some (0,[.d (bl (p e))])) :
  FN (n+1) 183 [d9 o,x]=some (0,[.d (il (q65 p (o.getD [])))]):=by
 rw [F183]
 simp only [G183,q6O,q04,q0k]
 have:=q0t (β:=Unit) (o.getD []) hl (qbK (RP n)) (fun i _=>[.d (d9 o),.d x,.d (il (o.getD []).length),.d (il i)]) (fun _ _=>True)
  (fun i r _=>match fnd p r with | some j=>some (0,[.d (il ((i+j:Nat):Int))]) | none=>some (1,[]))
  (fun _ k _=>by simp [qbK,fnd]) ?_ M0 () trivial (q1A hl)
 ·simp only [Int.natCast_zero,List.drop_zero,Nat.zero_add] at this
  rw [this]
  unfold q65
  cases fnd p (o.getD [])<;>simp
 ·intro i e r _ k hi hd hlt hw _ ih
  have ih':=ih () trivial
  have hlt':(i:Int) < ((o.getD []).length:Int):=by omega
  have hmem:e∈o.getD []:=List.mem_of_getElem? hi
  simp only [qbK,q02,q07,q0B,q00,hlt',decide_true,if_true,q4u hi]
  rw [show [(RP n).cell (r9 e) 0,(RP n).cell (r9 e) 1,(RP n).cell (r9 e) 2,(RP n).cell (r9 e) 3,(RP n).cell (r9 e) 4,(RP n).cell (r9 e) 5,(RP n).cell (r9 e) 6,(RP n).cell (r9 e) 7,(RP n).cell (r9 e) 8]=r9 e from rfl]
  have hpe:q1e Tryz.prog (cf3 tb Tryz.prog) (FN n) x [.agg 9] (r9 e)=some (0,[.d (bl (p e))]):=hp e hmem
  rw [q1T,hpe]
  simp only [q01,q02,q00,q0b,q0u,q04,hw]
  by_cases h:p e=true
  ·simp only [h,if_true,fnd,Nat.add_zero]
  ·have h':p e=false:=by simpa using h
   simp only [h',Bool.false_eq_true,if_false,fnd]
   refine Eq.trans ?_ (Eq.trans ih' ?_)
   ·rfl
   ·cases fnd p r with
    | none=>rfl
    | some j=>simp only [Option.map_some];congr 5;omega
theorem s192 (n:Nat) (o:Option (List E9)) (hl:(o.getD []).length≤4611686018427387904) (x:D) (p:E9→Bool) (hp:∀ e∈o.getD [],FD n x [.agg 9] (r9 e)=some (0,[.d (bl (p e))])) :
  FN (n+2) 192 [d9 o,x]=some (0,[.d (bl ((o.getD []).any p))]):=by
 rw [F192]
 simp only [G192,q06,s183 n o hl x p hp,q01,q02,q04,q1q,q0b,q5K]
theorem s123 (n:Nat) (o:Option (List E9)) (hl:(o.getD []).length≤4611686018427387904) (x:D) (p:E9→Bool) (hp:∀ e∈o.getD [],FD n x [.agg 9] (r9 e)=some (0,[.d (bl (p e))])) :
  FN (n+3) 123 [d9 o,x]=some (0,[.d (bl ((o.getD []).any p))]):=by
 rw [F123]
 simp only [G123,q06,s192 n o hl x p hp,q01,q02,q0b]
theorem s184 (n:Nat) (o:Option (List E5)) (hl:(o.getD []).length≤4611686018427387904) (x:D) (p:E5→Bool) (hp:∀ e∈o.getD [],FD n x [.agg 5] (r5 e)=some (0,[.d (bl (p e))])) :
  FN (n+1) 184 [d5 o,x]=some (0,[.d (il (q65 p (o.getD [])))]):=by
 rw [F184]
 simp only [G184,qib,q04,q0k]
 have:=q0t (β:=Unit) (o.getD []) hl (qbJ (RP n)) (fun i _=>[.d (d5 o),.d x,.d (il (o.getD []).length),.d (il i)]) (fun _ _=>True)
  (fun i r _=>match fnd p r with | some j=>some (0,[.d (il ((i+j:Nat):Int))]) | none=>some (1,[]))
  (fun _ k _=>by simp [qbJ,fnd]) ?_ M0 () trivial (q1A hl)
 ·simp only [Int.natCast_zero,List.drop_zero,Nat.zero_add] at this
  rw [this]
  unfold q65
  cases fnd p (o.getD [])<;>simp
 ·intro i e r _ k hi hd hlt hw _ ih
  have ih':=ih () trivial
  have hlt':(i:Int) < ((o.getD []).length:Int):=by omega
  have hmem:e∈o.getD []:=List.mem_of_getElem? hi
  simp only [qbJ,q02,q07,q0B,q00,hlt',decide_true,if_true,qh1 hi]
  rw [show [(RP n).cell (r5 e) 0,(RP n).cell (r5 e) 1,(RP n).cell (r5 e) 2,(RP n).cell (r5 e) 3,(RP n).cell (r5 e) 4]=r5 e from rfl]
  have hpe:q1e Tryz.prog (cf3 tb Tryz.prog) (FN n) x [.agg 5] (r5 e)=some (0,[.d (bl (p e))]):=hp e hmem
  rw [q1T,hpe]
  simp only [q01,q02,q00,q0b,q0u,q04,hw]
  by_cases h:p e=true
  ·simp only [h,if_true,fnd,Nat.add_zero]
  ·have h':p e=false:=by simpa using h
   simp only [h',Bool.false_eq_true,if_false,fnd]
   refine Eq.trans ?_ (Eq.trans ih' ?_)
   ·rfl
   ·cases fnd p r with
    | none=>rfl
    | some j=>simp only [Option.map_some];congr 5;omega
theorem s193 (n:Nat) (o:Option (List E5)) (hl:(o.getD []).length≤4611686018427387904) (x:D) (p:E5→Bool) (hp:∀ e∈o.getD [],FD n x [.agg 5] (r5 e)=some (0,[.d (bl (p e))])) :
  FN (n+2) 193 [d5 o,x]=some (0,[.d (bl ((o.getD []).any p))]):=by
 rw [F193]
 simp only [G193,q06,s184 n o hl x p hp,q01,q02,q04,q1q,q0b,q5K]
theorem s125 (n:Nat) (o:Option (List E5)) (hl:(o.getD []).length≤4611686018427387904) (x:D) (p:E5→Bool) (hp:∀ e∈o.getD [],FD n x [.agg 5] (r5 e)=some (0,[.d (bl (p e))])) :
  FN (n+3) 125 [d5 o,x]=some (0,[.d (bl ((o.getD []).any p))]):=by
 rw [F125]
 simp only [G125,q06,s193 n o hl x p hp,q01,q02,q0b]
theorem s186 (n:Nat) (o:Option (List Int)) (hl:(o.getD []).length≤4611686018427387904) (x:D) (p:Int→Bool) (hp:∀ e∈o.getD [],FD n x [.one] (rI e)=some (0,[.d (bl (p e))])) :
  FN (n+1) 186 [dI o,x]=some (0,[.d (il (q65 p (o.getD [])))]):=by
 rw [F186]
 simp only [G186,q3s,q04,q0k]
 have:=q0t (β:=Unit) (o.getD []) hl (qbI (RP n)) (fun i _=>[.d (dI o),.d x,.d (il (o.getD []).length),.d (il i)]) (fun _ _=>True)
  (fun i r _=>match fnd p r with | some j=>some (0,[.d (il ((i+j:Nat):Int))]) | none=>some (1,[]))
  (fun _ k _=>by simp [qbI,fnd]) ?_ M0 () trivial (q1A hl)
 ·simp only [Int.natCast_zero,List.drop_zero,Nat.zero_add] at this
  rw [this]
  unfold q65
  cases fnd p (o.getD [])<;>simp
 ·intro i e r _ k hi hd hlt hw _ ih
  have ih':=ih () trivial
  have hlt':(i:Int) < ((o.getD []).length:Int):=by omega
  have hmem:e∈o.getD []:=List.mem_of_getElem? hi
  simp only [qbI,q02,q07,q0B,q00,hlt',decide_true,if_true,q3X hi]
  rw [show [(RP n).cell (rI e) 0]=rI e from rfl]
  have hpe:q1e Tryz.prog (cf3 tb Tryz.prog) (FN n) x [.one] (rI e)=some (0,[.d (bl (p e))]):=hp e hmem
  rw [q1T,hpe]
  simp only [q01,q02,q00,q0b,q0u,q04,hw]
  by_cases h:p e=true
  ·simp only [h,if_true,fnd,Nat.add_zero]
  ·have h':p e=false:=by simpa using h
   simp only [h',Bool.false_eq_true,if_false,fnd]
   refine Eq.trans ?_ (Eq.trans ih' ?_)
   ·rfl
   ·cases fnd p r with
    | none=>rfl
    | some j=>simp only [Option.map_some];congr 5;omega
theorem s206 (n:Nat) (o:Option (List Int)) (hl:(o.getD []).length≤4611686018427387904) (x:D) (p:Int→Bool) (hp:∀ e∈o.getD [],FD n x [.one] (rI e)=some (0,[.d (bl (p e))])) :
  FN (n+2) 206 [dI o,x]=some (0,[.d (bl ((o.getD []).any p))]):=by
 rw [F206]
 simp only [G206,q06,s186 n o hl x p hp,q01,q02,q04,q1q,q0b,q5K]
theorem s154 (n:Nat) (o:Option (List Int)) (hl:(o.getD []).length≤4611686018427387904) (x:D) (p:Int→Bool) (hp:∀ e∈o.getD [],FD n x [.one] (rI e)=some (0,[.d (bl (p e))])) :
  FN (n+3) 154 [dI o,x]=some (0,[.d (bl ((o.getD []).any p))]):=by
 rw [F154]
 simp only [G154,q06,s206 n o hl x p hp,q01,q02,q0b]
theorem s120 (n:Nat) (e:E9):FN (n+5) 120 (r9 e)=some (0,[.d (bl (!decide (q28 e)))]):=by
 rw [r9,F120]
 have:=s57 n e
 rw [r9] at this
 simp only [G120,q06,this,q01,q02,q04,q0L,q0b]
 by_cases h:q28 e<;>simp [h]
theorem d120 (n:Nat) (e:E9):FD (n+5) (.fn 120 []) [.agg 9] (r9 e)=some (0,[.d (bl (!decide (q28 e)))]):=by
 have:=s120 n e
 rw [r9] at this
 exact q3Z [.agg 9] [.agg (r9 e)] (by decide) rfl (by kernel_rfl) rfl (by kernel_rfl) this
theorem s122 (n:Nat) (e:E9):FN (n+5) 122 (r9 e)=some (0,[.d (bl (!decide (q29 e)))]):=by
 rw [r9,F122]
 have:=s59 n e
 rw [r9] at this
 simp only [G122,q06,this,q01,q02,q04,q0L,q0b]
 by_cases h:q29 e<;>simp [h]
theorem d122 (n:Nat) (e:E9):FD (n+5) (.fn 122 []) [.agg 9] (r9 e)=some (0,[.d (bl (!decide (q29 e)))]):=by
 have:=s122 n e
 rw [r9] at this
 exact q3Z [.agg 9] [.agg (r9 e)] (by decide) rfl (by kernel_rfl) rfl (by kernel_rfl) this
theorem s124 (n:Nat) (e:E9):FN (n+5) 124 (r9 e)=some (0,[.d (bl (!decide (q2a e)))]):=by
 rw [r9,F124]
 have:=s61 n e
 rw [r9] at this
 simp only [G124,q06,this,q01,q02,q04,q0L,q0b]
 by_cases h:q2a e<;>simp [h]
theorem d124 (n:Nat) (e:E9):FD (n+5) (.fn 124 []) [.agg 9] (r9 e)=some (0,[.d (bl (!decide (q2a e)))]):=by
 have:=s124 n e
 rw [r9] at this
 exact q3Z [.agg 9] [.agg (r9 e)] (by decide) rfl (by kernel_rfl) rfl (by kernel_rfl) this
theorem s126 (n:Nat) (e:E5):FN (n+5) 126 (r5 e)=some (0,[.d (bl (!decide (q3Y e)))]):=by
 rw [r5,F126]
 have:=s63 n e
 rw [r5] at this
 simp only [G126,q06,this,q01,q02,q04,q0L,q0b]
 by_cases h:q3Y e<;>simp [h]
theorem d126 (n:Nat) (e:E5):FD (n+5) (.fn 126 []) [.agg 5] (r5 e)=some (0,[.d (bl (!decide (q3Y e)))]):=by
 have:=s126 n e
 rw [r5] at this
 exact q3Z [.agg 5] [.agg (r5 e)] (by decide) rfl (by kernel_rfl) rfl (by kernel_rfl) this
theorem s155 (n:Nat) (z:Int):FN (n+3) 155 [il z]=some (0,[.d (bl (!decide (0≤z∧z≤4166)))]):=by
 rw [F155]
 simp only [G155,q06,s136,q01,q02,q0V,q0b]
theorem d155 (n:Nat) (z:Int):FD (n+3) (.fn 155 []) [.one] (rI z)=some (0,[.d (bl (!decide (0≤z∧z≤4166)))]):=by
 exact q3Z [.one] [.one (il z)] (by decide) rfl (by kernel_rfl) rfl (by kernel_rfl) (s155 n z)
end Go.VE
namespace Go.VE
open Go.RowKit Go.Proofs
def q78 (e0:List Yr) (e1:Rr→List Yr):Rr→Out
 | []=>some (0,e0)
 | w::ws=>some (1,e1 (w::ws))
theorem q2s {α:Type} (l:List α) (hl:l.length≤4611686018427387904) (g:α→Option (List D)) (b0 b1:(Nat→List Yr→Out)→List Yr→Out) (z:Nat→List Yr) (nz:Nat→Rr→List Yr) (e0:List Yr) (e1:Rr→List Yr)
  (h0e:∀ k,b0 k (z l.length)=some (0,e0)) (h1e:∀ rs k,b1 k (nz l.length rs)=some (1,e1 rs))
  (h0:∀ (i:Nat) c (k:Nat→List Yr→Out),l[i]?=some c→(i:Int) < (l.length:Int)→IntKind.i64.wrap ((i:Int)+1)=((i+1:Nat):Int)→b0 k (z i)=match g c with
   | none=>k 0 (z (i+1))
   | some w=>k 1 (nz (i+1) [w]))
  (h1:∀ (i:Nat) c (rs:Rr) (k:Nat→List Yr→Out),l[i]?=some c→(i:Int) < (l.length:Int)→IntKind.i64.wrap ((i:Int)+1)=((i+1:Nat):Int)→rs.length≤i→b1 k (nz i rs)=match g c with
   | none=>k 1 (nz (i+1) rs)
   | some w=>k 1 (nz (i+1) (rs++[w]))) :
  q0I [b0,b1] M0 0 (z 0)=q78 e0 e1 (l.filterMap g):=by
 have:=q48 (σ:=Nat) [b0,b1] (fun i=>match (l.take i).filterMap g with
   | []=>(0,z i)
   | w::ws=>(1,nz i (w::ws))) (fun i=>l.length - i) (fun i=>i≤l.length) (fun _=>q78 e0 e1 (l.filterMap g)) ?_ M0 0 (Nat.zero_le _) (by have:=q1A hl;unfold M0;omega)
 ·simpa using this
 ·intro i k hi ih
  by_cases h:i < l.length
  ·have hc:l[i]?=some l[i]:=List.getElem?_eq_getElem h
   have ht:l.take (i+1)=l.take i++[l[i]]:=by rw [List.take_add_one,hc];rfl
   have hlt:(i:Int) < (l.length:Int):=by omega
   have hw:IntKind.i64.wrap ((i:Int)+1)=((i+1:Nat):Int):=by rw [q0l (by omega) (by omega)];simp
   have ih':=ih (i+1) (by omega) (by omega)
   simp only [ht,List.filterMap_append,List.filterMap_cons,List.filterMap_nil] at ih'
   have hlen:((l.take i).filterMap g).length≤i:=Nat.le_trans (List.length_filterMap_le _ _) (by simp;omega)
   revert ih' hlen
   cases (l.take i).filterMap g with
   | nil =>
    intro ih' _
    refine ⟨b0,rfl,?_⟩
    simp only
    rw [h0 i _ k hc hlt hw]
    cases hg:g l[i] with
    | none=>rw [hg] at ih';simpa using ih'
    | some w=>rw [hg] at ih';simpa using ih'
   | cons w ws =>
    intro ih' hlen
    refine ⟨b1,rfl,?_⟩
    simp only
    rw [h1 i _ (w::ws) k hc hlt hw hlen]
    cases hg:g l[i] with
    | none=>rw [hg] at ih';simpa using ih'
    | some w'=>rw [hg] at ih';simpa using ih'
  ·have hil:i=l.length:=by omega
   subst hil
   simp only [List.take_length]
   cases l.filterMap g with
   | nil=>exact ⟨b0,rfl,h0e k⟩
   | cons w ws=>exact ⟨b1,rfl,h1e _ k⟩
section
variable {Fn:Nat→List D→Out} {FnD:D→List Sh→List D→Out} {m:Nat}
theorem q8k (t:Nat) (g:Bool) (l:List D):(q05 Fn FnD m).ifD t g l=.ifc t g l:=rfl
end
attribute [simp] q8k
def nzO {α:Type}:List α→Option (List α)
 | []=>none
 | x::xs=>some (x::xs)
theorem q0R {α:Type} (l:List α):(nzO l).getD []=l:=by cases l<;>rfl
set_option maxRecDepth 10000 in
theorem l105_0 (n:Nat) (o:Option (List E9)) (hl:(o.getD []).length*72≤140737488351232) (x1 x2 x3:D):q0I [qbW (RP (n)),qbV (RP (n))] M0 0 [.d (d9 o),.d x1,.d x2,.d x3,.d (d9 o),.d (il (o.getD []).length),.d (il 0)] =
  q78 [.d (d9 o),.d x1,.d x2,.d x3] (fun rs=>[.d (d9 o),.d x1,.d x2,.d x3,.r rs,.n rs.length,.n rs.length]) ((o.getD []).filterMap (fun e=>some [.ifc 200 true (r9 e)])):=by
 refine q2s (o.getD []) (by omega) (fun e=>some [.ifc 200 true (r9 e)]) _ _ (fun i=>[.d (d9 o),.d x1,.d x2,.d x3,.d (d9 o),.d (il (o.getD []).length),.d (il (i:Nat))]) (fun i rs=>[.d (d9 o),.d x1,.d x2,.d x3,.d (d9 o),.d (il (o.getD []).length),.d (il (i:Nat)),.r rs,.n rs.length,.n rs.length]) [.d (d9 o),.d x1,.d x2,.d x3] (fun rs=>[.d (d9 o),.d x1,.d x2,.d x3,.r rs,.n rs.length,.n rs.length]) ?_ ?_ ?_ ?_
 ·intro q;simp [qbW]
 ·intro rs q;simp [qbV]
 ·intro i c q hi hlt hw
  simp only [qbW,q02,q07,q0B,q00,hlt,decide_true,if_true,q4u hi,q10,q0x,q0H,q0O,q0A,List.length_cons,List.length_nil,List.take_succ_cons,List.take_zero,q1b,q0Q,q04,q0u,hw,q8k]
  rw [if_pos (by simp [maxLen])]
  rfl
 ·intro i c rs q hi hlt hw hrs
  simp only [qbV,q02,q07,q0r,q0q,q0o,q0p,q0B,q00,hlt,decide_true,if_true,q4u hi,q10,q0x,q0H,q0O,q0A,List.length_cons,List.length_nil,List.take_succ_cons,List.take_zero,q0Q,q04,q0u,hw,q8k,q1x,q2W,List.length_append]
  rw [if_pos (by simp [maxLen];omega)]
  rfl
set_option maxRecDepth 10000 in
theorem l105_1 (n:Nat) (o:Option (List E9)) (hl:(o.getD []).length*72≤140737488351232) (x0 x2 x3 p0:D):q0I [qbU (RP (n)),qbT (RP (n))] M0 0 [.d x0,.d (d9 o),.d x2,.d x3,.d (d9 o),.d (il (o.getD []).length),.d (il 0),.d p0] =
  q78 [.d x0,.d (d9 o),.d x2,.d x3,.d p0] (fun rs=>[.d x0,.d (d9 o),.d x2,.d x3,.r rs,.d p0,.n rs.length,.n rs.length]) ((o.getD []).filterMap (fun e=>some [.ifc 201 true (r9 e)])):=by
 refine q2s (o.getD []) (by omega) (fun e=>some [.ifc 201 true (r9 e)]) _ _ (fun i=>[.d x0,.d (d9 o),.d x2,.d x3,.d (d9 o),.d (il (o.getD []).length),.d (il (i:Nat)),.d p0]) (fun i rs=>[.d x0,.d (d9 o),.d x2,.d x3,.d (d9 o),.d (il (o.getD []).length),.d (il (i:Nat)),.r rs,.d p0,.n rs.length,.n rs.length]) [.d x0,.d (d9 o),.d x2,.d x3,.d p0] (fun rs=>[.d x0,.d (d9 o),.d x2,.d x3,.r rs,.d p0,.n rs.length,.n rs.length]) ?_ ?_ ?_ ?_
 ·intro q;simp [qbU]
 ·intro rs q;simp [qbT]
 ·intro i c q hi hlt hw
  simp only [qbU,q02,q07,q0B,q00,hlt,decide_true,if_true,q4u hi,q10,q0x,q0H,q0O,q0A,List.length_cons,List.length_nil,List.take_succ_cons,List.take_zero,q1b,q0Q,q04,q0u,hw,q8k]
  rw [if_pos (by simp [maxLen])]
  rfl
 ·intro i c rs q hi hlt hw hrs
  simp only [qbT,q02,q07,q0r,q0q,q0o,q0p,q0B,q00,hlt,decide_true,if_true,q4u hi,q10,q0x,q0H,q0O,q0A,List.length_cons,List.length_nil,List.take_succ_cons,List.take_zero,q0Q,q04,q0u,hw,q8k,q1x,q2W,List.length_append]
  rw [if_pos (by simp [maxLen];omega)]
  rfl
set_option maxRecDepth 10000 in
theorem l105_2 (n:Nat) (o:Option (List E9)) (hl:(o.getD []).length*72≤140737488351232) (x0 x1 x3 p0 p1:D):q0I [qbS (RP (n)),qbR (RP (n))] M0 0 [.d x0,.d x1,.d (d9 o),.d x3,.d (d9 o),.d (il (o.getD []).length),.d (il 0),.d p0,.d p1] =
  q78 [.d x0,.d x1,.d (d9 o),.d x3,.d p0,.d p1] (fun rs=>[.d x0,.d x1,.d (d9 o),.d x3,.r rs,.d p0,.d p1,.n rs.length,.n rs.length]) ((o.getD []).filterMap (fun e=>some [.ifc 202 true (r9 e)])):=by
 refine q2s (o.getD []) (by omega) (fun e=>some [.ifc 202 true (r9 e)]) _ _ (fun i=>[.d x0,.d x1,.d (d9 o),.d x3,.d (d9 o),.d (il (o.getD []).length),.d (il (i:Nat)),.d p0,.d p1]) (fun i rs=>[.d x0,.d x1,.d (d9 o),.d x3,.d (d9 o),.d (il (o.getD []).length),.d (il (i:Nat)),.r rs,.d p0,.d p1,.n rs.length,.n rs.length]) [.d x0,.d x1,.d (d9 o),.d x3,.d p0,.d p1] (fun rs=>[.d x0,.d x1,.d (d9 o),.d x3,.r rs,.d p0,.d p1,.n rs.length,.n rs.length]) ?_ ?_ ?_ ?_
 ·intro q;simp [qbS]
 ·intro rs q;simp [qbR]
 ·intro i c q hi hlt hw
  simp only [qbS,q02,q07,q0B,q00,hlt,decide_true,if_true,q4u hi,q10,q0x,q0H,q0O,q0A,List.length_cons,List.length_nil,List.take_succ_cons,List.take_zero,q1b,q0Q,q04,q0u,hw,q8k]
  rw [if_pos (by simp [maxLen])]
  rfl
 ·intro i c rs q hi hlt hw hrs
  simp only [qbR,q02,q07,q0r,q0q,q0o,q0p,q0B,q00,hlt,decide_true,if_true,q4u hi,q10,q0x,q0H,q0O,q0A,List.length_cons,List.length_nil,List.take_succ_cons,List.take_zero,q0Q,q04,q0u,hw,q8k,q1x,q2W,List.length_append]
  rw [if_pos (by simp [maxLen];omega)]
  rfl
set_option maxRecDepth 10000 in
theorem l105_3 (n:Nat) (o:Option (List E5)) (hl:(o.getD []).length*40≤140737488351232) (p0 p1 p2:D):q0I [qbQ (RP (n)),qbP (RP (n))] M0 0 [.d (d5 o),.d (il (o.getD []).length),.d (il 0),.d p0,.d p1,.d p2] =
  q78 [.d p0,.d p1,.d p2] (fun rs=>[.r rs,.d p0,.d p1,.d p2,.n rs.length,.n rs.length]) ((o.getD []).filterMap (fun e=>some [.ifc 203 true (r5 e)])):=by
 refine q2s (o.getD []) (by omega) (fun e=>some [.ifc 203 true (r5 e)]) _ _ (fun i=>[.d (d5 o),.d (il (o.getD []).length),.d (il (i:Nat)),.d p0,.d p1,.d p2]) (fun i rs=>[.d (d5 o),.d (il (o.getD []).length),.d (il (i:Nat)),.r rs,.d p0,.d p1,.d p2,.n rs.length,.n rs.length]) [.d p0,.d p1,.d p2] (fun rs=>[.r rs,.d p0,.d p1,.d p2,.n rs.length,.n rs.length]) ?_ ?_ ?_ ?_
 ·intro q;simp [qbQ]
 ·intro rs q;simp [qbP]
 ·intro i c q hi hlt hw
  simp only [qbQ,q02,q07,q0B,q00,hlt,decide_true,if_true,qh1 hi,q10,q0x,q0H,q0O,q0A,List.length_cons,List.length_nil,List.take_succ_cons,List.take_zero,q1b,q0Q,q04,q0u,hw,q8k]
  rw [if_pos (by simp [maxLen])]
  rfl
 ·intro i c rs q hi hlt hw hrs
  simp only [qbP,q02,q07,q0r,q0q,q0o,q0p,q0B,q00,hlt,decide_true,if_true,qh1 hi,q10,q0x,q0H,q0O,q0A,List.length_cons,List.length_nil,List.take_succ_cons,List.take_zero,q0Q,q04,q0u,hw,q8k,q1x,q2W,List.length_append]
  rw [if_pos (by simp [maxLen];omega)]
  rfl
set_option maxRecDepth 10000 in
theorem l43_0 (n:Nat) (k:Int) (o:Option (List E9)) (hl:(o.getD []).length*72≤140737488351232) (x1 x2 x3:D):q0I [qgD (RP (n+1)),qgC (RP (n+1))] M0 0 [.d (il k),.d (d9 o),.d x1,.d x2,.d x3,.d (d9 o),.d (il (o.getD []).length),.d (il 0)] =
  q78 [.d (il k),.d (d9 o),.d x1,.d x2,.d x3] (fun rs=>[.d (il k),.d (d9 o),.d x1,.d x2,.d x3,.r rs,.n rs.length,.n rs.length]) ((o.getD []).filterMap (fun e=>if q3U e.kn e.un k then some (r9 e) else none)):=by
 refine q2s (o.getD []) (by omega) (fun e=>if q3U e.kn e.un k then some (r9 e) else none) _ _ (fun i=>[.d (il k),.d (d9 o),.d x1,.d x2,.d x3,.d (d9 o),.d (il (o.getD []).length),.d (il (i:Nat))]) (fun i rs=>[.d (il k),.d (d9 o),.d x1,.d x2,.d x3,.d (d9 o),.d (il (o.getD []).length),.d (il (i:Nat)),.r rs,.n rs.length,.n rs.length]) [.d (il k),.d (d9 o),.d x1,.d x2,.d x3] (fun rs=>[.d (il k),.d (d9 o),.d x1,.d x2,.d x3,.r rs,.n rs.length,.n rs.length]) ?_ ?_ ?_ ?_
 ·intro q;simp [qgD]
 ·intro rs q;simp [qgC]
 ·intro i c q hi hlt hw
  simp only [qgD,q02,q07,q0B,q00,hlt,decide_true,if_true,q4u hi,q10,q0x,q0H,q0O,q0A,List.length_cons,List.length_nil,List.take_succ_cons,List.take_zero,q1b,q0Q,q04,q0u,hw,r9,q0a,q0C,q06,s42,q01]
  by_cases hc:q3U c.kn c.un k=true
  ·simp only [hc,if_true]
   rw [if_pos (by simp [maxLen])]
  ·simp only [hc,if_false,Bool.false_eq_true]
 ·intro i c rs q hi hlt hw hrs
  simp only [qgC,q02,q07,q0r,q0q,q0o,q0p,q0B,q00,hlt,decide_true,if_true,q4u hi,q10,q0x,q0H,q0O,q0A,List.length_cons,List.length_nil,List.take_succ_cons,List.take_zero,q0Q,q04,q0u,hw,r9,q0a,q0C,q06,s42,q01,q1x,q2W,List.length_append]
  by_cases hc:q3U c.kn c.un k=true
  ·simp only [hc,if_true]
   rw [if_pos (by simp [maxLen];omega)]
  ·simp only [hc,if_false,Bool.false_eq_true]
set_option maxRecDepth 10000 in
theorem l43_1 (n:Nat) (k:Int) (o:Option (List E9)) (hl:(o.getD []).length*72≤140737488351232) (x0 x2 x3 p0:D):q0I [qgB (RP (n+1)),qgA (RP (n+1))] M0 0 [.d (il k),.d x0,.d (d9 o),.d x2,.d x3,.d (d9 o),.d (il (o.getD []).length),.d (il 0),.d p0] =
  q78 [.d (il k),.d x0,.d (d9 o),.d x2,.d x3,.d p0] (fun rs=>[.d (il k),.d x0,.d (d9 o),.d x2,.d x3,.r rs,.d p0,.n rs.length,.n rs.length]) ((o.getD []).filterMap (fun e=>if q3U e.kn e.un k then some (r9 e) else none)):=by
 refine q2s (o.getD []) (by omega) (fun e=>if q3U e.kn e.un k then some (r9 e) else none) _ _ (fun i=>[.d (il k),.d x0,.d (d9 o),.d x2,.d x3,.d (d9 o),.d (il (o.getD []).length),.d (il (i:Nat)),.d p0]) (fun i rs=>[.d (il k),.d x0,.d (d9 o),.d x2,.d x3,.d (d9 o),.d (il (o.getD []).length),.d (il (i:Nat)),.r rs,.d p0,.n rs.length,.n rs.length]) [.d (il k),.d x0,.d (d9 o),.d x2,.d x3,.d p0] (fun rs=>[.d (il k),.d x0,.d (d9 o),.d x2,.d x3,.r rs,.d p0,.n rs.length,.n rs.length]) ?_ ?_ ?_ ?_
 ·intro q;simp [qgB]
 ·intro rs q;simp [qgA]
 ·intro i c q hi hlt hw
  simp only [qgB,q02,q07,q0B,q00,hlt,decide_true,if_true,q4u hi,q10,q0x,q0H,q0O,q0A,List.length_cons,List.length_nil,List.take_succ_cons,List.take_zero,q1b,q0Q,q04,q0u,hw,r9,q0a,q0C,q06,s42,q01]
  by_cases hc:q3U c.kn c.un k=true
  ·simp only [hc,if_true]
   rw [if_pos (by simp [maxLen])]
  ·simp only [hc,if_false,Bool.false_eq_true]
 ·intro i c rs q hi hlt hw hrs
  simp only [qgA,q02,q07,q0r,q0q,q0o,q0p,q0B,q00,hlt,decide_true,if_true,q4u hi,q10,q0x,q0H,q0O,q0A,List.length_cons,List.length_nil,List.take_succ_cons,List.take_zero,q0Q,q04,q0u,hw,r9,q0a,q0C,q06,s42,q01,q1x,q2W,List.length_append]
  by_cases hc:q3U c.kn c.un k=true
  ·simp only [hc,if_true]
   rw [if_pos (by simp [maxLen];omega)]
  ·simp only [hc,if_false,Bool.false_eq_true]
set_option maxRecDepth 10000 in
theorem l43_2 (n:Nat) (k:Int) (o:Option (List E9)) (hl:(o.getD []).length*72≤140737488351232) (x0 x1 x3 p0 p1:D):q0I [qgz (RP (n+1)),qgy (RP (n+1))] M0 0 [.d (il k),.d x0,.d x1,.d (d9 o),.d x3,.d (d9 o),.d (il (o.getD []).length),.d (il 0),.d p0,.d p1] =
  q78 [.d (il k),.d x0,.d x1,.d (d9 o),.d x3,.d p0,.d p1] (fun rs=>[.d (il k),.d x0,.d x1,.d (d9 o),.d x3,.r rs,.d p0,.d p1,.n rs.length,.n rs.length]) ((o.getD []).filterMap (fun e=>if q3U e.kn e.un k then some (r9 e) else none)):=by
 refine q2s (o.getD []) (by omega) (fun e=>if q3U e.kn e.un k then some (r9 e) else none) _ _ (fun i=>[.d (il k),.d x0,.d x1,.d (d9 o),.d x3,.d (d9 o),.d (il (o.getD []).length),.d (il (i:Nat)),.d p0,.d p1]) (fun i rs=>[.d (il k),.d x0,.d x1,.d (d9 o),.d x3,.d (d9 o),.d (il (o.getD []).length),.d (il (i:Nat)),.r rs,.d p0,.d p1,.n rs.length,.n rs.length]) [.d (il k),.d x0,.d x1,.d (d9 o),.d x3,.d p0,.d p1] (fun rs=>[.d (il k),.d x0,.d x1,.d (d9 o),.d x3,.r rs,.d p0,.d p1,.n rs.length,.n rs.length]) ?_ ?_ ?_ ?_
 ·intro q;simp [qgz]
 ·intro rs q;simp [qgy]
 ·intro i c q hi hlt hw
  simp only [qgz,q02,q07,q0B,q00,hlt,decide_true,if_true,q4u hi,q10,q0x,q0H,q0O,q0A,List.length_cons,List.length_nil,List.take_succ_cons,List.take_zero,q1b,q0Q,q04,q0u,hw,r9,q0a,q0C,q06,s42,q01]
  by_cases hc:q3U c.kn c.un k=true
  ·simp only [hc,if_true]
   rw [if_pos (by simp [maxLen])]
  ·simp only [hc,if_false,Bool.false_eq_true]
 ·intro i c rs q hi hlt hw hrs
  simp only [qgy,q02,q07,q0r,q0q,q0o,q0p,q0B,q00,hlt,decide_true,if_true,q4u hi,q10,q0x,q0H,q0O,q0A,List.length_cons,List.length_nil,List.take_succ_cons,List.take_zero,q0Q,q04,q0u,hw,r9,q0a,q0C,q06,s42,q01,q1x,q2W,List.length_append]
  by_cases hc:q3U c.kn c.un k=true
  ·simp only [hc,if_true]
   rw [if_pos (by simp [maxLen];omega)]
  ·simp only [hc,if_false,Bool.false_eq_true]
set_option maxRecDepth 10000 in
theorem l43_3 (n:Nat) (k:Int) (o:Option (List E5)) (hl:(o.getD []).length*40≤140737488351232) (p0 p1 p2:D):q0I [qgx (RP (n+1)),qgw (RP (n+1))] M0 0 [.d (il k),.d (d5 o),.d (il (o.getD []).length),.d (il 0),.d p0,.d p1,.d p2] =
  q78 [.d p0,.d p1,.d p2] (fun rs=>[.r rs,.d p0,.d p1,.d p2,.n rs.length,.n rs.length]) ((o.getD []).filterMap (fun e=>if q3U e.kn e.un k then some (r5 e) else none)):=by
 refine q2s (o.getD []) (by omega) (fun e=>if q3U e.kn e.un k then some (r5 e) else none) _ _ (fun i=>[.d (il k),.d (d5 o),.d (il (o.getD []).length),.d (il (i:Nat)),.d p0,.d p1,.d p2]) (fun i rs=>[.d (il k),.d (d5 o),.d (il (o.getD []).length),.d (il (i:Nat)),.r rs,.d p0,.d p1,.d p2,.n rs.length,.n rs.length]) [.d p0,.d p1,.d p2] (fun rs=>[.r rs,.d p0,.d p1,.d p2,.n rs.length,.n rs.length]) ?_ ?_ ?_ ?_
 ·intro q;simp [qgx]
 ·intro rs q;simp [qgw]
 ·intro i c q hi hlt hw
  simp only [qgx,q02,q07,q0B,q00,hlt,decide_true,if_true,qh1 hi,q10,q0x,q0H,q0O,q0A,List.length_cons,List.length_nil,List.take_succ_cons,List.take_zero,q1b,q0Q,q04,q0u,hw,r5,q0a,q0C,q06,s42,q01]
  by_cases hc:q3U c.kn c.un k=true
  ·simp only [hc,if_true]
   rw [if_pos (by simp [maxLen])]
  ·simp only [hc,if_false,Bool.false_eq_true]
 ·intro i c rs q hi hlt hw hrs
  simp only [qgw,q02,q07,q0r,q0q,q0o,q0p,q0B,q00,hlt,decide_true,if_true,qh1 hi,q10,q0x,q0H,q0O,q0A,List.length_cons,List.length_nil,List.take_succ_cons,List.take_zero,q0Q,q04,q0u,hw,r5,q0a,q0C,q06,s42,q01,q1x,q2W,List.length_append]
  by_cases hc:q3U c.kn c.un k=true
  ·simp only [hc,if_true]
   rw [if_pos (by simp [maxLen];omega)]
  ·simp only [hc,if_false,Bool.false_eq_true]
def qiz (t:Nat) (l:List E9):D:=dSl 1 (nzO (l.map fun e=>[.ifc t true (r9 e)]))
def dEn5 (l:List E5):D:=dSl 1 (nzO (l.map fun e=>[.ifc 203 true (r5 e)]))
theorem qio {α β:Type} (f:α→β) (l:List α):l.filterMap (fun e=>some (f e))=l.map f:=by
 induction l with
 | nil=>rfl
 | cons x xs ih=>simp
theorem q2t {Fn:Nat→List D→Out} {FnD:D→List Sh→List D→Out} {m:Nat} {l:Rr} {e0:List Yr} {e1:Rr→List Yr} {k0 k1:List Yr→Out} {s:Nat} {R:D→Out} (h0:k0 e0=R (.lit (.slice none 0 0))) (h1:∀ w ws,k1 (e1 (w::ws))=R (.sl s (w::ws))) :
  (q05 Fn FnD m).bnd (q78 e0 e1 l) [k0,k1]=R (dSl s (nzO l)):=by
 cases l with
 | nil=>exact h0
 | cons w ws=>exact h1 w ws
set_option maxRecDepth 10000 in
theorem s105 (n:Nat) (a b c:Option (List E9)) (o:Option (List E5)) (ha:(a.getD []).length*72≤140737488351232) (hb:(b.getD []).length*72≤140737488351232) (hc:(c.getD []).length*72≤140737488351232) (ho:(o.getD []).length*40≤140737488351232) :
  FN (n+1) 105 [d9 a,d9 b,d9 c,d5 o]=some (0,[.d (qiz 200 (a.getD [])),.d (qiz 201 (b.getD [])),.d (qiz 202 (c.getD [])),.d (dEn5 (o.getD []))]):=by
 rw [F105]
 simp only [G105,q6O,q04,q0k,l105_0 n a ha]
 rw [q2t (s:=1) (R:=fun d=>some (0,[.d (d9 a),.d (d9 b),.d (d9 c),.d (d5 o),.d d])) (by simp) (by intros;simp)]
 simp only [q01,q02,q07,q6O,q0k,l105_1 n b hb]
 rw [q2t (s:=1) (R:=fun d=>some (0,[.d (d9 a),.d (d9 b),.d (d9 c),.d (d5 o),.d (dSl 1 (nzO ((a.getD []).filterMap fun e=>some [.ifc 200 true (r9 e)]))),.d d])) (by simp) (by intros;simp)]
 simp only [q01,q02,q07,q6O,q0k,l105_2 n c hc]
 rw [q2t (s:=1) (R:=fun d=>some (0,[.d (d9 a),.d (d9 b),.d (d9 c),.d (d5 o),.d (dSl 1 (nzO ((a.getD []).filterMap fun e=>some [.ifc 200 true (r9 e)]))),.d (dSl 1 (nzO ((b.getD []).filterMap fun e=>some [.ifc 201 true (r9 e)]))),.d d])) (by simp) (by intros;simp)]
 simp only [q01,q02,q07,qib,q0k,l105_3 n o ho]
 rw [q2t (s:=1) (R:=fun d=>some (0,[.d (dSl 1 (nzO ((a.getD []).filterMap fun e=>some [.ifc 200 true (r9 e)]))),.d (dSl 1 (nzO ((b.getD []).filterMap fun e=>some [.ifc 201 true (r9 e)]))),.d (dSl 1 (nzO ((c.getD []).filterMap fun e=>some [.ifc 202 true (r9 e)]))),.d d])) (by simp) (by intros;simp)]
 simp only [qio,qiz,dEn5]
def q1y (k:Int) (l:List E9):List E9:=l.filter fun e=>q3U e.kn e.un k
def q8B (k:Int) (l:List E5):List E5:=l.filter fun e=>q3U e.kn e.un k
theorem q5j {α β:Type} (p:α→Bool) (f:α→β) (l:List α):l.filterMap (fun e=>if p e then some (f e) else none)=(l.filter p).map f:=by
 induction l with
 | nil=>rfl
 | cons x xs ih=>cases h:p x<;>simp [h,ih]
theorem nz9 (l:List E9):dSl 9 (nzO (l.map r9))=d9 (nzO l):=by cases l<;>rfl
theorem nz5 (l:List E5):dSl 5 (nzO (l.map r5))=d5 (nzO l):=by cases l<;>rfl
set_option maxRecDepth 10000 in
theorem s43 (n:Nat) (k:Int) (a b c:Option (List E9)) (o:Option (List E5)) (ha:(a.getD []).length*72≤140737488351232) (hb:(b.getD []).length*72≤140737488351232) (hc:(c.getD []).length*72≤140737488351232) (ho:(o.getD []).length*40≤140737488351232) :
  FN (n+2) 43 [d9 a,d9 b,d9 c,d5 o,il k]=some (0,[.d (d9 (nzO (q1y k (a.getD [])))),.d (d9 (nzO (q1y k (b.getD [])))),.d (d9 (nzO (q1y k (c.getD [])))),.d (d5 (nzO (q8B k (o.getD []))))]):=by
 rw [F43]
 simp only [G43,q6O,q04,q0k,l43_0 n k a ha,q5j]
 rw [q2t (s:=9) (R:=fun d=>some (0,[.d (il k),.d (d9 a),.d (d9 b),.d (d9 c),.d (d5 o),.d d])) (by simp) (by intros;simp)]
 simp only [nz9,q01,q02,q07,q6O,q0k,l43_1 n k b hb,q5j]
 rw [q2t (s:=9) (R:=fun d=>some (0,[.d (il k),.d (d9 a),.d (d9 b),.d (d9 c),.d (d5 o),.d (d9 (nzO (q1y k (a.getD [])))),.d d])) (by simp [q1y]) (by intros;simp [q1y])]
 simp only [nz9,q01,q02,q07,q6O,q0k,l43_2 n k c hc,q5j]
 rw [q2t (s:=9) (R:=fun d=>some (0,[.d (il k),.d (d9 a),.d (d9 b),.d (d9 c),.d (d5 o),.d (d9 (nzO (q1y k (a.getD [])))),.d (d9 (nzO (q1y k (b.getD [])))),.d d])) (by simp [q1y]) (by intros;simp [q1y])]
 simp only [nz9,q01,q02,q07,qib,q0k,l43_3 n k o ho,q5j]
 rw [q2t (s:=5) (R:=fun d=>some (0,[.d (d9 (nzO (q1y k (a.getD [])))),.d (d9 (nzO (q1y k (b.getD [])))),.d (d9 (nzO (q1y k (c.getD [])))),.d d])) (by simp [q1y]) (by intros;simp [q1y])]
 simp only [nz5,q8B,q1y]
end Go.VE
namespace Go.VE
open Go.RowKit Go.Proofs
theorem qbX {T:Tb3} {P:Program} {Fn:Nat→List D→Out} {t f:Nat} {name:String} {row:List D} {sh:List Sh} {xs:List D} {z:D} (hlt:f < 1000000) (hm:qi5 P t name=some f) (hash:T.ash f=some sh) (hx:q1M sh [.agg row]=some xs)
  (hr:T.rsk f=[[(false,[.d])]]) (hf:Fn f xs=some (0,[.d z])):q1e P (cf3 T P) Fn (.ifc t true row) [.met name 1] []=some (0,[.d z]):=by
 have h1:(cf3 T P).ash f=some sh:=by simp only [cf3,if_pos hlt,hash]
 have h2:(cf3 T P).rsk f=[[(false,[.d])]]:=hr
 show qeZ P (cf3 T P) Fn t true row [.met name 1]=_
 simp only [qeZ,hm,invV,h1,h2,hx,hf]
 rfl
theorem src200 (n:Nat) (e:E9):FD (n+1) (.ifc 200 true (r9 e)) [.met "leazing/family.source" 1] []=some (0,[.d (il e.src)]) :=
 qbX (f:=236) (sh:=[.agg 9]) (xs:=r9 e) (by decide) (by kernel_rfl) (by kernel_rfl) rfl (by kernel_rfl) (by rw [r9,F236];simp [G236])
theorem src201 (n:Nat) (e:E9):FD (n+1) (.ifc 201 true (r9 e)) [.met "leazing/family.source" 1] []=some (0,[.d (il e.src)]) :=
 qbX (f:=238) (sh:=[.agg 9]) (xs:=r9 e) (by decide) (by kernel_rfl) (by kernel_rfl) rfl (by kernel_rfl) (by rw [r9,F238];simp [G238])
theorem src202 (n:Nat) (e:E9):FD (n+1) (.ifc 202 true (r9 e)) [.met "leazing/family.source" 1] []=some (0,[.d (il e.src)]) :=
 qbX (f:=240) (sh:=[.agg 9]) (xs:=r9 e) (by decide) (by kernel_rfl) (by kernel_rfl) rfl (by kernel_rfl) (by rw [r9,F240];simp [G240])
theorem src203 (n:Nat) (e:E5):FD (n+1) (.ifc 203 true (r5 e)) [.met "leazing/family.source" 1] []=some (0,[.d (il e.src)]) :=
 qbX (f:=242) (sh:=[.agg 5]) (xs:=r5 e) (by decide) (by kernel_rfl) (by kernel_rfl) rfl (by kernel_rfl) (by rw [r5,F242];simp [G242])
section
variable {Fn:Nat→List D→Out} {FnD:D→List Sh→List D→Out} {m:Nat}
def dEn {α:Type} (F:α→D) (l:List α):D:=dSl 1 (nzO (l.map fun e=>[F e]))
theorem qdw {α:Type} (F:α→D) (l:List α):(nzO (l.map fun e=>[F e])).getD []=l.map fun e=>[F e]:=q0R _
theorem qhk {α:Type} (F:α→D) (l:List α) (k:D→Out):(q05 Fn FnD m).lenD (dEn F l) k=k (il l.length):=by rw [dEn,q6z,qdw,List.length_map]
theorem qh0 {α:Type} {F:α→D} {l:List α} {i:Nat} {c:α} (h:l[i]?=some c) (k:List D→Out):(q05 Fn FnD m).rowD 1 (dEn F l) (il i) k=k [F c]:=by
 rw [dEn,q51,if_pos (by omega),qdw,Int.toNat_natCast,List.getElem?_map,h];rfl
end
set_option maxRecDepth 10000 in
theorem l56_0 {α:Type} (n:Nat) (F:α→D) (src:α→Int) (hs:∀ e,FD n (F e) [.met "leazing/family.source" 1] []=some (0,[.d (il (src e))])) (l:List α) (hl:l.length≤60) (x1 x2 x3 x4 x5:D) :
  q0I [qeT (RP n)] M0 0 [.d (dEn F l),.d x1,.d x2,.d x3,.d x4,.d x5,.d (dEn F l),.d (il l.length),.d (il 0)] =
   if okL (fun _=>true) src none l=true then some (1,[.d x1,.d x2,.d x3,.d x4,.d x5]) else some (0,[.d (il 34)]):=by
 have:=q0t (β:=Unit) l (by omega) (qeT (RP n)) (fun i _=>[.d (dEn F l),.d x1,.d x2,.d x3,.d x4,.d x5,.d (dEn F l),.d (il l.length),.d (il i)]) (fun _ _=>True)
  (fun i r _=>if okL (fun _=>true) src (q1E src l i) r=true then some (1,[.d x1,.d x2,.d x3,.d x4,.d x5]) else some (0,[.d (il 34)]))
  (fun _ k _=>by simp [qeT,okL]) ?_ M0 () trivial (q1A (by omega))
 ·exact this
 ·intro i e r _ k hi hd hlt hw _ ih
  have ih':=ih () trivial
  rw [q2o _ hi] at ih'
  have hlt':(i:Int) < (l.length:Int):=by omega
  have hse:q1e Tryz.prog (cf3 tb Tryz.prog) (FN n) (F e) [.met "leazing/family.source" 1] []=some (0,[.d (il (src e))]):=hs e
  simp only [qeT,q02,q07,q0B,q00,hlt',decide_true,if_true,qh0 hi,q04,q2V,q0u,hw,okL,Bool.true_and]
  by_cases h0:i=0
  ·subst h0
   rw [if_neg (by simp)]
   simp only [q1E,if_true,ltO,Bool.true_and]
   exact ih'
  ·have hq1:l[i - 1]?=some (l[i - 1]'(by omega)):=List.getElem?_eq_getElem (by omega)
   have hsq:q1e Tryz.prog (cf3 tb Tryz.prog) (FN n) (F (l[i - 1]'(by omega))) [.met "leazing/family.source" 1] []=some (0,[.d (il (src (l[i - 1]'(by omega))))]):=hs _
   have hq:q1E src l i=some (src (l[i - 1]'(by omega))):=by simp [q1E,h0,hq1]
   rw [if_pos (by simp;omega),q0U,q30 (by omega) (by omega),qh0 hq1]
   simp only [q0a,q1T,hsq,hse,q01,q02,q1q,q00,decide_eq_true_eq,q0b]
   rw [hq]
   by_cases h2:src e≤src (l[i - 1]'(by omega))
   ·have h3:ltO (some (src (l[i - 1]'(by omega)))) (src e)=false:=by simp [ltO];omega
    rw [if_pos h2]
    simp only [h3,Bool.false_and,Bool.false_eq_true,if_false]
   ·have h3:ltO (some (src (l[i - 1]'(by omega)))) (src e)=true:=by simp [ltO];omega
    rw [if_neg h2]
    simp only [h3,Bool.true_and]
    exact ih'
set_option maxRecDepth 10000 in
theorem l56_1 {α:Type} (n:Nat) (F:α→D) (src:α→Int) (hs:∀ e,FD n (F e) [.met "leazing/family.source" 1] []=some (0,[.d (il (src e))])) (l:List α) (hl:l.length≤60) (x1 x2 x3 x4 x5:D) :
  q0I [qeS (RP n)] M0 0 [.d (dEn F l),.d x1,.d x2,.d x3,.d x4,.d x5,.d (dEn F l),.d (il l.length),.d (il 0)] =
   if okL (fun _=>true) src none l=true then some (1,[.d x1,.d x2,.d x3,.d x4,.d x5]) else some (0,[.d (il 34)]):=by
 have:=q0t (β:=Unit) l (by omega) (qeS (RP n)) (fun i _=>[.d (dEn F l),.d x1,.d x2,.d x3,.d x4,.d x5,.d (dEn F l),.d (il l.length),.d (il i)]) (fun _ _=>True)
  (fun i r _=>if okL (fun _=>true) src (q1E src l i) r=true then some (1,[.d x1,.d x2,.d x3,.d x4,.d x5]) else some (0,[.d (il 34)]))
  (fun _ k _=>by simp [qeS,okL]) ?_ M0 () trivial (q1A (by omega))
 ·exact this
 ·intro i e r _ k hi hd hlt hw _ ih
  have ih':=ih () trivial
  rw [q2o _ hi] at ih'
  have hlt':(i:Int) < (l.length:Int):=by omega
  have hse:q1e Tryz.prog (cf3 tb Tryz.prog) (FN n) (F e) [.met "leazing/family.source" 1] []=some (0,[.d (il (src e))]):=hs e
  simp only [qeS,q02,q07,q0B,q00,hlt',decide_true,if_true,qh0 hi,q04,q2V,q0u,hw,okL,Bool.true_and]
  by_cases h0:i=0
  ·subst h0
   rw [if_neg (by simp)]
   simp only [q1E,if_true,ltO,Bool.true_and]
   exact ih'
  ·have hq1:l[i - 1]?=some (l[i - 1]'(by omega)):=List.getElem?_eq_getElem (by omega)
   have hsq:q1e Tryz.prog (cf3 tb Tryz.prog) (FN n) (F (l[i - 1]'(by omega))) [.met "leazing/family.source" 1] []=some (0,[.d (il (src (l[i - 1]'(by omega))))]):=hs _
   have hq:q1E src l i=some (src (l[i - 1]'(by omega))):=by simp [q1E,h0,hq1]
   rw [if_pos (by simp;omega),q0U,q30 (by omega) (by omega),qh0 hq1]
   simp only [q0a,q1T,hsq,hse,q01,q02,q1q,q00,decide_eq_true_eq,q0b]
   rw [hq]
   by_cases h2:src e≤src (l[i - 1]'(by omega))
   ·have h3:ltO (some (src (l[i - 1]'(by omega)))) (src e)=false:=by simp [ltO];omega
    rw [if_pos h2]
    simp only [h3,Bool.false_and,Bool.false_eq_true,if_false]
   ·have h3:ltO (some (src (l[i - 1]'(by omega)))) (src e)=true:=by simp [ltO];omega
    rw [if_neg h2]
    simp only [h3,Bool.true_and]
    exact ih'
set_option maxRecDepth 10000 in
theorem l56_2 {α:Type} (n:Nat) (F:α→D) (src:α→Int) (hs:∀ e,FD n (F e) [.met "leazing/family.source" 1] []=some (0,[.d (il (src e))])) (l:List α) (hl:l.length≤60) (x1 x2 x3 x4 x5:D) :
  q0I [qeR (RP n)] M0 0 [.d (dEn F l),.d x1,.d x2,.d x3,.d x4,.d x5,.d (dEn F l),.d (il l.length),.d (il 0)] =
   if okL (fun _=>true) src none l=true then some (1,[.d x1,.d x2,.d x3,.d x4,.d x5]) else some (0,[.d (il 34)]):=by
 have:=q0t (β:=Unit) l (by omega) (qeR (RP n)) (fun i _=>[.d (dEn F l),.d x1,.d x2,.d x3,.d x4,.d x5,.d (dEn F l),.d (il l.length),.d (il i)]) (fun _ _=>True)
  (fun i r _=>if okL (fun _=>true) src (q1E src l i) r=true then some (1,[.d x1,.d x2,.d x3,.d x4,.d x5]) else some (0,[.d (il 34)]))
  (fun _ k _=>by simp [qeR,okL]) ?_ M0 () trivial (q1A (by omega))
 ·exact this
 ·intro i e r _ k hi hd hlt hw _ ih
  have ih':=ih () trivial
  rw [q2o _ hi] at ih'
  have hlt':(i:Int) < (l.length:Int):=by omega
  have hse:q1e Tryz.prog (cf3 tb Tryz.prog) (FN n) (F e) [.met "leazing/family.source" 1] []=some (0,[.d (il (src e))]):=hs e
  simp only [qeR,q02,q07,q0B,q00,hlt',decide_true,if_true,qh0 hi,q04,q2V,q0u,hw,okL,Bool.true_and]
  by_cases h0:i=0
  ·subst h0
   rw [if_neg (by simp)]
   simp only [q1E,if_true,ltO,Bool.true_and]
   exact ih'
  ·have hq1:l[i - 1]?=some (l[i - 1]'(by omega)):=List.getElem?_eq_getElem (by omega)
   have hsq:q1e Tryz.prog (cf3 tb Tryz.prog) (FN n) (F (l[i - 1]'(by omega))) [.met "leazing/family.source" 1] []=some (0,[.d (il (src (l[i - 1]'(by omega))))]):=hs _
   have hq:q1E src l i=some (src (l[i - 1]'(by omega))):=by simp [q1E,h0,hq1]
   rw [if_pos (by simp;omega),q0U,q30 (by omega) (by omega),qh0 hq1]
   simp only [q0a,q1T,hsq,hse,q01,q02,q1q,q00,decide_eq_true_eq,q0b]
   rw [hq]
   by_cases h2:src e≤src (l[i - 1]'(by omega))
   ·have h3:ltO (some (src (l[i - 1]'(by omega)))) (src e)=false:=by simp [ltO];omega
    rw [if_pos h2]
    simp only [h3,Bool.false_and,Bool.false_eq_true,if_false]
   ·have h3:ltO (some (src (l[i - 1]'(by omega)))) (src e)=true:=by simp [ltO];omega
    rw [if_neg h2]
    simp only [h3,Bool.true_and]
    exact ih'
set_option maxRecDepth 10000 in
theorem l56_3 {α:Type} (n:Nat) (F:α→D) (src:α→Int) (hs:∀ e,FD n (F e) [.met "leazing/family.source" 1] []=some (0,[.d (il (src e))])) (l:List α) (hl:l.length≤60) (x1 x2 x3 x4 x5:D) :
  q0I [qeQ (RP n)] M0 0 [.d (dEn F l),.d x1,.d x2,.d x3,.d x4,.d x5,.d (dEn F l),.d (il l.length),.d (il 0)] =
   if okL (fun _=>true) src none l=true then some (1,[.d x1,.d x2,.d x3,.d x4,.d x5]) else some (0,[.d (il 34)]):=by
 have:=q0t (β:=Unit) l (by omega) (qeQ (RP n)) (fun i _=>[.d (dEn F l),.d x1,.d x2,.d x3,.d x4,.d x5,.d (dEn F l),.d (il l.length),.d (il i)]) (fun _ _=>True)
  (fun i r _=>if okL (fun _=>true) src (q1E src l i) r=true then some (1,[.d x1,.d x2,.d x3,.d x4,.d x5]) else some (0,[.d (il 34)]))
  (fun _ k _=>by simp [qeQ,okL]) ?_ M0 () trivial (q1A (by omega))
 ·exact this
 ·intro i e r _ k hi hd hlt hw _ ih
  have ih':=ih () trivial
  rw [q2o _ hi] at ih'
  have hlt':(i:Int) < (l.length:Int):=by omega
  have hse:q1e Tryz.prog (cf3 tb Tryz.prog) (FN n) (F e) [.met "leazing/family.source" 1] []=some (0,[.d (il (src e))]):=hs e
  simp only [qeQ,q02,q07,q0B,q00,hlt',decide_true,if_true,qh0 hi,q04,q2V,q0u,hw,okL,Bool.true_and]
  by_cases h0:i=0
  ·subst h0
   rw [if_neg (by simp)]
   simp only [q1E,if_true,ltO,Bool.true_and]
   exact ih'
  ·have hq1:l[i - 1]?=some (l[i - 1]'(by omega)):=List.getElem?_eq_getElem (by omega)
   have hsq:q1e Tryz.prog (cf3 tb Tryz.prog) (FN n) (F (l[i - 1]'(by omega))) [.met "leazing/family.source" 1] []=some (0,[.d (il (src (l[i - 1]'(by omega))))]):=hs _
   have hq:q1E src l i=some (src (l[i - 1]'(by omega))):=by simp [q1E,h0,hq1]
   rw [if_pos (by simp;omega),q0U,q30 (by omega) (by omega),qh0 hq1]
   simp only [q0a,q1T,hsq,hse,q01,q02,q1q,q00,decide_eq_true_eq,q0b]
   rw [hq]
   by_cases h2:src e≤src (l[i - 1]'(by omega))
   ·have h3:ltO (some (src (l[i - 1]'(by omega)))) (src e)=false:=by simp [ltO];omega
    rw [if_pos h2]
    simp only [h3,Bool.false_and,Bool.false_eq_true,if_false]
   ·have h3:ltO (some (src (l[i - 1]'(by omega)))) (src e)=true:=by simp [ltO];omega
    rw [if_neg h2]
    simp only [h3,Bool.true_and]
    exact ih'
theorem q45 {α:Type} (ok:α→Bool) (src:α→Int):∀ (p:Option Int) (l:List α),okL ok src p l=(l.all ok&&okL (fun _=>true) src p l)
 | _,[]=>rfl
 | p,e::r=>by
  simp only [okL,List.all_cons,q45 ok src (some (src e)) r,Bool.true_and]
  cases ok e<;>cases ltO p (src e)<;>cases r.all ok<;>rfl
end Go.VE
