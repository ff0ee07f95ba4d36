/- The functions. -/
import Derived.Test.YtobeabinccohlaaGreatMf0
import Derived.Test.YtobeabinccohlaaGreatMf1
import Derived.Test.YtobeabinccohlaaGreatMf2
import Derived.Test.YtobeabinccohlaaGreatMh
import Derived.KernelRfl
set_option maxRecDepth 20000
namespace Go.VE
open Go.RowKit Go.Proofs
section
structure E9 where
 src:Int
 a:Int
 b:Int
 f1:Int
 f2:Int
 t1:Int
 t2:Int
 kn:Int
 un:Int
structure E5 where
 src:Int
 a:Int
 day:Int
 kn:Int
 un:Int
def r9 (e:E9):List D:=[il e.src,il e.a,il e.b,il e.f1,il e.f2,il e.t1,il e.t2,il e.kn,il e.un]
def r5 (e:E5):List D:=[il e.src,il e.a,il e.day,il e.kn,il e.un]
theorem s49 (n:Nat) (x lo hi:Int):FN (n+1) 49 [il x,il lo,il hi]=some (0,[.d (bl (decide (lo≤x∧x≤hi)))]):=by
 rw [FS,G49_eq]
 simp only [G49,q23,q77,q00,q0D,q0c]
 by_cases h:lo≤x<;>simp [h]
theorem qjQ (n:Nat) (x lo hi:Int):FN (n+1) 135 [il x,il lo,il hi]=some (0,[.d (bl (decide (lo≤x∧x≤hi)))]):=by
 rw [FS,qmJ]
 simp only [G135,q77,q00,q0D,q0c]
 by_cases h:lo≤x<;>simp [h]
theorem s25 (n:Nat) (x:Int):FN (n+2) 25 [il x]=some (0,[.d (bl (decide (0≤x∧x≤4166)))]):=by
 rw [FS,G25_eq];simp [G25,s49]
theorem s26 (n:Nat) (x:Int):FN (n+2) 26 [il x]=some (0,[.d (bl (decide (1≤x∧x≤99)))]):=by
 rw [FS,G26_eq];simp [G26,s49]
theorem s65 (n:Nat) (x:Int):FN (n+2) 65 [il x]=some (0,[.d (bl (decide (1≤x∧x≤999)))]):=by
 rw [FS,G65_eq];simp [G65,s49]
theorem s132 (n:Nat) (x:Int):FN (n+2) 132 [il x]=some (0,[.d (bl (decide (1≤x∧x≤99999)))]):=by
 rw [FS,qmM];simp [G132,s49]
theorem s136 (n:Nat) (x:Int):FN (n+2) 136 [il x]=some (0,[.d (bl (decide (0≤x∧x≤4166)))]):=by
 rw [FS,qmI];simp [G136,qjQ]
theorem s129 (n:Nat) (x:Int):FN (n+2) 129 [il x]=some (0,[.d (bl (decide (1≤x∧x≤99)))]):=by
 rw [FS,qmP];simp [G129,qjQ]
theorem s128 (n:Nat) (x:Int):FN (n+2) 128 [il x]=some (0,[.d (bl (decide (1≤x∧x≤999)))]):=by
 rw [FS,qmQ];simp [G128,qjQ]
theorem s127 (n:Nat) (x:Int):FN (n+2) 127 [il x]=some (0,[.d (bl (decide (1≤x∧x≤99999)))]):=by
 rw [FS,qmR];simp [G127,qjQ]
def q2U (f1 f2 t1 t2:Int):Prop:=0≤f1∧f1≤f2∧f2≤t1∧t1≤t2∧t2≤4166
instance (f1 f2 t1 t2:Int):Decidable (q2U f1 f2 t1 t2):=by unfold q2U;infer_instance
def q2v (kn un:Int):Prop:=0≤kn∧kn≤4166∧(un=0∨kn+1≤un∧un≤4166)
instance (kn un:Int):Decidable (q2v kn un):=by unfold q2v;infer_instance
theorem s133 (n:Nat) (f1 f2 t1 t2:Int):FN (n+1) 133 [il f1,il f2,il t1,il t2]=some (0,[.d (bl (decide (q2U f1 f2 t1 t2)))]):=by
 rw [FS,qmL]
 simp only [G133,q04,q77,q00,q0D,q0c,q2U]
 by_cases h1:0≤f1<;>by_cases h2:f1≤f2<;>by_cases h3:f2≤t1<;>by_cases h4:t1≤t2<;>simp [h1,h2,h3,h4]
theorem s130 (n:Nat) (f1 f2 t1 t2:Int):FN (n+3) 130 [il f1,il f2,il t1,il t2]=some (0,[.d (bl (decide (q2U f1 f2 t1 t2)))]):=by
 rw [FS,qmO]
 simp only [G130,q04,q77,q00,q0D,q0c,q2U,q08,s136,q01,q02]
 by_cases h1:0≤f1<;>by_cases h2:f1≤f2<;>by_cases h3:f2≤t1<;>by_cases h4:t1≤t2<;>simp [h1,h2,h3,h4]
 all_goals (intros;omega)
theorem s134 (n:Nat) (kn un:Int):FN (n+3) 134 [il kn,il un]=some (0,[.d (bl (decide (q2v kn un)))]):=by
 rw [FS,qmK]
 simp only [G134,q08,s25,q01,q02,q00,q04,q1a,q0D,q0c,q0s,s49,q3T,q2v]
 by_cases h:0≤kn∧kn≤4166
 ·rw [q0m (by omega) (by omega)]
  by_cases h2:un=0<;>simp [h,h2]
 ·simp only [h,decide_false,Bool.false_eq_true,if_false]
  have:¬ (0≤kn∧kn≤4166∧(un=0∨kn+1≤un∧un≤4166)):=by omega
  simp only [this,decide_false]
theorem s131 (n:Nat) (kn un:Int):FN (n+3) 131 [il kn,il un]=some (0,[.d (bl (decide (q2v kn un)))]):=by
 rw [FS,qmN]
 simp only [G131,q08,s136,q01,q02,q00,q04,q1a,q0D,q0c,q0s,qjQ,q3T,q2v]
 by_cases h:0≤kn∧kn≤4166
 ·rw [q0m (by omega) (by omega)]
  by_cases h2:un=0<;>simp [h,h2]
 ·simp only [h,decide_false,Bool.false_eq_true,if_false]
  have:¬ (0≤kn∧kn≤4166∧(un=0∨kn+1≤un∧un≤4166)):=by omega
  simp only [this,decide_false]
def q2w (e:E9):Prop:=(1≤e.src∧e.src≤99999)∧(1≤e.a∧e.a≤999)∧(1≤e.b∧e.b≤99)∧q2U e.f1 e.f2 e.t1 e.t2∧q2v e.kn e.un
instance (e:E9):Decidable (q2w e):=by unfold q2w;infer_instance
def q2x (e:E9):Prop:=(1≤e.src∧e.src≤99999)∧(2≤e.a∧e.a≤99)∧(1≤e.b∧e.b≤e.a - 1)∧q2U e.f1 e.f2 e.t1 e.t2∧q2v e.kn e.un
instance (e:E9):Decidable (q2x e):=by unfold q2x;infer_instance
def q2y (e:E9):Prop:=(1≤e.src∧e.src≤99999)∧(1≤e.a∧e.a≤999)∧(0≤e.b∧e.b≤999)∧e.b≠e.a∧q2U e.f1 e.f2 e.t1 e.t2∧q2v e.kn e.un
instance (e:E9):Decidable (q2y e):=by unfold q2y;infer_instance
def q4x (e:E5):Prop:=(1≤e.src∧e.src≤99999)∧(1≤e.a∧e.a≤999)∧(0≤e.day∧e.day≤4166)∧q2v e.kn e.un
instance (e:E5):Decidable (q4x e):=by unfold q4x;infer_instance
theorem s58 (n:Nat) (e:E9):FN (n+4) 58 (r9 e)=some (0,[.d (il (if q2w e then 0 else 30))]):=by
 rw [r9,FS,G58_eq]
 simp only [G58,q08,s132,s65,s26,s133,s134,q01,q02,q0z,q00,q04,q0c,q2w]
 by_cases h1:1≤e.src∧e.src≤99999<;>by_cases h2:1≤e.a∧e.a≤999<;>by_cases h3:1≤e.b∧e.b≤99<;>by_cases h4:q2U e.f1 e.f2 e.t1 e.t2<;>by_cases h5:q2v e.kn e.un<;>simp only [h1,h2,h3,h4,h5,decide_true,decide_false,Bool.not_true,Bool.not_false,if_true,if_false,and_true,and_false,Bool.false_eq_true]
theorem s57 (n:Nat) (e:E9):FN (n+4) 57 (r9 e)=some (0,[.d (il (if q2w e then 0 else 30))]):=by
 rw [r9,FS,G57_eq]
 simp only [G57,q08,s127,s128,s129,s130,s131,q01,q02,q0z,q00,q04,q0c,q2w]
 by_cases h1:1≤e.src∧e.src≤99999<;>by_cases h2:1≤e.a∧e.a≤999<;>by_cases h3:1≤e.b∧e.b≤99<;>by_cases h4:q2U e.f1 e.f2 e.t1 e.t2<;>by_cases h5:q2v e.kn e.un<;>simp only [h1,h2,h3,h4,h5,decide_true,decide_false,Bool.not_true,Bool.not_false,if_true,if_false,and_true,and_false,Bool.false_eq_true]
theorem s60 (n:Nat) (e:E9):FN (n+4) 60 (r9 e)=some (0,[.d (il (if q2x e then 0 else 31))]):=by
 rw [r9,FS,G60_eq]
 simp only [G60,q08,s132,s49,s133,s134,q01,q02,q0z,q00,q04,q0c,q1p,q2x]
 by_cases h2:2≤e.a∧e.a≤99
 ·rw [q0m (by omega) (by omega)]
  by_cases h1:1≤e.src∧e.src≤99999<;>by_cases h3:1≤e.b∧e.b≤e.a - 1<;>by_cases h4:q2U e.f1 e.f2 e.t1 e.t2<;>by_cases h5:q2v e.kn e.un<;>simp only [h1,h2,h3,h4,h5,decide_true,decide_false,Bool.not_true,Bool.not_false,if_true,if_false,and_true,and_false,Bool.false_eq_true]
 ·by_cases h1:1≤e.src∧e.src≤99999<;>simp only [h1,h2,decide_true,decide_false,Bool.not_true,Bool.not_false,if_true,if_false,and_true,and_false,false_and,Bool.false_eq_true]
theorem s59 (n:Nat) (e:E9):FN (n+4) 59 (r9 e)=some (0,[.d (il (if q2x e then 0 else 31))]):=by
 rw [r9,FS,G59_eq]
 simp only [G59,q08,s127,qjQ,s130,s131,q01,q02,q0z,q00,q04,q0c,q1p,q2x]
 by_cases h2:2≤e.a∧e.a≤99
 ·rw [q0m (by omega) (by omega)]
  by_cases h1:1≤e.src∧e.src≤99999<;>by_cases h3:1≤e.b∧e.b≤e.a - 1<;>by_cases h4:q2U e.f1 e.f2 e.t1 e.t2<;>by_cases h5:q2v e.kn e.un<;>simp only [h1,h2,h3,h4,h5,decide_true,decide_false,Bool.not_true,Bool.not_false,if_true,if_false,and_true,and_false,Bool.false_eq_true]
 ·by_cases h1:1≤e.src∧e.src≤99999<;>simp only [h1,h2,decide_true,decide_false,Bool.not_true,Bool.not_false,if_true,if_false,and_true,and_false,false_and,Bool.false_eq_true]
theorem s62 (n:Nat) (e:E9):FN (n+4) 62 (r9 e)=some (0,[.d (il (if q2y e then 0 else 32))]):=by
 rw [r9,FS,G62_eq]
 simp only [G62,q08,s132,s65,s49,s133,s134,q01,q02,q0z,q00,q04,q0c,q1a,q2y]
 have h0:∃ q:Bool,decide (e.b=e.a)=q∧(e.b≠e.a↔q=false):=by by_cases h:e.b=e.a<;>simp [h]
 obtain ⟨q,hq1,hq2⟩:=h0
 simp only [hq1,hq2]
 by_cases h1:1≤e.src∧e.src≤99999<;>by_cases h2:1≤e.a∧e.a≤999<;>by_cases h3:0≤e.b∧e.b≤999<;>cases q<;>by_cases h4:q2U e.f1 e.f2 e.t1 e.t2<;>by_cases h5:q2v e.kn e.un<;>simp only [h1,h2,h3,h4,h5,decide_true,decide_false,Bool.not_true,Bool.not_false,if_true,if_false,and_true,and_false,Bool.false_eq_true,reduceCtorEq]
theorem s61 (n:Nat) (e:E9):FN (n+4) 61 (r9 e)=some (0,[.d (il (if q2y e then 0 else 32))]):=by
 rw [r9,FS,G61_eq]
 simp only [G61,q08,s127,s128,qjQ,s130,s131,q01,q02,q0z,q00,q04,q0c,q1a,q2y]
 have h0:∃ q:Bool,decide (e.b=e.a)=q∧(e.b≠e.a↔q=false):=by by_cases h:e.b=e.a<;>simp [h]
 obtain ⟨q,hq1,hq2⟩:=h0
 simp only [hq1,hq2]
 by_cases h1:1≤e.src∧e.src≤99999<;>by_cases h2:1≤e.a∧e.a≤999<;>by_cases h3:0≤e.b∧e.b≤999<;>cases q<;>by_cases h4:q2U e.f1 e.f2 e.t1 e.t2<;>by_cases h5:q2v e.kn e.un<;>simp only [h1,h2,h3,h4,h5,decide_true,decide_false,Bool.not_true,Bool.not_false,if_true,if_false,and_true,and_false,Bool.false_eq_true,reduceCtorEq]
theorem s64 (n:Nat) (e:E5):FN (n+4) 64 (r5 e)=some (0,[.d (il (if q4x e then 0 else 33))]):=by
 rw [r5,FS,G64_eq]
 simp only [G64,q08,s132,s65,s25,s134,q01,q02,q0z,q00,q04,q0c,q4x]
 by_cases h1:1≤e.src∧e.src≤99999<;>by_cases h2:1≤e.a∧e.a≤999<;>by_cases h3:0≤e.day∧e.day≤4166<;>by_cases h5:q2v e.kn e.un<;>simp only [h1,h2,h3,h5,decide_true,decide_false,Bool.not_true,Bool.not_false,if_true,if_false,and_true,and_false,Bool.false_eq_true]
theorem s63 (n:Nat) (e:E5):FN (n+4) 63 (r5 e)=some (0,[.d (il (if q4x e then 0 else 33))]):=by
 rw [r5,FS,G63_eq]
 simp only [G63,q08,s127,s128,s136,s131,q01,q02,q0z,q00,q04,q0c,q4x]
 by_cases h1:1≤e.src∧e.src≤99999<;>by_cases h2:1≤e.a∧e.a≤999<;>by_cases h3:0≤e.day∧e.day≤4166<;>by_cases h5:q2v e.kn e.un<;>simp only [h1,h2,h3,h5,decide_true,decide_false,Bool.not_true,Bool.not_false,if_true,if_false,and_true,and_false,Bool.false_eq_true]
def qbf (kn un k:Int):Bool:=decide (kn≤k∧(un=0∨k < un))
theorem s173 (n:Nat) (kn un k:Int):FN (n+1) 173 [il kn,il un,il k]=some (0,[.d (bl (qbf kn un k))]):=by
 rw [FS,qmt]
 simp only [G173,q77,q00,q04,q1a,q0D,q2r,q0c,q3T,q01,q02,qbf]
 by_cases h1:kn≤k<;>by_cases h2:un=0<;>simp [h1,h2]
def q1J (f1 t2 d:Int):Bool:=decide (f1≤d∧d < t2)
def q1h (f2 t1 d:Int):Bool:=decide (f2≤d∧d < t1)
theorem q9X (n:Nat) (f1 f2 t1 t2 d:Int):FN (n+1) 208 [il f1,il f2,il t1,il t2,il d]=some (0,[.d (bl (q1J f1 t2 d))]):=by
 rw [FS,qm8]
 simp only [G208,q77,q00,q0D,q2r,q0c,q1J]
 by_cases h1:f1≤d<;>simp [h1]
theorem q4C (n:Nat) (f1 f2 t1 t2 d:Int):FN (n+1) 209 [il f1,il f2,il t1,il t2,il d]=some (0,[.d (bl (q1h f2 t1 d))]):=by
 rw [FS,qm7]
 simp only [G209,q77,q00,q0D,q2r,q0c,q1h]
 by_cases h1:f2≤d<;>simp [h1]
def q95 (yes no:Bool):Int:=if yes then (if no then 2 else 1) else 0
theorem s84 (n:Nat) (y m:Bool):FN (n+1) 84 [bl y,bl m]=some (0,[.d (il (q95 y m))]):=by
 rw [FS,G84_eq];cases y<;>cases m<;>simp [G84,q95]
end
section
section
variable {Fn:Nat→List D→Out} {FnD:D→List Sh→List D→Out} {m:Nat}
def d9 (o:Option (List E9)):D:=dSl 9 (o.map (·.map r9))
def d5 (o:Option (List E5)):D:=dSl 5 (o.map (·.map r5))
theorem q3C {α β:Type} (f:α→β) (o:Option (List α)):(o.map (·.map f)).getD []=(o.getD []).map f:=by cases o<;>rfl
theorem q5A (o:Option (List E9)) (k:D→Out):(q05 Fn FnD m).lenD (d9 o) k=k (il (o.getD []).length):=by rw [d9,q6s,q3C,List.length_map]
theorem len5 (o:Option (List E5)) (k:D→Out):(q05 Fn FnD m).lenD (d5 o) k=k (il (o.getD []).length):=by rw [d5,q6s,q3C,List.length_map]
theorem q5N {o:Option (List E9)} {i:Nat} {c:E9} (h:(o.getD [])[i]?=some c) (k:List D→Out):(q05 Fn FnD m).rowD 9 (d9 o) (il i) k=k (r9 c):=by
 rw [d9,q4Z,if_pos (by omega),q3C,Int.toNat_natCast,List.getElem?_map,h];rfl
theorem row5 {o:Option (List E5)} {i:Nat} {c:E5} (h:(o.getD [])[i]?=some c) (k:List D→Out):(q05 Fn FnD m).rowD 5 (d5 o) (il i) k=k (r5 c):=by
 rw [d5,q4Z,if_pos (by omega),q3C,Int.toNat_natCast,List.getElem?_map,h];rfl
end
def ltO:Option Int→Int→Bool
 | none,_=>true
 | some q,x=>decide (q < x)
def okL {α:Type} (ok:α→Bool) (src:α→Int):Option Int→List α→Bool
 | _,[]=>true
 | p,e::r=>ok e&&ltO p (src e)&&okL ok src (some (src e)) r
def q3r {α:Type} (src:α→Int) (l:List α) (i:Nat):Option Int:=if i=0 then none else (l[i - 1]?).map src
theorem q4F {α:Type} (src:α→Int) {l:List α} {i:Nat} {c:α} (h:l[i]?=some c):q3r src l (i+1)=some (src c):=by
 simp [q3r,h]
theorem q60 {i:Nat} (h:0 < i) (h2:i≤4611686018427387904):IntKind.i64.wrap ((i:Int) - 1)=((i - 1:Nat):Int):=by
 rw [q0m (by omega) (by omega)];omega
theorem l24_0 (n:Nat) (a b c:Option (List E9)) (o:Option (List E5)) (hl:(a.getD []).length≤4611686018427387904) :
  q0o [qhn (RP (n+4))] M0 0 [.d (d9 a),.d (d9 b),.d (d9 c),.d (d5 o),.d (d9 a),.d (il (a.getD []).length),.d (il 0)] =
   if okL (fun e=>decide (q2w e)) (·.src) none (a.getD [])=true then some (1,[.d (d9 a),.d (d9 b),.d (d9 c),.d (d5 o)]) else some (0,[.d (il 34)]):=by
 have:=q0T (β:=Unit) (a.getD []) hl (qhn (RP (n+4))) (fun i _=>[.d (d9 a),.d (d9 b),.d (d9 c),.d (d5 o),.d (d9 a),.d (il (a.getD []).length),.d (il i)]) (fun _ _=>True)
  (fun i r _=>if okL (fun e=>decide (q2w e)) (·.src) (q3r (·.src) (a.getD []) i) r=true then some (1,[.d (d9 a),.d (d9 b),.d (d9 c),.d (d5 o)]) else some (0,[.d (il 34)]))
  (fun _ k _=>by simp [qhn,okL]) ?_ M0 () trivial (q2A hl)
 ·exact this
 ·intro i e r _ k hi hd hlt hw _ ih
  have ih':=ih () trivial
  rw [q4F _ hi] at ih'
  have hlt':(i:Int) < ((a.getD []).length:Int):=by omega
  simp only [qhn,q02,q06,q0A,q00,hlt',decide_true,if_true,q5N hi]
  rw [show [(RP (n+4)).cell (r9 e) 0,(RP (n+4)).cell (r9 e) 1,(RP (n+4)).cell (r9 e) 2,(RP (n+4)).cell (r9 e) 3,(RP (n+4)).cell (r9 e) 4,(RP (n+4)).cell (r9 e) 5,(RP (n+4)).cell (r9 e) 6,(RP (n+4)).cell (r9 e) 7,(RP (n+4)).cell (r9 e) 8]=r9 e from rfl]
  simp only [q08,s58,q01,q02,q04,q0Y,q2r,q00,q0c,q0s,hw,okL]
  by_cases h1:q2w e
  ·simp only [h1,if_true,decide_true,Bool.true_and,ne_eq,not_true,decide_false,Bool.false_eq_true,if_false]
   by_cases h0:i=0
   ·subst h0
    rw [if_neg (by simp)]
    simp only [q3r,if_true,ltO,Bool.true_and]
    exact ih'
   ·rw [if_pos (by simp;omega),q1p,q60 (by omega) (by omega)]
    have hp:(a.getD [])[i - 1]?=some ((a.getD [])[i - 1]'(by omega)):=List.getElem?_eq_getElem (by omega)
    rw [q5N hp]
    simp only [r9,q0b,q23,q00,decide_eq_true_eq]
    have hq:q3r (·.src) (a.getD []) i=some ((a.getD [])[i - 1]'(by omega)).src:=by simp [q3r,h0,hp]
    rw [hq]
    by_cases h2:e.src≤((a.getD [])[i - 1]'(by omega)).src
    ·have h3:ltO (some ((a.getD [])[i - 1]'(by omega)).src) e.src=false:=by simp [ltO];omega
     rw [if_pos h2]
     simp only [h3,Bool.false_and,Bool.false_eq_true,if_false]
    ·have h3:ltO (some ((a.getD [])[i - 1]'(by omega)).src) e.src=true:=by simp [ltO];omega
     rw [if_neg h2]
     simp only [h3,Bool.true_and]
     exact ih'
  ·simp [h1]
theorem l24_1 (n:Nat) (a b c:Option (List E9)) (o:Option (List E5)) (hl:(b.getD []).length≤4611686018427387904) :
  q0o [qhm (RP (n+4))] M0 0 [.d (d9 a),.d (d9 b),.d (d9 c),.d (d5 o),.d (d9 b),.d (il (b.getD []).length),.d (il 0)] =
   if okL (fun e=>decide (q2x e)) (·.src) none (b.getD [])=true then some (1,[.d (d9 a),.d (d9 b),.d (d9 c),.d (d5 o)]) else some (0,[.d (il 34)]):=by
 have:=q0T (β:=Unit) (b.getD []) hl (qhm (RP (n+4))) (fun i _=>[.d (d9 a),.d (d9 b),.d (d9 c),.d (d5 o),.d (d9 b),.d (il (b.getD []).length),.d (il i)]) (fun _ _=>True)
  (fun i r _=>if okL (fun e=>decide (q2x e)) (·.src) (q3r (·.src) (b.getD []) i) r=true then some (1,[.d (d9 a),.d (d9 b),.d (d9 c),.d (d5 o)]) else some (0,[.d (il 34)]))
  (fun _ k _=>by simp [qhm,okL]) ?_ M0 () trivial (q2A hl)
 ·exact this
 ·intro i e r _ k hi hd hlt hw _ ih
  have ih':=ih () trivial
  rw [q4F _ hi] at ih'
  have hlt':(i:Int) < ((b.getD []).length:Int):=by omega
  simp only [qhm,q02,q06,q0A,q00,hlt',decide_true,if_true,q5N hi]
  rw [show [(RP (n+4)).cell (r9 e) 0,(RP (n+4)).cell (r9 e) 1,(RP (n+4)).cell (r9 e) 2,(RP (n+4)).cell (r9 e) 3,(RP (n+4)).cell (r9 e) 4,(RP (n+4)).cell (r9 e) 5,(RP (n+4)).cell (r9 e) 6,(RP (n+4)).cell (r9 e) 7,(RP (n+4)).cell (r9 e) 8]=r9 e from rfl]
  simp only [q08,s60,q01,q02,q04,q0Y,q2r,q00,q0c,q0s,hw,okL]
  by_cases h1:q2x e
  ·simp only [h1,if_true,decide_true,Bool.true_and,ne_eq,not_true,decide_false,Bool.false_eq_true,if_false]
   by_cases h0:i=0
   ·subst h0
    rw [if_neg (by simp)]
    simp only [q3r,if_true,ltO,Bool.true_and]
    exact ih'
   ·rw [if_pos (by simp;omega),q1p,q60 (by omega) (by omega)]
    have hp:(b.getD [])[i - 1]?=some ((b.getD [])[i - 1]'(by omega)):=List.getElem?_eq_getElem (by omega)
    rw [q5N hp]
    simp only [r9,q0b,q23,q00,decide_eq_true_eq]
    have hq:q3r (·.src) (b.getD []) i=some ((b.getD [])[i - 1]'(by omega)).src:=by simp [q3r,h0,hp]
    rw [hq]
    by_cases h2:e.src≤((b.getD [])[i - 1]'(by omega)).src
    ·have h3:ltO (some ((b.getD [])[i - 1]'(by omega)).src) e.src=false:=by simp [ltO];omega
     rw [if_pos h2]
     simp only [h3,Bool.false_and,Bool.false_eq_true,if_false]
    ·have h3:ltO (some ((b.getD [])[i - 1]'(by omega)).src) e.src=true:=by simp [ltO];omega
     rw [if_neg h2]
     simp only [h3,Bool.true_and]
     exact ih'
  ·simp [h1]
theorem l24_2 (n:Nat) (a b c:Option (List E9)) (o:Option (List E5)) (hl:(c.getD []).length≤4611686018427387904) :
  q0o [qhl (RP (n+4))] M0 0 [.d (d9 a),.d (d9 b),.d (d9 c),.d (d5 o),.d (d9 c),.d (il (c.getD []).length),.d (il 0)] =
   if okL (fun e=>decide (q2y e)) (·.src) none (c.getD [])=true then some (1,[.d (d9 a),.d (d9 b),.d (d9 c),.d (d5 o)]) else some (0,[.d (il 34)]):=by
 have:=q0T (β:=Unit) (c.getD []) hl (qhl (RP (n+4))) (fun i _=>[.d (d9 a),.d (d9 b),.d (d9 c),.d (d5 o),.d (d9 c),.d (il (c.getD []).length),.d (il i)]) (fun _ _=>True)
  (fun i r _=>if okL (fun e=>decide (q2y e)) (·.src) (q3r (·.src) (c.getD []) i) r=true then some (1,[.d (d9 a),.d (d9 b),.d (d9 c),.d (d5 o)]) else some (0,[.d (il 34)]))
  (fun _ k _=>by simp [qhl,okL]) ?_ M0 () trivial (q2A hl)
 ·exact this
 ·intro i e r _ k hi hd hlt hw _ ih
  have ih':=ih () trivial
  rw [q4F _ hi] at ih'
  have hlt':(i:Int) < ((c.getD []).length:Int):=by omega
  simp only [qhl,q02,q06,q0A,q00,hlt',decide_true,if_true,q5N hi]
  rw [show [(RP (n+4)).cell (r9 e) 0,(RP (n+4)).cell (r9 e) 1,(RP (n+4)).cell (r9 e) 2,(RP (n+4)).cell (r9 e) 3,(RP (n+4)).cell (r9 e) 4,(RP (n+4)).cell (r9 e) 5,(RP (n+4)).cell (r9 e) 6,(RP (n+4)).cell (r9 e) 7,(RP (n+4)).cell (r9 e) 8]=r9 e from rfl]
  simp only [q08,s62,q01,q02,q04,q0Y,q2r,q00,q0c,q0s,hw,okL]
  by_cases h1:q2y e
  ·simp only [h1,if_true,decide_true,Bool.true_and,ne_eq,not_true,decide_false,Bool.false_eq_true,if_false]
   by_cases h0:i=0
   ·subst h0
    rw [if_neg (by simp)]
    simp only [q3r,if_true,ltO,Bool.true_and]
    exact ih'
   ·rw [if_pos (by simp;omega),q1p,q60 (by omega) (by omega)]
    have hp:(c.getD [])[i - 1]?=some ((c.getD [])[i - 1]'(by omega)):=List.getElem?_eq_getElem (by omega)
    rw [q5N hp]
    simp only [r9,q0b,q23,q00,decide_eq_true_eq]
    have hq:q3r (·.src) (c.getD []) i=some ((c.getD [])[i - 1]'(by omega)).src:=by simp [q3r,h0,hp]
    rw [hq]
    by_cases h2:e.src≤((c.getD [])[i - 1]'(by omega)).src
    ·have h3:ltO (some ((c.getD [])[i - 1]'(by omega)).src) e.src=false:=by simp [ltO];omega
     rw [if_pos h2]
     simp only [h3,Bool.false_and,Bool.false_eq_true,if_false]
    ·have h3:ltO (some ((c.getD [])[i - 1]'(by omega)).src) e.src=true:=by simp [ltO];omega
     rw [if_neg h2]
     simp only [h3,Bool.true_and]
     exact ih'
  ·simp [h1]
theorem l24_3 (n:Nat) (a b c:Option (List E9)) (o:Option (List E5)) (hl:(o.getD []).length≤4611686018427387904) :
  q0o [qhk (RP (n+4))] M0 0 [.d (d9 a),.d (d9 b),.d (d9 c),.d (d5 o),.d (d5 o),.d (il (o.getD []).length),.d (il 0)] =
   if okL (fun e=>decide (q4x e)) (·.src) none (o.getD [])=true then some (1,[]) else some (0,[.d (il 34)]):=by
 have:=q0T (β:=Unit) (o.getD []) hl (qhk (RP (n+4))) (fun i _=>[.d (d9 a),.d (d9 b),.d (d9 c),.d (d5 o),.d (d5 o),.d (il (o.getD []).length),.d (il i)]) (fun _ _=>True)
  (fun i r _=>if okL (fun e=>decide (q4x e)) (·.src) (q3r (·.src) (o.getD []) i) r=true then some (1,[]) else some (0,[.d (il 34)]))
  (fun _ k _=>by simp [qhk,okL]) ?_ M0 () trivial (q2A hl)
 ·exact this
 ·intro i e r _ k hi hd hlt hw _ ih
  have ih':=ih () trivial
  rw [q4F _ hi] at ih'
  have hlt':(i:Int) < ((o.getD []).length:Int):=by omega
  simp only [qhk,q02,q06,q0A,q00,hlt',decide_true,if_true,row5 hi]
  rw [show [(RP (n+4)).cell (r5 e) 0,(RP (n+4)).cell (r5 e) 1,(RP (n+4)).cell (r5 e) 2,(RP (n+4)).cell (r5 e) 3,(RP (n+4)).cell (r5 e) 4]=r5 e from rfl]
  simp only [q08,s64,q01,q02,q04,q0Y,q2r,q00,q0c,q0s,hw,okL]
  by_cases h1:q4x e
  ·simp only [h1,if_true,decide_true,Bool.true_and,ne_eq,not_true,decide_false,Bool.false_eq_true,if_false]
   by_cases h0:i=0
   ·subst h0
    rw [if_neg (by simp)]
    simp only [q3r,if_true,ltO,Bool.true_and]
    exact ih'
   ·rw [if_pos (by simp;omega),q1p,q60 (by omega) (by omega)]
    have hp:(o.getD [])[i - 1]?=some ((o.getD [])[i - 1]'(by omega)):=List.getElem?_eq_getElem (by omega)
    rw [row5 hp]
    simp only [r5,q0b,q23,q00,decide_eq_true_eq]
    have hq:q3r (·.src) (o.getD []) i=some ((o.getD [])[i - 1]'(by omega)).src:=by simp [q3r,h0,hp]
    rw [hq]
    by_cases h2:e.src≤((o.getD [])[i - 1]'(by omega)).src
    ·have h3:ltO (some ((o.getD [])[i - 1]'(by omega)).src) e.src=false:=by simp [ltO];omega
     rw [if_pos h2]
     simp only [h3,Bool.false_and,Bool.false_eq_true,if_false]
    ·have h3:ltO (some ((o.getD [])[i - 1]'(by omega)).src) e.src=true:=by simp [ltO];omega
     rw [if_neg h2]
     simp only [h3,Bool.true_and]
     exact ih'
  ·simp [h1]
def q0H (a b c:List E9) (o:List E5):Bool:=decide (a.length≤60∧b.length≤60∧c.length≤60∧o.length≤60)&&okL (fun e=>decide (q2w e)) (·.src) none a&&okL (fun e=>decide (q2x e)) (·.src) none b&&okL (fun e=>decide (q2y e)) (·.src) none c&&okL (fun e=>decide (q4x e)) (·.src) none o
theorem s24 (n:Nat) (a b c:Option (List E9)) (o:Option (List E5)):FN (n+5) 24 [d9 a,d9 b,d9 c,d5 o]=some (0,[.d (il (if q0H (a.getD []) (b.getD []) (c.getD []) (o.getD []) then 0 else 34))]):=by
 rw [FS,G24_eq]
 simp only [G24,q5A,len5,q04,q2r,q00,q0c,decide_eq_true_eq]
 by_cases h:((a.getD []).length≤60∧(b.getD []).length≤60∧(c.getD []).length≤60∧(o.getD []).length≤60)
 ·obtain ⟨h1,h2,h3,h4⟩:=h
  rw [if_neg (by omega),if_neg (by omega),if_neg (by omega),if_neg (by omega)]
  simp only [q0r,l24_0 n a b c o (by omega),q0H,h1,h2,h3,h4,and_self,decide_true,Bool.true_and]
  by_cases g1:okL (fun e=>decide (q2w e)) (·.src) none (a.getD [])=true
  ·simp only [g1,if_true,q1z,q02,q06,q5A,l24_1 n a b c o (by omega),Bool.true_and]
   by_cases g2:okL (fun e=>decide (q2x e)) (·.src) none (b.getD [])=true
   ·simp only [g2,if_true,q1z,q02,q06,q5A,l24_2 n a b c o (by omega),Bool.true_and]
    by_cases g3:okL (fun e=>decide (q2y e)) (·.src) none (c.getD [])=true
    ·simp only [g3,if_true,q1z,q02,q06,len5,l24_3 n a b c o (by omega),Bool.true_and]
     by_cases g4:okL (fun e=>decide (q4x e)) (·.src) none (o.getD [])=true
     ·simp only [g4,if_true,q1z]
     ·simp [g4]
    ·simp [g3]
   ·simp [g2]
  ·simp [g1]
 ·have hk:q0H (a.getD []) (b.getD []) (c.getD []) (o.getD [])=false:=by simp [q0H,h]
  rw [hk]
  simp only [Bool.false_eq_true,if_false]
  repeat' split
  all_goals first | rfl | (exfalso;omega)
end
section
def rI (z:Int):List D:=[il z]
def dI (o:Option (List Int)):D:=dSl 1 (o.map (·.map rI))
section
variable {Fn:Nat→List D→Out} {FnD:D→List Sh→List D→Out} {m:Nat}
theorem q6o (o:Option (List Int)) (k:D→Out):(q05 Fn FnD m).lenD (dI o) k=k (il (o.getD []).length):=by rw [dI,q6s,q3C,List.length_map]
theorem q76 {o:Option (List Int)} {i:Nat} {c:Int} (h:(o.getD [])[i]?=some c) (k:List D→Out):(q05 Fn FnD m).rowD 1 (dI o) (il i) k=k (rI c):=by
 rw [dI,q4Z,if_pos (by omega),q3C,Int.toNat_natCast,List.getElem?_map,h];rfl
end
noncomputable abbrev FD (n:Nat):D→List Sh→List D→Out:=q1Z Tryz.prog (cf3 tb Tryz.prog) (FN n)
def fnd {α:Type} (p:α→Bool):List α→Option Nat
 | []=>none
 | e::r=>if p e then some 0 else (fnd p r).map (·+1)
def q73 {α:Type} (p:α→Bool) (l:List α):Int:=match fnd p l with
 | some i=>(i:Int)
 | none=>-1
theorem q6F {α:Type} (p:α→Bool) (l:List α):decide (0≤q73 p l)=l.any p:=by
 have h:(fnd p l).isSome=l.any p:=by
  induction l with
  | nil=>rfl
  | cons e r ih =>
   simp only [fnd,List.any_cons]
   cases p e<;>simp [ih]
 unfold q73
 cases hf:fnd p l with
 | none=>rw [hf] at h;rw [←h];decide
 | some i=>rw [hf] at h;rw [←h];simp
theorem qjD {P:Program} {cfg:Cf3} {Fn:Nat→List D→Out} {f:Nat} {caps:List D} {sh:List Sh} {ds:List D} {vs:List VD} (h3:f < 2000000) (hv:q4a sh ds=some vs):q1Z P cfg Fn (.fn f caps) sh ds=FnV cfg Fn f (vs++caps.map .one):=by
 simp only [q1Z,hv,if_pos h3]
theorem FD_gen {T:Tb3} {P:Program} {Fn:Nat→List D→Out} {f:Nat} {caps:List D} {sh sh':List Sh} {ds:List D} {vs:List VD} {xs:List D} {z:D} (hlt:f < 1000000) (hv:q4a sh ds=some vs) (hash:T.ash f=some sh') (hx:q29 sh' (vs++caps.map .one)=some xs)
  (hr:T.rsk f=[[(false,[.d])]]) (hf:Fn f xs=some (0,[.d z])):q1Z P (cf3 T P) Fn (.fn f caps) sh ds=some (0,[.d z]):=by
 have h1:(cf3 T P).ash f=some sh':=by simp only [cf3,if_pos hlt,hash]
 have h2:qdb ((cf3 T P).rsk f)=true:=by simp only [cf3,hr];rfl
 have h3:f < 2000000:=Nat.lt_of_lt_of_le hlt (by decide)
 rw [qjD h3 hv]
 simp only [FnV,h1,hx,h2,if_true,hf]
theorem q4p {n f:Nat} {caps:List D} {sh:List Sh} (sh':List Sh) {ds:List D} (vs:List VD) {xs:List D} {z:D} (hlt:f < 1000000) (hv:q4a sh ds=some vs) (hash:tb.ash f=some sh') (hx:q29 sh' (vs++caps.map .one)=some xs)
  (hr:tb.rsk f=[[(false,[.d])]]) (hf:FN n f xs=some (0,[.d z])):FD n (.fn f caps) sh ds=some (0,[.d z]):=FD_gen hlt hv hash hx hr hf
theorem s181 (n:Nat) (o:Option (List E9)) (hl:(o.getD []).length≤4611686018427387904) (x:D) (p:E9→Bool) (hp:∀ e∈o.getD [],FD n x [.agg 9] (r9 e)=some (0,[.d (bl (p e))])) :
  FN (n+1) 181 [d9 o,x]=some (0,[.d (il (q73 p (o.getD [])))]):=by
 rw [FS,qca]
 simp only [G181,q5A,q04,q0r]
 have:=q0T (β:=Unit) (o.getD []) hl (qdJ (RP n)) (fun i _=>[.d (d9 o),.d x,.d (il (o.getD []).length),.d (il i)]) (fun _ _=>True)
  (fun i r _=>match fnd p r with | some j=>some (0,[.d (il ((i+j:Nat):Int))]) | none=>some (1,[]))
  (fun _ k _=>by simp [qdJ,fnd]) ?_ M0 () trivial (q2A hl)
 ·simp only [Int.natCast_zero,Nat.zero_add] at this
  rw [this]
  unfold q73
  cases fnd p (o.getD [])<;>simp
 ·intro i e r _ k hi hd hlt hw _ ih
  have ih':=ih () trivial
  have hlt':(i:Int) < ((o.getD []).length:Int):=by omega
  have hmem:e∈o.getD []:=List.mem_of_getElem? hi
  simp only [qdJ,q02,q06,q0A,q00,hlt',decide_true,if_true,q5N hi]
  rw [show [(RP n).cell (r9 e) 0,(RP n).cell (r9 e) 1,(RP n).cell (r9 e) 2,(RP n).cell (r9 e) 3,(RP n).cell (r9 e) 4,(RP n).cell (r9 e) 5,(RP n).cell (r9 e) 6,(RP n).cell (r9 e) 7,(RP n).cell (r9 e) 8]=r9 e from rfl]
  have hpe:q1Z Tryz.prog (cf3 tb Tryz.prog) (FN n) x [.agg 9] (r9 e)=some (0,[.d (bl (p e))]):=hp e hmem
  rw [q4e,hpe]
  simp only [q01,q02,q00,q0c,q0s,q04,hw]
  by_cases h:p e=true
  ·simp only [h,if_true,fnd,Nat.add_zero]
  ·have h':p e=false:=by simpa using h
   simp only [h',Bool.false_eq_true,if_false,fnd]
   refine Eq.trans ?_ (Eq.trans ih' ?_)
   ·rfl
   ·cases fnd p r with
    | none=>rfl
    | some j=>simp only [Option.map_some];congr 5;omega
theorem s190 (n:Nat) (o:Option (List E9)) (hl:(o.getD []).length≤4611686018427387904) (x:D) (p:E9→Bool) (hp:∀ e∈o.getD [],FD n x [.agg 9] (r9 e)=some (0,[.d (bl (p e))])) :
  FN (n+2) 190 [d9 o,x]=some (0,[.d (bl ((o.getD []).any p))]):=by
 rw [FS,qmj]
 simp only [G190,q08,s181 n o hl x p hp,q01,q02,q04,q23,q0c,q6F]
theorem s119 (n:Nat) (o:Option (List E9)) (hl:(o.getD []).length≤4611686018427387904) (x:D) (p:E9→Bool) (hp:∀ e∈o.getD [],FD n x [.agg 9] (r9 e)=some (0,[.d (bl (p e))])) :
  FN (n+3) 119 [d9 o,x]=some (0,[.d (bl ((o.getD []).any p))]):=by
 rw [FS,qmZ]
 simp only [G119,q08,s190 n o hl x p hp,q01,q02,q0c]
theorem s182 (n:Nat) (o:Option (List E9)) (hl:(o.getD []).length≤4611686018427387904) (x:D) (p:E9→Bool) (hp:∀ e∈o.getD [],FD n x [.agg 9] (r9 e)=some (0,[.d (bl (p e))])) :
  FN (n+1) 182 [d9 o,x]=some (0,[.d (il (q73 p (o.getD [])))]):=(qmp (RP n) _ _).trans ((qca (RP n) _ _).symm.trans (s181 n o hl x p hp))
theorem s191 (n:Nat) (o:Option (List E9)) (hl:(o.getD []).length≤4611686018427387904) (x:D) (p:E9→Bool) (hp:∀ e∈o.getD [],FD n x [.agg 9] (r9 e)=some (0,[.d (bl (p e))])) :
  FN (n+2) 191 [d9 o,x]=some (0,[.d (bl ((o.getD []).any p))]):=by
 rw [FS,qmi]
 simp only [G191,q08,s182 n o hl x p hp,q01,q02,q04,q23,q0c,q6F]
theorem s121 (n:Nat) (o:Option (List E9)) (hl:(o.getD []).length≤4611686018427387904) (x:D) (p:E9→Bool) (hp:∀ e∈o.getD [],FD n x [.agg 9] (r9 e)=some (0,[.d (bl (p e))])) :
  FN (n+3) 121 [d9 o,x]=some (0,[.d (bl ((o.getD []).any p))]):=by
 rw [FS,qmX]
 simp only [G121,q08,s191 n o hl x p hp,q01,q02,q0c]
theorem s183 (n:Nat) (o:Option (List E9)) (hl:(o.getD []).length≤4611686018427387904) (x:D) (p:E9→Bool) (hp:∀ e∈o.getD [],FD n x [.agg 9] (r9 e)=some (0,[.d (bl (p e))])) :
  FN (n+1) 183 [d9 o,x]=some (0,[.d (il (q73 p (o.getD [])))]):=(qmo (RP n) _ _).trans ((qca (RP n) _ _).symm.trans (s181 n o hl x p hp))
theorem s192 (n:Nat) (o:Option (List E9)) (hl:(o.getD []).length≤4611686018427387904) (x:D) (p:E9→Bool) (hp:∀ e∈o.getD [],FD n x [.agg 9] (r9 e)=some (0,[.d (bl (p e))])) :
  FN (n+2) 192 [d9 o,x]=some (0,[.d (bl ((o.getD []).any p))]):=by
 rw [FS,qmh]
 simp only [G192,q08,s183 n o hl x p hp,q01,q02,q04,q23,q0c,q6F]
theorem s123 (n:Nat) (o:Option (List E9)) (hl:(o.getD []).length≤4611686018427387904) (x:D) (p:E9→Bool) (hp:∀ e∈o.getD [],FD n x [.agg 9] (r9 e)=some (0,[.d (bl (p e))])) :
  FN (n+3) 123 [d9 o,x]=some (0,[.d (bl ((o.getD []).any p))]):=by
 rw [FS,qmV]
 simp only [G123,q08,s192 n o hl x p hp,q01,q02,q0c]
theorem s184 (n:Nat) (o:Option (List E5)) (hl:(o.getD []).length≤4611686018427387904) (x:D) (p:E5→Bool) (hp:∀ e∈o.getD [],FD n x [.agg 5] (r5 e)=some (0,[.d (bl (p e))])) :
  FN (n+1) 184 [d5 o,x]=some (0,[.d (il (q73 p (o.getD [])))]):=by
 rw [FS,qmn]
 simp only [G184,len5,q04,q0r]
 have:=q0T (β:=Unit) (o.getD []) hl (qdI (RP n)) (fun i _=>[.d (d5 o),.d x,.d (il (o.getD []).length),.d (il i)]) (fun _ _=>True)
  (fun i r _=>match fnd p r with | some j=>some (0,[.d (il ((i+j:Nat):Int))]) | none=>some (1,[]))
  (fun _ k _=>by simp [qdI,fnd]) ?_ M0 () trivial (q2A hl)
 ·simp only [Int.natCast_zero,Nat.zero_add] at this
  rw [this]
  unfold q73
  cases fnd p (o.getD [])<;>simp
 ·intro i e r _ k hi hd hlt hw _ ih
  have ih':=ih () trivial
  have hlt':(i:Int) < ((o.getD []).length:Int):=by omega
  have hmem:e∈o.getD []:=List.mem_of_getElem? hi
  simp only [qdI,q02,q06,q0A,q00,hlt',decide_true,if_true,row5 hi]
  rw [show [(RP n).cell (r5 e) 0,(RP n).cell (r5 e) 1,(RP n).cell (r5 e) 2,(RP n).cell (r5 e) 3,(RP n).cell (r5 e) 4]=r5 e from rfl]
  have hpe:q1Z Tryz.prog (cf3 tb Tryz.prog) (FN n) x [.agg 5] (r5 e)=some (0,[.d (bl (p e))]):=hp e hmem
  rw [q4e,hpe]
  simp only [q01,q02,q00,q0c,q0s,q04,hw]
  by_cases h:p e=true
  ·simp only [h,if_true,fnd,Nat.add_zero]
  ·have h':p e=false:=by simpa using h
   simp only [h',Bool.false_eq_true,if_false,fnd]
   refine Eq.trans ?_ (Eq.trans ih' ?_)
   ·rfl
   ·cases fnd p r with
    | none=>rfl
    | some j=>simp only [Option.map_some];congr 5;omega
theorem s193 (n:Nat) (o:Option (List E5)) (hl:(o.getD []).length≤4611686018427387904) (x:D) (p:E5→Bool) (hp:∀ e∈o.getD [],FD n x [.agg 5] (r5 e)=some (0,[.d (bl (p e))])) :
  FN (n+2) 193 [d5 o,x]=some (0,[.d (bl ((o.getD []).any p))]):=by
 rw [FS,qmg]
 simp only [G193,q08,s184 n o hl x p hp,q01,q02,q04,q23,q0c,q6F]
theorem s125 (n:Nat) (o:Option (List E5)) (hl:(o.getD []).length≤4611686018427387904) (x:D) (p:E5→Bool) (hp:∀ e∈o.getD [],FD n x [.agg 5] (r5 e)=some (0,[.d (bl (p e))])) :
  FN (n+3) 125 [d5 o,x]=some (0,[.d (bl ((o.getD []).any p))]):=by
 rw [FS,qmT]
 simp only [G125,q08,s193 n o hl x p hp,q01,q02,q0c]
theorem s186 (n:Nat) (o:Option (List Int)) (hl:(o.getD []).length≤4611686018427387904) (x:D) (p:Int→Bool) (hp:∀ e∈o.getD [],FD n x [.one] (rI e)=some (0,[.d (bl (p e))])) :
  FN (n+1) 186 [dI o,x]=some (0,[.d (il (q73 p (o.getD [])))]):=by
 rw [FS,qml]
 simp only [G186,q6o,q04,q0r]
 have:=q0T (β:=Unit) (o.getD []) hl (qdH (RP n)) (fun i _=>[.d (dI o),.d x,.d (il (o.getD []).length),.d (il i)]) (fun _ _=>True)
  (fun i r _=>match fnd p r with | some j=>some (0,[.d (il ((i+j:Nat):Int))]) | none=>some (1,[]))
  (fun _ k _=>by simp [qdH,fnd]) ?_ M0 () trivial (q2A hl)
 ·simp only [Int.natCast_zero,Nat.zero_add] at this
  rw [this]
  unfold q73
  cases fnd p (o.getD [])<;>simp
 ·intro i e r _ k hi hd hlt hw _ ih
  have ih':=ih () trivial
  have hlt':(i:Int) < ((o.getD []).length:Int):=by omega
  have hmem:e∈o.getD []:=List.mem_of_getElem? hi
  simp only [qdH,q02,q06,q0A,q00,hlt',decide_true,if_true,q76 hi]
  rw [show [(RP n).cell (rI e) 0]=rI e from rfl]
  have hpe:q1Z Tryz.prog (cf3 tb Tryz.prog) (FN n) x [.one] (rI e)=some (0,[.d (bl (p e))]):=hp e hmem
  rw [q4e,hpe]
  simp only [q01,q02,q00,q0c,q0s,q04,hw]
  by_cases h:p e=true
  ·simp only [h,if_true,fnd,Nat.add_zero]
  ·have h':p e=false:=by simpa using h
   simp only [h',Bool.false_eq_true,if_false,fnd]
   refine Eq.trans ?_ (Eq.trans ih' ?_)
   ·rfl
   ·cases fnd p r with
    | none=>rfl
    | some j=>simp only [Option.map_some];congr 5;omega
theorem s206 (n:Nat) (o:Option (List Int)) (hl:(o.getD []).length≤4611686018427387904) (x:D) (p:Int→Bool) (hp:∀ e∈o.getD [],FD n x [.one] (rI e)=some (0,[.d (bl (p e))])) :
  FN (n+2) 206 [dI o,x]=some (0,[.d (bl ((o.getD []).any p))]):=by
 rw [FS,qm9]
 simp only [G206,q08,s186 n o hl x p hp,q01,q02,q04,q23,q0c,q6F]
theorem s154 (n:Nat) (o:Option (List Int)) (hl:(o.getD []).length≤4611686018427387904) (x:D) (p:Int→Bool) (hp:∀ e∈o.getD [],FD n x [.one] (rI e)=some (0,[.d (bl (p e))])) :
  FN (n+3) 154 [dI o,x]=some (0,[.d (bl ((o.getD []).any p))]):=by
 rw [FS,qmD]
 simp only [G154,q08,s206 n o hl x p hp,q01,q02,q0c]
theorem s120 (n:Nat) (e:E9):FN (n+5) 120 (r9 e)=some (0,[.d (bl (!decide (q2w e)))]):=by
 rw [r9,FS,qmY]
 have:=s57 n e
 rw [r9] at this
 simp only [G120,q08,this,q01,q02,q04,q0Y,q0c]
 by_cases h:q2w e<;>simp [h]
theorem d120 (n:Nat) (e:E9):FD (n+5) (.fn 120 []) [.agg 9] (r9 e)=some (0,[.d (bl (!decide (q2w e)))]):=by
 have:=s120 n e
 rw [r9] at this
 exact q4p [.agg 9] [.agg (r9 e)] (by decide) rfl (by kernel_rfl) rfl (by kernel_rfl) this
theorem s122 (n:Nat) (e:E9):FN (n+5) 122 (r9 e)=some (0,[.d (bl (!decide (q2x e)))]):=by
 rw [r9,FS,qmW]
 have:=s59 n e
 rw [r9] at this
 simp only [G122,q08,this,q01,q02,q04,q0Y,q0c]
 by_cases h:q2x e<;>simp [h]
theorem d122 (n:Nat) (e:E9):FD (n+5) (.fn 122 []) [.agg 9] (r9 e)=some (0,[.d (bl (!decide (q2x e)))]):=by
 have:=s122 n e
 rw [r9] at this
 exact q4p [.agg 9] [.agg (r9 e)] (by decide) rfl (by kernel_rfl) rfl (by kernel_rfl) this
theorem s124 (n:Nat) (e:E9):FN (n+5) 124 (r9 e)=some (0,[.d (bl (!decide (q2y e)))]):=by
 rw [r9,FS,qmU]
 have:=s61 n e
 rw [r9] at this
 simp only [G124,q08,this,q01,q02,q04,q0Y,q0c]
 by_cases h:q2y e<;>simp [h]
theorem d124 (n:Nat) (e:E9):FD (n+5) (.fn 124 []) [.agg 9] (r9 e)=some (0,[.d (bl (!decide (q2y e)))]):=by
 have:=s124 n e
 rw [r9] at this
 exact q4p [.agg 9] [.agg (r9 e)] (by decide) rfl (by kernel_rfl) rfl (by kernel_rfl) this
theorem s126 (n:Nat) (e:E5):FN (n+5) 126 (r5 e)=some (0,[.d (bl (!decide (q4x e)))]):=by
 rw [r5,FS,qmS]
 have:=s63 n e
 rw [r5] at this
 simp only [G126,q08,this,q01,q02,q04,q0Y,q0c]
 by_cases h:q4x e<;>simp [h]
theorem d126 (n:Nat) (e:E5):FD (n+5) (.fn 126 []) [.agg 5] (r5 e)=some (0,[.d (bl (!decide (q4x e)))]):=by
 have:=s126 n e
 rw [r5] at this
 exact q4p [.agg 5] [.agg (r5 e)] (by decide) rfl (by kernel_rfl) rfl (by kernel_rfl) this
theorem s155 (n:Nat) (z:Int):FN (n+3) 155 [il z]=some (0,[.d (bl (!decide (0≤z∧z≤4166)))]):=by
 rw [FS,qmC]
 simp only [G155,q08,s136,q01,q02,q0z,q0c]
theorem d155 (n:Nat) (z:Int):FD (n+3) (.fn 155 []) [.one] (rI z)=some (0,[.d (bl (!decide (0≤z∧z≤4166)))]):=by
 exact q4p [.one] [.one (il z)] (by decide) rfl (by kernel_rfl) rfl (by kernel_rfl) (s155 n z)
end
section
def q8d (e0:List Yr) (e1:Rr→List Yr):Rr→Out
 | []=>some (0,e0)
 | w::ws=>some (1,e1 (w::ws))
theorem q3m {α:Type} (l:List α) (hl:l.length≤4611686018427387904) (g:α→Option (List D)) (b0 b1:(Nat→List Yr→Out)→List Yr→Out) (z:Nat→List Yr) (nz:Nat→Rr→List Yr) (e0:List Yr) (e1:Rr→List Yr)
  (h0e:∀ k,b0 k (z l.length)=some (0,e0)) (h1e:∀ rs k,b1 k (nz l.length rs)=some (1,e1 rs))
  (h0:∀ (i:Nat) c (k:Nat→List Yr→Out),l[i]?=some c→(i:Int) < (l.length:Int)→IntKind.i64.wrap ((i:Int)+1)=((i+1:Nat):Int)→b0 k (z i)=match g c with
   | none=>k 0 (z (i+1))
   | some w=>k 1 (nz (i+1) [w]))
  (h1:∀ (i:Nat) c (rs:Rr) (k:Nat→List Yr→Out),l[i]?=some c→(i:Int) < (l.length:Int)→IntKind.i64.wrap ((i:Int)+1)=((i+1:Nat):Int)→rs.length≤i→b1 k (nz i rs)=match g c with
   | none=>k 1 (nz (i+1) rs)
   | some w=>k 1 (nz (i+1) (rs++[w]))) :
  q0o [b0,b1] M0 0 (z 0)=q8d e0 e1 (l.filterMap g):=by
 have:=q3g (σ:=Nat) [b0,b1] (fun i=>match (l.take i).filterMap g with
   | []=>(0,z i)
   | w::ws=>(1,nz i (w::ws))) (fun i=>l.length - i) (fun i=>i≤l.length) (fun _=>q8d e0 e1 (l.filterMap g)) ?_ M0 0 (Nat.zero_le _) (by have:=q2A hl;unfold M0;omega)
 ·simpa using this
 ·intro i k hi ih
  by_cases h:i < l.length
  ·have hc:l[i]?=some l[i]:=List.getElem?_eq_getElem h
   have ht:l.take (i+1)=l.take i++[l[i]]:=by rw [List.take_add_one,hc];rfl
   have hlt:(i:Int) < (l.length:Int):=by omega
   have hw:IntKind.i64.wrap ((i:Int)+1)=((i+1:Nat):Int):=by rw [q0m (by omega) (by omega)];simp
   have ih':=ih (i+1) (by omega) (by omega)
   simp only [ht,List.filterMap_append,List.filterMap_cons,List.filterMap_nil] at ih'
   have hlen:((l.take i).filterMap g).length≤i:=Nat.le_trans (List.length_filterMap_le _ _) (by simp;omega)
   revert ih' hlen
   cases (l.take i).filterMap g with
   | nil =>
    intro ih' _
    refine ⟨b0,rfl,?_⟩
    simp only
    rw [h0 i _ k hc hlt hw]
    cases hg:g l[i] with
    | none=>rw [hg] at ih';simpa using ih'
    | some w=>rw [hg] at ih';simpa using ih'
   | cons w ws =>
    intro ih' hlen
    refine ⟨b1,rfl,?_⟩
    simp only
    rw [h1 i _ (w::ws) k hc hlt hw hlen]
    cases hg:g l[i] with
    | none=>rw [hg] at ih';simpa using ih'
    | some w'=>rw [hg] at ih';simpa using ih'
  ·have hil:i=l.length:=by omega
   subst hil
   simp only [List.take_length]
   cases l.filterMap g with
   | nil=>exact ⟨b0,rfl,h0e k⟩
   | cons w ws=>exact ⟨b1,rfl,h1e _ k⟩
section
variable {Fn:Nat→List D→Out} {FnD:D→List Sh→List D→Out} {m:Nat}
theorem q9t (t:Nat) (g:Bool) (l:List D):(q05 Fn FnD m).ifD t g l=.ifc t g l:=rfl
end
attribute [simp] q9t
def nzO {α:Type}:List α→Option (List α)
 | []=>none
 | x::xs=>some (x::xs)
theorem q2Y {α:Type} (l:List α):(nzO l).getD []=l:=by cases l<;>rfl
theorem l105_0 (n:Nat) (o:Option (List E9)) (hl:(o.getD []).length*72≤140737488351232) (x1 x2 x3:D):q0o [qdT (RP (n)),qdS (RP (n))] M0 0 [.d (d9 o),.d x1,.d x2,.d x3,.d (d9 o),.d (il (o.getD []).length),.d (il 0)] =
  q8d [.d (d9 o),.d x1,.d x2,.d x3] (fun rs=>[.d (d9 o),.d x1,.d x2,.d x3,.r rs,.n rs.length,.n rs.length]) ((o.getD []).filterMap (fun e=>some [.ifc 200 true (r9 e)])):=by
 refine q3m (o.getD []) (by omega) (fun e=>some [.ifc 200 true (r9 e)]) _ _ (fun i=>[.d (d9 o),.d x1,.d x2,.d x3,.d (d9 o),.d (il (o.getD []).length),.d (il (i:Nat))]) (fun i rs=>[.d (d9 o),.d x1,.d x2,.d x3,.d (d9 o),.d (il (o.getD []).length),.d (il (i:Nat)),.r rs,.n rs.length,.n rs.length]) [.d (d9 o),.d x1,.d x2,.d x3] (fun rs=>[.d (d9 o),.d x1,.d x2,.d x3,.r rs,.n rs.length,.n rs.length]) ?_ ?_ ?_ ?_
 ·intro q;simp [qdT]
 ·intro rs q;simp [qdS]
 ·intro i c q hi hlt hw
  simp only [qdT,q02,q06,q0A,q00,hlt,decide_true,if_true,q5N hi,q1o,q0B,q0C,q0K,q0J,List.length_cons,List.length_nil,List.take_succ_cons,List.take_zero,q28,q1j,q04,q0s,hw,q9t]
  rw [if_pos (by simp [])]
  rfl
 ·intro i c rs q hi hlt hw hrs
  simp only [qdS,q02,q06,q0Q,q0P,q0G,q0Z,q0A,q00,hlt,decide_true,if_true,q5N hi,q1o,q0B,q0C,q0K,q0J,List.length_cons,List.length_nil,List.take_succ_cons,List.take_zero,q1j,q04,q0s,hw,q9t,q2c,q4f,List.length_append]
  rw [if_pos (by simp [];omega)]
  rfl
theorem l105_1 (n:Nat) (o:Option (List E9)) (hl:(o.getD []).length*72≤140737488351232) (x0 x2 x3 p0:D):q0o [qdR (RP (n)),qdQ (RP (n))] M0 0 [.d x0,.d (d9 o),.d x2,.d x3,.d (d9 o),.d (il (o.getD []).length),.d (il 0),.d p0] =
  q8d [.d x0,.d (d9 o),.d x2,.d x3,.d p0] (fun rs=>[.d x0,.d (d9 o),.d x2,.d x3,.r rs,.d p0,.n rs.length,.n rs.length]) ((o.getD []).filterMap (fun e=>some [.ifc 201 true (r9 e)])):=by
 refine q3m (o.getD []) (by omega) (fun e=>some [.ifc 201 true (r9 e)]) _ _ (fun i=>[.d x0,.d (d9 o),.d x2,.d x3,.d (d9 o),.d (il (o.getD []).length),.d (il (i:Nat)),.d p0]) (fun i rs=>[.d x0,.d (d9 o),.d x2,.d x3,.d (d9 o),.d (il (o.getD []).length),.d (il (i:Nat)),.r rs,.d p0,.n rs.length,.n rs.length]) [.d x0,.d (d9 o),.d x2,.d x3,.d p0] (fun rs=>[.d x0,.d (d9 o),.d x2,.d x3,.r rs,.d p0,.n rs.length,.n rs.length]) ?_ ?_ ?_ ?_
 ·intro q;simp [qdR]
 ·intro rs q;simp [qdQ]
 ·intro i c q hi hlt hw
  simp only [qdR,q02,q06,q0A,q00,hlt,decide_true,if_true,q5N hi,q1o,q0B,q0C,q0K,q0J,List.length_cons,List.length_nil,List.take_succ_cons,List.take_zero,q28,q1j,q04,q0s,hw,q9t]
  rw [if_pos (by simp [])]
  rfl
 ·intro i c rs q hi hlt hw hrs
  simp only [qdQ,q02,q06,q0Q,q0P,q0G,q0Z,q0A,q00,hlt,decide_true,if_true,q5N hi,q1o,q0B,q0C,q0K,q0J,List.length_cons,List.length_nil,List.take_succ_cons,List.take_zero,q1j,q04,q0s,hw,q9t,q2c,q4f,List.length_append]
  rw [if_pos (by simp [];omega)]
  rfl
theorem l105_2 (n:Nat) (o:Option (List E9)) (hl:(o.getD []).length*72≤140737488351232) (x0 x1 x3 p0 p1:D):q0o [qdP (RP (n)),qdO (RP (n))] M0 0 [.d x0,.d x1,.d (d9 o),.d x3,.d (d9 o),.d (il (o.getD []).length),.d (il 0),.d p0,.d p1] =
  q8d [.d x0,.d x1,.d (d9 o),.d x3,.d p0,.d p1] (fun rs=>[.d x0,.d x1,.d (d9 o),.d x3,.r rs,.d p0,.d p1,.n rs.length,.n rs.length]) ((o.getD []).filterMap (fun e=>some [.ifc 202 true (r9 e)])):=by
 refine q3m (o.getD []) (by omega) (fun e=>some [.ifc 202 true (r9 e)]) _ _ (fun i=>[.d x0,.d x1,.d (d9 o),.d x3,.d (d9 o),.d (il (o.getD []).length),.d (il (i:Nat)),.d p0,.d p1]) (fun i rs=>[.d x0,.d x1,.d (d9 o),.d x3,.d (d9 o),.d (il (o.getD []).length),.d (il (i:Nat)),.r rs,.d p0,.d p1,.n rs.length,.n rs.length]) [.d x0,.d x1,.d (d9 o),.d x3,.d p0,.d p1] (fun rs=>[.d x0,.d x1,.d (d9 o),.d x3,.r rs,.d p0,.d p1,.n rs.length,.n rs.length]) ?_ ?_ ?_ ?_
 ·intro q;simp [qdP]
 ·intro rs q;simp [qdO]
 ·intro i c q hi hlt hw
  simp only [qdP,q02,q06,q0A,q00,hlt,decide_true,if_true,q5N hi,q1o,q0B,q0C,q0K,q0J,List.length_cons,List.length_nil,List.take_succ_cons,List.take_zero,q28,q1j,q04,q0s,hw,q9t]
  rw [if_pos (by simp [])]
  rfl
 ·intro i c rs q hi hlt hw hrs
  simp only [qdO,q02,q06,q0Q,q0P,q0G,q0Z,q0A,q00,hlt,decide_true,if_true,q5N hi,q1o,q0B,q0C,q0K,q0J,List.length_cons,List.length_nil,List.take_succ_cons,List.take_zero,q1j,q04,q0s,hw,q9t,q2c,q4f,List.length_append]
  rw [if_pos (by simp [];omega)]
  rfl
theorem l105_3 (n:Nat) (o:Option (List E5)) (hl:(o.getD []).length*40≤140737488351232) (p0 p1 p2:D):q0o [qdN (RP (n)),qdM (RP (n))] M0 0 [.d (d5 o),.d (il (o.getD []).length),.d (il 0),.d p0,.d p1,.d p2] =
  q8d [.d p0,.d p1,.d p2] (fun rs=>[.r rs,.d p0,.d p1,.d p2,.n rs.length,.n rs.length]) ((o.getD []).filterMap (fun e=>some [.ifc 203 true (r5 e)])):=by
 refine q3m (o.getD []) (by omega) (fun e=>some [.ifc 203 true (r5 e)]) _ _ (fun i=>[.d (d5 o),.d (il (o.getD []).length),.d (il (i:Nat)),.d p0,.d p1,.d p2]) (fun i rs=>[.d (d5 o),.d (il (o.getD []).length),.d (il (i:Nat)),.r rs,.d p0,.d p1,.d p2,.n rs.length,.n rs.length]) [.d p0,.d p1,.d p2] (fun rs=>[.r rs,.d p0,.d p1,.d p2,.n rs.length,.n rs.length]) ?_ ?_ ?_ ?_
 ·intro q;simp [qdN]
 ·intro rs q;simp [qdM]
 ·intro i c q hi hlt hw
  simp only [qdN,q02,q06,q0A,q00,hlt,decide_true,if_true,row5 hi,q1o,q0B,q0C,q0K,q0J,List.length_cons,List.length_nil,List.take_succ_cons,List.take_zero,q28,q1j,q04,q0s,hw,q9t]
  rw [if_pos (by simp [])]
  rfl
 ·intro i c rs q hi hlt hw hrs
  simp only [qdM,q02,q06,q0Q,q0P,q0G,q0Z,q0A,q00,hlt,decide_true,if_true,row5 hi,q1o,q0B,q0C,q0K,q0J,List.length_cons,List.length_nil,List.take_succ_cons,List.take_zero,q1j,q04,q0s,hw,q9t,q2c,q4f,List.length_append]
  rw [if_pos (by simp [];omega)]
  rfl
def qlC (t:Nat) (l:List E9):D:=dSl 1 (nzO (l.map fun e=>[.ifc t true (r9 e)]))
def dEn5 (l:List E5):D:=dSl 1 (nzO (l.map fun e=>[.ifc 203 true (r5 e)]))
theorem qlq {α β:Type} (f:α→β) (l:List α):l.filterMap (fun e=>some (f e))=l.map f:=by
 induction l with
 | nil=>rfl
 | cons x xs ih=>simp
theorem q6g {Fn:Nat→List D→Out} {FnD:D→List Sh→List D→Out} {m:Nat} {l:Rr} {e0:List Yr} {e1:Rr→List Yr} {k0 k1:List Yr→Out} {s:Nat} {R:D→Out} (h0:k0 e0=R (.lit (.slice none 0 0))) (h1:∀ w ws,k1 (e1 (w::ws))=R (.sl s (w::ws))) :
  (q05 Fn FnD m).bnd (q8d e0 e1 l) [k0,k1]=R (dSl s (nzO l)):=by
 cases l with
 | nil=>exact h0
 | cons w ws=>exact h1 w ws
theorem s105 (n:Nat) (a b c:Option (List E9)) (o:Option (List E5)) (ha:(a.getD []).length*72≤140737488351232) (hb:(b.getD []).length*72≤140737488351232) (hc:(c.getD []).length*72≤140737488351232) (ho:(o.getD []).length*40≤140737488351232) :
  FN (n+1) 105 [d9 a,d9 b,d9 c,d5 o]=some (0,[.d (qlC 200 (a.getD [])),.d (qlC 201 (b.getD [])),.d (qlC 202 (c.getD [])),.d (dEn5 (o.getD []))]):=by
 rw [FS,qn5]
 simp only [G105,q5A,q04,q0r,l105_0 n a ha]
 rw [q6g (s:=1) (R:=fun d=>some (0,[.d (d9 a),.d (d9 b),.d (d9 c),.d (d5 o),.d d])) (by simp) (by intros;simp)]
 simp only [q01,q02,q06,q5A,l105_1 n b hb]
 rw [q6g (s:=1) (R:=fun d=>some (0,[.d (d9 a),.d (d9 b),.d (d9 c),.d (d5 o),.d (dSl 1 (nzO ((a.getD []).filterMap fun e=>some [.ifc 200 true (r9 e)]))),.d d])) (by simp) (by intros;simp)]
 simp only [q01,q02,q06,q5A,l105_2 n c hc]
 rw [q6g (s:=1) (R:=fun d=>some (0,[.d (d9 a),.d (d9 b),.d (d9 c),.d (d5 o),.d (dSl 1 (nzO ((a.getD []).filterMap fun e=>some [.ifc 200 true (r9 e)]))),.d (dSl 1 (nzO ((b.getD []).filterMap fun e=>some [.ifc 201 true (r9 e)]))),.d d])) (by simp) (by intros;simp)]
 simp only [q01,q02,q06,len5,l105_3 n o ho]
 rw [q6g (s:=1) (R:=fun d=>some (0,[.d (dSl 1 (nzO ((a.getD []).filterMap fun e=>some [.ifc 200 true (r9 e)]))),.d (dSl 1 (nzO ((b.getD []).filterMap fun e=>some [.ifc 201 true (r9 e)]))),.d (dSl 1 (nzO ((c.getD []).filterMap fun e=>some [.ifc 202 true (r9 e)]))),.d d])) (by simp) (by intros;simp)]
 simp only [qlq,qlC,dEn5]
def q0w (k:Int) (l:List E9):List E9:=l.filter fun e=>qbf e.kn e.un k
def q5O (k:Int) (l:List E5):List E5:=l.filter fun e=>qbf e.kn e.un k
end
section
theorem qe4 {T:Tb3} {P:Program} {Fn:Nat→List D→Out} {t f:Nat} {name:String} {row:List D} {sh:List Sh} {xs:List D} {z:D} (hlt:f < 1000000) (hm:qkX P t name=some f) (hash:T.ash f=some sh) (hx:q29 sh [.agg row]=some xs)
  (hr:T.rsk f=[[(false,[.d])]]) (hf:Fn f xs=some (0,[.d z])):q1Z P (cf3 T P) Fn (.ifc t true row) [.met name 1] []=some (0,[.d z]):=by
 have h1:(cf3 T P).ash f=some sh:=by simp only [cf3,if_pos hlt,hash]
 have h2:(cf3 T P).rsk f=[[(false,[.d])]]:=hr
 show qhv P (cf3 T P) Fn t true row [.met name 1]=_
 simp only [qhv,hm,invV,h1,h2,hx,hf]
 rfl
theorem src200 (n:Nat) (e:E9):FD (n+1) (.ifc 200 true (r9 e)) [.met "leazing/family.source" 1] []=some (0,[.d (il e.src)]) :=
 qe4 (f:=236) (sh:=[.agg 9]) (xs:=r9 e) (by decide) (by kernel_rfl) (by kernel_rfl) rfl (by kernel_rfl) (by rw [r9,FS,qm2];simp [G236])
theorem src201 (n:Nat) (e:E9):FD (n+1) (.ifc 201 true (r9 e)) [.met "leazing/family.source" 1] []=some (0,[.d (il e.src)]) :=
 qe4 (f:=238) (sh:=[.agg 9]) (xs:=r9 e) (by decide) (by kernel_rfl) (by kernel_rfl) rfl (by kernel_rfl) (by rw [r9,FS,qm1];simp [G238])
theorem src202 (n:Nat) (e:E9):FD (n+1) (.ifc 202 true (r9 e)) [.met "leazing/family.source" 1] []=some (0,[.d (il e.src)]) :=
 qe4 (f:=240) (sh:=[.agg 9]) (xs:=r9 e) (by decide) (by kernel_rfl) (by kernel_rfl) rfl (by kernel_rfl) (by rw [r9,FS,qm0];simp [G240])
theorem src203 (n:Nat) (e:E5):FD (n+1) (.ifc 203 true (r5 e)) [.met "leazing/family.source" 1] []=some (0,[.d (il e.src)]) :=
 qe4 (f:=242) (sh:=[.agg 5]) (xs:=r5 e) (by decide) (by kernel_rfl) (by kernel_rfl) rfl (by kernel_rfl) (by rw [r5,FS,qlZ];simp [G242])
section
variable {Fn:Nat→List D→Out} {FnD:D→List Sh→List D→Out} {m:Nat}
def dEn {α:Type} (F:α→D) (l:List α):D:=dSl 1 (nzO (l.map fun e=>[F e]))
theorem qfY {α:Type} (F:α→D) (l:List α):(nzO (l.map fun e=>[F e])).getD []=l.map fun e=>[F e]:=q2Y _
theorem qk5 {α:Type} (F:α→D) (l:List α) (k:D→Out):(q05 Fn FnD m).lenD (dEn F l) k=k (il l.length):=by rw [dEn,q6s,qfY,List.length_map]
theorem rowE {α:Type} {F:α→D} {l:List α} {i:Nat} {c:α} (h:l[i]?=some c) (k:List D→Out):(q05 Fn FnD m).rowD 1 (dEn F l) (il i) k=k [F c]:=by
 rw [dEn,q4Z,if_pos (by omega),qfY,Int.toNat_natCast,List.getElem?_map,h];rfl
end
theorem qiW {α:Type} (n:Nat) (F:α→D) (src:α→Int) (hs:∀ e,FD n (F e) [.met "leazing/family.source" 1] []=some (0,[.d (il (src e))])) (l:List α) (hl:l.length≤60) (x1 x2 x3 x4 x5:D) :
  q0o [qhi (RP n)] M0 0 [.d (dEn F l),.d x1,.d x2,.d x3,.d x4,.d x5,.d (dEn F l),.d (il l.length),.d (il 0)] =
   if okL (fun _=>true) src none l=true then some (1,[.d x1,.d x2,.d x3,.d x4,.d x5]) else some (0,[.d (il 34)]):=by
 have:=q0T (β:=Unit) l (by omega) (qhi (RP n)) (fun i _=>[.d (dEn F l),.d x1,.d x2,.d x3,.d x4,.d x5,.d (dEn F l),.d (il l.length),.d (il i)]) (fun _ _=>True)
  (fun i r _=>if okL (fun _=>true) src (q3r src l i) r=true then some (1,[.d x1,.d x2,.d x3,.d x4,.d x5]) else some (0,[.d (il 34)]))
  (fun _ k _=>by simp [qhi,okL]) ?_ M0 () trivial (q2A (by omega))
 ·exact this
 ·intro i e r _ k hi hd hlt hw _ ih
  have ih':=ih () trivial
  rw [q4F _ hi] at ih'
  have hlt':(i:Int) < (l.length:Int):=by omega
  have hse:q1Z Tryz.prog (cf3 tb Tryz.prog) (FN n) (F e) [.met "leazing/family.source" 1] []=some (0,[.d (il (src e))]):=hs e
  simp only [qhi,q02,q06,q0A,q00,hlt',decide_true,if_true,rowE hi,q04,q2r,q0s,hw,okL,Bool.true_and]
  by_cases h0:i=0
  ·subst h0
   rw [if_neg (by simp)]
   simp only [q3r,if_true,ltO,Bool.true_and]
   exact ih'
  ·have hq1:l[i - 1]?=some (l[i - 1]'(by omega)):=List.getElem?_eq_getElem (by omega)
   have hsq:q1Z Tryz.prog (cf3 tb Tryz.prog) (FN n) (F (l[i - 1]'(by omega))) [.met "leazing/family.source" 1] []=some (0,[.d (il (src (l[i - 1]'(by omega))))]):=hs _
   have hq:q3r src l i=some (src (l[i - 1]'(by omega))):=by simp [q3r,h0,hq1]
   rw [if_pos (by simp;omega),q1p,q60 (by omega) (by omega),rowE hq1]
   simp only [q0b,q4e,hsq,hse,q01,q02,q23,q00,decide_eq_true_eq,q0c]
   rw [hq]
   by_cases h2:src e≤src (l[i - 1]'(by omega))
   ·have h3:ltO (some (src (l[i - 1]'(by omega)))) (src e)=false:=by simp [ltO];omega
    rw [if_pos h2]
    simp only [h3,Bool.false_and,Bool.false_eq_true,if_false]
   ·have h3:ltO (some (src (l[i - 1]'(by omega)))) (src e)=true:=by simp [ltO];omega
    rw [if_neg h2]
    simp only [h3,Bool.true_and]
    exact ih'
theorem l56_1 {α:Type} (n:Nat) (F:α→D) (src:α→Int) (hs:∀ e,FD n (F e) [.met "leazing/family.source" 1] []=some (0,[.d (il (src e))])) (l:List α) (hl:l.length≤60) (x1 x2 x3 x4 x5:D) :
  q0o [L56_1 (RP n)] M0 0 [.d (dEn F l),.d x1,.d x2,.d x3,.d x4,.d x5,.d (dEn F l),.d (il l.length),.d (il 0)] =
   if okL (fun _=>true) src none l=true then some (1,[.d x1,.d x2,.d x3,.d x4,.d x5]) else some (0,[.d (il 34)]):=qiW n F src hs l hl x1 x2 x3 x4 x5
theorem l56_2 {α:Type} (n:Nat) (F:α→D) (src:α→Int) (hs:∀ e,FD n (F e) [.met "leazing/family.source" 1] []=some (0,[.d (il (src e))])) (l:List α) (hl:l.length≤60) (x1 x2 x3 x4 x5:D) :
  q0o [L56_2 (RP n)] M0 0 [.d (dEn F l),.d x1,.d x2,.d x3,.d x4,.d x5,.d (dEn F l),.d (il l.length),.d (il 0)] =
   if okL (fun _=>true) src none l=true then some (1,[.d x1,.d x2,.d x3,.d x4,.d x5]) else some (0,[.d (il 34)]):=qiW n F src hs l hl x1 x2 x3 x4 x5
theorem l56_3 {α:Type} (n:Nat) (F:α→D) (src:α→Int) (hs:∀ e,FD n (F e) [.met "leazing/family.source" 1] []=some (0,[.d (il (src e))])) (l:List α) (hl:l.length≤60) (x1 x2 x3 x4 x5:D) :
  q0o [L56_3 (RP n)] M0 0 [.d (dEn F l),.d x1,.d x2,.d x3,.d x4,.d x5,.d (dEn F l),.d (il l.length),.d (il 0)] =
   if okL (fun _=>true) src none l=true then some (1,[.d x1,.d x2,.d x3,.d x4,.d x5]) else some (0,[.d (il 34)]):=qiW n F src hs l hl x1 x2 x3 x4 x5
theorem q4H {α:Type} (ok:α→Bool) (src:α→Int):∀ (p:Option Int) (l:List α),okL ok src p l=(l.all ok&&okL (fun _=>true) src p l)
 | _,[]=>rfl
 | p,e::r=>by
  simp only [okL,List.all_cons,q4H ok src (some (src e)) r,Bool.true_and]
  cases ok e<;>cases ltO p (src e)<;>cases r.all ok<;>rfl
end
section
theorem q9s {Fn:Nat→List D→Out} {FnD:D→List Sh→List D→Out} {m:Nat} (n:Nat) (z:Int) (ks:List Out):(q05 Fn FnD m).selI n (il z) ks=if 0≤z∧z < n then selR ks z.toNat else none:=rfl
theorem qlQ {α:Type} (p:α→Bool) (l:List α):l.any (fun e=>!p e)=!l.all p:=by
 induction l with
 | nil=>rfl
 | cons x xs ih=>simp only [List.any_cons,List.all_cons,ih,Bool.not_and]
theorem qg3 (b:(Nat→List Yr→Out)→List Yr→Out) (n:Nat) (ys:List Yr):q0o [b] (n+1) 0 ys=b (q0o [b] n) ys:=q6x _ _ _ _ _ rfl
theorem r56_0 {α:Type} (n:Nat) (J:Nat→List Yr→Out) (F:α→D) (src:α→Int) (hs:∀ e,FD n (F e) [.met "leazing/family.source" 1] []=some (0,[.d (il (src e))])) (l:List α) (x1 x2 x3:D) :
  q8o (RP n) J [.d (dEn F l),.d x1,.d x2,.d x3,.d (il 0)]=if (decide (l.length≤60)&&okL (fun _=>true) src none l)=true then J 0 [.d (dEn F l),.d x1,.d x2,.d x3,.d (il 1)] else some (0,[.d (il 34)]):=by
 have hw:IntKind.i64.wrap ((0:Int)+1)=1:=by rw [q0m (by omega) (by omega)];rfl
 simp only [q8o,q02,q06,q04,q0A,q00]
 rw [if_pos (by decide),q9s,if_pos (by decide)]
 show (RP n).lenD (dEn F l) _=_
 rw [qk5]
 simp only [q2r,q00,decide_eq_true_eq,q0c,qk5,q0r]
 by_cases hl:l.length≤60
 ·rw [if_neg (by omega),qiW n F src hs l hl]
  by_cases hk:okL (fun _=>true) src none l=true
  ·simp only [hk,hl,decide_true,Bool.and_self,if_true,q1z,q02,q06,q0s,hw]
  ·simp [hk]
 ·rw [if_pos (by omega)]
  simp [hl]
theorem r56_1 {α:Type} (n:Nat) (J:Nat→List Yr→Out) (F:α→D) (src:α→Int) (hs:∀ e,FD n (F e) [.met "leazing/family.source" 1] []=some (0,[.d (il (src e))])) (l:List α) (x0 x2 x3:D) :
  q8o (RP n) J [.d x0,.d (dEn F l),.d x2,.d x3,.d (il 1)]=if (decide (l.length≤60)&&okL (fun _=>true) src none l)=true then J 0 [.d x0,.d (dEn F l),.d x2,.d x3,.d (il 2)] else some (0,[.d (il 34)]):=by
 have hw:IntKind.i64.wrap ((1:Int)+1)=2:=by rw [q0m (by omega) (by omega)];rfl
 simp only [q8o,q02,q06,q04,q0A,q00]
 rw [if_pos (by decide),q9s,if_pos (by decide)]
 show (RP n).lenD (dEn F l) _=_
 rw [qk5]
 simp only [q2r,q00,decide_eq_true_eq,q0c,qk5,q0r]
 by_cases hl:l.length≤60
 ·rw [if_neg (by omega),l56_1 n F src hs l hl]
  by_cases hk:okL (fun _=>true) src none l=true
  ·simp only [hk,hl,decide_true,Bool.and_self,if_true,q1z,q02,q06,q0s,hw]
  ·simp [hk]
 ·rw [if_pos (by omega)]
  simp [hl]
theorem r56_2 {α:Type} (n:Nat) (J:Nat→List Yr→Out) (F:α→D) (src:α→Int) (hs:∀ e,FD n (F e) [.met "leazing/family.source" 1] []=some (0,[.d (il (src e))])) (l:List α) (x0 x1 x3:D) :
  q8o (RP n) J [.d x0,.d x1,.d (dEn F l),.d x3,.d (il 2)]=if (decide (l.length≤60)&&okL (fun _=>true) src none l)=true then J 0 [.d x0,.d x1,.d (dEn F l),.d x3,.d (il 3)] else some (0,[.d (il 34)]):=by
 have hw:IntKind.i64.wrap ((2:Int)+1)=3:=by rw [q0m (by omega) (by omega)];rfl
 simp only [q8o,q02,q06,q04,q0A,q00]
 rw [if_pos (by decide),q9s,if_pos (by decide)]
 show (RP n).lenD (dEn F l) _=_
 rw [qk5]
 simp only [q2r,q00,decide_eq_true_eq,q0c,qk5,q0r]
 by_cases hl:l.length≤60
 ·rw [if_neg (by omega),l56_2 n F src hs l hl]
  by_cases hk:okL (fun _=>true) src none l=true
  ·simp only [hk,hl,decide_true,Bool.and_self,if_true,q1z,q02,q06,q0s,hw]
  ·simp [hk]
 ·rw [if_pos (by omega)]
  simp [hl]
theorem r56_3 {α:Type} (n:Nat) (J:Nat→List Yr→Out) (F:α→D) (src:α→Int) (hs:∀ e,FD n (F e) [.met "leazing/family.source" 1] []=some (0,[.d (il (src e))])) (l:List α) (x0 x1 x2:D) :
  q8o (RP n) J [.d x0,.d x1,.d x2,.d (dEn F l),.d (il 3)]=if (decide (l.length≤60)&&okL (fun _=>true) src none l)=true then J 0 [.d x0,.d x1,.d x2,.d (dEn F l),.d (il 4)] else some (0,[.d (il 34)]):=by
 have hw:IntKind.i64.wrap ((3:Int)+1)=4:=by rw [q0m (by omega) (by omega)];rfl
 simp only [q8o,q02,q06,q04,q0A,q00]
 rw [if_pos (by decide),q9s,if_pos (by decide)]
 show (RP n).lenD (dEn F l) _=_
 rw [qk5]
 simp only [q2r,q00,decide_eq_true_eq,q0c,qk5,q0r]
 by_cases hl:l.length≤60
 ·rw [if_neg (by omega),l56_3 n F src hs l hl]
  by_cases hk:okL (fun _=>true) src none l=true
  ·simp only [hk,hl,decide_true,Bool.and_self,if_true,q1z,q02,q06,q0s,hw]
  ·simp [hk]
 ·rw [if_pos (by omega)]
  simp [hl]
theorem s56 (n:Nat) (a b c:Option (List E9)) (o:Option (List E5)) (ha:(a.getD []).length*72≤140737488351232) (hb:(b.getD []).length*72≤140737488351232) (hc:(c.getD []).length*72≤140737488351232) (ho:(o.getD []).length*40≤140737488351232) :
  FN (n+9) 56 [d9 a,d9 b,d9 c,d5 o]=some (0,[.d (il (if q0H (a.getD []) (b.getD []) (c.getD []) (o.getD []) then 0 else 34))]):=by
 rw [FS,G56_eq]
 simp only [G56,q08,q4E,s119 (n+5) a (by omega) (.fn 120 []) _ (fun e _=>d120 n e),s121 (n+5) b (by omega) (.fn 122 []) _ (fun e _=>d122 n e),s123 (n+5) c (by omega) (.fn 124 []) _ (fun e _=>d124 n e),s125 (n+5) o (by omega) (.fn 126 []) _ (fun e _=>d126 n e),qlQ,q01,q02,q00,q0c,s105 (n+7) a b c o ha hb hc ho]
 have hk:q0H (a.getD []) (b.getD []) (c.getD []) (o.getD [])=(decide ((a.getD []).length≤60∧(b.getD []).length≤60∧(c.getD []).length≤60∧(o.getD []).length≤60)&&((a.getD []).all fun e=>decide (q2w e))&&okL (fun _=>true) (·.src) none (a.getD [])&&(((b.getD []).all fun e=>decide (q2x e))&&okL (fun _=>true) (·.src) none (b.getD []))&&(((c.getD []).all fun e=>decide (q2y e))&&okL (fun _=>true) (·.src) none (c.getD []))&&(((o.getD []).all fun e=>decide (q4x e))&&okL (fun _=>true) (·.src) none (o.getD []))):=by
  unfold q0H
  rw [q4H (fun e=>decide (q2w e)),q4H (fun e=>decide (q2x e)),q4H (fun e=>decide (q2y e)),q4H (fun e=>decide (q4x e))]
  simp only [Bool.and_assoc]
 rw [hk]
 generalize (a.getD []).all (fun e=>decide (q2w e))=q1
 generalize (b.getD []).all (fun e=>decide (q2x e))=q2
 generalize (c.getD []).all (fun e=>decide (q2y e))=q3
 generalize (o.getD []).all (fun e=>decide (q4x e))=q4
 cases q1
 ·simp
 cases q2
 ·simp
 cases q3
 ·simp
 cases q4
 ·simp
 simp only [Bool.not_true,Bool.false_eq_true,if_false,Bool.and_true,Bool.true_and,q0r,q06,q02,q04]
 obtain ⟨k,hM⟩:∃ k,M0=k+5:=⟨18446744073709551611,rfl⟩
 have e0:qlC 200 (a.getD [])=dEn (fun e=>.ifc 200 true (r9 e)) (a.getD []):=rfl
 have e1:qlC 201 (b.getD [])=dEn (fun e=>.ifc 201 true (r9 e)) (b.getD []):=rfl
 have e2:qlC 202 (c.getD [])=dEn (fun e=>.ifc 202 true (r9 e)) (c.getD []):=rfl
 have e3:dEn5 (o.getD [])=dEn (fun e=>.ifc 203 true (r5 e)) (o.getD []):=rfl
 rw [e0,e1,e2,e3,hM,qg3]
 rw [r56_0 (n+8) _ _ _ (src200 (n+7)),qg3,r56_1 (n+8) _ _ _ (src201 (n+7)),qg3,r56_2 (n+8) _ _ _ (src202 (n+7)),qg3,r56_3 (n+8) _ _ _ (src203 (n+7)),qg3]
 have hend:∀ J x0 x1 x2 x3,q8o (RP (n+8)) J [.d x0,.d x1,.d x2,.d x3,.d (il 4)]=some (1,[]):=by
  intro J x0 x1 x2 x3
  simp [q8o]
 rw [hend]
 by_cases h1:(a.getD []).length≤60<;>by_cases h2:(b.getD []).length≤60<;>by_cases h3:(c.getD []).length≤60<;>by_cases h4:(o.getD []).length≤60<;>simp only [h1,h2,h3,h4,decide_true,decide_false,Bool.true_and,Bool.false_and,and_self,and_true,and_false,Bool.false_eq_true,if_false]
 all_goals (cases okL (fun _=>true) (fun (e:E9)=>e.src) none (a.getD [])<;>cases okL (fun _=>true) (fun (e:E9)=>e.src) none (b.getD [])<;>cases okL (fun _=>true) (fun (e:E9)=>e.src) none (c.getD [])<;>cases okL (fun _=>true) (fun (e:E5)=>e.src) none (o.getD [])<;>simp)
end
end Go.VE
