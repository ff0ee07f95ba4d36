/- The functions. -/
import Derived.Test.YtobeabinccohlaaGreatMf0
import Derived.Test.YtobeabinccohlaaGreatMf1
import Derived.Test.YtobeabinccohlaaGreatMf2
import Derived.Test.YtobeabinccohlaaGreatMh
import Derived.KernelRfl
set_option maxRecDepth 20000
namespace Go.VE
open Go.RowKit Go.Proofs
section
structure E9 where
 src:Int
 a:Int
 b:Int
 f1:Int
 f2:Int
 t1:Int
 t2:Int
 kn:Int
 un:Int
structure E5 where
 src:Int
 a:Int
 day:Int
 kn:Int
 un:Int
def r9 (e:E9):List D:=[il e.src,il e.a,il e.b,il e.f1,il e.f2,il e.t1,il e.t2,il e.kn,il e.un]
def r5 (e:E5):List D:=[il e.src,il e.a,il e.day,il e.kn,il e.un]
theorem JR (n:Nat) (x lo hi:Int):FN (n+1) 49 [il x,il lo,il hi]=some (0,[.d (bl (decide (lo≤x∧x≤hi)))]):=by
 rw [FS,NX]
 simp only [G49,bQ,gM,aa,aK,ao]
 by_cases h:lo≤x<;>simp [h]
theorem vn (n:Nat) (x lo hi:Int):FN (n+1) 135 [il x,il lo,il hi]=some (0,[.d (bl (decide (lo≤x∧x≤hi)))]):=by
 rw [FS,Iq]
 simp only [G135,gM,aa,aK,ao]
 by_cases h:lo≤x<;>simp [h]
theorem s25 (n:Nat) (x:Int):FN (n+2) 25 [il x]=some (0,[.d (bl (decide (0≤x∧x≤4166)))]):=by
 rw [FS,Oe];simp [G25,JR]
theorem s26 (n:Nat) (x:Int):FN (n+2) 26 [il x]=some (0,[.d (bl (decide (1≤x∧x≤99)))]):=by
 rw [FS,Od];simp [G26,JR]
theorem s65 (n:Nat) (x:Int):FN (n+2) 65 [il x]=some (0,[.d (bl (decide (1≤x∧x≤999)))]):=by
 rw [FS,NL];simp [G65,JR]
theorem G9 (n:Nat) (x:Int):FN (n+2) 132 [il x]=some (0,[.d (bl (decide (1≤x∧x≤99999)))]):=by
 rw [FS,It];simp [G132,JR]
theorem G7 (n:Nat) (x:Int):FN (n+2) 136 [il x]=some (0,[.d (bl (decide (0≤x∧x≤4166)))]):=by
 rw [FS,Ip];simp [G136,vn]
theorem LA (n:Nat) (x:Int):FN (n+2) 129 [il x]=some (0,[.d (bl (decide (1≤x∧x≤99)))]):=by
 rw [FS,Iw];simp [G129,vn]
theorem Ds (n:Nat) (x:Int):FN (n+2) 128 [il x]=some (0,[.d (bl (decide (1≤x∧x≤999)))]):=by
 rw [FS,Ix];simp [G128,vn]
theorem Gb (n:Nat) (x:Int):FN (n+2) 127 [il x]=some (0,[.d (bl (decide (1≤x∧x≤99999)))]):=by
 rw [FS,Iy];simp [G127,vn]
def eo (f1 f2 t1 t2:Int):Prop:=0≤f1∧f1≤f2∧f2≤t1∧t1≤t2∧t2≤4166
instance (f1 f2 t1 t2:Int):Decidable (eo f1 f2 t1 t2):=by unfold eo;infer_instance
def dD (kn un:Int):Prop:=0≤kn∧kn≤4166∧(un=0∨kn+1≤un∧un≤4166)
instance (kn un:Int):Decidable (dD kn un):=by unfold dD;infer_instance
theorem Ly (n:Nat) (f1 f2 t1 t2:Int):FN (n+1) 133 [il f1,il f2,il t1,il t2]=some (0,[.d (bl (decide (eo f1 f2 t1 t2)))]):=by
 rw [FS,Is]
 simp only [G133,ae,gM,aa,aK,ao,eo]
 by_cases h1:0≤f1<;>by_cases h2:f1≤f2<;>by_cases h3:f2≤t1<;>by_cases h4:t1≤t2<;>simp [h1,h2,h3,h4]
theorem Lz (n:Nat) (f1 f2 t1 t2:Int):FN (n+3) 130 [il f1,il f2,il t1,il t2]=some (0,[.d (bl (decide (eo f1 f2 t1 t2)))]):=by
 rw [FS,Iv]
 simp only [G130,ae,gM,aa,aK,ao,eo,ah,G7,ab,ac]
 by_cases h1:0≤f1<;>by_cases h2:f1≤f2<;>by_cases h3:f2≤t1<;>by_cases h4:t1≤t2<;>simp [h1,h2,h3,h4]
 all_goals (intros;omega)
theorem G8 (n:Nat) (kn un:Int):FN (n+3) 134 [il kn,il un]=some (0,[.d (bl (decide (dD kn un)))]):=by
 rw [FS,Ir]
 simp only [G134,ah,s25,ab,ac,aa,ae,aV,aK,ao,ay,JR,eJ,dD]
 by_cases h:0≤kn∧kn≤4166
 ·rw [aE (by omega) (by omega)]
  by_cases h2:un=0<;>simp [h,h2]
 ·simp only [h,Tk,T0,T9]
  have:¬ (0≤kn∧kn≤4166∧(un=0∨kn+1≤un∧un≤4166)):=by omega
  simp only [this,Tk]
theorem Ga (n:Nat) (kn un:Int):FN (n+3) 131 [il kn,il un]=some (0,[.d (bl (decide (dD kn un)))]):=by
 rw [FS,Iu]
 simp only [G131,ah,G7,ab,ac,aa,ae,aV,aK,ao,ay,vn,eJ,dD]
 by_cases h:0≤kn∧kn≤4166
 ·rw [aE (by omega) (by omega)]
  by_cases h2:un=0<;>simp [h,h2]
 ·simp only [h,Tk,T0,T9]
  have:¬ (0≤kn∧kn≤4166∧(un=0∨kn+1≤un∧un≤4166)):=by omega
  simp only [this,Tk]
def dE (e:E9):Prop:=(1≤e.src∧e.src≤99999)∧(1≤e.a∧e.a≤999)∧(1≤e.b∧e.b≤99)∧eo e.f1 e.f2 e.t1 e.t2∧dD e.kn e.un
instance (e:E9):Decidable (dE e):=by unfold dE;infer_instance
def dF (e:E9):Prop:=(1≤e.src∧e.src≤99999)∧(2≤e.a∧e.a≤99)∧(1≤e.b∧e.b≤e.a - 1)∧eo e.f1 e.f2 e.t1 e.t2∧dD e.kn e.un
instance (e:E9):Decidable (dF e):=by unfold dF;infer_instance
def dG (e:E9):Prop:=(1≤e.src∧e.src≤99999)∧(1≤e.a∧e.a≤999)∧(0≤e.b∧e.b≤999)∧e.b≠e.a∧eo e.f1 e.f2 e.t1 e.t2∧dD e.kn e.un
instance (e:E9):Decidable (dG e):=by unfold dG;infer_instance
def fp (e:E5):Prop:=(1≤e.src∧e.src≤99999)∧(1≤e.a∧e.a≤999)∧(0≤e.day∧e.day≤4166)∧dD e.kn e.un
instance (e:E5):Decidable (fp e):=by unfold fp;infer_instance
theorem s58 (n:Nat) (e:E9):FN (n+4) 58 (r9 e)=some (0,[.d (il (if dE e then 0 else 30))]):=by
 rw [r9,FS,NS]
 simp only [G58,ah,G9,s65,s26,Ly,G8,ab,ac,aP,aa,ae,ao,dE]
 by_cases h1:1≤e.src∧e.src≤99999<;>by_cases h2:1≤e.a∧e.a≤999<;>by_cases h3:1≤e.b∧e.b≤99<;>by_cases h4:eo e.f1 e.f2 e.t1 e.t2<;>by_cases h5:dD e.kn e.un<;>simp only [h1,h2,h3,h4,h5,T8,Tk,Tu,V1,T6,T9,Wm,W5,T0]
theorem s57 (n:Nat) (e:E9):FN (n+4) 57 (r9 e)=some (0,[.d (il (if dE e then 0 else 30))]):=by
 rw [r9,FS,NT]
 simp only [G57,ah,Gb,Ds,LA,Lz,Ga,ab,ac,aP,aa,ae,ao,dE]
 by_cases h1:1≤e.src∧e.src≤99999<;>by_cases h2:1≤e.a∧e.a≤999<;>by_cases h3:1≤e.b∧e.b≤99<;>by_cases h4:eo e.f1 e.f2 e.t1 e.t2<;>by_cases h5:dD e.kn e.un<;>simp only [h1,h2,h3,h4,h5,T8,Tk,Tu,V1,T6,T9,Wm,W5,T0]
theorem s60 (n:Nat) (e:E9):FN (n+4) 60 (r9 e)=some (0,[.d (il (if dF e then 0 else 31))]):=by
 rw [r9,FS,NQ]
 simp only [G60,ah,G9,JR,Ly,G8,ab,ac,aP,aa,ae,ao,br,dF]
 by_cases h2:2≤e.a∧e.a≤99
 ·rw [aE (by omega) (by omega)]
  by_cases h1:1≤e.src∧e.src≤99999<;>by_cases h3:1≤e.b∧e.b≤e.a - 1<;>by_cases h4:eo e.f1 e.f2 e.t1 e.t2<;>by_cases h5:dD e.kn e.un<;>simp only [h1,h2,h3,h4,h5,T8,Tk,Tu,V1,T6,T9,Wm,W5,T0]
 ·by_cases h1:1≤e.src∧e.src≤99999<;>simp only [h1,h2,T8,Tk,Tu,V1,T6,T9,Wm,W5,Xn,T0]
theorem s59 (n:Nat) (e:E9):FN (n+4) 59 (r9 e)=some (0,[.d (il (if dF e then 0 else 31))]):=by
 rw [r9,FS,NR]
 simp only [G59,ah,Gb,vn,Lz,Ga,ab,ac,aP,aa,ae,ao,br,dF]
 by_cases h2:2≤e.a∧e.a≤99
 ·rw [aE (by omega) (by omega)]
  by_cases h1:1≤e.src∧e.src≤99999<;>by_cases h3:1≤e.b∧e.b≤e.a - 1<;>by_cases h4:eo e.f1 e.f2 e.t1 e.t2<;>by_cases h5:dD e.kn e.un<;>simp only [h1,h2,h3,h4,h5,T8,Tk,Tu,V1,T6,T9,Wm,W5,T0]
 ·by_cases h1:1≤e.src∧e.src≤99999<;>simp only [h1,h2,T8,Tk,Tu,V1,T6,T9,Wm,W5,Xn,T0]
theorem s62 (n:Nat) (e:E9):FN (n+4) 62 (r9 e)=some (0,[.d (il (if dG e then 0 else 32))]):=by
 rw [r9,FS,NO]
 simp only [G62,ah,G9,s65,JR,Ly,G8,ab,ac,aP,aa,ae,ao,aV,dG]
 have h0:∃ q:Bool,decide (e.b=e.a)=q∧(e.b≠e.a↔q=false):=by by_cases h:e.b=e.a<;>simp [h]
 obtain ⟨q,hq1,hq2⟩:=h0
 simp only [hq1,hq2]
 by_cases h1:1≤e.src∧e.src≤99999<;>by_cases h2:1≤e.a∧e.a≤999<;>by_cases h3:0≤e.b∧e.b≤999<;>cases q<;>by_cases h4:eo e.f1 e.f2 e.t1 e.t2<;>by_cases h5:dD e.kn e.un<;>simp only [h1,h2,h3,h4,h5,T8,Tk,Tu,V1,T6,T9,Wm,W5,T0,reduceCtorEq]
theorem s61 (n:Nat) (e:E9):FN (n+4) 61 (r9 e)=some (0,[.d (il (if dG e then 0 else 32))]):=by
 rw [r9,FS,NP]
 simp only [G61,ah,Gb,Ds,vn,Lz,Ga,ab,ac,aP,aa,ae,ao,aV,dG]
 have h0:∃ q:Bool,decide (e.b=e.a)=q∧(e.b≠e.a↔q=false):=by by_cases h:e.b=e.a<;>simp [h]
 obtain ⟨q,hq1,hq2⟩:=h0
 simp only [hq1,hq2]
 by_cases h1:1≤e.src∧e.src≤99999<;>by_cases h2:1≤e.a∧e.a≤999<;>by_cases h3:0≤e.b∧e.b≤999<;>cases q<;>by_cases h4:eo e.f1 e.f2 e.t1 e.t2<;>by_cases h5:dD e.kn e.un<;>simp only [h1,h2,h3,h4,h5,T8,Tk,Tu,V1,T6,T9,Wm,W5,T0,reduceCtorEq]
theorem s64 (n:Nat) (e:E5):FN (n+4) 64 (r5 e)=some (0,[.d (il (if fp e then 0 else 33))]):=by
 rw [r5,FS,NM]
 simp only [G64,ah,G9,s65,s25,G8,ab,ac,aP,aa,ae,ao,fp]
 by_cases h1:1≤e.src∧e.src≤99999<;>by_cases h2:1≤e.a∧e.a≤999<;>by_cases h3:0≤e.day∧e.day≤4166<;>by_cases h5:dD e.kn e.un<;>simp only [h1,h2,h3,h5,T8,Tk,Tu,V1,T6,T9,Wm,W5,T0]
theorem s63 (n:Nat) (e:E5):FN (n+4) 63 (r5 e)=some (0,[.d (il (if fp e then 0 else 33))]):=by
 rw [r5,FS,NN]
 simp only [G63,ah,Gb,Ds,G7,Ga,ab,ac,aP,aa,ae,ao,fp]
 by_cases h1:1≤e.src∧e.src≤99999<;>by_cases h2:1≤e.a∧e.a≤999<;>by_cases h3:0≤e.day∧e.day≤4166<;>by_cases h5:dD e.kn e.un<;>simp only [h1,h2,h3,h5,T8,Tk,Tu,V1,T6,T9,Wm,W5,T0]
def ec (kn un k:Int):Bool:=decide (kn≤k∧(un=0∨k < un))
theorem JS (n:Nat) (kn un k:Int):FN (n+1) 42 [il kn,il un,il k]=some (0,[.d (bl (ec kn un k))]):=by
 rw [FS,O1]
 simp only [G42,gM,aa,ae,aV,aK,ck,ao,eJ,ab,ac,ec]
 by_cases h1:kn≤k<;>by_cases h2:un=0<;>simp [h1,h2]
theorem G5 (n:Nat) (kn un k:Int):FN (n+1) 173 [il kn,il un,il k]=some (0,[.d (bl (ec kn un k))]):=by
 rw [FS,I3]
 simp only [G173,gM,aa,ae,aV,aK,ck,ao,eJ,ab,ac,ec]
 by_cases h1:kn≤k<;>by_cases h2:un=0<;>simp [h1,h2]
def bh (f1 t2 d:Int):Bool:=decide (f1≤d∧d < t2)
def bq (f2 t1 d:Int):Bool:=decide (f2≤d∧d < t1)
theorem jN (n:Nat) (f1 f2 t1 t2 d:Int):FN (n+1) 208 [il f1,il f2,il t1,il t2,il d]=some (0,[.d (bl (bh f1 t2 d))]):=by
 rw [FS,HD]
 simp only [G208,gM,aa,aK,ck,ao,bh]
 by_cases h1:f1≤d<;>simp [h1]
theorem dV (n:Nat) (f1 f2 t1 t2 d:Int):FN (n+1) 209 [il f1,il f2,il t1,il t2,il d]=some (0,[.d (bl (bq f2 t1 d))]):=by
 rw [FS,HC]
 simp only [G209,gM,aa,aK,ck,ao,bq]
 by_cases h1:f2≤d<;>simp [h1]
def g9 (yes no:Bool):Int:=if yes then (if no then 2 else 1) else 0
def wg (f1 f2 t1 t2 d:Int):Int:=if bh f1 t2 d then (if bq f2 t1 d then 1 else 2) else 0
theorem C3 (n:Nat) (f1 f2 t1 t2 d:Int):FN (n+1) 160 [il f1,il f2,il t1,il t2,il d]=some (0,[.d (il (wg f1 f2 t1 t2 d))]):=by
 rw [FS,Ie]
 simp only [G160,aC,aa,ae,bQ,gM,ao,wg,bh,bq,T4]
 repeat' split
 all_goals first | rfl | (exfalso;omega)
theorem s84 (n:Nat) (y m:Bool):FN (n+1) 84 [bl y,bl m]=some (0,[.d (il (g9 y m))]):=by
 rw [FS,Nw];cases y<;>cases m<;>simp [G84,g9]
theorem Lx (n:Nat) (y m:Bool):FN (n+1) 167 [bl y,bl m]=some (0,[.d (il (g9 y m))]):=by
 rw [FS,I9];cases y<;>cases m<;>simp [G167,g9]
end
section
section
variable {Fn:Nat→List D→aq} {FnD:D→List Sh→List D→aq} {m:Nat}
def d9 (o:Option (List E9)):D:=dR 9 (o.map (·.map r9))
def d5 (o:Option (List E5)):D:=dR 5 (o.map (·.map r5))
theorem fT {α β:Type} (f:α→β) (o:Option (List α)):(o.map (·.map f)).getD []=(o.getD []).map f:=by cases o<;>rfl
theorem cS (o:Option (List E9)) (k:D→aq):(af Fn FnD m).lenD (d9 o) k=k (il (o.getD []).length):=by rw [d9,kZ,fT,Tj]
theorem yD (o:Option (List E5)) (k:D→aq):(af Fn FnD m).lenD (d5 o) k=k (il (o.getD []).length):=by rw [d5,kZ,fT,Tj]
theorem ct {o:Option (List E9)} {i:Nat} {c:E9} (h:(o.getD [])[i]?=some c) (k:List D→aq):(af Fn FnD m).rowD 9 (d9 o) (il i) k=k (r9 c):=by
 rw [d9,iQ,T1 (by omega),fT,V0,Tm,h];rfl
theorem vz {o:Option (List E5)} {i:Nat} {c:E5} (h:(o.getD [])[i]?=some c) (k:List D→aq):(af Fn FnD m).rowD 5 (d5 o) (il i) k=k (r5 c):=by
 rw [d5,iQ,T1 (by omega),fT,V0,Tm,h];rfl
end
def o6:Option Int→Int→Bool
 | none,_=>true
 | some q,x=>decide (q < x)
def fR {α:Type} (ok:α→Bool) (src:α→Int):Option Int→List α→Bool
 | _,[]=>true
 | p,e::r=>ok e&&o6 p (src e)&&fR ok src (some (src e)) r
def eg {α:Type} (src:α→Int) (l:List α) (i:Nat):Option Int:=if i=0 then none else (l[i - 1]?).map src
theorem iS {α:Type} (src:α→Int) {l:List α} {i:Nat} {c:α} (h:l[i]?=some c):eg src l (i+1)=some (src c):=by
 simp [eg,h]
theorem ke {i:Nat} (h:0 < i) (h2:i≤4611686018427387904):IntKind.i64.wrap ((i:Int) - 1)=((i - 1:Nat):Int):=by
 rw [aE (by omega) (by omega)];omega
theorem l24_0 (n:Nat) (a b c:Option (List E9)) (o:Option (List E5)) (hl:(a.getD []).length≤4611686018427387904) :
  ax [xv (RP (n+4))] M0 0 [d9 a,d9 b,d9 c,d5 o,d9 a,il (a.getD []).length,il 0] =
   if fR (fun e=>decide (dE e)) (·.src) none (a.getD [])=true then some (1,[.d (d9 a),.d (d9 b),.d (d9 c),.d (d5 o)]) else some (0,[.d (il 34)]):=by
 have:=be (β:=Unit) (a.getD []) hl (xv (RP (n+4))) (fun i _=>[.d (d9 a),.d (d9 b),.d (d9 c),.d (d5 o),.d (d9 a),.d (il (a.getD []).length),.d (il i)]) (fun _ _=>True)
  (fun i r _=>if fR (fun e=>decide (dE e)) (·.src) (eg (·.src) (a.getD []) i) r=true then some (1,[.d (d9 a),.d (d9 b),.d (d9 c),.d (d5 o)]) else some (0,[.d (il 34)]))
  (fun _ k _=>by simp [xv,fR]) ?_ M0 () trivial (cj hl)
 ·exact this
 ·intro i e r _ k hi hd hlt hw _ ih
  have ih':=ih () trivial
  rw [iS _ hi] at ih'
  have hlt':(i:Int) < ((a.getD []).length:Int):=by omega
  simp only [xv,ac,ag,aC,aa,hlt',T8,T6,ct hi]
  rw [show [(RP (n+4)).cell (r9 e) 0,(RP (n+4)).cell (r9 e) 1,(RP (n+4)).cell (r9 e) 2,(RP (n+4)).cell (r9 e) 3,(RP (n+4)).cell (r9 e) 4,(RP (n+4)).cell (r9 e) 5,(RP (n+4)).cell (r9 e) 6,(RP (n+4)).cell (r9 e) 7,(RP (n+4)).cell (r9 e) 8]=r9 e from rfl]
  simp only [ah,s58,ab,ac,ae,aL,ck,aa,ao,ay,hw,fR]
  by_cases h1:dE e
  ·simp only [h1,T6,T8,V7,X5,Xy,Tk,T0,T9]
   by_cases h0:i=0
   ·subst h0
    rw [T5 (by simp)]
    simp only [eg,T6,o6,V7]
    exact ih'
   ·rw [T1 (by simp;omega),br,ke (by omega) (by omega)]
    have hp:(a.getD [])[i - 1]?=some ((a.getD [])[i - 1]'(by omega)):=Tc (by omega)
    rw [ct hp]
    simp only [r9,ak,bQ,aa,T4]
    have hq:eg (·.src) (a.getD []) i=some ((a.getD [])[i - 1]'(by omega)).src:=by simp [eg,h0,hp]
    rw [hq]
    by_cases h2:e.src≤((a.getD [])[i - 1]'(by omega)).src
    ·have h3:o6 (some ((a.getD [])[i - 1]'(by omega)).src) e.src=false:=by simp [o6];omega
     rw [T1 h2]
     simp only [h3,Xj,T0,T9]
    ·have h3:o6 (some ((a.getD [])[i - 1]'(by omega)).src) e.src=true:=by simp [o6];omega
     rw [T5 h2]
     simp only [h3,V7]
     exact ih'
  ·simp [h1]
theorem l24_1 (n:Nat) (a b c:Option (List E9)) (o:Option (List E5)) (hl:(b.getD []).length≤4611686018427387904) :
  ax [xu (RP (n+4))] M0 0 [d9 a,d9 b,d9 c,d5 o,d9 b,il (b.getD []).length,il 0] =
   if fR (fun e=>decide (dF e)) (·.src) none (b.getD [])=true then some (1,[.d (d9 a),.d (d9 b),.d (d9 c),.d (d5 o)]) else some (0,[.d (il 34)]):=by
 have:=be (β:=Unit) (b.getD []) hl (xu (RP (n+4))) (fun i _=>[.d (d9 a),.d (d9 b),.d (d9 c),.d (d5 o),.d (d9 b),.d (il (b.getD []).length),.d (il i)]) (fun _ _=>True)
  (fun i r _=>if fR (fun e=>decide (dF e)) (·.src) (eg (·.src) (b.getD []) i) r=true then some (1,[.d (d9 a),.d (d9 b),.d (d9 c),.d (d5 o)]) else some (0,[.d (il 34)]))
  (fun _ k _=>by simp [xu,fR]) ?_ M0 () trivial (cj hl)
 ·exact this
 ·intro i e r _ k hi hd hlt hw _ ih
  have ih':=ih () trivial
  rw [iS _ hi] at ih'
  have hlt':(i:Int) < ((b.getD []).length:Int):=by omega
  simp only [xu,ac,ag,aC,aa,hlt',T8,T6,ct hi]
  rw [show [(RP (n+4)).cell (r9 e) 0,(RP (n+4)).cell (r9 e) 1,(RP (n+4)).cell (r9 e) 2,(RP (n+4)).cell (r9 e) 3,(RP (n+4)).cell (r9 e) 4,(RP (n+4)).cell (r9 e) 5,(RP (n+4)).cell (r9 e) 6,(RP (n+4)).cell (r9 e) 7,(RP (n+4)).cell (r9 e) 8]=r9 e from rfl]
  simp only [ah,s60,ab,ac,ae,aL,ck,aa,ao,ay,hw,fR]
  by_cases h1:dF e
  ·simp only [h1,T6,T8,V7,X5,Xy,Tk,T0,T9]
   by_cases h0:i=0
   ·subst h0
    rw [T5 (by simp)]
    simp only [eg,T6,o6,V7]
    exact ih'
   ·rw [T1 (by simp;omega),br,ke (by omega) (by omega)]
    have hp:(b.getD [])[i - 1]?=some ((b.getD [])[i - 1]'(by omega)):=Tc (by omega)
    rw [ct hp]
    simp only [r9,ak,bQ,aa,T4]
    have hq:eg (·.src) (b.getD []) i=some ((b.getD [])[i - 1]'(by omega)).src:=by simp [eg,h0,hp]
    rw [hq]
    by_cases h2:e.src≤((b.getD [])[i - 1]'(by omega)).src
    ·have h3:o6 (some ((b.getD [])[i - 1]'(by omega)).src) e.src=false:=by simp [o6];omega
     rw [T1 h2]
     simp only [h3,Xj,T0,T9]
    ·have h3:o6 (some ((b.getD [])[i - 1]'(by omega)).src) e.src=true:=by simp [o6];omega
     rw [T5 h2]
     simp only [h3,V7]
     exact ih'
  ·simp [h1]
theorem l24_2 (n:Nat) (a b c:Option (List E9)) (o:Option (List E5)) (hl:(c.getD []).length≤4611686018427387904) :
  ax [xt (RP (n+4))] M0 0 [d9 a,d9 b,d9 c,d5 o,d9 c,il (c.getD []).length,il 0] =
   if fR (fun e=>decide (dG e)) (·.src) none (c.getD [])=true then some (1,[.d (d9 a),.d (d9 b),.d (d9 c),.d (d5 o)]) else some (0,[.d (il 34)]):=by
 have:=be (β:=Unit) (c.getD []) hl (xt (RP (n+4))) (fun i _=>[.d (d9 a),.d (d9 b),.d (d9 c),.d (d5 o),.d (d9 c),.d (il (c.getD []).length),.d (il i)]) (fun _ _=>True)
  (fun i r _=>if fR (fun e=>decide (dG e)) (·.src) (eg (·.src) (c.getD []) i) r=true then some (1,[.d (d9 a),.d (d9 b),.d (d9 c),.d (d5 o)]) else some (0,[.d (il 34)]))
  (fun _ k _=>by simp [xt,fR]) ?_ M0 () trivial (cj hl)
 ·exact this
 ·intro i e r _ k hi hd hlt hw _ ih
  have ih':=ih () trivial
  rw [iS _ hi] at ih'
  have hlt':(i:Int) < ((c.getD []).length:Int):=by omega
  simp only [xt,ac,ag,aC,aa,hlt',T8,T6,ct hi]
  rw [show [(RP (n+4)).cell (r9 e) 0,(RP (n+4)).cell (r9 e) 1,(RP (n+4)).cell (r9 e) 2,(RP (n+4)).cell (r9 e) 3,(RP (n+4)).cell (r9 e) 4,(RP (n+4)).cell (r9 e) 5,(RP (n+4)).cell (r9 e) 6,(RP (n+4)).cell (r9 e) 7,(RP (n+4)).cell (r9 e) 8]=r9 e from rfl]
  simp only [ah,s62,ab,ac,ae,aL,ck,aa,ao,ay,hw,fR]
  by_cases h1:dG e
  ·simp only [h1,T6,T8,V7,X5,Xy,Tk,T0,T9]
   by_cases h0:i=0
   ·subst h0
    rw [T5 (by simp)]
    simp only [eg,T6,o6,V7]
    exact ih'
   ·rw [T1 (by simp;omega),br,ke (by omega) (by omega)]
    have hp:(c.getD [])[i - 1]?=some ((c.getD [])[i - 1]'(by omega)):=Tc (by omega)
    rw [ct hp]
    simp only [r9,ak,bQ,aa,T4]
    have hq:eg (·.src) (c.getD []) i=some ((c.getD [])[i - 1]'(by omega)).src:=by simp [eg,h0,hp]
    rw [hq]
    by_cases h2:e.src≤((c.getD [])[i - 1]'(by omega)).src
    ·have h3:o6 (some ((c.getD [])[i - 1]'(by omega)).src) e.src=false:=by simp [o6];omega
     rw [T1 h2]
     simp only [h3,Xj,T0,T9]
    ·have h3:o6 (some ((c.getD [])[i - 1]'(by omega)).src) e.src=true:=by simp [o6];omega
     rw [T5 h2]
     simp only [h3,V7]
     exact ih'
  ·simp [h1]
theorem l24_3 (n:Nat) (a b c:Option (List E9)) (o:Option (List E5)) (hl:(o.getD []).length≤4611686018427387904) :
  ax [xr (RP (n+4))] M0 0 [d9 a,d9 b,d9 c,d5 o,d5 o,il (o.getD []).length,il 0] =
   if fR (fun e=>decide (fp e)) (·.src) none (o.getD [])=true then some (1,[]) else some (0,[.d (il 34)]):=by
 have:=be (β:=Unit) (o.getD []) hl (xr (RP (n+4))) (fun i _=>[.d (d9 a),.d (d9 b),.d (d9 c),.d (d5 o),.d (d5 o),.d (il (o.getD []).length),.d (il i)]) (fun _ _=>True)
  (fun i r _=>if fR (fun e=>decide (fp e)) (·.src) (eg (·.src) (o.getD []) i) r=true then some (1,[]) else some (0,[.d (il 34)]))
  (fun _ k _=>by simp [xr,fR]) ?_ M0 () trivial (cj hl)
 ·exact this
 ·intro i e r _ k hi hd hlt hw _ ih
  have ih':=ih () trivial
  rw [iS _ hi] at ih'
  have hlt':(i:Int) < ((o.getD []).length:Int):=by omega
  simp only [xr,ac,ag,aC,aa,hlt',T8,T6,vz hi]
  rw [show [(RP (n+4)).cell (r5 e) 0,(RP (n+4)).cell (r5 e) 1,(RP (n+4)).cell (r5 e) 2,(RP (n+4)).cell (r5 e) 3,(RP (n+4)).cell (r5 e) 4]=r5 e from rfl]
  simp only [ah,s64,ab,ac,ae,aL,ck,aa,ao,ay,hw,fR]
  by_cases h1:fp e
  ·simp only [h1,T6,T8,V7,X5,Xy,Tk,T0,T9]
   by_cases h0:i=0
   ·subst h0
    rw [T5 (by simp)]
    simp only [eg,T6,o6,V7]
    exact ih'
   ·rw [T1 (by simp;omega),br,ke (by omega) (by omega)]
    have hp:(o.getD [])[i - 1]?=some ((o.getD [])[i - 1]'(by omega)):=Tc (by omega)
    rw [vz hp]
    simp only [r5,ak,bQ,aa,T4]
    have hq:eg (·.src) (o.getD []) i=some ((o.getD [])[i - 1]'(by omega)).src:=by simp [eg,h0,hp]
    rw [hq]
    by_cases h2:e.src≤((o.getD [])[i - 1]'(by omega)).src
    ·have h3:o6 (some ((o.getD [])[i - 1]'(by omega)).src) e.src=false:=by simp [o6];omega
     rw [T1 h2]
     simp only [h3,Xj,T0,T9]
    ·have h3:o6 (some ((o.getD [])[i - 1]'(by omega)).src) e.src=true:=by simp [o6];omega
     rw [T5 h2]
     simp only [h3,V7]
     exact ih'
  ·simp [h1]
def aA (a b c:List E9) (o:List E5):Bool:=decide (a.length≤60∧b.length≤60∧c.length≤60∧o.length≤60)&&fR (fun e=>decide (dE e)) (·.src) none a&&fR (fun e=>decide (dF e)) (·.src) none b&&fR (fun e=>decide (dG e)) (·.src) none c&&fR (fun e=>decide (fp e)) (·.src) none o
theorem s24 (n:Nat) (a b c:Option (List E9)) (o:Option (List E5)):FN (n+5) 24 [d9 a,d9 b,d9 c,d5 o]=some (0,[.d (il (if aA a b c o then 0 else 34))]):=by
 rw [FS,Of]
 simp only [G24,cS,yD,ae,ck,aa,ao,T4]
 by_cases h:((a.getD []).length≤60∧(b.getD []).length≤60∧(c.getD []).length≤60∧(o.getD []).length≤60)
 ·obtain ⟨h1,h2,h3,h4⟩:=h
  rw [T5 (by omega),T5 (by omega),T5 (by omega),T5 (by omega)]
  simp only [aD,l24_0 n a b c o (by omega),aA,h1,h2,h3,h4,Vr,T8,V7]
  by_cases g1:fR (fun e=>decide (dE e)) (·.src) none (a.getD [])=true
  ·simp only [g1,T6,bY,ac,ag,cS,l24_1 n a b c o (by omega),V7]
   by_cases g2:fR (fun e=>decide (dF e)) (·.src) none (b.getD [])=true
   ·simp only [g2,T6,bY,ac,ag,cS,l24_2 n a b c o (by omega),V7]
    by_cases g3:fR (fun e=>decide (dG e)) (·.src) none (c.getD [])=true
    ·simp only [g3,T6,bY,ac,ag,yD,l24_3 n a b c o (by omega),V7]
     by_cases g4:fR (fun e=>decide (fp e)) (·.src) none (o.getD [])=true
     ·simp only [g4,T6,bY]
     ·simp [g4]
    ·simp [g3]
   ·simp [g2]
  ·simp [g1]
 ·have hk:aA a b c o=false:=by simp [aA,h]
  rw [hk]
  simp only [T0,T9]
  repeat' split
  all_goals first | rfl | (exfalso;omega)
end
section
def rI (z:Int):List D:=[il z]
def dI (o:Option (List Int)):D:=dR 1 (o.map (·.map rI))
section
variable {Fn:Nat→List D→aq} {FnD:D→List Sh→List D→aq} {m:Nat}
theorem cA (o:Option (List Int)) (k:D→aq):(af Fn FnD m).lenD (dI o) k=k (il (o.getD []).length):=by rw [dI,kZ,fT,Tj]
theorem cQ {o:Option (List Int)} {i:Nat} {c:Int} (h:(o.getD [])[i]?=some c) (k:List D→aq):(af Fn FnD m).rowD 1 (dI o) (il i) k=k (rI c):=by
 rw [dI,iQ,T1 (by omega),fT,V0,Tm,h];rfl
end
noncomputable abbrev FD (n:Nat):D→List Sh→List D→aq:=c6 Tryz.prog (di tb Tryz.prog) (FN n)
def gC {α:Type} (p:α→Bool):List α→Option Nat
 | []=>none
 | e::r=>if p e then some 0 else (gC p r).map (·+1)
def fS {α:Type} (p:α→Bool) (l:List α):Int:=match gC p l with
 | some i=>(i:Int)
 | none=>-1
theorem li {α:Type} (p:α→Bool) (l:List α):decide (0≤fS p l)=l.any p:=by
 have h:(gC p l).isSome=l.any p:=by
  induction l with
  | nil=>rfl
  | cons e r ih =>
   simp only [gC,W2]
   cases p e<;>simp [ih]
 unfold fS
 cases hf:gC p l with
 | none=>rw [hf] at h;rw [←h];decide
 | some i=>rw [hf] at h;rw [←h];simp
theorem Fm {P:Program} {cfg:Cf3} {Fn:Nat→List D→aq} {f:Nat} {caps:List D} {sh:List Sh} {ds:List D} {vs:List VD} (h3:f < 2000000) (hv:eW sh ds=some vs):c6 P cfg Fn (.fn f caps) sh ds=Fl cfg Fn f (vs++caps.map .one):=by
 simp only [c6,hv,T1 h3]
theorem Oz {T:Tb3} {P:Program} {Fn:Nat→List D→aq} {f:Nat} {caps:List D} {sh sh':List Sh} {ds:List D} {vs:List VD} {xs:List D} {z:D} (hlt:f < 1000000) (hv:eW sh ds=some vs) (hash:T.ash f=some sh') (hx:cK sh' (vs++caps.map .one)=some xs)
  (hr:T.rsk f=[[(false,[.d])]]) (hf:Fn f xs=some (0,[.d z])):c6 P (di T P) Fn (.fn f caps) sh ds=some (0,[.d z]):=by
 have h1:(di T P).ash f=some sh':=by simp only [di,T1 hlt,hash]
 have h2:tZ ((di T P).rsk f)=true:=by simp only [di,hr];rfl
 have h3:f < 2000000:=Wh hlt (by decide)
 rw [Fm h3 hv]
 simp only [Fl,h1,hx,h2,T6,hf]
theorem fj {n f:Nat} {caps:List D} {sh:List Sh} (sh':List Sh) {ds:List D} (vs:List VD) {xs:List D} {z:D} (hlt:f < 1000000) (hv:eW sh ds=some vs) (hash:tb.ash f=some sh') (hx:cK sh' (vs++caps.map .one)=some xs)
  (hr:tb.rsk f=[[(false,[.d])]]) (hf:FN n f xs=some (0,[.d z])):FD n (.fn f caps) sh ds=some (0,[.d z]):=Oz hlt hv hash hx hr hf
theorem Dr (n:Nat) (o:Option (List E9)) (hl:(o.getD []).length≤4611686018427387904) (x:D) (p:E9→Bool) (hp:∀ e∈o.getD [],FD n x [.agg 9] (r9 e)=some (0,[.d (bl (p e))])) :
  FN (n+1) 181 [d9 o,x]=some (0,[.d (il (fS p (o.getD [])))]):=by
 rw [FS,uR]
 simp only [G181,cS,ae,aD]
 have:=be (β:=Unit) (o.getD []) hl (uA (RP n)) (fun i _=>[.d (d9 o),.d x,.d (il (o.getD []).length),.d (il i)]) (fun _ _=>True)
  (fun i r _=>match gC p r with | some j=>some (0,[.d (il ((i+j:Nat):Int))]) | none=>some (1,[]))
  (fun _ k _=>by simp [uA,gC]) ?_ M0 () trivial (cj hl)
 ·simp only [V9,Tz] at this
  rw [this]
  unfold fS
  cases gC p (o.getD [])<;>simp
 ·intro i e r _ k hi hd hlt hw _ ih
  have ih':=ih () trivial
  have hlt':(i:Int) < ((o.getD []).length:Int):=by omega
  have hmem:e∈o.getD []:=Vb hi
  simp only [uA,ac,ag,aC,aa,hlt',T8,T6,ct hi]
  rw [show [(RP n).cell (r9 e) 0,(RP n).cell (r9 e) 1,(RP n).cell (r9 e) 2,(RP n).cell (r9 e) 3,(RP n).cell (r9 e) 4,(RP n).cell (r9 e) 5,(RP n).cell (r9 e) 6,(RP n).cell (r9 e) 7,(RP n).cell (r9 e) 8]=r9 e from rfl]
  have hpe:c6 Tryz.prog (di tb Tryz.prog) (FN n) x [.agg 9] (r9 e)=some (0,[.d (bl (p e))]):=hp e hmem
  rw [gz,hpe]
  simp only [ab,ac,aa,ao,ay,ae,hw]
  by_cases h:p e=true
  ·simp only [h,T6,gC,Wk]
  ·have h':p e=false:=by simpa using h
   simp only [h',T0,T9,gC]
   refine Eq.trans ?_ (Eq.trans ih' ?_)
   ·rfl
   ·cases gC p r with
    | none=>rfl
    | some j=>simp only [Th];congr 5;omega
theorem s190 (n:Nat) (o:Option (List E9)) (hl:(o.getD []).length≤4611686018427387904) (x:D) (p:E9→Bool) (hp:∀ e∈o.getD [],FD n x [.agg 9] (r9 e)=some (0,[.d (bl (p e))])) :
  FN (n+2) 190 [d9 o,x]=some (0,[.d (bl ((o.getD []).any p))]):=by
 rw [FS,HT]
 simp only [G190,ah,Dr n o hl x p hp,ab,ac,ae,bQ,ao,li]
theorem s119 (n:Nat) (o:Option (List E9)) (hl:(o.getD []).length≤4611686018427387904) (x:D) (p:E9→Bool) (hp:∀ e∈o.getD [],FD n x [.agg 9] (r9 e)=some (0,[.d (bl (p e))])) :
  FN (n+3) 119 [d9 o,x]=some (0,[.d (bl ((o.getD []).any p))]):=by
 rw [FS,IG]
 simp only [G119,ah,s190 n o hl x p hp,ab,ac,ao]
theorem Lw (n:Nat) (o:Option (List E9)) (hl:(o.getD []).length≤4611686018427387904) (x:D) (p:E9→Bool) (hp:∀ e∈o.getD [],FD n x [.agg 9] (r9 e)=some (0,[.d (bl (p e))])) :
  FN (n+1) 182 [d9 o,x]=some (0,[.d (il (fS p (o.getD [])))]):=(HZ (RP n) _ _).trans ((uR (RP n) _ _).symm.trans (Dr n o hl x p hp))
theorem s191 (n:Nat) (o:Option (List E9)) (hl:(o.getD []).length≤4611686018427387904) (x:D) (p:E9→Bool) (hp:∀ e∈o.getD [],FD n x [.agg 9] (r9 e)=some (0,[.d (bl (p e))])) :
  FN (n+2) 191 [d9 o,x]=some (0,[.d (bl ((o.getD []).any p))]):=by
 rw [FS,HS]
 simp only [G191,ah,Lw n o hl x p hp,ab,ac,ae,bQ,ao,li]
theorem s121 (n:Nat) (o:Option (List E9)) (hl:(o.getD []).length≤4611686018427387904) (x:D) (p:E9→Bool) (hp:∀ e∈o.getD [],FD n x [.agg 9] (r9 e)=some (0,[.d (bl (p e))])) :
  FN (n+3) 121 [d9 o,x]=some (0,[.d (bl ((o.getD []).any p))]):=by
 rw [FS,IE]
 simp only [G121,ah,s191 n o hl x p hp,ab,ac,ao]
theorem Lv (n:Nat) (o:Option (List E9)) (hl:(o.getD []).length≤4611686018427387904) (x:D) (p:E9→Bool) (hp:∀ e∈o.getD [],FD n x [.agg 9] (r9 e)=some (0,[.d (bl (p e))])) :
  FN (n+1) 183 [d9 o,x]=some (0,[.d (il (fS p (o.getD [])))]):=(HY (RP n) _ _).trans ((uR (RP n) _ _).symm.trans (Dr n o hl x p hp))
theorem s192 (n:Nat) (o:Option (List E9)) (hl:(o.getD []).length≤4611686018427387904) (x:D) (p:E9→Bool) (hp:∀ e∈o.getD [],FD n x [.agg 9] (r9 e)=some (0,[.d (bl (p e))])) :
  FN (n+2) 192 [d9 o,x]=some (0,[.d (bl ((o.getD []).any p))]):=by
 rw [FS,HR]
 simp only [G192,ah,Lv n o hl x p hp,ab,ac,ae,bQ,ao,li]
theorem s123 (n:Nat) (o:Option (List E9)) (hl:(o.getD []).length≤4611686018427387904) (x:D) (p:E9→Bool) (hp:∀ e∈o.getD [],FD n x [.agg 9] (r9 e)=some (0,[.d (bl (p e))])) :
  FN (n+3) 123 [d9 o,x]=some (0,[.d (bl ((o.getD []).any p))]):=by
 rw [FS,IC]
 simp only [G123,ah,s192 n o hl x p hp,ab,ac,ao]
theorem Lu (n:Nat) (o:Option (List E5)) (hl:(o.getD []).length≤4611686018427387904) (x:D) (p:E5→Bool) (hp:∀ e∈o.getD [],FD n x [.agg 5] (r5 e)=some (0,[.d (bl (p e))])) :
  FN (n+1) 184 [d5 o,x]=some (0,[.d (il (fS p (o.getD [])))]):=by
 rw [FS,HX]
 simp only [G184,yD,ae,aD]
 have:=be (β:=Unit) (o.getD []) hl (uw (RP n)) (fun i _=>[.d (d5 o),.d x,.d (il (o.getD []).length),.d (il i)]) (fun _ _=>True)
  (fun i r _=>match gC p r with | some j=>some (0,[.d (il ((i+j:Nat):Int))]) | none=>some (1,[]))
  (fun _ k _=>by simp [uw,gC]) ?_ M0 () trivial (cj hl)
 ·simp only [V9,Tz] at this
  rw [this]
  unfold fS
  cases gC p (o.getD [])<;>simp
 ·intro i e r _ k hi hd hlt hw _ ih
  have ih':=ih () trivial
  have hlt':(i:Int) < ((o.getD []).length:Int):=by omega
  have hmem:e∈o.getD []:=Vb hi
  simp only [uw,ac,ag,aC,aa,hlt',T8,T6,vz hi]
  rw [show [(RP n).cell (r5 e) 0,(RP n).cell (r5 e) 1,(RP n).cell (r5 e) 2,(RP n).cell (r5 e) 3,(RP n).cell (r5 e) 4]=r5 e from rfl]
  have hpe:c6 Tryz.prog (di tb Tryz.prog) (FN n) x [.agg 5] (r5 e)=some (0,[.d (bl (p e))]):=hp e hmem
  rw [gz,hpe]
  simp only [ab,ac,aa,ao,ay,ae,hw]
  by_cases h:p e=true
  ·simp only [h,T6,gC,Wk]
  ·have h':p e=false:=by simpa using h
   simp only [h',T0,T9,gC]
   refine Eq.trans ?_ (Eq.trans ih' ?_)
   ·rfl
   ·cases gC p r with
    | none=>rfl
    | some j=>simp only [Th];congr 5;omega
theorem s193 (n:Nat) (o:Option (List E5)) (hl:(o.getD []).length≤4611686018427387904) (x:D) (p:E5→Bool) (hp:∀ e∈o.getD [],FD n x [.agg 5] (r5 e)=some (0,[.d (bl (p e))])) :
  FN (n+2) 193 [d5 o,x]=some (0,[.d (bl ((o.getD []).any p))]):=by
 rw [FS,HQ]
 simp only [G193,ah,Lu n o hl x p hp,ab,ac,ae,bQ,ao,li]
theorem s125 (n:Nat) (o:Option (List E5)) (hl:(o.getD []).length≤4611686018427387904) (x:D) (p:E5→Bool) (hp:∀ e∈o.getD [],FD n x [.agg 5] (r5 e)=some (0,[.d (bl (p e))])) :
  FN (n+3) 125 [d5 o,x]=some (0,[.d (bl ((o.getD []).any p))]):=by
 rw [FS,IA]
 simp only [G125,ah,s193 n o hl x p hp,ab,ac,ao]
theorem G4 (n:Nat) (o:Option (List Int)) (hl:(o.getD []).length≤4611686018427387904) (x:D) (p:Int→Bool) (hp:∀ e∈o.getD [],FD n x [.one] (rI e)=some (0,[.d (bl (p e))])) :
  FN (n+1) 186 [dI o,x]=some (0,[.d (il (fS p (o.getD [])))]):=by
 rw [FS,HV]
 simp only [G186,cA,ae,aD]
 have:=be (β:=Unit) (o.getD []) hl (uu (RP n)) (fun i _=>[.d (dI o),.d x,.d (il (o.getD []).length),.d (il i)]) (fun _ _=>True)
  (fun i r _=>match gC p r with | some j=>some (0,[.d (il ((i+j:Nat):Int))]) | none=>some (1,[]))
  (fun _ k _=>by simp [uu,gC]) ?_ M0 () trivial (cj hl)
 ·simp only [V9,Tz] at this
  rw [this]
  unfold fS
  cases gC p (o.getD [])<;>simp
 ·intro i e r _ k hi hd hlt hw _ ih
  have ih':=ih () trivial
  have hlt':(i:Int) < ((o.getD []).length:Int):=by omega
  have hmem:e∈o.getD []:=Vb hi
  simp only [uu,ac,ag,aC,aa,hlt',T8,T6,cQ hi]
  rw [show [(RP n).cell (rI e) 0]=rI e from rfl]
  have hpe:c6 Tryz.prog (di tb Tryz.prog) (FN n) x [.one] (rI e)=some (0,[.d (bl (p e))]):=hp e hmem
  rw [gz,hpe]
  simp only [ab,ac,aa,ao,ay,ae,hw]
  by_cases h:p e=true
  ·simp only [h,T6,gC,Wk]
  ·have h':p e=false:=by simpa using h
   simp only [h',T0,T9,gC]
   refine Eq.trans ?_ (Eq.trans ih' ?_)
   ·rfl
   ·cases gC p r with
    | none=>rfl
    | some j=>simp only [Th];congr 5;omega
theorem s206 (n:Nat) (o:Option (List Int)) (hl:(o.getD []).length≤4611686018427387904) (x:D) (p:Int→Bool) (hp:∀ e∈o.getD [],FD n x [.one] (rI e)=some (0,[.d (bl (p e))])) :
  FN (n+2) 206 [dI o,x]=some (0,[.d (bl ((o.getD []).any p))]):=by
 rw [FS,HE]
 simp only [G206,ah,G4 n o hl x p hp,ab,ac,ae,bQ,ao,li]
theorem s154 (n:Nat) (o:Option (List Int)) (hl:(o.getD []).length≤4611686018427387904) (x:D) (p:Int→Bool) (hp:∀ e∈o.getD [],FD n x [.one] (rI e)=some (0,[.d (bl (p e))])) :
  FN (n+3) 154 [dI o,x]=some (0,[.d (bl ((o.getD []).any p))]):=by
 rw [FS,Ii]
 simp only [G154,ah,s206 n o hl x p hp,ab,ac,ao]
theorem s120 (n:Nat) (e:E9):FN (n+5) 120 (r9 e)=some (0,[.d (bl (!decide (dE e)))]):=by
 rw [r9,FS,IF]
 have:=s57 n e
 rw [r9] at this
 simp only [G120,ah,this,ab,ac,ae,aL,ao]
 by_cases h:dE e<;>simp [h]
theorem d120 (n:Nat) (e:E9):FD (n+5) (.fn 120 []) [.agg 9] (r9 e)=some (0,[.d (bl (!decide (dE e)))]):=by
 have:=s120 n e
 rw [r9] at this
 exact fj [.agg 9] [.agg (r9 e)] (by decide) rfl (by kernel_rfl) rfl (by kernel_rfl) this
theorem s122 (n:Nat) (e:E9):FN (n+5) 122 (r9 e)=some (0,[.d (bl (!decide (dF e)))]):=by
 rw [r9,FS,ID]
 have:=s59 n e
 rw [r9] at this
 simp only [G122,ah,this,ab,ac,ae,aL,ao]
 by_cases h:dF e<;>simp [h]
theorem d122 (n:Nat) (e:E9):FD (n+5) (.fn 122 []) [.agg 9] (r9 e)=some (0,[.d (bl (!decide (dF e)))]):=by
 have:=s122 n e
 rw [r9] at this
 exact fj [.agg 9] [.agg (r9 e)] (by decide) rfl (by kernel_rfl) rfl (by kernel_rfl) this
theorem s124 (n:Nat) (e:E9):FN (n+5) 124 (r9 e)=some (0,[.d (bl (!decide (dG e)))]):=by
 rw [r9,FS,IB]
 have:=s61 n e
 rw [r9] at this
 simp only [G124,ah,this,ab,ac,ae,aL,ao]
 by_cases h:dG e<;>simp [h]
theorem d124 (n:Nat) (e:E9):FD (n+5) (.fn 124 []) [.agg 9] (r9 e)=some (0,[.d (bl (!decide (dG e)))]):=by
 have:=s124 n e
 rw [r9] at this
 exact fj [.agg 9] [.agg (r9 e)] (by decide) rfl (by kernel_rfl) rfl (by kernel_rfl) this
theorem s126 (n:Nat) (e:E5):FN (n+5) 126 (r5 e)=some (0,[.d (bl (!decide (fp e)))]):=by
 rw [r5,FS,Iz]
 have:=s63 n e
 rw [r5] at this
 simp only [G126,ah,this,ab,ac,ae,aL,ao]
 by_cases h:fp e<;>simp [h]
theorem d126 (n:Nat) (e:E5):FD (n+5) (.fn 126 []) [.agg 5] (r5 e)=some (0,[.d (bl (!decide (fp e)))]):=by
 have:=s126 n e
 rw [r5] at this
 exact fj [.agg 5] [.agg (r5 e)] (by decide) rfl (by kernel_rfl) rfl (by kernel_rfl) this
theorem s155 (n:Nat) (z:Int):FN (n+3) 155 [il z]=some (0,[.d (bl (!decide (0≤z∧z≤4166)))]):=by
 rw [FS,Ih]
 simp only [G155,ah,G7,ab,ac,aP,ao]
theorem d155 (n:Nat) (z:Int):FD (n+3) (.fn 155 []) [.one] (rI z)=some (0,[.d (bl (!decide (0≤z∧z≤4166)))]):=by
 exact fj [.one] [.one (il z)] (by decide) rfl (by kernel_rfl) rfl (by kernel_rfl) (s155 n z)
end
section
def ff (e0:List Yr) (e1:Rr→List Yr):Rr→aq
 | []=>some (0,e0)
 | w::ws=>some (1,e1 (w::ws))
theorem cq {α:Type} (l:List α) (hl:l.length≤4611686018427387904) (g:α→Option (List D)) (b0 b1:(Nat→List Yr→aq)→List Yr→aq) (z:Nat→List Yr) (nz:Nat→Rr→List Yr) (e0:List Yr) (e1:Rr→List Yr)
  (h0e:∀ k,b0 k (z l.length)=some (0,e0)) (h1e:∀ rs k,b1 k (nz l.length rs)=some (1,e1 rs))
  (h0:∀ (i:Nat) c (k:Nat→List Yr→aq),l[i]?=some c→(i:Int) < (l.length:Int)→IntKind.i64.wrap ((i:Int)+1)=((i+1:Nat):Int)→b0 k (z i)=match g c with
   | none=>k 0 (z (i+1))
   | some w=>k 1 (nz (i+1) [w]))
  (h1:∀ (i:Nat) c (rs:Rr) (k:Nat→List Yr→aq),l[i]?=some c→(i:Int) < (l.length:Int)→IntKind.i64.wrap ((i:Int)+1)=((i+1:Nat):Int)→rs.length≤i→b1 k (nz i rs)=match g c with
   | none=>k 1 (nz (i+1) rs)
   | some w=>k 1 (nz (i+1) (rs++[w]))) :
  ax [b0,b1] M0 0 (z 0)=ff e0 e1 (l.filterMap g):=by
 have:=e9 (σ:=Nat) [b0,b1] (fun i=>match (l.take i).filterMap g with
   | []=>(0,z i)
   | w::ws=>(1,nz i (w::ws))) (fun i=>l.length - i) (fun i=>i≤l.length) (fun _=>ff e0 e1 (l.filterMap g)) ?_ M0 0 (Y5 _) (by have:=cj hl;unfold M0;omega)
 ·simpa using this
 ·intro i k hi ih
  by_cases h:i < l.length
  ·have hc:l[i]?=some l[i]:=Tc h
   have ht:l.take (i+1)=l.take i++[l[i]]:=by rw [Wn,hc];rfl
   have hlt:(i:Int) < (l.length:Int):=by omega
   have hw:IntKind.i64.wrap ((i:Int)+1)=((i+1:Nat):Int):=by rw [aE (by omega) (by omega)];simp
   have ih':=ih (i+1) (by omega) (by omega)
   simp only [ht,List.filterMap_append,List.filterMap_cons,List.filterMap_nil] at ih'
   have hlen:((l.take i).filterMap g).length≤i:=Vn (List.length_filterMap_le _ _) (by simp;omega)
   revert ih' hlen
   cases (l.take i).filterMap g with
   | nil =>
    intro ih' _
    refine ⟨b0,rfl,?_⟩
    simp only
    rw [h0 i _ k hc hlt hw]
    cases hg:g l[i] with
    | none=>rw [hg] at ih';simpa using ih'
    | some w=>rw [hg] at ih';simpa using ih'
   | cons w ws =>
    intro ih' hlen
    refine ⟨b1,rfl,?_⟩
    simp only
    rw [h1 i _ (w::ws) k hc hlt hw hlen]
    cases hg:g l[i] with
    | none=>rw [hg] at ih';simpa using ih'
    | some w'=>rw [hg] at ih';simpa using ih'
  ·have hil:i=l.length:=by omega
   subst hil
   simp only [Vf]
   cases l.filterMap g with
   | nil=>exact ⟨b0,rfl,h0e k⟩
   | cons w ws=>exact ⟨b1,rfl,h1e _ k⟩
section
variable {Fn:Nat→List D→aq} {FnD:D→List Sh→List D→aq} {m:Nat}
theorem mO (t:Nat) (g:Bool) (l:List D):(af Fn FnD m).ifD t g l=.ifc t g l:=rfl
end
attribute [simp] mO
def bx {α:Type}:List α→Option (List α)
 | []=>none
 | x::xs=>some (x::xs)
theorem aJ {α:Type} (l:List α):(bx l).getD []=l:=by cases l<;>rfl
theorem Mz (n:Nat) (o:Option (List E9)) (hl:(o.getD []).length*72≤140737488351232) (x1 x2 x3:D):ax [uQ (RP (n)),uP (RP (n))] M0 0 [d9 o,x1,x2,x3,d9 o,il (o.getD []).length,il 0] =
  ff [d9 o,x1,x2,x3] (fun rs=>[.d (d9 o),.d x1,.d x2,.d x3,.r rs,.n rs.length,.n rs.length]) ((o.getD []).filterMap (fun e=>some [.ifc 200 true (r9 e)])):=by
 refine cq (o.getD []) (by omega) (fun e=>some [.ifc 200 true (r9 e)]) _ _ (fun i=>[.d (d9 o),.d x1,.d x2,.d x3,.d (d9 o),.d (il (o.getD []).length),.d (il (i:Nat))]) (fun i rs=>[.d (d9 o),.d x1,.d x2,.d x3,.d (d9 o),.d (il (o.getD []).length),.d (il (i:Nat)),.r rs,.n rs.length,.n rs.length]) [d9 o,x1,x2,x3] (fun rs=>[.d (d9 o),.d x1,.d x2,.d x3,.r rs,.n rs.length,.n rs.length]) ?_ ?_ ?_ ?_
 ·intro q;simp [uQ]
 ·intro rs q;simp [uP]
 ·intro i c q hi hlt hw
  simp only [uQ,ac,ag,aC,aa,hlt,T8,T6,ct hi,bj,aI,aM,aR,aU,Tb,Td,Tg,Tq,bT,bc,ae,ay,hw,mO]
  rw [T1 (by simp [])]
  rfl
 ·intro i c rs q hi hlt hw hrs
  simp only [uP,ac,ag,b8,aZ,aN,b9,aC,aa,hlt,T8,T6,ct hi,bj,aI,aM,aR,aU,Tb,Td,Tg,Tq,bc,ae,ay,hw,mO,bV,cX,Tp]
  rw [T1 (by simp [];omega)]
  rfl
theorem My (n:Nat) (o:Option (List E9)) (hl:(o.getD []).length*72≤140737488351232) (x0 x2 x3 p0:D):ax [uO (RP (n)),uN (RP (n))] M0 0 [x0,d9 o,x2,x3,d9 o,il (o.getD []).length,il 0,p0] =
  ff [x0,d9 o,x2,x3,p0] (fun rs=>[.d x0,.d (d9 o),.d x2,.d x3,.r rs,.d p0,.n rs.length,.n rs.length]) ((o.getD []).filterMap (fun e=>some [.ifc 201 true (r9 e)])):=by
 refine cq (o.getD []) (by omega) (fun e=>some [.ifc 201 true (r9 e)]) _ _ (fun i=>[.d x0,.d (d9 o),.d x2,.d x3,.d (d9 o),.d (il (o.getD []).length),.d (il (i:Nat)),.d p0]) (fun i rs=>[.d x0,.d (d9 o),.d x2,.d x3,.d (d9 o),.d (il (o.getD []).length),.d (il (i:Nat)),.r rs,.d p0,.n rs.length,.n rs.length]) [x0,d9 o,x2,x3,p0] (fun rs=>[.d x0,.d (d9 o),.d x2,.d x3,.r rs,.d p0,.n rs.length,.n rs.length]) ?_ ?_ ?_ ?_
 ·intro q;simp [uO]
 ·intro rs q;simp [uN]
 ·intro i c q hi hlt hw
  simp only [uO,ac,ag,aC,aa,hlt,T8,T6,ct hi,bj,aI,aM,aR,aU,Tb,Td,Tg,Tq,bT,bc,ae,ay,hw,mO]
  rw [T1 (by simp [])]
  rfl
 ·intro i c rs q hi hlt hw hrs
  simp only [uN,ac,ag,b8,aZ,aN,b9,aC,aa,hlt,T8,T6,ct hi,bj,aI,aM,aR,aU,Tb,Td,Tg,Tq,bc,ae,ay,hw,mO,bV,cX,Tp]
  rw [T1 (by simp [];omega)]
  rfl
theorem Mx (n:Nat) (o:Option (List E9)) (hl:(o.getD []).length*72≤140737488351232) (x0 x1 x3 p0 p1:D):ax [uM (RP (n)),uL (RP (n))] M0 0 [x0,x1,d9 o,x3,d9 o,il (o.getD []).length,il 0,p0,p1] =
  ff [x0,x1,d9 o,x3,p0,p1] (fun rs=>[.d x0,.d x1,.d (d9 o),.d x3,.r rs,.d p0,.d p1,.n rs.length,.n rs.length]) ((o.getD []).filterMap (fun e=>some [.ifc 202 true (r9 e)])):=by
 refine cq (o.getD []) (by omega) (fun e=>some [.ifc 202 true (r9 e)]) _ _ (fun i=>[.d x0,.d x1,.d (d9 o),.d x3,.d (d9 o),.d (il (o.getD []).length),.d (il (i:Nat)),.d p0,.d p1]) (fun i rs=>[.d x0,.d x1,.d (d9 o),.d x3,.d (d9 o),.d (il (o.getD []).length),.d (il (i:Nat)),.r rs,.d p0,.d p1,.n rs.length,.n rs.length]) [x0,x1,d9 o,x3,p0,p1] (fun rs=>[.d x0,.d x1,.d (d9 o),.d x3,.r rs,.d p0,.d p1,.n rs.length,.n rs.length]) ?_ ?_ ?_ ?_
 ·intro q;simp [uM]
 ·intro rs q;simp [uL]
 ·intro i c q hi hlt hw
  simp only [uM,ac,ag,aC,aa,hlt,T8,T6,ct hi,bj,aI,aM,aR,aU,Tb,Td,Tg,Tq,bT,bc,ae,ay,hw,mO]
  rw [T1 (by simp [])]
  rfl
 ·intro i c rs q hi hlt hw hrs
  simp only [uL,ac,ag,b8,aZ,aN,b9,aC,aa,hlt,T8,T6,ct hi,bj,aI,aM,aR,aU,Tb,Td,Tg,Tq,bc,ae,ay,hw,mO,bV,cX,Tp]
  rw [T1 (by simp [];omega)]
  rfl
theorem Mw (n:Nat) (o:Option (List E5)) (hl:(o.getD []).length*40≤140737488351232) (p0 p1 p2:D):ax [uK (RP (n)),uJ (RP (n))] M0 0 [d5 o,il (o.getD []).length,il 0,p0,p1,p2] =
  ff [p0,p1,p2] (fun rs=>[.r rs,.d p0,.d p1,.d p2,.n rs.length,.n rs.length]) ((o.getD []).filterMap (fun e=>some [.ifc 203 true (r5 e)])):=by
 refine cq (o.getD []) (by omega) (fun e=>some [.ifc 203 true (r5 e)]) _ _ (fun i=>[.d (d5 o),.d (il (o.getD []).length),.d (il (i:Nat)),.d p0,.d p1,.d p2]) (fun i rs=>[.d (d5 o),.d (il (o.getD []).length),.d (il (i:Nat)),.r rs,.d p0,.d p1,.d p2,.n rs.length,.n rs.length]) [p0,p1,p2] (fun rs=>[.r rs,.d p0,.d p1,.d p2,.n rs.length,.n rs.length]) ?_ ?_ ?_ ?_
 ·intro q;simp [uK]
 ·intro rs q;simp [uJ]
 ·intro i c q hi hlt hw
  simp only [uK,ac,ag,aC,aa,hlt,T8,T6,vz hi,bj,aI,aM,aR,aU,Tb,Td,Tg,Tq,bT,bc,ae,ay,hw,mO]
  rw [T1 (by simp [])]
  rfl
 ·intro i c rs q hi hlt hw hrs
  simp only [uJ,ac,ag,b8,aZ,aN,b9,aC,aa,hlt,T8,T6,vz hi,bj,aI,aM,aR,aU,Tb,Td,Tg,Tq,bc,ae,ay,hw,mO,bV,cX,Tp]
  rw [T1 (by simp [];omega)]
  rfl
theorem l43_0 (n:Nat) (k:Int) (o:Option (List E9)) (hl:(o.getD []).length*72≤140737488351232) (x1 x2 x3:D):ax [Bu (RP (n+1)),Bt (RP (n+1))] M0 0 [il k,d9 o,x1,x2,x3,d9 o,il (o.getD []).length,il 0] =
  ff [il k,d9 o,x1,x2,x3] (fun rs=>[.d (il k),.d (d9 o),.d x1,.d x2,.d x3,.r rs,.n rs.length,.n rs.length]) ((o.getD []).filterMap (fun e=>if ec e.kn e.un k then some (r9 e) else none)):=by
 refine cq (o.getD []) (by omega) (fun e=>if ec e.kn e.un k then some (r9 e) else none) _ _ (fun i=>[.d (il k),.d (d9 o),.d x1,.d x2,.d x3,.d (d9 o),.d (il (o.getD []).length),.d (il (i:Nat))]) (fun i rs=>[.d (il k),.d (d9 o),.d x1,.d x2,.d x3,.d (d9 o),.d (il (o.getD []).length),.d (il (i:Nat)),.r rs,.n rs.length,.n rs.length]) [il k,d9 o,x1,x2,x3] (fun rs=>[.d (il k),.d (d9 o),.d x1,.d x2,.d x3,.r rs,.n rs.length,.n rs.length]) ?_ ?_ ?_ ?_
 ·intro q;simp [Bu]
 ·intro rs q;simp [Bt]
 ·intro i c q hi hlt hw
  simp only [Bu,ac,ag,aC,aa,hlt,T8,T6,ct hi,bj,aI,aM,aR,aU,Tb,Td,Tg,Tq,bT,bc,ae,ay,hw,r9,ak,ar,ah,JS,ab]
  by_cases hc:ec c.kn c.un k=true
  ·simp only [hc,T6]
   rw [T1 (by simp [])]
  ·simp only [hc,T9,T0]
 ·intro i c rs q hi hlt hw hrs
  simp only [Bt,ac,ag,b8,aZ,aN,b9,aC,aa,hlt,T8,T6,ct hi,bj,aI,aM,aR,aU,Tb,Td,Tg,Tq,bc,ae,ay,hw,r9,ak,ar,ah,JS,ab,bV,cX,Tp]
  by_cases hc:ec c.kn c.un k=true
  ·simp only [hc,T6]
   rw [T1 (by simp [];omega)]
  ·simp only [hc,T9,T0]
theorem l43_1 (n:Nat) (k:Int) (o:Option (List E9)) (hl:(o.getD []).length*72≤140737488351232) (x0 x2 x3 p0:D):ax [Bs (RP (n+1)),Br (RP (n+1))] M0 0 [il k,x0,d9 o,x2,x3,d9 o,il (o.getD []).length,il 0,p0] =
  ff [il k,x0,d9 o,x2,x3,p0] (fun rs=>[.d (il k),.d x0,.d (d9 o),.d x2,.d x3,.r rs,.d p0,.n rs.length,.n rs.length]) ((o.getD []).filterMap (fun e=>if ec e.kn e.un k then some (r9 e) else none)):=by
 refine cq (o.getD []) (by omega) (fun e=>if ec e.kn e.un k then some (r9 e) else none) _ _ (fun i=>[.d (il k),.d x0,.d (d9 o),.d x2,.d x3,.d (d9 o),.d (il (o.getD []).length),.d (il (i:Nat)),.d p0]) (fun i rs=>[.d (il k),.d x0,.d (d9 o),.d x2,.d x3,.d (d9 o),.d (il (o.getD []).length),.d (il (i:Nat)),.r rs,.d p0,.n rs.length,.n rs.length]) [il k,x0,d9 o,x2,x3,p0] (fun rs=>[.d (il k),.d x0,.d (d9 o),.d x2,.d x3,.r rs,.d p0,.n rs.length,.n rs.length]) ?_ ?_ ?_ ?_
 ·intro q;simp [Bs]
 ·intro rs q;simp [Br]
 ·intro i c q hi hlt hw
  simp only [Bs,ac,ag,aC,aa,hlt,T8,T6,ct hi,bj,aI,aM,aR,aU,Tb,Td,Tg,Tq,bT,bc,ae,ay,hw,r9,ak,ar,ah,JS,ab]
  by_cases hc:ec c.kn c.un k=true
  ·simp only [hc,T6]
   rw [T1 (by simp [])]
  ·simp only [hc,T9,T0]
 ·intro i c rs q hi hlt hw hrs
  simp only [Br,ac,ag,b8,aZ,aN,b9,aC,aa,hlt,T8,T6,ct hi,bj,aI,aM,aR,aU,Tb,Td,Tg,Tq,bc,ae,ay,hw,r9,ak,ar,ah,JS,ab,bV,cX,Tp]
  by_cases hc:ec c.kn c.un k=true
  ·simp only [hc,T6]
   rw [T1 (by simp [];omega)]
  ·simp only [hc,T9,T0]
theorem l43_2 (n:Nat) (k:Int) (o:Option (List E9)) (hl:(o.getD []).length*72≤140737488351232) (x0 x1 x3 p0 p1:D):ax [Bq (RP (n+1)),Bp (RP (n+1))] M0 0 [il k,x0,x1,d9 o,x3,d9 o,il (o.getD []).length,il 0,p0,p1] =
  ff [il k,x0,x1,d9 o,x3,p0,p1] (fun rs=>[.d (il k),.d x0,.d x1,.d (d9 o),.d x3,.r rs,.d p0,.d p1,.n rs.length,.n rs.length]) ((o.getD []).filterMap (fun e=>if ec e.kn e.un k then some (r9 e) else none)):=by
 refine cq (o.getD []) (by omega) (fun e=>if ec e.kn e.un k then some (r9 e) else none) _ _ (fun i=>[.d (il k),.d x0,.d x1,.d (d9 o),.d x3,.d (d9 o),.d (il (o.getD []).length),.d (il (i:Nat)),.d p0,.d p1]) (fun i rs=>[.d (il k),.d x0,.d x1,.d (d9 o),.d x3,.d (d9 o),.d (il (o.getD []).length),.d (il (i:Nat)),.r rs,.d p0,.d p1,.n rs.length,.n rs.length]) [il k,x0,x1,d9 o,x3,p0,p1] (fun rs=>[.d (il k),.d x0,.d x1,.d (d9 o),.d x3,.r rs,.d p0,.d p1,.n rs.length,.n rs.length]) ?_ ?_ ?_ ?_
 ·intro q;simp [Bq]
 ·intro rs q;simp [Bp]
 ·intro i c q hi hlt hw
  simp only [Bq,ac,ag,aC,aa,hlt,T8,T6,ct hi,bj,aI,aM,aR,aU,Tb,Td,Tg,Tq,bT,bc,ae,ay,hw,r9,ak,ar,ah,JS,ab]
  by_cases hc:ec c.kn c.un k=true
  ·simp only [hc,T6]
   rw [T1 (by simp [])]
  ·simp only [hc,T9,T0]
 ·intro i c rs q hi hlt hw hrs
  simp only [Bp,ac,ag,b8,aZ,aN,b9,aC,aa,hlt,T8,T6,ct hi,bj,aI,aM,aR,aU,Tb,Td,Tg,Tq,bc,ae,ay,hw,r9,ak,ar,ah,JS,ab,bV,cX,Tp]
  by_cases hc:ec c.kn c.un k=true
  ·simp only [hc,T6]
   rw [T1 (by simp [];omega)]
  ·simp only [hc,T9,T0]
theorem l43_3 (n:Nat) (k:Int) (o:Option (List E5)) (hl:(o.getD []).length*40≤140737488351232) (p0 p1 p2:D):ax [Bo (RP (n+1)),Bn (RP (n+1))] M0 0 [il k,d5 o,il (o.getD []).length,il 0,p0,p1,p2] =
  ff [p0,p1,p2] (fun rs=>[.r rs,.d p0,.d p1,.d p2,.n rs.length,.n rs.length]) ((o.getD []).filterMap (fun e=>if ec e.kn e.un k then some (r5 e) else none)):=by
 refine cq (o.getD []) (by omega) (fun e=>if ec e.kn e.un k then some (r5 e) else none) _ _ (fun i=>[.d (il k),.d (d5 o),.d (il (o.getD []).length),.d (il (i:Nat)),.d p0,.d p1,.d p2]) (fun i rs=>[.d (il k),.d (d5 o),.d (il (o.getD []).length),.d (il (i:Nat)),.r rs,.d p0,.d p1,.d p2,.n rs.length,.n rs.length]) [p0,p1,p2] (fun rs=>[.r rs,.d p0,.d p1,.d p2,.n rs.length,.n rs.length]) ?_ ?_ ?_ ?_
 ·intro q;simp [Bo]
 ·intro rs q;simp [Bn]
 ·intro i c q hi hlt hw
  simp only [Bo,ac,ag,aC,aa,hlt,T8,T6,vz hi,bj,aI,aM,aR,aU,Tb,Td,Tg,Tq,bT,bc,ae,ay,hw,r5,ak,ar,ah,JS,ab]
  by_cases hc:ec c.kn c.un k=true
  ·simp only [hc,T6]
   rw [T1 (by simp [])]
  ·simp only [hc,T9,T0]
 ·intro i c rs q hi hlt hw hrs
  simp only [Bn,ac,ag,b8,aZ,aN,b9,aC,aa,hlt,T8,T6,vz hi,bj,aI,aM,aR,aU,Tb,Td,Tg,Tq,bc,ae,ay,hw,r5,ak,ar,ah,JS,ab,bV,cX,Tp]
  by_cases hc:ec c.kn c.un k=true
  ·simp only [hc,T6]
   rw [T1 (by simp [];omega)]
  ·simp only [hc,T9,T0]
def z9 (t:Nat) (l:List E9):D:=dR 1 (bx (l.map fun e=>[.ifc t true (r9 e)]))
def MU (l:List E5):D:=dR 1 (bx (l.map fun e=>[.ifc 203 true (r5 e)]))
theorem GX {α β:Type} (f:α→β) (l:List α):l.filterMap (fun e=>some (f e))=l.map f:=by
 induction l with
 | nil=>rfl
 | cons x xs ih=>simp
theorem eN {Fn:Nat→List D→aq} {FnD:D→List Sh→List D→aq} {m:Nat} {l:Rr} {e0:List Yr} {e1:Rr→List Yr} {k0 k1:List Yr→aq} {s:Nat} {R:D→aq} (h0:k0 e0=R (.lit (.slice none 0 0))) (h1:∀ w ws,k1 (e1 (w::ws))=R (.sl s (w::ws))) :
  (af Fn FnD m).bnd (ff e0 e1 l) [k0,k1]=R (dR s (bx l)):=by
 cases l with
 | nil=>exact h0
 | cons w ws=>exact h1 w ws
theorem s105 (n:Nat) (a b c:Option (List E9)) (o:Option (List E5)) (ha:(a.getD []).length*72≤140737488351232) (hb:(b.getD []).length*72≤140737488351232) (hc:(c.getD []).length*72≤140737488351232) (ho:(o.getD []).length*40≤140737488351232) :
  FN (n+1) 105 [d9 a,d9 b,d9 c,d5 o]=some (0,[.d (z9 200 (a.getD [])),.d (z9 201 (b.getD [])),.d (z9 202 (c.getD [])),.d (MU (o.getD []))]):=by
 rw [FS,IM]
 simp only [G105,cS,ae,aD,Mz n a ha]
 rw [eN (s:=1) (R:=fun d=>some (0,[.d (d9 a),.d (d9 b),.d (d9 c),.d (d5 o),.d d])) (by simp) (by intros;simp)]
 simp only [ab,ac,ag,cS,My n b hb]
 rw [eN (s:=1) (R:=fun d=>some (0,[.d (d9 a),.d (d9 b),.d (d9 c),.d (d5 o),.d (dR 1 (bx ((a.getD []).filterMap fun e=>some [.ifc 200 true (r9 e)]))),.d d])) (by simp) (by intros;simp)]
 simp only [ab,ac,ag,cS,Mx n c hc]
 rw [eN (s:=1) (R:=fun d=>some (0,[.d (d9 a),.d (d9 b),.d (d9 c),.d (d5 o),.d (dR 1 (bx ((a.getD []).filterMap fun e=>some [.ifc 200 true (r9 e)]))),.d (dR 1 (bx ((b.getD []).filterMap fun e=>some [.ifc 201 true (r9 e)]))),.d d])) (by simp) (by intros;simp)]
 simp only [ab,ac,ag,yD,Mw n o ho]
 rw [eN (s:=1) (R:=fun d=>some (0,[.d (dR 1 (bx ((a.getD []).filterMap fun e=>some [.ifc 200 true (r9 e)]))),.d (dR 1 (bx ((b.getD []).filterMap fun e=>some [.ifc 201 true (r9 e)]))),.d (dR 1 (bx ((c.getD []).filterMap fun e=>some [.ifc 202 true (r9 e)]))),.d d])) (by simp) (by intros;simp)]
 simp only [GX,z9,MU]
def au (k:Int) (l:List E9):List E9:=l.filter fun e=>ec e.kn e.un k
def dj (k:Int) (l:List E5):List E5:=l.filter fun e=>ec e.kn e.un k
theorem fD {α β:Type} (p:α→Bool) (f:α→β) (l:List α):l.filterMap (fun e=>if p e then some (f e) else none)=(l.filter p).map f:=by
 induction l with
 | nil=>rfl
 | cons x xs ih=>cases h:p x<;>simp [h,ih]
theorem nz9 (l:List E9):dR 9 (bx (l.map r9))=d9 (bx l):=by cases l<;>rfl
theorem nz5 (l:List E5):dR 5 (bx (l.map r5))=d5 (bx l):=by cases l<;>rfl
theorem s43 (n:Nat) (k:Int) (a b c:Option (List E9)) (o:Option (List E5)) (ha:(a.getD []).length*72≤140737488351232) (hb:(b.getD []).length*72≤140737488351232) (hc:(c.getD []).length*72≤140737488351232) (ho:(o.getD []).length*40≤140737488351232) :
  FN (n+2) 43 [d9 a,d9 b,d9 c,d5 o,il k]=some (0,[.d (d9 (bx (au k (a.getD [])))),.d (d9 (bx (au k (b.getD [])))),.d (d9 (bx (au k (c.getD [])))),.d (d5 (bx (dj k (o.getD []))))]):=by
 rw [FS,O0]
 simp only [G43,cS,ae,aD,l43_0 n k a ha,fD]
 rw [eN (s:=9) (R:=fun d=>some (0,[.d (il k),.d (d9 a),.d (d9 b),.d (d9 c),.d (d5 o),.d d])) (by simp) (by intros;simp)]
 simp only [nz9,ab,ac,ag,cS,l43_1 n k b hb,fD]
 rw [eN (s:=9) (R:=fun d=>some (0,[.d (il k),.d (d9 a),.d (d9 b),.d (d9 c),.d (d5 o),.d (d9 (bx (au k (a.getD [])))),.d d])) (by simp [au]) (by intros;simp [au])]
 simp only [nz9,ab,ac,ag,cS,l43_2 n k c hc,fD]
 rw [eN (s:=9) (R:=fun d=>some (0,[.d (il k),.d (d9 a),.d (d9 b),.d (d9 c),.d (d5 o),.d (d9 (bx (au k (a.getD [])))),.d (d9 (bx (au k (b.getD [])))),.d d])) (by simp [au]) (by intros;simp [au])]
 simp only [nz9,ab,ac,ag,yD,l43_3 n k o ho,fD]
 rw [eN (s:=5) (R:=fun d=>some (0,[.d (d9 (bx (au k (a.getD [])))),.d (d9 (bx (au k (b.getD [])))),.d (d9 (bx (au k (c.getD [])))),.d d])) (by simp [au]) (by intros;simp [au])]
 simp only [nz5,dj,au]
end
section
theorem uS {T:Tb3} {P:Program} {Fn:Nat→List D→aq} {t f:Nat} {name:String} {row:List D} {sh:List Sh} {xs:List D} {z:D} (hlt:f < 1000000) (hm:yB P t name=some f) (hash:T.ash f=some sh) (hx:cK sh [.agg row]=some xs)
  (hr:T.rsk f=[[(false,[.d])]]) (hf:Fn f xs=some (0,[.d z])):c6 P (di T P) Fn (.ifc t true row) [.met name 1] []=some (0,[.d z]):=by
 have h1:(di T P).ash f=some sh:=by simp only [di,T1 hlt,hash]
 have h2:(di T P).rsk f=[[(false,[.d])]]:=hr
 show xy P (di T P) Fn t true row [.met name 1]=_
 simp only [xy,hm,MD,h1,h2,hx,hf]
 rfl
theorem Lj (n:Nat) (e:E9):FD (n+1) (.ifc 200 true (r9 e)) [.met "leazing/family.source" 1] []=some (0,[.d (il e.src)]) :=
 uS (f:=236) (sh:=[.agg 9]) (xs:=r9 e) (by decide) (by kernel_rfl) (by kernel_rfl) rfl (by kernel_rfl) (by rw [r9,FS,Hw];simp [G236])
theorem Li (n:Nat) (e:E9):FD (n+1) (.ifc 201 true (r9 e)) [.met "leazing/family.source" 1] []=some (0,[.d (il e.src)]) :=
 uS (f:=238) (sh:=[.agg 9]) (xs:=r9 e) (by decide) (by kernel_rfl) (by kernel_rfl) rfl (by kernel_rfl) (by rw [r9,FS,Hv];simp [G238])
theorem Lh (n:Nat) (e:E9):FD (n+1) (.ifc 202 true (r9 e)) [.met "leazing/family.source" 1] []=some (0,[.d (il e.src)]) :=
 uS (f:=240) (sh:=[.agg 9]) (xs:=r9 e) (by decide) (by kernel_rfl) (by kernel_rfl) rfl (by kernel_rfl) (by rw [r9,FS,Hu];simp [G240])
theorem Lg (n:Nat) (e:E5):FD (n+1) (.ifc 203 true (r5 e)) [.met "leazing/family.source" 1] []=some (0,[.d (il e.src)]) :=
 uS (f:=242) (sh:=[.agg 5]) (xs:=r5 e) (by decide) (by kernel_rfl) (by kernel_rfl) rfl (by kernel_rfl) (by rw [r5,FS,Ht];simp [G242])
section
variable {Fn:Nat→List D→aq} {FnD:D→List Sh→List D→aq} {m:Nat}
def mA {α:Type} (F:α→D) (l:List α):D:=dR 1 (bx (l.map fun e=>[F e]))
theorem Am {α:Type} (F:α→D) (l:List α):(bx (l.map fun e=>[F e])).getD []=l.map fun e=>[F e]:=aJ _
theorem wb {α:Type} (F:α→D) (l:List α) (k:D→aq):(af Fn FnD m).lenD (mA F l) k=k (il l.length):=by rw [mA,kZ,Am,Tj]
theorem rowE {α:Type} {F:α→D} {l:List α} {i:Nat} {c:α} (h:l[i]?=some c) (k:List D→aq):(af Fn FnD m).rowD 1 (mA F l) (il i) k=k [F c]:=by
 rw [mA,iQ,T1 (by omega),Am,V0,Tm,h];rfl
end
theorem AA {α:Type} (n:Nat) (F:α→D) (src:α→Int) (hs:∀ e,FD n (F e) [.met "leazing/family.source" 1] []=some (0,[.d (il (src e))])) (l:List α) (hl:l.length≤60) (x1 x2 x3 x4 x5:D) :
  ax [xp (RP n)] M0 0 [mA F l,x1,x2,x3,x4,x5,mA F l,il l.length,il 0] =
   if fR (fun _=>true) src none l=true then some (1,[.d x1,.d x2,.d x3,.d x4,.d x5]) else some (0,[.d (il 34)]):=by
 have:=be (β:=Unit) l (by omega) (xp (RP n)) (fun i _=>[.d (mA F l),.d x1,.d x2,.d x3,.d x4,.d x5,.d (mA F l),.d (il l.length),.d (il i)]) (fun _ _=>True)
  (fun i r _=>if fR (fun _=>true) src (eg src l i) r=true then some (1,[.d x1,.d x2,.d x3,.d x4,.d x5]) else some (0,[.d (il 34)]))
  (fun _ k _=>by simp [xp,fR]) ?_ M0 () trivial (cj (by omega))
 ·exact this
 ·intro i e r _ k hi hd hlt hw _ ih
  have ih':=ih () trivial
  rw [iS _ hi] at ih'
  have hlt':(i:Int) < (l.length:Int):=by omega
  have hse:c6 Tryz.prog (di tb Tryz.prog) (FN n) (F e) [.met "leazing/family.source" 1] []=some (0,[.d (il (src e))]):=hs e
  simp only [xp,ac,ag,aC,aa,hlt',T8,T6,rowE hi,ae,ck,ay,hw,fR,V7]
  by_cases h0:i=0
  ·subst h0
   rw [T5 (by simp)]
   simp only [eg,T6,o6,V7]
   exact ih'
  ·have hq1:l[i - 1]?=some (l[i - 1]'(by omega)):=Tc (by omega)
   have hsq:c6 Tryz.prog (di tb Tryz.prog) (FN n) (F (l[i - 1]'(by omega))) [.met "leazing/family.source" 1] []=some (0,[.d (il (src (l[i - 1]'(by omega))))]):=hs _
   have hq:eg src l i=some (src (l[i - 1]'(by omega))):=by simp [eg,h0,hq1]
   rw [T1 (by simp;omega),br,ke (by omega) (by omega),rowE hq1]
   simp only [ak,gz,hsq,hse,ab,ac,bQ,aa,T4,ao]
   rw [hq]
   by_cases h2:src e≤src (l[i - 1]'(by omega))
   ·have h3:o6 (some (src (l[i - 1]'(by omega)))) (src e)=false:=by simp [o6];omega
    rw [T1 h2]
    simp only [h3,Xj,T0,T9]
   ·have h3:o6 (some (src (l[i - 1]'(by omega)))) (src e)=true:=by simp [o6];omega
    rw [T5 h2]
    simp only [h3,V7]
    exact ih'
theorem l56_1 {α:Type} (n:Nat) (F:α→D) (src:α→Int) (hs:∀ e,FD n (F e) [.met "leazing/family.source" 1] []=some (0,[.d (il (src e))])) (l:List α) (hl:l.length≤60) (x1 x2 x3 x4 x5:D) :
  ax [Kl (RP n)] M0 0 [mA F l,x1,x2,x3,x4,x5,mA F l,il l.length,il 0] =
   if fR (fun _=>true) src none l=true then some (1,[.d x1,.d x2,.d x3,.d x4,.d x5]) else some (0,[.d (il 34)]):=AA n F src hs l hl x1 x2 x3 x4 x5
theorem l56_2 {α:Type} (n:Nat) (F:α→D) (src:α→Int) (hs:∀ e,FD n (F e) [.met "leazing/family.source" 1] []=some (0,[.d (il (src e))])) (l:List α) (hl:l.length≤60) (x1 x2 x3 x4 x5:D) :
  ax [Kk (RP n)] M0 0 [mA F l,x1,x2,x3,x4,x5,mA F l,il l.length,il 0] =
   if fR (fun _=>true) src none l=true then some (1,[.d x1,.d x2,.d x3,.d x4,.d x5]) else some (0,[.d (il 34)]):=AA n F src hs l hl x1 x2 x3 x4 x5
theorem l56_3 {α:Type} (n:Nat) (F:α→D) (src:α→Int) (hs:∀ e,FD n (F e) [.met "leazing/family.source" 1] []=some (0,[.d (il (src e))])) (l:List α) (hl:l.length≤60) (x1 x2 x3 x4 x5:D) :
  ax [Kj (RP n)] M0 0 [mA F l,x1,x2,x3,x4,x5,mA F l,il l.length,il 0] =
   if fR (fun _=>true) src none l=true then some (1,[.d x1,.d x2,.d x3,.d x4,.d x5]) else some (0,[.d (il 34)]):=AA n F src hs l hl x1 x2 x3 x4 x5
theorem iX {α:Type} (ok:α→Bool) (src:α→Int):∀ (p:Option Int) (l:List α),fR ok src p l=(l.all ok&&fR (fun _=>true) src p l)
 | _,[]=>rfl
 | p,e::r=>by
  simp only [fR,Vi,iX ok src (some (src e)) r,V7]
  cases ok e<;>cases o6 p (src e)<;>cases r.all ok<;>rfl
end
section
theorem pq {Fn:Nat→List D→aq} {FnD:D→List Sh→List D→aq} {m:Nat} (n:Nat) (z:Int) (ks:List aq):(af Fn FnD m).selI n (il z) ks=if 0≤z∧z < n then Dp ks z.toNat else none:=rfl
theorem Hk {α:Type} (p:α→Bool) (l:List α):l.any (fun e=>!p e)=!l.all p:=by
 induction l with
 | nil=>rfl
 | cons x xs ih=>simp only [W2,Vi,ih,Bool.not_and]
theorem vY (b:(Nat→List Yr→aq)→List Yr→aq) (n:Nat) (ys:List Yr):ax [b] (n+1) 0 ys=b (ax [b] n) ys:=lX _ _ _ _ _ rfl
theorem r56_0 {α:Type} (n:Nat) (J:Nat→List Yr→aq) (F:α→D) (src:α→Int) (hs:∀ e,FD n (F e) [.met "leazing/family.source" 1] []=some (0,[.d (il (src e))])) (l:List α) (x1 x2 x3:D) :
  kU (RP n) J [mA F l,x1,x2,x3,il 0]=if (decide (l.length≤60)&&fR (fun _=>true) src none l)=true then J 0 [mA F l,x1,x2,x3,il 1] else some (0,[.d (il 34)]):=by
 have hw:IntKind.i64.wrap ((0:Int)+1)=1:=by rw [aE (by omega) (by omega)];rfl
 simp only [kU,ac,ag,ae,aC,aa]
 rw [T1 (by decide),pq,T1 (by decide)]
 show (RP n).lenD (mA F l) _=_
 rw [wb]
 simp only [ck,aa,T4,ao,wb,aD]
 by_cases hl:l.length≤60
 ·rw [T5 (by omega),AA n F src hs l hl]
  by_cases hk:fR (fun _=>true) src none l=true
  ·simp only [hk,hl,T8,Wj,T6,bY,ac,ag,ay,hw]
  ·simp [hk]
 ·rw [T1 (by omega)]
  simp [hl]
theorem r56_1 {α:Type} (n:Nat) (J:Nat→List Yr→aq) (F:α→D) (src:α→Int) (hs:∀ e,FD n (F e) [.met "leazing/family.source" 1] []=some (0,[.d (il (src e))])) (l:List α) (x0 x2 x3:D) :
  kU (RP n) J [x0,mA F l,x2,x3,il 1]=if (decide (l.length≤60)&&fR (fun _=>true) src none l)=true then J 0 [x0,mA F l,x2,x3,il 2] else some (0,[.d (il 34)]):=by
 have hw:IntKind.i64.wrap ((1:Int)+1)=2:=by rw [aE (by omega) (by omega)];rfl
 simp only [kU,ac,ag,ae,aC,aa]
 rw [T1 (by decide),pq,T1 (by decide)]
 show (RP n).lenD (mA F l) _=_
 rw [wb]
 simp only [ck,aa,T4,ao,wb,aD]
 by_cases hl:l.length≤60
 ·rw [T5 (by omega),l56_1 n F src hs l hl]
  by_cases hk:fR (fun _=>true) src none l=true
  ·simp only [hk,hl,T8,Wj,T6,bY,ac,ag,ay,hw]
  ·simp [hk]
 ·rw [T1 (by omega)]
  simp [hl]
theorem r56_2 {α:Type} (n:Nat) (J:Nat→List Yr→aq) (F:α→D) (src:α→Int) (hs:∀ e,FD n (F e) [.met "leazing/family.source" 1] []=some (0,[.d (il (src e))])) (l:List α) (x0 x1 x3:D) :
  kU (RP n) J [x0,x1,mA F l,x3,il 2]=if (decide (l.length≤60)&&fR (fun _=>true) src none l)=true then J 0 [x0,x1,mA F l,x3,il 3] else some (0,[.d (il 34)]):=by
 have hw:IntKind.i64.wrap ((2:Int)+1)=3:=by rw [aE (by omega) (by omega)];rfl
 simp only [kU,ac,ag,ae,aC,aa]
 rw [T1 (by decide),pq,T1 (by decide)]
 show (RP n).lenD (mA F l) _=_
 rw [wb]
 simp only [ck,aa,T4,ao,wb,aD]
 by_cases hl:l.length≤60
 ·rw [T5 (by omega),l56_2 n F src hs l hl]
  by_cases hk:fR (fun _=>true) src none l=true
  ·simp only [hk,hl,T8,Wj,T6,bY,ac,ag,ay,hw]
  ·simp [hk]
 ·rw [T1 (by omega)]
  simp [hl]
theorem r56_3 {α:Type} (n:Nat) (J:Nat→List Yr→aq) (F:α→D) (src:α→Int) (hs:∀ e,FD n (F e) [.met "leazing/family.source" 1] []=some (0,[.d (il (src e))])) (l:List α) (x0 x1 x2:D) :
  kU (RP n) J [x0,x1,x2,mA F l,il 3]=if (decide (l.length≤60)&&fR (fun _=>true) src none l)=true then J 0 [x0,x1,x2,mA F l,il 4] else some (0,[.d (il 34)]):=by
 have hw:IntKind.i64.wrap ((3:Int)+1)=4:=by rw [aE (by omega) (by omega)];rfl
 simp only [kU,ac,ag,ae,aC,aa]
 rw [T1 (by decide),pq,T1 (by decide)]
 show (RP n).lenD (mA F l) _=_
 rw [wb]
 simp only [ck,aa,T4,ao,wb,aD]
 by_cases hl:l.length≤60
 ·rw [T5 (by omega),l56_3 n F src hs l hl]
  by_cases hk:fR (fun _=>true) src none l=true
  ·simp only [hk,hl,T8,Wj,T6,bY,ac,ag,ay,hw]
  ·simp [hk]
 ·rw [T1 (by omega)]
  simp [hl]
theorem s56 (n:Nat) (a b c:Option (List E9)) (o:Option (List E5)) (ha:(a.getD []).length*72≤140737488351232) (hb:(b.getD []).length*72≤140737488351232) (hc:(c.getD []).length*72≤140737488351232) (ho:(o.getD []).length*40≤140737488351232) :
  FN (n+9) 56 [d9 a,d9 b,d9 c,d5 o]=some (0,[.d (il (if aA a b c o then 0 else 34))]):=by
 rw [FS,NV]
 simp only [G56,ah,gp,s119 (n+5) a (by omega) (.fn 120 []) _ (fun e _=>d120 n e),s121 (n+5) b (by omega) (.fn 122 []) _ (fun e _=>d122 n e),s123 (n+5) c (by omega) (.fn 124 []) _ (fun e _=>d124 n e),s125 (n+5) o (by omega) (.fn 126 []) _ (fun e _=>d126 n e),Hk,ab,ac,aa,ao,s105 (n+7) a b c o ha hb hc ho]
 have hk:aA a b c o=(decide ((a.getD []).length≤60∧(b.getD []).length≤60∧(c.getD []).length≤60∧(o.getD []).length≤60)&&((a.getD []).all fun e=>decide (dE e))&&fR (fun _=>true) (·.src) none (a.getD [])&&(((b.getD []).all fun e=>decide (dF e))&&fR (fun _=>true) (·.src) none (b.getD []))&&(((c.getD []).all fun e=>decide (dG e))&&fR (fun _=>true) (·.src) none (c.getD []))&&(((o.getD []).all fun e=>decide (fp e))&&fR (fun _=>true) (·.src) none (o.getD []))):=by
  unfold aA
  rw [iX (fun e=>decide (dE e)),iX (fun e=>decide (dF e)),iX (fun e=>decide (dG e)),iX (fun e=>decide (fp e))]
  simp only [Bool.and_assoc]
 rw [hk]
 generalize (a.getD []).all (fun e=>decide (dE e))=q1
 generalize (b.getD []).all (fun e=>decide (dF e))=q2
 generalize (c.getD []).all (fun e=>decide (dG e))=q3
 generalize (o.getD []).all (fun e=>decide (fp e))=q4
 cases q1
 ·simp
 cases q2
 ·simp
 cases q3
 ·simp
 cases q4
 ·simp
 simp only [Tu,T0,T9,Vx,V7,aD,ag,ac,ae]
 obtain ⟨k,hM⟩:∃ k,M0=k+5:=⟨18446744073709551611,rfl⟩
 have e0:z9 200 (a.getD [])=mA (fun e=>.ifc 200 true (r9 e)) (a.getD []):=rfl
 have e1:z9 201 (b.getD [])=mA (fun e=>.ifc 201 true (r9 e)) (b.getD []):=rfl
 have e2:z9 202 (c.getD [])=mA (fun e=>.ifc 202 true (r9 e)) (c.getD []):=rfl
 have e3:MU (o.getD [])=mA (fun e=>.ifc 203 true (r5 e)) (o.getD []):=rfl
 rw [e0,e1,e2,e3,hM,vY]
 rw [r56_0 (n+8) _ _ _ (Lj (n+7)),vY,r56_1 (n+8) _ _ _ (Li (n+7)),vY,r56_2 (n+8) _ _ _ (Lh (n+7)),vY,r56_3 (n+8) _ _ _ (Lg (n+7)),vY]
 have hend:∀ J x0 x1 x2 x3,kU (RP (n+8)) J [x0,x1,x2,x3,il 4]=some (1,[]):=by
  intro J x0 x1 x2 x3
  simp [kU]
 rw [hend]
 by_cases h1:(a.getD []).length≤60<;>by_cases h2:(b.getD []).length≤60<;>by_cases h3:(c.getD []).length≤60<;>by_cases h4:(o.getD []).length≤60<;>simp only [h1,h2,h3,h4,T8,Tk,V7,Xj,Vr,Wm,W5,T0,T9]
 all_goals (cases fR (fun _=>true) (fun (e:E9)=>e.src) none (a.getD [])<;>cases fR (fun _=>true) (fun (e:E9)=>e.src) none (b.getD [])<;>cases fR (fun _=>true) (fun (e:E9)=>e.src) none (c.getD [])<;>cases fR (fun _=>true) (fun (e:E5)=>e.src) none (o.getD [])<;>simp)
end
end Go.VE
