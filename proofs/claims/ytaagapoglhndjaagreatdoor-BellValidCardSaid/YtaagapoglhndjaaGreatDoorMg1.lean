/- Bell: what a book says of a field, as the reference has it. -/
import Derived.Test.YtaagapoglhndjaaGreatDoorMg0
namespace Go.VE
open Go.RowKit Go.Proofs
section
def gK (me:Int) (f:Fld) (o:Nat):Int:=if (o:Int)=me then f.wants else f.ask o
def dY (b:aT) (me:Int) (f:Fld):List D:=[il b.1,il b.2,il (f.no 0),il (f.no 1),il (f.no 2),il (f.no 3),il (f.no 4),il (f.no 5),bl (f.af 0),bl (f.af 1),bl (f.af 2),bl (f.af 3),bl (f.af 4),bl (f.af 5),il (gK me f 0),il (gK me f 1),il (gK me f 2),il (gK me f 3),il (gK me f 4),il (gK me f 5),bl f.opn]
def z21:List D:=[il 0,il 0,il 0,il 0,il 0,il 0,il 0,il 0,bl false,bl false,bl false,bl false,bl false,bl false,il 0,il 0,il 0,il 0,il 0,il 0,bl false]
theorem r21_0 (b:aT) (me:Int):dY b me fd0=il b.1::il b.2::z21.drop 2:=by
 simp [dY,z21,fd0,gK]
section
variable {Fn:Nat→List D→az} {FnD:D→List Sh→List D→az} {m:Nat}
theorem yS (n:Nat) (z:Int) (ks:List az):(aa Fn FnD m).selI n (il z) ks=if 0≤z∧z < n then lL ks z.toNat else none:=rfl
theorem be (i:Nat) (ds:List D):(aa Fn FnD m).selN i ds=ds.getD i default:=rfl
theorem iU (i q:Nat) (a b:D):(aa Fn FnD m).updN i q a b=if i=q then a else b:=rfl
theorem bo {z:Int} (h:dR z=true) (k:Nat→az):(aa Fn FnD m).inx (il z) 6 k=k z.toNat:=by
 have:=bn.1 h
 rw [dk,K9 (by omega)]
theorem bP {z:Int} (h:dR z=true):z.toNat < 6:=by have:=bn.1 h;omega
theorem bC {i:Nat} (h:i < 6) (k:az):(aa Fn FnD m).leN (i+1) 6 k=k:=by rw [cr,K9 (by omega)]
end
theorem dh (g:Nat→Int) {i:Nat} (h:i < 6):[il (g 0),il (g 1),il (g 2),il (g 3),il (g 4),il (g 5)].getD i default=il (g i):=by
 match i,h with
 | 0,_=>rfl
 | 1,_=>rfl
 | 2,_=>rfl
 | 3,_=>rfl
 | 4,_=>rfl
 | 5,_=>rfl
theorem tF (c:Prop) [Decidable c] (a b:Int):(if c then il a else il b)=il (if c then a else b):=by split<;>rfl
theorem D3 (c:Prop) [Decidable c] (a b:Bool):(if c then bl a else bl b)=bl (if c then a else b):=by split<;>rfl
theorem wan_w {me:Int} (h:dR me=true) (f:Fld) (x:Int) (g:Nat→Bool) (q:Nat):(if me.toNat=q then il x else il (gK me f q))=il (gK me { f with wants:=x,af:=g } q):=by
 have:=bn.1 h
 unfold gK
 by_cases h1:(q:Int)=me
 ·rw [K9 (by omega),K9 h1]
 ·rw [Kg (by omega),Kg h1,Kg h1]
theorem wan_a {me o:Int} (h:dR me=true) (ho:dR o=true) (hne:o≠me) (f:Fld) (x:Int) (q:Nat):(if o.toNat=q then il x else il (gK me f q))=il (gK me { f with ask:=cd f.ask o.toNat x } q):=by
 have:=bn.1 h
 have:=bn.1 ho
 unfold gK cd
 by_cases h1:(q:Int)=me
 ·rw [Kg (by omega),K9 h1,K9 h1]
 ·rw [Kg h1,Kg h1]
  by_cases h2:o.toNat=q<;>simp [h2]
theorem jH {me:Int} (h:dR me=true) (f:Fld):gK me f me.toNat=f.wants:=by
 have:=bn.1 h
 unfold gK;rw [K9 (by omega)]
theorem cE {me o:Int} (h:dR o=true) (hne:o≠me) (f:Fld):gK me f o.toNat=f.ask o.toNat:=by
 have:=bn.1 h
 unfold gK;rw [Kg (by omega)]
theorem fQ (a b:Bool):(a==b)=(b==a):=by cases a<;>cases b<;>rfl
theorem Gv (n:Nat) (b:aT) (me:Int) (f:Fld) {o:Nat} (ho:o < 6):FN (n+1) 106 (dY b me f++[il me,il o])=some (0,[.d (bl (aK me o (f.no o)))]):=by
 simp only [dY,K2,K7]
 rw [FS,Ge]
 simp only [G106,yS]
 rw [K9 (by omega)]
 match o,ho with
 | 0,_=>simp only [Km,lL,Ky,eF _ _ _ _ (show (2:Int)≠0 by decide),ah,ba,pJ,aB,e7,au,aK,fQ]
 | 1,_=>simp only [Km,lL,Ky,T2,eF _ _ _ _ (show (2:Int)≠0 by decide),ah,ba,pJ,aB,e7,au,aK,fQ]
 | 2,_=>simp only [Km,lL,Ky,T2,eF _ _ _ _ (show (2:Int)≠0 by decide),ah,ba,pJ,aB,e7,au,aK,fQ]
 | 3,_=>simp only [Km,lL,Ky,T2,eF _ _ _ _ (show (2:Int)≠0 by decide),ah,ba,pJ,aB,e7,au,aK,fQ]
 | 4,_=>simp only [Km,lL,Ky,T2,eF _ _ _ _ (show (2:Int)≠0 by decide),ah,ba,pJ,aB,e7,au,aK,fQ]
 | 5,_=>simp only [Km,lL,Ky,T2,eF _ _ _ _ (show (2:Int)≠0 by decide),ah,ba,pJ,aB,e7,au,aK,fQ]
def oA (me P:Int) (f:Fld) (i:Nat):List Nat:=((rg i).filter fun (o:Nat)=>!decide ((o:Int)=me)&&P.toNat.testBit o).filter fun (o:Nat)=>!aK me o (f.no o)
theorem jj (me P:Int) (f:Fld):oA me P f 6=[]:=rfl
theorem lV {me P:Int} {f:Fld} {i:Nat} (h:i < 6):oA me P f i=if (!decide ((i:Int)=me)&&P.toNat.testBit i&&!aK me i (f.no i))=true then i::oA me P f (i+1) else oA me P f (i+1):=by
 unfold oA
 rw [p8 h,V0]
 cases h1:(!decide ((i:Int)=me)&&P.toNat.testBit i) with
 | false=>simp
 | true=>simp only [Jv,V0,Kf]
theorem l84 (n:Nat) (b:aT) (hb:j7 b.2) (me:Int) (f:Fld):bh [r7 (RP (n+3))] M0 0 (.d (il me)::((dY b me f).map .d++[.d (il 0)]))=if (dC me b.2 f).isEmpty=true then some (1,[]) else some (0,[.d (bl false)]):=by
 have:=ew (β:=Unit) 6 (by omega) (r7 (RP (n+3))) (fun i _=>.d (il me)::((dY b me f).map .d++[.d (il i)])) (fun _ _=>True) (fun i _=>if (oA me b.2 f i).isEmpty=true then some (1,[]) else some (0,[.d (bl false)])) ?_ ?_ () trivial
 ·exact this
 ·intro _ k _
  simp [r7,dY,jj]
 ·intro i _ k hi _ hw ih
  have ih':=ih () trivial
  rw [b5] at ih'
  have h88:=Gv (n+2) b me f hi
  rw [lV hi]
  simp only [dY,K2,K7,K0,Kb] at ih' h88 ⊢
  simp only [r7,ae,aj,ah,aB,ac,show ((i:Int) < 6) by omega,Jt,Jv,br,an,jE _ _ hb,h88,ab,bM hi,aF,hw,aJ,au,b8]
  by_cases h1:(i:Int)=me
  ·simp only [h1,My,Mf,Jw,Jt,Jq,Jx,K1,Mj]
   rw [←h1]
   rw [←h1] at ih'
   exact ih'
  ·cases h2:b.2.toNat.testBit i with
   | false =>
    simp only [h1,My,Kw,Jt,Jv,Jq,Jx,Bool.and_false,Mj]
    exact ih'
   | true =>
    cases h3:aK me i (f.no i) with
    | true =>
     simp only [h1,My,Kw,Jt,Jv,Jq,Jx,Bool.and_false,K1]
     exact ih'
    | false=>simp [h1]
theorem s84 (n:Nat) (b:aT) (hb:j7 b.2) (me:Int) (f:Fld):FN (n+4) 103 (dY b me f++[il me])=some (0,[.d (bl (dC me b.2 f).isEmpty)]):=by
 have h:=l84 n b hb me f
 simp only [dY,K2,K7,K0,Kb] at h ⊢
 rw [FS,Gh]
 simp only [G103,ah,bf,h]
 cases (dC me b.2 f).isEmpty<;>simp
theorem l104 (n:Nat) (b:aT) (me:Int) (f:Fld):bh [qW (RP n)] M0 0 (.d (il 0)::(z21++dY b me f).map .d)=some (0,(z21++dY b me { f with af:=fun _=>false }).map .d):=by
 have:=ew (β:=Nat→Bool) 6 (by omega) (qW (RP n)) (fun i g=>.d (il i)::(z21++dY b me { f with af:=g }).map .d) (fun _ _=>True) (fun i g=>some (0,(z21++dY b me { f with af:=fun q=>if i≤q then false else g q }).map .d)) ?_ ?_ f.af trivial
 ·simpa using this
 ·intro g k _
  simp [qW,dY,z21,gK]
 ·intro i g k hi _ hw ih
  have ih':=ih (cd g i false) trivial
  rw [b5] at ih'
  have e:(fun q=>if i+1≤q then false else cd g i false q)=fun q=>if i≤q then false else g q:=by
   funext q
   unfold cd
   by_cases h1:i=q
   ·subst h1;simp
   ·by_cases h2:i≤q
    ·rw [K9 (by omega),K9 h2]
    ·rw [Kg (by omega),Kg h1,Kg h2]
  rw [e] at ih'
  rw [←ih']
  simp only [dY,z21,K2,K7,K0,Kb]
  simp only [qW,ae,aj,ah,b8,aB,ac,show ((i:Int) < 6) by omega,Jt,Jv,aC,dk,aH,aF,hw,iU]
  rw [K9 (by omega),Km,bC hi]
  simp only [D3]
  rfl
def C4 (b:aT) (me:Int) (f:Fld) (s:aY):List D:=match bi me b.2 f s with
 | some g=>dY b me g++[bl true]
 | none=>dY b me f++[bl false]
theorem mJ {s:aY} (h:gQ s=true):(s.1=1∧dR s.2.2.1=true)∨s.1=2∨(s.1=3∧dR s.2.2.1=true)∨s.1=4:=by
 simp only [gQ,Js] at h
 obtain ⟨-,h⟩:=h
 by_cases h1:s.1=1
 ·rw [K9 (.inl h1)] at h
  simp only [Js] at h
  exact .inl ⟨h1,h.1⟩
 ·by_cases h3:s.1=3
  ·rw [K9 (.inr h3)] at h
   simp only [Js] at h
   exact .inr (.inr (.inl ⟨h3,h.1⟩))
  ·rw [Kg (by omega)] at h
   by_cases h2:s.1=2
   ·exact .inr (.inl h2)
   ·by_cases h4:s.1=4
    ·exact .inr (.inr (.inr h4))
    ·rw [Kg h2,Kg h4] at h;cases h
theorem fD {P o:Int} (h:bU P o=true):dR o=true:=by
 simp only [bU,Js] at h;exact h.1
theorem s104 (n:Nat) (b:aT) (hb:j7 b.2) {me:Int} (hm:dR me=true) (f:Fld) {s:aY} (hs:gQ s=true) :
  FN (n+5) 123 (dY b me f++[il me,il s.1,il s.2.1,il s.2.2.1,il s.2.2.2])=some (0,(C4 b me f s).map .d):=by
 have h84:=s84 n b hb me f
 have h104:=l104 (n+4) b me
 unfold C4 bi
 rcases mJ hs with ⟨h1,ho⟩ | h1 | ⟨h1,ho⟩ | h1
 ·simp only [h1,Jv]
  simp only [dY,K2,K7]
  rw [FS,pF]
  simp only [E0,ah,b8,ba,ac,Jt,Jv,au,an,jE _ _ hb,ab,ae,aJ,aC,bo ho,aH,bC (bP ho),be,dh _ (bP ho),ic,iU,tF,D3,Ju]
  by_cases h2:s.2.2.1=me
  ·simp [h2]
  ·by_cases h3:bU b.2 s.2.2.1=true
   ·by_cases h4:s.2.2.2≤f.no s.2.2.1.toNat
    ·simp [h2,h3,h4]
    ·by_cases h5:f.opn=true
     ·simp [h2,h3,h4,h5]
     ·simp [h2,h3,h4,h5,cd,gK]
   ·simp [h2,h3]
 ·simp only [h1,show ¬ ((2:Int)=1) by decide,Jx,Jv]
  have h104':=h104 { f with wants:=s.2.2.2 }
  simp only [dY,z21,K2,K7,K0,Kb] at h104' ⊢
  rw [FS,pF]
  simp only [E0,ah,b8,ba,ac,show ¬ ((2:Int)=1) by decide,Jt,Jw,Jq,Jx,Jv,au,aC,bo hm,aH,bC (bP hm),be,dh _ (bP hm),ic,iU,wan_w hm f s.2.2.2 f.af,bf,jH hm,Ju]
  by_cases h2:s.2.2.2≤f.wants
  ·simp [h2]
  ·simp only [h2,Jx,h104']
   simp [gK]
 ·simp only [h1,show ¬ ((3:Int)=1) by decide,show ¬ ((3:Int)=2) by decide,Jx,Jv]
  simp only [dY,K2,K7]
  rw [FS,pF]
  simp only [E0,ah,b8,ba,ac,show ¬ ((3:Int)=1) by decide,show ¬ ((3:Int)=2) by decide,Jt,Jw,Jq,Jx,Jv,au,an,jE _ _ hb,ab,ae,aJ,aC,bo ho,aH,bC (bP ho),be,dh _ (bP ho),ic,iU,Ju]
  by_cases h2:s.2.2.1=me
  ·simp [h2]
  ·by_cases h3:bU b.2 s.2.2.1=true
   ·rw [cE ho h2]
    by_cases h4:s.2.2.2≤f.ask s.2.2.1.toNat
    ·simp [h2,h3,h4]
    ·simp only [h2,h3,h4,wan_a hm ho h2]
     simp
   ·simp [h2,h3]
 ·simp only [h1,show ¬ ((4:Int)=1) by decide,show ¬ ((4:Int)=2) by decide,show ¬ ((4:Int)=3) by decide,Jx]
  simp only [dY,K2,K7] at h84 ⊢
  rw [FS,pF]
  simp only [E0,ah,b8,ba,ac,show ¬ ((4:Int)=1) by decide,show ¬ ((4:Int)=2) by decide,show ¬ ((4:Int)=3) by decide,Jt,Jw,Jq,Jx,Jv,au,an,h84,ab,ae,aJ,e7,fQ _ f.opn]
  by_cases h2:s.2.2.2=1
  ·by_cases h3:f.opn=true
   ·simp [h2,h3]
   ·cases h4:(dC me b.2 f).isEmpty<;>simp [h2,h3,gK]
  ·by_cases h3:f.opn=true
   ·simp [h2,h3,gK]
   ·simp [h2,h3]
end
section
def CL (b:aT) (me:Int) (q:Fld×Bool):az:=if q.2=true then some (1,(dY b me q.1++z21).map .d) else some (0,(bl false::dY b me q.1).map .d)
theorem l75 (n:Nat) (b:aT) (hb:j7 b.2) {me:Int} (hm:dR me=true) (o:Option (List aY)) (hl:(o.getD []).length≤4611686018427387904) (hok:∀ s∈o.getD [],gQ s=true) (f:Fld) :
  bh [mn (RP (n+5))] M0 0 (.d (il me)::.d (dS o)::.d (il b.1)::.d (il b.2)::.d (il 0)::(dY b me f++z21).map .d)=CL b me (aI me b f (o.getD [])):=by
 have:=aZ (β:=Fld) (o.getD []) hl (mn (RP (n+5))) (fun i f=>.d (il me)::.d (dS o)::.d (il b.1)::.d (il b.2)::.d (il i)::(dY b me f++z21).map .d) (fun _ _=>True)
  (fun i r f=>CL b me (aI me b f r)) ?_ ?_ M0 f trivial (cc hl)
 ·exact this
 ·intro f k _
  simp [mn,aI,CL,dY,z21,b7]
 ·intro i e r f k hi hd hlt hw _ ih
  have hlt':(i:Int) < ((o.getD []).length:Int):=by omega
  have h104:=s104 n b hb hm f (hok e (Ka hi))
  have ih1:=ih f trivial
  rw [b5] at ih1
  rw [aI]
  by_cases h1:e.2.1=b.1
  ·rw [K9 h1]
   unfold C4 at h104
   cases hf:bi me b.2 f e with
   | none =>
    rw [hf] at h104
    simp only [dY,z21,K2,K7,K0,Kb] at h104 ⊢
    simp only [mn,ae,aj,b7,aB,ac,hlt',Jt,Jv,lx hi,wX,vU,wW,vS,br,h1,My,Mf,Jw,Jq,Jx,an]
    rw [h1] at h104
    rw [h104]
    simp only [ab,ae,aj,aJ,ac,M6,Jv,au,b8,CL,Jq,Jx,dY,K0,Kb]
   | some g =>
    rw [hf] at h104
    have ih2:=ih g trivial
    rw [b5] at ih2
    simp only
    simp only [dY,z21,K2,K7,K0,Kb] at h104 ih2 ⊢
    simp only [mn,ae,aj,b7,aB,ac,hlt',Jt,Jv,lx hi,wX,vU,wW,vS,br,h1,My,Mf,Jw,Jq,Jx,an]
    rw [h1] at h104
    rw [h104]
    simp only [ab,ae,aj,aJ,ac,K1,Jq,Jx,ah,aF,hw]
    exact ih2
  ·rw [Kg h1]
   simp only [dY,z21,K2,K7,K0,Kb] at ih1 ⊢
   simp only [mn,ae,aj,b7,aB,ac,hlt',Jt,Jv,lx hi,vU,br,h1,My,Kw,ah,aF,hw]
   exact ih1
theorem BK (n:Nat) (b:aT) (hb:j7 b.2) {me:Int} (hm:dR me=true) (o:Option (List aY)) (hl:(o.getD []).length≤4611686018427387904) (hok:∀ s∈o.getD [],gQ s=true) :
  FN (n+6) 105 [il me,il b.1,il b.2,dS o]=some (0,(dY b me (aI me b fd0 (o.getD [])).1++[bl (aI me b fd0 (o.getD [])).2]).map .d):=by
 have h:=l75 n b hb hm o hl hok fd0
 rw [r21_0] at h
 rw [FS,Gf]
 simp only [z21,List.drop_succ_cons,Tz,K2,K7,K0,Kb] at h
 simp only [G105,bf,ah,b8,h,CL]
 cases hq:(aI me b fd0 (o.getD [])).2<;>simp [dY]
def mI (bs:List aT) (s:aY):Bool:=gQ s&&(dg s.2.1 bs).isSome
def HP (me:Int) (bs:List aT) (ss:List aY) (h:Int):Bool :=
 dR me&&(cC me bs&&(decide (ss.length≤120)&&(eZ h 0 ss.length&&(ss.all (mI bs)&&bs.all fun b=>(aI me b fd0 ss).2))))
theorem l15_0 (n:Nat) (me h:D) (b:Option (List aT)) (o:Option (List aY)) (hl:(o.getD []).length≤4611686018427387904) (hb:(b.getD []).length≤4611686018427387904) :
  bh [r6 (RP (n+3))] M0 0 [.d me,.d (dB b),.d (dS o),.d h,.d (il 0)]=if (o.getD []).all (mI (b.getD []))=true then some (1,[.d me,.d (dB b),.d (dS o),.d h]) else some (0,[.d (il 92)]):=by
 have:=aZ (β:=Unit) (o.getD []) hl (r6 (RP (n+3))) (fun i _=>[.d me,.d (dB b),.d (dS o),.d h,.d (il i)]) (fun _ _=>True)
  (fun i r _=>if r.all (mI (b.getD []))=true then some (1,[.d me,.d (dB b),.d (dS o),.d h]) else some (0,[.d (il 92)])) ?_ ?_ M0 () trivial (cc hl)
 ·exact this
 ·intro _ k _
  simp [r6,b7]
 ·intro i e r _ k hi hd hlt hw _ ih
  have hlt':(i:Int) < ((o.getD []).length:Int):=by omega
  have ih1:=ih () trivial
  rw [b5] at ih1
  simp only [r6,ae,aj,b7,aB,ac,hlt',Jt,Jv,lx hi,wX,vU,wW,vS,an,s73,ab,aJ,au,ah,lD _ _ hb,aF,hw,T6,mI]
  by_cases h1:gQ e=true
  ·simp only [h1,K1,Jq,Jx,Kf,Ju,cR]
   cases h2:dg e.2.1 (b.getD []) with
   | none=>simp
   | some j =>
    rw [Kg (by simp)]
    exact ih1
  ·simp [h1]
theorem l15_1 (n:Nat) {me:Int} (hm:dR me=true) (h:D) (b:Option (List aT)) (o:Option (List aY)) (hl:(o.getD []).length≤4611686018427387904) (hb:(b.getD []).length≤4611686018427387904) (hok:∀ s∈o.getD [],gQ s=true) (h6:∀ c∈b.getD [],j7 c.2) :
  bh [r5 (RP (n+6))] M0 0 [.d (il me),.d (dB b),.d (dS o),.d h,.d (il 0)]=if ((b.getD []).all fun c=>(aI me c fd0 (o.getD [])).2)=true then some (1,[]) else some (0,[.d (il 92)]):=by
 have:=aZ (β:=Unit) (b.getD []) hb (r5 (RP (n+6))) (fun i _=>[.d (il me),.d (dB b),.d (dS o),.d h,.d (il i)]) (fun _ _=>True)
  (fun i r _=>if (r.all fun c=>(aI me c fd0 (o.getD [])).2)=true then some (1,[]) else some (0,[.d (il 92)])) ?_ ?_ M0 () trivial (cc hb)
 ·exact this
 ·intro _ k _
  simp [r5,b7]
 ·intro i e r _ k hi hd hlt hw _ ih
  have hlt':(i:Int) < ((b.getD []).length:Int):=by omega
  have ih1:=ih () trivial
  rw [b5] at ih1
  simp only [r5,ae,aj,b7,aB,ac,hlt',Jt,Jv,bO hi,eC,fL,an,BK _ _ (h6 e (Ka hi)) hm _ hl hok,ab,au,ah,aF,hw,T6,dY,K2,K7,K0,Kb,aJ]
  by_cases h2:(aI me e fd0 (o.getD [])).2=true
  ·simp only [h2,K1,Jq,Jx,Kf]
   exact ih1
  ·simp [h2]
theorem bK {me:Int} {bs:List aT} (h:cC me bs=true):∀ c∈bs,j7 c.2:=by
 intro c hc
 simp only [cC,Js] at h
 have:=(jS h.1 c hc).1
 simp only [qh,Js] at this
 exact tx this.1
theorem Af {bs:List aT} {ss:List aY} (h:ss.all (mI bs)=true):∀ s∈ss,gQ s=true:=fun s hs=>by
 have:=Kt.1 h s hs
 simp only [mI,Js] at this
 exact this.1
theorem Hq (n:Nat) (me h:Int) (b:Option (List aT)) (o:Option (List aY)) (hl:(o.getD []).length≤4611686018427387904) (hb:(b.getD []).length≤4611686018427387904) :
  FN (n+7) 104 [il me,dB b,dS o,il h]=some (0,[.d (il (if HP me (b.getD []) (o.getD []) h=true then 0 else 92))]):=by
 rw [FS,Gg]
 simp only [G104,an,EN,s65 _ _ _ hb,EM,b7,ab,ae,aJ,ac,au,ah,bz,bf,l15_0 _ _ _ _ _ hl hb,HP]
 by_cases h1:dR me=true
 ·by_cases h2:cC me (b.getD [])=true
  ·by_cases h3:(o.getD []).length≤120
   ·have h3':¬ ((120:Int) < (o.getD []).length):=by omega
    by_cases h4:eZ h 0 (o.getD []).length=true
    ·by_cases h5:(o.getD []).all (mI (b.getD []))=true
     ·simp only [h1,h2,h3,h3',h4,h5,K1,Jq,Jx,Jv,Jt,Jw,Kf,bH,ae,aj,l15_1 _ h1 _ _ _ hl hb (Af h5) (bK h2)]
      cases (b.getD []).all fun c=>(aI me c fd0 (o.getD [])).2<;>simp
     ·simp [h1,h2,h3,h3',h4,h5]
    ·simp [h1,h2,h3,h3',h4]
   ·have h3':((120:Int) < (o.getD []).length):=by omega
    simp [h1,h2,h3,h3']
  ·simp [h1,h2]
 ·simp [h1]
end
section
def bT (f:Fld):List D:=[il (f.no 0),bl (f.af 0),il (f.ask 0),il (f.no 1),bl (f.af 1),il (f.ask 1),il (f.no 2),bl (f.af 2),il (f.ask 2),il (f.no 3),bl (f.af 3),il (f.ask 3),il (f.no 4),bl (f.af 4),il (f.ask 4),il (f.no 5),bl (f.af 5),il (f.ask 5),il f.wants,bl f.opn]
def fi (bs:List aT):List Value:=bs.map fun b=>.int .i64 b.1
def mapM (bs:List aT) (fs:List Fld):Mr:=(fi bs,fs.map bT)
theorem nN (f:Int):∀ (bs:List aT) (i:Nat),d4 0 (.int .i64 f) (fi bs) i=some ((dg f bs).map (·+i))
 | [],i=>rfl
 | b::r,i=>by
  have ih:=nN f r (i+1)
  simp only [fi,K0,d4,BL] at ih ⊢
  rw [dg]
  by_cases h:b.1=f
  ·simp [h]
  ·have h':(f==b.1)=false:=by simp;omega
   simp only [h',Kg h]
   rw [ih]
   cases dg f r with
   | none=>rfl
   | some j=>simp;omega
section
variable {Fn:Nat→List D→az} {FnD:D→List Sh→List D→az} {m:Nat}
theorem ca (q:Mr):(aa Fn FnD m).mrows q=q.2:=rfl
theorem dI (q:Mr) (r:Rr):(aa Fn FnD m).mset q r=(q.1,r):=rfl
theorem bW (a b:Nat):(aa Fn FnD m).mulN a b=a*b:=rfl
theorem bw (w:List D) (a b:Nat):(aa Fn FnD m).cellN w a b=w.getD (a+b) default:=rfl
theorem ec (r:Rr) (a b:Nat) (l:List D):(aa Fn FnD m).setRC r a b l=iT r a b l:=rfl
theorem eo (bs:List aT) (rows:Rr) (f:Int) (k:Nat→az) (e:az):(aa Fn FnD m).find 0 (fi bs,rows) (il f) k e=match dg f bs with
  | some j=>k j
  | none=>e:=by
 have:mg 0 (fi bs,rows) (il f)=some (dg f bs):=by
  simp only [mg,il,tB,fC,Jv,nN]
  cases dg f bs<;>simp
 simp only [aa,this]
 cases dg f bs<;>rfl
theorem tm (a b c d:az):(aa Fn FnD m).selK 0 [.int .i64 1,.int .i64 2,.int .i64 3,.int .i64 4] (il 1) [a,b,c,d]=a:=rfl
theorem tk (a b c d:az):(aa Fn FnD m).selK 0 [.int .i64 1,.int .i64 2,.int .i64 3,.int .i64 4] (il 2) [a,b,c,d]=b:=rfl
theorem tj (a b c d:az):(aa Fn FnD m).selK 0 [.int .i64 1,.int .i64 2,.int .i64 3,.int .i64 4] (il 3) [a,b,c,d]=c:=rfl
theorem ti (a b c d:az):(aa Fn FnD m).selK 0 [.int .i64 1,.int .i64 2,.int .i64 3,.int .i64 4] (il 4) [a,b,c,d]=d:=rfl
theorem bb {fs:List Fld} {j:Nat} {f:Fld} (h:fs[j]?=some f) (k:List D→az):(aa Fn FnD m).rowAt 20 (fs.map bT) j k=k (bT f):=by
 rw [kC,Kn,h];rfl
theorem k9 (q:Mr):(aa Fn FnD m).mpD true q=.mp true q.1 q.2:=rfl
theorem tp (n:Nat):(aa Fn FnD m).dN (il n)=n:=by simp [aa,Bt,il]
end
theorem fX (f:Fld):(bT f).getD 19 default=bl f.opn:=rfl
theorem dZ (f:Fld):(bT f).getD 18 default=il f.wants:=rfl
theorem eK (f:Fld) {i:Nat} (h:i < 6):(bT f).getD (3*i) default=il (f.no i):=by
 match i,h with
 | 0,_=>rfl
 | 1,_=>rfl
 | 2,_=>rfl
 | 3,_=>rfl
 | 4,_=>rfl
 | 5,_=>rfl
theorem jW (f:Fld) {i:Nat} (h:i < 6):(bT f).getD (3*i+2) default=il (f.ask i):=by
 match i,h with
 | 0,_=>rfl
 | 1,_=>rfl
 | 2,_=>rfl
 | 3,_=>rfl
 | 4,_=>rfl
 | 5,_=>rfl
theorem xY (f:Fld) {i:Nat} (h:i < 6):(bT f).getD (3*i+1) default=bl (f.af i):=by
 match i,h with
 | 0,_=>rfl
 | 1,_=>rfl
 | 2,_=>rfl
 | 3,_=>rfl
 | 4,_=>rfl
 | 5,_=>rfl
theorem mz {fs:List Fld} {j:Nat} {f g:Fld} (h:fs[j]?=some f) (off:Nat) (ds:List D) (hg:(bT f).take off++ds++(bT f).drop (off+ds.length)=bT g):iT (fs.map bT) j off ds=(fs.set j g).map bT:=by
 unfold iT
 have:(fs.map bT).getD j []=bT f:=by simp [Kd,h]
 rw [this,hg,Vc]
theorem l3 {fs:List Fld} {j:Nat} {f:Fld} (h:fs[j]?=some f) (x:Bool):iT (fs.map bT) j 19 [bl x]=(fs.set j { f with opn:=x }).map bT:=mz h _ _ rfl
theorem ny {fs:List Fld} {j:Nat} {f:Fld} (h:fs[j]?=some f) (x:Int):iT (fs.map bT) j 18 [il x]=(fs.set j { f with wants:=x }).map bT:=mz h _ _ rfl
theorem xn {fs:List Fld} {j:Nat} {f:Fld} (h:fs[j]?=some f) {i:Nat} (hi:i < 6) (x:Int):iT (fs.map bT) j (3*i) [il x]=(fs.set j { f with no:=cd f.no i x }).map bT:=by
 refine mz h _ _ ?_
 match i,hi with
 | 0,_=>rfl
 | 1,_=>rfl
 | 2,_=>rfl
 | 3,_=>rfl
 | 4,_=>rfl
 | 5,_=>rfl
theorem pL {fs:List Fld} {j:Nat} {f:Fld} (h:fs[j]?=some f) {i:Nat} (hi:i < 6) (x:Bool):iT (fs.map bT) j (3*i+1) [bl x]=(fs.set j { f with af:=cd f.af i x }).map bT:=by
 refine mz h _ _ ?_
 match i,hi with
 | 0,_=>rfl
 | 1,_=>rfl
 | 2,_=>rfl
 | 3,_=>rfl
 | 4,_=>rfl
 | 5,_=>rfl
theorem sV {fs:List Fld} {j:Nat} {f:Fld} (h:fs[j]?=some f) {i:Nat} (hi:i < 6) (x:Int):iT (fs.map bT) j (3*i+2) [il x]=(fs.set j { f with ask:=cd f.ask i x }).map bT:=by
 refine mz h _ _ ?_
 match i,hi with
 | 0,_=>rfl
 | 1,_=>rfl
 | 2,_=>rfl
 | 3,_=>rfl
 | 4,_=>rfl
 | 5,_=>rfl
theorem fu {fs:List Fld} {j:Nat} {f:Fld} (h:fs[j]?=some f) (g:Fld):(fs.set j g)[j]?=some g:=by
 have:j < fs.length:=by
  rcases Nat.lt_or_ge j fs.length with h' | h'
  ·exact h'
  ·rw [Kx h'] at h;cases h
 simp [this]
theorem GC (n:Nat) (bs:List aT) (fs:List Fld) {j:Nat} {f:Fld} (hj:fs[j]?=some f) (c1 c2 c5:D) (c3 c4:Nat) (c6:Rr) :
  bh [fh (RP n)] M0 0 [.n j,.n 0,.d (il 0),.d c1,.d c2,.n c3,.n c4,.d c5,.r c6,.m (mapM bs fs)]=some (0,[.d c1,.d c2,.n c3,.n c4,.d c5,.r c6,.m (mapM bs (fs.set j { f with af:=fun _=>false }))]):=by
 have:=ew (β:=Fld) 6 (by omega) (fh (RP n)) (fun i g=>[.n j,.n 0,.d (il i),.d c1,.d c2,.n c3,.n c4,.d c5,.r c6,.m (mapM bs (fs.set j g))]) (fun _ _=>True)
  (fun i g=>some (0,[.d c1,.d c2,.n c3,.n c4,.d c5,.r c6,.m (mapM bs (fs.set j { g with af:=fun q=>if i≤q then false else g.af q }))])) ?_ ?_ f trivial
 ·have e:fs.set j f=fs:=by
   apply Mp
   intro i
   rw [List.getElem?_set]
   split
   ·subst_vars;split<;>simp_all
   ·rfl
  simp only [e] at this
  simpa using this
 ·intro g k _
  simp [fh,mapM,Vc]
  rfl
 ·intro i g k hi _ hw ih
  have ih':=ih { g with af:=cd g.af i false } trivial
  rw [b5] at ih'
  have e:(fun q=>if i+1≤q then false else cd g.af i false q)=fun q=>if i≤q then false else g.af q:=by
   funext q
   unfold cd
   by_cases h1:i=q
   ·subst h1;simp
   ·by_cases h2:i≤q
    ·rw [K9 (by omega),K9 h2]
    ·rw [Kg (by omega),Kg h1,Kg h2]
  simp only [e] at ih'
  rw [←ih']
  have h20:3*i+1+1≤20:=by omega
  simp only [fh,mapM,ae,aj,aP,aU,aw,ax,av,aA,ah,b8,aB,ac,show ((i:Int) < 6) by omega,Jt,Jv,aC,dk,aH,bW,ca,dI,bb (fu hj g),ec,cr,K4,Kq,Km,h20,pL (fu hj g) hi,Tv,aF,hw]
  rw [K9 (by omega)]
theorem e95_3:@rb=@fh:=rfl
theorem e95_4:@ra=@fg:=rfl
theorem e95_5:@r9=@ff:=rfl
end
section
def Fz (c1 c2 c3 c4 c7:D) (c5 c6:Nat) (r:Rr) (m:Mr) (i:Nat) (acc:List Nat):Nat×List Yr:=match acc with
 | []=>(0,[.d c1,.d c2,.d (il i),.m m,.r r,.d c3,.d c4,.n c5,.n c6,.d c7])
 | a::t=>(1,[.d c1,.d c2,.d (il i),.r ((a::t).map fun (o:Nat)=>[il o]),.n (t.length+1),.n (t.length+1),.m m,.r r,.d c3,.d c4,.n c5,.n c6,.d c7])
def uW (c3 c4 c7:D) (c5 c6:Nat) (r:Rr) (m:Mr) (acc:List Nat):az:=match acc with
 | []=>some (0,[.m m,.r r,.d c3,.d c4,.n c5,.n c6,.d c7])
 | a::t=>some (1,[.r ((a::t).map fun (o:Nat)=>[il o]),.n (t.length+1),.n (t.length+1),.m m,.r r,.d c3,.d c4,.n c5,.n c6,.d c7])
theorem Dz (c1 c2 c3 c4 c7:D) (c5 c6:Nat) (r:Rr) (m:Mr) (i:Nat) (acc:List Nat) (x:Nat) :
  Fz c1 c2 c3 c4 c7 c5 c6 r m i (acc++[x])=(1,[.d c1,.d c2,.d (il i),.r ((acc++[x]).map fun (o:Nat)=>[il o]),.n (acc.length+1),.n (acc.length+1),.m m,.r r,.d c3,.d c4,.n c5,.n c6,.d c7]):=by
 cases acc with
 | nil=>rfl
 | cons a t=>simp [Fz]
theorem GB (n:Nat) {bs:List aT} {fs:List Fld} {j:Nat} {f:Fld} {fld:Int} (hj:fs[j]?=some f) (hx:dg fld bs=some j) {P:Int} (hP:j7 P) (me:Int) (y:List Yr) (hy:(RP (n+3)).ld y 6=il fld) (c1 c4 c7:D) (c5 c6:Nat) (r:Rr) :
  bh [fg (RP (n+3)) y,ff (RP (n+3)) y] M0 0 [.d c1,.d (il P),.d (il 0),.m (mapM bs fs),.r r,.d (il me),.d c4,.n c5,.n c6,.d c7]=uW (il me) c4 c7 c5 c6 r (mapM bs fs) (dC me P f):=by
 have:=iN (σ:=Nat×List Nat) [fg (RP (n+3)) y,ff (RP (n+3)) y] (fun s=>Fz c1 (il P) (il me) c4 c7 c5 c6 r (mapM bs fs) s.1 s.2) (fun s=>6 - s.1) (fun s=>s.1≤6∧s.2.length≤s.1)
  (fun s=>uW (il me) c4 c7 c5 c6 r (mapM bs fs) (s.2++oA me P f s.1)) ?_ M0 (0,[]) ⟨by simp,by simp⟩ (by simp only [M0];omega)
 ·exact this
 ·rintro ⟨i,acc⟩ k ⟨hi,ha⟩ ih
  simp only at hi ha
  by_cases h6:i=6
  ·subst h6
   cases acc with
   | nil=>exact ⟨_,rfl,by simp [fg,Fz,uW,jj]⟩
   | cons a t=>exact ⟨_,rfl,by simp [ff,Fz,uW,jj]⟩
  ·have hi':i < 6:=by omega
   have hw:=dX (show i < 7 by omega) (show 7≤4611686018427387904 by omega)
   have ih0:=ih (i+1,acc) ⟨hi',by simp only;omega⟩ (by simp only;omega)
   have ih1:=ih (i+1,acc++[i]) ⟨hi',by simp;omega⟩ (by simp only;omega)
   simp only [Dz,b5,Kh,K2,K7] at ih1
   simp only at ih0
   have h20:3*i+1≤20:=by omega
   have hlt:(i:Int) < 6:=by omega
   have hin:0≤(i:Int)∧(i:Int) < (6:Nat):=by omega
   rw [lV hi']
   cases acc with
   | nil =>
    refine ⟨_,rfl,?_⟩
    simp only [Fz,b5] at ih0
    simp only [Fz,fg,mapM,ae,aj,aP,aU,aw,ax,av,aA,ah,aB,hlt,Jt,ac,Jv,br,an,pR _ _ hP,ab,bM hi',hy,eo,hx,aC,dk,ca,bb hj,aH,bW,cr,bw,K4,Kq,Km,h20,eK f hi',E9,aJ,aO,aQ,Jy,K8,aS,aN,List.take,cl,aL,aF,hw]
    rw [K9 hin]
    by_cases h1:(i:Int)=me
    ·simp only [h1,My,Mf,Jw,Jt,Jq,Jx,K1,Mj]
     rw [←h1] at ih0 ⊢
     exact ih0
    ·cases h2:P.toNat.testBit i with
     | false =>
      simp only [h1,My,Kw,Jt,Jv,Jq,Jx,Bool.and_false,Mj]
      exact ih0
     | true =>
      cases h3:aK me i (f.no i) with
      | true =>
       simp only [h1,My,Kw,Jt,Jv,Jq,Jx,Bool.and_false,K1]
       exact ih0
      | false =>
       simp only [h1,My,Kw,Jt,Jv,M6,Jw,Kf]
       rw [K9 (by decide)]
       exact ih1
   | cons a t =>
    refine ⟨_,rfl,?_⟩
    simp only [Fz,b5] at ih0
    simp only [Fz,ff,mapM,ae,aj,aP,aU,aw,ax,av,aA,ah,aB,hlt,Jt,ac,Jv,br,an,pR _ _ hP,ab,bM hi',hy,eo,hx,aC,dk,ca,bb hj,aH,bW,cr,bw,K4,Kq,Km,h20,eK f hi',E9,aJ,aO,aQ,Jy,K8,aS,aN,List.take,aL,aF,hw,K5,bp]
    rw [K9 hin]
    by_cases h1:(i:Int)=me
    ·simp only [h1,My,Mf,Jw,Jt,Jq,Jx,K1,Mj]
     rw [←h1] at ih0 ⊢
     exact ih0
    ·cases h2:P.toNat.testBit i with
     | false =>
      simp only [h1,My,Kw,Jt,Jv,Jq,Jx,Bool.and_false,Mj]
      exact ih0
     | true =>
      cases h3:aK me i (f.no i) with
      | true =>
       simp only [h1,My,Kw,Jt,Jv,Jq,Jx,Bool.and_false,K1]
       exact ih0
      | false =>
       simp only [h1,My,Kw,Jt,Jv,M6,Jw,Kf]
       simp only [Jy] at ha
       rw [K9 (by omega)]
       simp only [Mm,K0,Kb,Jy] at ih1 ⊢
       exact ih1
end
section
def FA (N:Nat) (bs:List aT) (r:Rr) (c1 c2 c5:D) (c3 c4:Nat) (i:Nat) (fs:List Fld):List Yr:=[.n N,.n N,.d (il N),.d (il i),.m (mapM bs fs),.r r,.d c1,.d c2,.n c3,.n c4,.d c5]
def ei (bs:List aT) (r:Rr) (c1 c2 c5:D) (c3 c4:Nat) (q:List Fld×Bool):az:=if q.2=true then some (1,[.m (mapM bs q.1),.r r,.d c1,.d c2,.n c3,.n c4,.d c5]) else some (0,[.d (bl false),.m (mapM bs q.1),.r r,.d c1,.d c2,.n c3,.n c4,.d c5])
theorem l4 (fs:List Fld) (j:Nat) (g:Fld):(fs.set j g).length=fs.length:=List.length_set ..
section
variable {Fn:Nat→List D→az} {FnD:D→List Sh→List D→az} {m:Nat}
theorem xw {l:List aY} {i:Nat} {s:aY} (h:l[i]?=some s) (k:List D→az):(aa Fn FnD m).rowAt 4 (l.map rS) i k=k (rS s):=by
 rw [kC,Kn,h];rfl
theorem cH (f:Int):(aa Fn FnD m).fnD 88 [(aa Fn FnD m).dpD [il f] 0]=.fn 88 [.dp [il f] 0]:=rfl
end
set_option maxRecDepth 20000 in
theorem l95 (n:Nat) (b:Option (List aT)) (hb:(b.getD []).length≤4611686018427387904) (h6:∀ c∈b.getD [],j7 c.2) (l:List aY) (hl:l.length≤4611686018427387904) (me:Int) (c5:D) (c3 c4:Nat) (fs:List Fld) (hf:fs.length=(b.getD []).length) :
  bh [fe (RP (n+3))] M0 0 (FA l.length (b.getD []) (l.map rS) (il me) (dB b) c5 c3 c4 0 fs)=ei (b.getD []) (l.map rS) (il me) (dB b) c5 c3 c4 (bI me (b.getD []) fs l):=by
 have:=aZ (β:=List Fld) l hl (fe (RP (n+3))) (fun i fs=>FA l.length (b.getD []) (l.map rS) (il me) (dB b) c5 c3 c4 i fs) (fun _ fs=>fs.length=(b.getD []).length)
  (fun _ r fs=>ei (b.getD []) (l.map rS) (il me) (dB b) c5 c3 c4 (bI me (b.getD []) fs r)) ?_ ?_ M0 fs hf (cc hl)
 ·exact this
 ·intro fs k _
  simp [fe,FA,ei,bI]
 ·intro i s r fs k hi hd hlt hw hfs ih
  have hlt':(i:Int) < (l.length:Int):=by omega
  have hin:0≤(i:Int)∧(i:Int) < (l.length:Nat):=by omega
  rw [bI]
  by_cases hs:gQ s=true
  ·rw [K9 hs]
   cases hx:dg s.2.1 (b.getD []) with
   | none =>
    have hneg:oE s.2.1 (b.getD []) < 0:=cR.2 hx
    simp only [FA,fe,ae,aj,aP,aU,aw,ax,av,aA,aB,hlt',Jt,ac,Jv,aQ,K5,aS,dk,hin,Kk,Km,xw hi,wX,vU,wW,vS,an,sX,ab,hs,aJ,K1,Jq,Jx,cH,lw _ _ hb,ah,hneg,b8,au,ba,l6,ei]
    simp
   | some j =>
    obtain ⟨hj1,hj2⟩:=ey hx
    have hnn:¬ (oE s.2.1 (b.getD []) < 0):=by rw [cR,hx];simp
    have hix:oE s.2.1 (b.getD [])=(j:Int):=by simp [oE,hx]
    obtain ⟨e,he⟩:∃ e,(b.getD [])[j]?=some e:=⟨_,Jz hj1⟩
    have hP:j7 e.2:=h6 e (Ka he)
    have hge:(b.getD []).getD j (0,0)=e:=by simp [Kd,he]
    obtain ⟨f,hf⟩:∃ f,fs[j]?=some f:=⟨_,Jz (by omega)⟩
    have hgf:fs.getD j fd0=f:=by simp [Kd,hf]
    simp only
    rw [hge,hgf]
    have ihs:∀ g,k 0 (FA l.length (b.getD []) (l.map rS) (il me) (dB b) c5 c3 c4 (i+1) (fs.set j g))=ei (b.getD []) (l.map rS) (il me) (dB b) c5 c3 c4 (bI me (b.getD []) (fs.set j g) r):=fun g=>ih _ (by rw [l4];exact hfs)
    simp only [FA,b5] at ihs
    simp only [FA,fe,ae,aj,aP,aU,aw,ax,av,aA,aB,hlt',Jt,ac,Jv,aQ,K5,aS,dk,hin,Kk,Km,xw hi,wX,vU,wW,vS,an,sX,ab,hs,aJ,K1,Jq,Jx,cH,lw _ _ hb,ah,hnn,Jw,b8,au]
    rw [hix,bO he]
    simp only [eC,fL,ab,ae,aj,aP,aU,aw,ax,av,aA]
    rcases mJ hs with ⟨h1,ho⟩ | h1 | ⟨h1,ho⟩ | h1
    ·have hp:=bP ho
     have hq:0≤s.2.2.1∧s.2.2.1 < (6:Nat):=by have:=bn.1 ho;omega
     have k1:3*s.2.2.1.toNat+1≤20:=by omega
     have k2:3*s.2.2.1.toNat+1+1≤20:=by omega
     unfold bi
     simp only [h1,ba,Jt,Jv,ab,ae,aj,aP,aU,aw,ax,av,aA,aJ,ac,K1,Jq,Jx,pR _ _ hP,mapM,aC,dk,hq,Kk,ca,bb hf,aH,bW,cr,bw,K4,Kq,fX,eK f hp,ic,tm,eo,hx,dI,ec,xn hf hp,bb (fu hf _),pL (fu hf _) hp,Tv,aF,hw,k1,k2,show 19+1≤20 by decide,Ju]
     by_cases g1:s.2.2.1=me
     ·simp [g1,ei,mapM]
     ·by_cases g2:bU e.2 s.2.2.1=true
      ·by_cases g3:f.opn=true
       ·simp [g1,g2,g3,ei,mapM]
       ·by_cases g4:s.2.2.2≤f.no s.2.2.1.toNat
        ·simp [g1,g2,g3,g4,ei,mapM]
        ·have ih':=ihs { f with no:=cd f.no s.2.2.1.toNat s.2.2.2,af:=cd f.af s.2.2.1.toNat true }
         have g3':f.opn=false:=by simpa using g3
         simp only [mapM,g3'] at ih'
         simp only [g1,g2,g3',g4,Jx,ab,ae,aj,aP,aU,aw,ax,av,aA,aJ,ac,K1,Jq,Jw,Mv]
         exact ih'
      ·simp [g1,g2,ei,mapM]
    ·unfold bi
     simp only [h1,ba,show ¬ ((2:Int)=1) by decide,show ¬ ((2:Int)=3) by decide,Jw,Jv,ab,ae,aj,aP,aU,aw,ax,av,aA,aJ,ac,K1,Jq,Jx,mapM,aC,ca,bb hf,aH,bW,cr,bw,K4,Kq,dZ,ic,tk,eo,hx,dI,ec,ny hf,bf,e95_3,aF,hw,show 18+1≤20 by decide,Ju]
     by_cases g1:s.2.2.2≤f.wants
     ·simp [g1,ei,mapM]
     ·have ih':=ihs { f with wants:=s.2.2.2,af:=fun _=>false }
      have h0:=GC (n+3) (b.getD []) (fs.set j { f with wants:=s.2.2.2 }) (fu hf _) (il me) (dB b) c5 c3 c4 (l.map rS)
      simp only [mapM,Tv] at ih' h0
      simp only [g1,Jx,h0,ab,ae,aj,aP,aU,aw,ax,av,aA]
      exact ih'
    ·have hp:=bP ho
     have hq:0≤s.2.2.1∧s.2.2.1 < (6:Nat):=by have:=bn.1 ho;omega
     have k2:3*s.2.2.1.toNat+2+1≤20:=by omega
     unfold bi
     simp only [h1,ba,show ¬ ((3:Int)=1) by decide,show ¬ ((3:Int)=2) by decide,Jt,Jw,Jv,ab,ae,aj,aP,aU,aw,ax,av,aA,aJ,ac,K1,Jq,Jx,pR _ _ hP,mapM,aC,dk,hq,Kk,ca,bb hf,aH,bW,cr,bw,K4,Kq,jW f hp,ic,tj,eo,hx,dI,ec,sV hf hp,aF,hw,k2,Ju]
     by_cases g1:s.2.2.1=me
     ·simp [g1,ei,mapM]
     ·by_cases g2:bU e.2 s.2.2.1=true
      ·by_cases g4:s.2.2.2≤f.ask s.2.2.1.toNat
       ·simp [g1,g2,g4,ei,mapM]
       ·have ih':=ihs { f with ask:=cd f.ask s.2.2.1.toNat s.2.2.2 }
        simp only [mapM] at ih'
        simp only [g1,g2,g4,Jx,ab,ae,aj,aP,aU,aw,ax,av,aA,K1,Jq,Jw,Mv]
        exact ih'
      ·simp [g1,g2,ei,mapM]
    ·unfold bi
     have he1:e.1=s.2.1:=by rw [←hge];exact hj2
     have hj0:¬ ((j:Int) < 0):=by omega
     simp only [h1,ba,show ¬ ((4:Int)=1) by decide,show ¬ ((4:Int)=2) by decide,show ¬ ((4:Int)=3) by decide,Jw,Jv,ab,ae,aj,aP,aU,aw,ax,av,aA,aJ,ac,K1,Jq,Jx,mapM,aC,ti,eo,hx,cH,lw _ _ hb,hix,hj0,bO he,eC,fL,aB,ca,bb hf,aH,bW,cr,bw,K4,Kq,fX,e7,dI,ec,bf,e95_4,e95_5,aF,hw,show 19+1≤20 by decide,he1,Ju]
     by_cases g1:s.2.2.2=1
     ·cases g2:f.opn with
      | true=>simp [g1,ei,mapM]
      | false =>
       have h0:=fun y hy=>GB (n:=n) hf hx hP me y hy (il s.2.1) (dB b) c5 c3 c4 (l.map rS)
       simp only [mapM] at h0
       simp only [g1,Jt,show ((false==true)=true)=False by simp,Jx,Jv]
       rw [h0 _ (by simp)]
       cases hm:dC me e.2 f with
       | nil =>
        have ih':=ihs { f with opn:=true }
        simp only [mapM] at ih'
        simp only [uW,ab,ae,aj,aP,aU,aw,ax,av,aA,bz,ac,show ¬ ((0:Int) < 0) by decide,Jw,Jq,Jx,bb hf,l3 hf,aJ,K1,Tc,Bool.and_false,Mv,show ((false==true)=true)=False by simp]
        exact ih'
       | cons a t =>
        have:(0:Int) < ((t.length+1:Nat):Int):=by omega
        simp only [uW,ab,bH,ae,aj,aP,aU,aw,ax,av,aA,bz,ac,dj,this,Jt,Jv,aJ,M6]
        simp [ei,mapM]
     ·cases g2:f.opn with
      | true =>
       have ih':=ihs { f with opn:=false }
       simp only [mapM] at ih'
       simp only [g1,Jw,show ((true==false)=true)=False by simp,Jx,Jq,l3 hf,ab,ae,aj,aP,aU,aw,ax,av,aA,aJ,ac,K1,Mj,Mv]
       exact ih'
      | false=>simp [g1,ei,mapM]
  ·simp only [FA,fe,ae,aj,aP,aU,aw,ax,av,aA,aB,hlt',Jt,ac,Jv,aQ,K5,aS,dk,hin,Kk,Km,xw hi,wX,vU,wW,vS,an,sX,ab,hs,aJ,au,b8]
   simp [ei]
theorem ja (n:Nat) (b:Option (List aT)) (hb:(b.getD []).length≤4611686018427387904) (h6:∀ c∈b.getD [],j7 c.2) (l:List aY) (hl:l.length≤4611686018427387904) (me:Int) (c5:D) (c3 c4:Nat) (fs:List Fld) (hf:fs.length=(b.getD []).length) :
  FN (n+4) 1000035 [il me,dB b,il c3,il c4,c5,.sl 4 (l.map rS),.mp true (fi (b.getD [])) (fs.map bT)] =
   some (0,[.d (bl (bI me (b.getD []) fs l).2),.d (il me),.d (dB b),.d (il c3),.d (il c4),.d c5,.d (.sl 4 (l.map rS)),.d (.mp true (fi (b.getD [])) ((bI me (b.getD []) fs l).1.map bT))]):=by
 rw [FS,wQ]
 have h:=l95 n b hb h6 l hl me c5 c3 c4 fs hf
 have ha:∀ k:Mr→az,(RP (n+3)).asM true (.mp true (fi (b.getD [])) (fs.map bT)) k=k (mapM (b.getD []) fs):=fun _=>rfl
 simp only [FA,Tf] at h
 simp only [wU,fv,ha,bf,aQ,K5,dj,ah,tp,h,ei]
 cases (bI me (b.getD []) fs l).2<;>simp [k9,mapM]
end
section
def bS (me:Int) (bs:List aT) (ss:List aY) (h:Int):Bool :=
 dR me&&(cC me bs&&(decide (ss.length≤120)&&(eZ h 0 ss.length&&(bI me bs (bs.map fun _=>fd0) ss).2)))
theorem gL (me:Int) (bs:List aT) (ss:List aY) (h:Int):bS me bs ss h=HP me bs ss h:=by
 unfold bS HP
 cases hb:cC me bs with
 | false=>simp
 | true =>
  have hr:lA bs:=by
   simp only [cC,Js] at hb
   exact fx hb.1
  obtain ⟨-,p1,p2⟩:=kD (me:=me) hr ss (bs.map fun _=>fd0) (by simp)
  have hf:∀ i,(bs.map fun _=>fd0).getD i fd0=fd0:=fun i=>by
   simp only [Kd,Kn]
   cases bs[i]?<;>rfl
  have e:(bI me bs (bs.map fun _=>fd0) ss).2=(ss.all (mI bs)&&bs.all fun b=>(aI me b fd0 ss).2):=by
   rw [Bool.eq_iff_iff,Js,Kt,Kt]
   constructor
   ·intro h
    obtain ⟨a,b⟩:=p1 h
    refine ⟨fun s hs=>?_,fun c hc=>?_⟩
    ·obtain ⟨a1,a2⟩:=a s hs
     simp only [mI,a1,Kf]
     cases hx:dg s.2.1 bs with
     | none=>exact absurd hx a2
     | some _=>rfl
    ·obtain ⟨i,hi,rfl⟩:=List.mem_iff_getElem.1 hc
     have:=b i hi
     rw [hf i] at this
     simp only [Kd,Jz hi,M1] at this
     rw [this]
   ·rintro ⟨a,b⟩
    refine p2 (fun s hs=>?_) fun i hi=>?_
    ·have:=a s hs
     simp only [mI,Js] at this
     refine ⟨this.1,fun hn=>?_⟩
     rw [hn] at this
     simp at this
    ·rw [hf i]
     have:=b bs[i] (List.getElem_mem hi)
     simpa only [Kd,Jz hi,M1] using this
  rw [e]
section
variable {Fn:Nat→List D→az} {FnD:D→List Sh→List D→az} {m:Nat}
theorem B5 (bs:List aT):(fi bs).length=bs.length:=by simp [fi]
theorem qb {bs:List aT} {fs:List Fld} (hf:fs.length=bs.length) {e:aT} (hx:dg e.1 bs=none) (g:Fld) (k:Mr→az) :
  (aa Fn FnD m).addK 0 (fi bs,fs.map bT++[bT g]) (il e.1) bs.length k=k (mapM (bs++[e]) (fs++[g])):=by
 have:wa 0 (fi bs,fs.map bT++[bT g]) (il e.1) bs.length=some (mapM (bs++[e]) (fs++[g])):=by
  simp only [wa,il,tB,fC,B5,Tp,Kc,K5,hf,Jy,K8]
  rw [K9 (by omega),nN,hx]
  simp [mapM,fi]
 simp only [aa,this]
end
theorem mB:bT fd0=[il 0,bl false,il 0,il 0,bl false,il 0,il 0,bl false,il 0,il 0,bl false,il 0,il 0,bl false,il 0,il 0,bl false,il 0,il 0,bl false]:=rfl
theorem nb {bs:List aT} (hr:lA bs) {i:Nat} {e:aT} (he:bs[i]?=some e):dg e.1 (bs.take i)=none:=by
 cases hx:dg e.1 (bs.take i) with
 | none=>rfl
 | some j =>
  obtain ⟨h1,h2⟩:=ey hx
  have hi:i < bs.length:=by
   rcases Nat.lt_or_ge i bs.length with h | h
   ·exact h
   ·rw [Kx h] at he;cases he
  have hj:j < i:=by simp at h1;omega
  have:=List.pairwise_iff_getElem.1 hr j i (by omega) hi hj
  rw [Jz hi] at he
  simp only [Jr] at he
  simp only [Kd,M8,hj,Jv,Jz (show j < bs.length by omega),M1] at h2
  rw [he] at this
  omega
def new (bs:List aT):List Fld:=bs.map fun _=>fd0
theorem kH (bs:List aT) (e:aT):new (bs++[e])=new bs++[fd0]:=by simp [new]
theorem cz (bs:List aT):(new bs).length=bs.length:=by simp [new]
theorem hH {α:Type} {l:List α} {i:Nat} {e:α} (h:l[i]?=some e):l.take (i+1)=l.take i++[e]:=by
 rw [List.take_add_one,h];rfl
theorem l14 (n:Nat) (o:Option (List aT)) (hl:(o.getD []).length≤4611686018427387904) (hr:lA (o.getD [])) (c1 c2 c5 c6 c7 c10:D) (c3 c4 c8 c9:Nat) (r:Rr) :
  bh [DX (RP n)] M0 0 [.d (dB o),.d (il (o.getD []).length),.d (il 0),.m ([],[]),.d c1,.d c2,.n c3,.n c4,.d c5,.r r,.d c6,.d c7,.n c8,.n c9,.d c10] =
   some (0,[.m (mapM (o.getD []) (new (o.getD []))),.d c1,.d c2,.n c3,.n c4,.d c5,.r r,.d c6,.d c7,.n c8,.n c9,.d c10]):=by
 have:=aZ (β:=Unit) (o.getD []) hl (DX (RP n)) (fun i _=>[.d (dB o),.d (il (o.getD []).length),.d (il i),.m (mapM ((o.getD []).take i) (new ((o.getD []).take i))),.d c1,.d c2,.n c3,.n c4,.d c5,.r r,.d c6,.d c7,.n c8,.n c9,.d c10]) (fun _ _=>True)
  (fun _ _ _=>some (0,[.m (mapM (o.getD []) (new (o.getD []))),.d c1,.d c2,.n c3,.n c4,.d c5,.r r,.d c6,.d c7,.n c8,.n c9,.d c10])) ?_ ?_ M0 () trivial (cc hl)
 ·exact this
 ·intro _ k _
  simp [DX,T1]
 ·intro i e r _ k hi hd hlt hw _ ih
  have hlt':(i:Int) < ((o.getD []).length:Int):=by omega
  have ih':=ih () trivial
  rw [b5,hH hi,kH] at ih'
  have hadd:=fun k=>qb (Fn:=FN n) (FnD:=dW Tryz.prog (fm tb Tryz.prog) (FN n)) (m:=M0) (cz ((o.getD []).take i)) (nb hr hi) fd0 k
  have hlen:((o.getD []).take i).length=i:=by simp;omega
  simp only [mB,hlen] at hadd
  simp only [DX,mapM,ae,aj,aP,aU,aw,ax,av,aA,aB,hlt',Jt,ac,Jv,bO hi,eC,aC,aS,dI,bp,ca,aO,ah,b8,aQ,K5,cz,hlen,hadd,aF,hw]
  exact ih'
theorem j9 (r:Rr) (z:List D):r.take r.length++((List.replicate r.length z).drop r.length).take r.length=r:=by
 simp
theorem s14 (n:Nat) (me h:Int) (b:Option (List aT)) (o:Option (List aY)) (hl:(o.getD []).length≤4611686018427387904) (hb:(b.getD []).length≤4611686018427387904) :
  FN (n+5) 7 [il me,dB b,dS o,il h]=some (0,[.d (il (if bS me (b.getD []) (o.getD []) h=true then 0 else 92))]):=by
 rw [FS,G7_eq]
 simp only [G7,an,Ay,s62 _ _ _ hb,yK,b7,ab,ae,aJ,ac,au,ah,bz,bS]
 by_cases h1:dR me=true
 ·by_cases h2:cC me (b.getD [])=true
  ·have h2':=h2
   simp only [cC,Js,Ju] at h2'
   by_cases h3:(o.getD []).length≤120
   ·have h3':¬ ((120:Int) < (o.getD []).length):=by omega
    by_cases h4:eZ h 0 (o.getD []).length=true
    ·have hmk:0≤((o.getD []).length:Int)∧((32:Nat):Int)*((o.getD []).length:Int)≤140737488355328∧((o.getD []).length:Int)≤9223372036854775807:=by omega
     simp only [h1,h2,h3,h3',h4,K1,Jq,Jx,Jv,Jt,Jw,Kf,s63 _ _ h2'.2,ab,ae,lT,hmk,Kk,Km,jb,lS,aQ,List.length_replicate,aS,b7,oy,bp,aN,lR,bf,K5]
     have hseg:=j9 ((o.getD []).map rS) [il 0,il 0,il 0,il 0]
     rw [K5] at hseg
     rw [hseg,l14 _ _ hb (fx h2'.1)]
     simp only [ab,ae,aj,aP,aw,ax,av,aA,K5,Jv,dj,dt,k9,mapM]
     rw [ja _ _ hb (bK h2) _ (by omega) _ _ _ _ _ (cz _)]
     have hr4:∀ k:Rr→az,(RP (n+4)).rowsD 4 (.sl 4 ((o.getD []).map rS)) k=k ((o.getD []).map rS):=fun _=>rfl
     simp only [ab,ae,aj,fv,aJ,ac]
     have ha:∀ (a:List Value) (b:Rr) (k:Mr→az),(RP (n+4)).asM true (.mp true a b) k=k (a,b):=fun _ _ _=>rfl
     rw [ha]
     show (if (!(bI me (b.getD []) (new (b.getD [])) (o.getD [])).2)=true then _ else _:az)=some (0,[.d (il (if (bI me (b.getD []) (new (b.getD [])) (o.getD [])).2=true then 0 else 92))])
     cases (bI me (b.getD []) (new (b.getD [])) (o.getD [])).2<;>simp
    ·simp [h1,h2,h3,h3',h4]
   ·have h3':((120:Int) < (o.getD []).length):=by omega
    simp [h1,h2,h3,h3']
  ·simp [h1,h2]
 ·simp [h1]
end
end Go.VE
