/- Bell: the strokes of words and lines, as the program reads them, are those of the reference. -/
import Derived.Test.YtaagapoglhndjaaGreatDoorMg3
import Derived.Test.YtaagapoglhndjaaGreatDoorMg2
import Derived.Test.YtaagapoglhndjaaGreatDoorMg4
import Derived.Recover
import Derived.Deep.AppendLies
namespace Go.VE
open Go.RowKit Go.Proofs
set_option maxRecDepth 100000
def threeP (k:Int):List (List UInt8)→Option Stk
 | [a,b,c]=>match numP a,numP b,numP c with
  | some f,some p,some n=>some (k,f,p,n)
  | _,_,_=>none
 | _=>none
def twoP (k:Int):List (List UInt8)→Option Stk
 | [a,c]=>match numP a,numP c with
  | some f,some n=>some (k,f,0,n)
  | _,_=>none
 | _=>none
def strokeP:List (List UInt8)→Option Stk
 | []=>none
 | x::r=>if kindI x=0 then none else if two2 (kindI x)=true then threeP (kindI x) r else twoP (kindI x) r
def bodyK (zs:Option (List Nat)) (k:Nat):Option Stk:=match zs with
  | some [a,b,c]=>if two2 k=true then some (k,a,b,c) else none
  | some [a,c]=>if two2 k=true then none else some (k,a,0,c)
  | _=>none
theorem hit_y {w:List UInt8} {zs:Option (List Nat)} {k:Nat} (h:w=nameOf k):hit w zs k=bodyK zs k:=by
 show (if w=nameOf k then bodyK zs k else none)=_
 rw [if_pos h]
theorem hit_n {w:List UInt8} {zs:Option (List Nat)} {k:Nat} (h:w≠nameOf k):hit w zs k=none:=by
 show (if w=nameOf k then bodyK zs k else none)=_
 rw [if_neg h]
theorem sf4 (w:List UInt8) (zs:Option (List Nat)):sfrom w zs 4 1=(hit w zs 1).or ((hit w zs 2).or ((hit w zs 3).or (hit w zs 4))):=by
 simp only [sfrom,Nat.reduceAdd]
 cases hit w zs 1<;>cases hit w zs 2<;>cases hit w zs 3<;>cases hit w zs 4<;>rfl
theorem numsW_cons (w:List UInt8) (r:List (List UInt8)):numsW (w::r)=(numW w).bind fun z=>(numsW r).map (z::·):=by
 simp only [numsW];cases numW w<;>rfl
theorem numsW_len:∀ {r:List (List UInt8)} {zs:List Nat},numsW r=some zs→zs.length=r.length
 | [],zs,h=>by simp only [numsW,Option.some.injEq] at h;subst h;rfl
 | w::r,zs,h=>by
  rw [numsW_cons] at h
  obtain ⟨z,_,h⟩:=Option.bind_eq_some_iff.1 h
  obtain ⟨t,ht,rfl⟩:=Option.map_eq_some_iff.1 h
  simp [numsW_len ht]
theorem body_w (k:Nat) (hk:two2 k=true) (r:List (List UInt8)) (hne:∀ w∈r,w≠[]):bodyK (numsW r) k=threeP k r:=by
 match r,hne with
 | [a,b,c],hne =>
  simp only [threeP,numP_W (hne a (by simp)),numP_W (hne b (by simp)),numP_W (hne c (by simp)),numsW_cons,numsW]
  cases numW a<;>cases numW b<;>cases numW c<;>simp [bodyK,hk,threeP]
 | [],_=>simp [bodyK,numsW,threeP]
 | [a],_=>simp only [numsW_cons,numsW];cases numW a<;>simp [bodyK,threeP]
 | [a,b],_=>simp only [numsW_cons,numsW];cases numW a<;>cases numW b<;>simp [bodyK,hk,threeP]
 | a::b::c::d::t,_ =>
  show _=none
  cases hz:numsW (a::b::c::d::t) with
  | none=>rfl
  | some zs =>
   have:=numsW_len hz
   match zs,this with
   | _::_::_::_::_,_=>rfl
theorem body_o (k:Nat) (hk:¬ two2 k=true) (r:List (List UInt8)) (hne:∀ w∈r,w≠[]):bodyK (numsW r) k=twoP k r:=by
 match r,hne with
 | [a,c],hne =>
  simp only [twoP,numP_W (hne a (by simp)),numP_W (hne c (by simp)),numsW_cons,numsW]
  cases numW a<;>cases numW c<;>simp [bodyK,hk,twoP]
 | [],_=>simp [bodyK,numsW,twoP]
 | [a],_=>simp only [numsW_cons,numsW];cases numW a<;>simp [bodyK,twoP]
 | [a,b,c],_=>simp only [numsW_cons,numsW];cases numW a<;>cases numW b<;>cases numW c<;>simp [bodyK,hk,twoP]
 | a::b::c::d::t,_ =>
  show _=none
  cases hz:numsW (a::b::c::d::t) with
  | none=>rfl
  | some zs =>
   have:=numsW_len hz
   match zs,this with
   | _::_::_::_::_,_=>rfl
theorem n1:nameOf (1:Nat)=tallyW:=by decide
theorem n2:nameOf (2:Nat)=wantsW:=by decide
theorem n3:nameOf (3:Nat)=askedW:=by decide
theorem n4:nameOf (4:Nat)=bellW:=by decide
theorem strokeP_W (x:List UInt8) (r:List (List UInt8)) (hne:∀ w∈r,w≠[]):strokeP (x::r)=strokeW (x::r):=by
 show (if kindI x=0 then none else if two2 (kindI x)=true then threeP (kindI x) r else twoP (kindI x) r)=sfrom x (numsW r) 4 1
 rw [sf4]
 by_cases h1:x=tallyW
 ·subst h1
  rw [hit_y n1.symm,hit_n (by rw [n2];decide),hit_n (by rw [n3];decide),hit_n (by rw [n4];decide),body_w 1 (by decide) r hne]
  rw [show kindI tallyW=1 by decide,if_neg (by decide),if_pos (by decide)]
  simp
 by_cases h2:x=wantsW
 ·subst h2
  rw [hit_n (by rw [n1];decide),hit_y n2.symm,hit_n (by rw [n3];decide),hit_n (by rw [n4];decide),body_o 2 (by decide) r hne]
  rw [show kindI wantsW=2 by decide,if_neg (by decide),if_neg (by decide)]
  simp
 by_cases h3:x=askedW
 ·subst h3
  rw [hit_n (by rw [n1];decide),hit_n (by rw [n2];decide),hit_y n3.symm,hit_n (by rw [n4];decide),body_w 3 (by decide) r hne]
  rw [show kindI askedW=3 by decide,if_neg (by decide),if_pos (by decide)]
  simp
 by_cases h4:x=bellW
 ·subst h4
  rw [hit_n (by rw [n1];decide),hit_n (by rw [n2];decide),hit_n (by rw [n3];decide),hit_y n4.symm,body_o 4 (by decide) r hne]
  rw [show kindI bellW=4 by decide,if_neg (by decide),if_neg (by decide)]
  simp
 ·have:kindI x=0:=by rw [kindI,if_neg h1,if_neg h2,if_neg h3,if_neg h4]
  rw [if_pos this,hit_n (by rw [n1];exact h1),hit_n (by rw [n2];exact h2),hit_n (by rw [n3];exact h3),hit_n (by rw [n4];exact h4)]
  rfl
def parP:Nat→List (List UInt8)→Nat ⊕ List Stk
 | _,[]=>.inr []
 | i,l::r=>if wordsOf l=[] then parP (i+1) r else match strokeP (wds [] l) with
   | none=>.inl (i+1)
   | some s=>match parP (i+1) r with
    | .inl a=>.inl a
    | .inr t=>.inr (s::t)
theorem parP_L:∀ (ls:List (List UInt8)) (i:Nat),parP i ls=parL i ls
 | [],_=>rfl
 | l::r,i=>by
  simp only [parP,parL]
  rw [parP_L r (i+1)]
  by_cases h:wordsOf l=[]
  ·rw [if_pos h,h]
  ·rw [if_neg h]
   have e:wordsOf l=wds [] l:=by
    unfold wordsOf at h ⊢
    split
    ·rename_i h';rw [if_pos h'] at h;exact absurd rfl h
    ·rfl
   rw [e] at h ⊢
   cases hw:wds [] l with
   | nil=>exact absurd hw h
   | cons w ws=>rw [strokeP_W w ws fun x hx=>wds_mem l [] x (by rw [hw];exact List.mem_cons_of_mem _ hx)];rfl
theorem parL_snoc:∀ (ls:List (List UInt8)) (i:Nat),parL i (ls++[[]])=parL i ls
 | [],i=>rfl
 | l::r,i=>by
  simp only [List.cons_append,parL]
  rw [parL_snoc r (i+1)]
theorem parL_spl (l:List UInt8):parP 0 (spl [] l)=parL 0 (lns [] l):=by
 rw [parP_L]
 rcases spl_lns l [] with h | h
 ·rw [h]
 ·rw [h,parL_snoc]
end Go.VE
namespace Go.VE
open Go.RowKit Go.Proofs Go.Shelf
set_option maxRecDepth 100000
set_option maxHeartbeats 4000000
theorem stroke_w2 (x:List UInt8) (A n c:Nat) (w:World) (h0:w.cell? ⟨A,0,none⟩=some (.string ⟨x.toArray⟩)) (hn:1≤n) (k:Int)
  (hk:kindI x=k) (hk0:(k==0)=false) (hk1:(k==1)=false) (hk3:(k==3)=false) (h3:¬ (n:Int)=3):Calls Tryz.prog 65 #[.slice (some ⟨A,0,none⟩) n c] w fun e w'=>Below w.heap.size w w'∧e=.panicked [{ v:=wrongV,recovered:=false }]:=by
 have hlt:A < w.heap.size:=cellLt h0
 have hn':(0:Int) < (n:Int):=by omega
 have hn0:0 < n:=hn
 have h3':((n:Int)==3)=false:=by simpa using h3
 go_enter Tryz.func65,Tryz.ntmps65
 go_wp2
 go_region_held3 (fun w'=>w'.cell? ⟨A,0,none⟩=some (.string ⟨x.toArray⟩)) (first | go_keep | (refine (Below.cell (by assumption) (by simp;omega)).trans ?_;first | assumption | (simp;omega)))
  ((go_at_call 95;refine (wordOf_c _).mono ?_;rintro e w1 ⟨v,rfl,hv,hb⟩;have hlk:=look_c hv x;have hbw:Below w.heap.size w w1:=(((Below.refl _ w).alloc (Nat.le_refl _) _).drew).trans (hb.mono (by simp))))
 all_goals go_wp2
 all_goals exact ⟨rfl,hbw,rfl⟩
theorem stroke_w4 (x:List UInt8) (A n c:Nat) (w:World) (h0:w.cell? ⟨A,0,none⟩=some (.string ⟨x.toArray⟩)) (hn:1≤n) (k:Int)
  (hk:kindI x=k) (hk0:(k==0)=false) (hk13:k=1∨k=3) (h3:¬ (n:Int)=4):Calls Tryz.prog 65 #[.slice (some ⟨A,0,none⟩) n c] w fun e w'=>Below w.heap.size w w'∧e=.panicked [{ v:=wrongV,recovered:=false }]:=by
 have hlt:A < w.heap.size:=cellLt h0
 have hn':(0:Int) < (n:Int):=by omega
 have hn0:0 < n:=hn
 have h3':((n:Int)==4)=false:=by simpa using h3
 obtain ⟨kb,hkb⟩:∃ kb,(k==1)=kb:=⟨_,rfl⟩
 have hkb3:kb=false→(k==3)=true:=by rintro rfl;rcases hk13 with rfl | rfl<;>simp_all
 clear hk13
 cases kb
 ·have hk3:=hkb3 rfl
  clear hkb3
  go_enter Tryz.func65,Tryz.ntmps65
  go_wp2
  go_region_held3 (fun w'=>w'.cell? ⟨A,0,none⟩=some (.string ⟨x.toArray⟩)) (first | go_keep | (refine (Below.cell (by assumption) (by simp;omega)).trans ?_;first | assumption | (simp;omega)))
   ((go_at_call 95;refine (wordOf_c _).mono ?_;rintro e w1 ⟨v,rfl,hv,hb⟩;have hlk:=look_c hv x;have hbw:Below w.heap.size w w1:=(((Below.refl _ w).alloc (Nat.le_refl _) _).drew).trans (hb.mono (by simp))))
  all_goals go_wp2
  all_goals exact ⟨rfl,hbw,rfl⟩
 ·clear hkb3
  go_enter Tryz.func65,Tryz.ntmps65
  go_wp2
  go_region_held3 (fun w'=>w'.cell? ⟨A,0,none⟩=some (.string ⟨x.toArray⟩)) (first | go_keep | (refine (Below.cell (by assumption) (by simp;omega)).trans ?_;first | assumption | (simp;omega)))
   ((go_at_call 95;refine (wordOf_c _).mono ?_;rintro e w1 ⟨v,rfl,hv,hb⟩;have hlk:=look_c hv x;have hbw:Below w.heap.size w w1:=(((Below.refl _ w).alloc (Nat.le_refl _) _).drew).trans (hb.mono (by simp))))
  all_goals go_wp2
  all_goals exact ⟨rfl,hbw,rfl⟩
def outS:Option Stk→Ending
 | some s=>.returned (.agg #[.int .i64 s.1,.int .i64 s.2.1,.int .i64 s.2.2.1,.int .i64 s.2.2.2])
 | none=>.panicked [{ v:=wrongV,recovered:=false }]
theorem kindI_cases (x:List UInt8):kindI x=0∨(two2 (kindI x)=true∧(kindI x=1∨kindI x=3))∨(two2 (kindI x)=false∧(kindI x=2∨kindI x=4)):=by
 unfold kindI
 split
 ·exact .inr (.inl ⟨by decide,.inl rfl⟩)
 ·split
  ·exact .inr (.inr ⟨by decide,.inl rfl⟩)
  ·split
   ·exact .inr (.inl ⟨by decide,.inr rfl⟩)
   ·split
    ·exact .inr (.inr ⟨by decide,.inr rfl⟩)
    ·exact .inl rfl
theorem three_n {k:Int} {r:List (List UInt8)} (h:r.length≠3):threeP k r=none:=by
 match r,h with
 | [],_=>rfl
 | [_],_=>rfl
 | [_,_],_=>rfl
 | [_,_,_],h=>exact absurd rfl h
 | _::_::_::_::_,_=>rfl
theorem two_n {k:Int} {r:List (List UInt8)} (h:r.length≠2):twoP k r=none:=by
 match r,h with
 | [],_=>rfl
 | [_],_=>rfl
 | [_,_],h=>exact absurd rfl h
 | _::_::_::_,_=>rfl
theorem stroke_c (x:List UInt8) (r:List (List UInt8)) (hl:∀ y∈x::r,y.length≤1000000) (A c:Nat) (w:World) (hL:Laid w)
  (hc:∀ (i:Nat) (y:List UInt8),(x::r)[i]?=some y→w.cell? ⟨A,i,none⟩=some (.string ⟨y.toArray⟩)) :
  Calls Tryz.prog 65 #[.slice (some ⟨A,0,none⟩) (x::r).length c] w fun e w'=>Below w.heap.size w w'∧e=outS (strokeP (x::r)):=by
 have h0:=hc 0 x rfl
 show Calls Tryz.prog 65 _ w fun e w'=>Below w.heap.size w w'∧e=outS (if kindI x=0 then none else if two2 (kindI x)=true then threeP (kindI x) r else twoP (kindI x) r)
 rcases kindI_cases x with hz | ⟨ht,hk⟩ | ⟨ht,hk⟩
 ·rw [if_pos hz]
  exact stroke_no x A _ c w h0 (by simp) hz
 ·have hk0:¬ kindI x=0:=by omega
  have hb0:(kindI x==0)=false:=by simpa using hk0
  rw [if_neg hk0,if_pos ht]
  by_cases h3:r.length=3
  ·match r,h3,hl,hc with
   | [a,b,d],_,hl,hc =>
    have h1:=hc 1 a rfl
    have h5:=hc 2 b rfl
    have h2:=hc 3 d rfl
    have ha:=hl a (by simp)
    have hb:=hl b (by simp)
    have hd:=hl d (by simp)
    show Calls Tryz.prog 65 #[.slice (some ⟨A,0,none⟩) 4 c] w fun e w'=>Below w.heap.size w w'∧e=outS (match numP a,numP b,numP d with
     | some f,some p,some n=>some (kindI x,f,p,n)
     | _,_,_=>none)
    cases hna:numP a with
    | none=>exact stroke_4a x a b d ha hd hb A c w hL h0 h1 h2 h5 _ rfl hb0 hk hna
    | some n =>
     cases hnd:numP d with
     | none =>
      have e:(match some n,numP b,(none:Option Nat) with
       | some f,some p,some n=>some ((kindI x,(f:Int),(p:Int),(n:Int)):Stk)
       | _,_,_=>none)=none:=by cases numP b<;>rfl
      rw [e]
      exact stroke_4c x a b d ha hd hb A c w hL h0 h1 h2 h5 _ rfl hb0 hk n hna hnd
     | some m =>
      cases hnb:numP b with
      | none=>exact stroke_4b x a b d ha hd hb A c w hL h0 h1 h2 h5 _ rfl hb0 hk n m hna hnd hnb
      | some q=>exact stroke_4 x a b d ha hd hb A c w hL h0 h1 h2 h5 _ rfl hb0 hk n m q hna hnd hnb
  ·rw [three_n h3]
   exact stroke_w4 x A _ c w h0 (by simp) _ rfl hb0 hk (by simp only [List.length_cons];omega)
 ·have hk0:¬ kindI x=0:=by omega
  have hb0:(kindI x==0)=false:=by simpa using hk0
  have hb1:(kindI x==1)=false:=by simp;omega
  have hb3:(kindI x==3)=false:=by simp;omega
  rw [if_neg hk0,if_neg (by rw [ht];decide)]
  by_cases h3:r.length=2
  ·match r,h3,hl,hc with
   | [a,d],_,hl,hc =>
    have h1:=hc 1 a rfl
    have h2:=hc 2 d rfl
    have ha:=hl a (by simp)
    have hd:=hl d (by simp)
    show Calls Tryz.prog 65 #[.slice (some ⟨A,0,none⟩) 3 c] w fun e w'=>Below w.heap.size w w'∧e=outS (match numP a,numP d with
     | some f,some n=>some (kindI x,f,0,n)
     | _,_=>none)
    cases hna:numP a with
    | none=>exact stroke_2a x a d ha hd A c w hL h0 h1 h2 _ rfl hb0 hb1 hb3 hna
    | some n =>
     cases hnd:numP d with
     | none=>exact stroke_2c x a d ha hd A c w hL h0 h1 h2 _ rfl hb0 hb1 hb3 n hna hnd
     | some m=>exact stroke_2 x a d ha hd A c w hL h0 h1 h2 _ rfl hb0 hb1 hb3 n m hna hnd
  ·rw [two_n h3]
   exact stroke_w2 x A _ c w h0 (by simp) _ rfl hb0 hb1 hb3 (by simp only [List.length_cons];omega)
end Go.VE
namespace Go.VE
open Go.RowKit Go.Proofs Go.Shelf Go.Lib
set_option maxRecDepth 100000
set_option maxHeartbeats 4000000
theorem idle61 (p q:Addr) (w:World):CallsD Tryz.prog 61 #[.pointer (some p),.pointer (some q)] .returning w fun e u' w'=>e=.returned (.tuple #[])∧u'=.returning∧w'=w:=by
 refine callsD_of_wpS Tryz.func61 rfl fun c₀ cs hu=>?_
 apply wpS_seq
 apply wpS_region
 simp [wpOpsS,go_sem,recoverD,hu,Tryz.ntmps61,Exit.thenS]
 refine wpS_of_wp ?_
 go_wp2
 cases c₀
 simp_all [bodyPostS,results,Tryz.results61]
theorem assert123 (W:World) (v:Value):(Instr.typeAssert (.iface 123 v) 20 123 true).run Tryz.prog W=.ok (.tuple #[v,.bool true]) W:=by kernel_rfl
theorem catch61 (b c:Nat) (x y:Value) (older:List PanicEntry) (w:World) (hbc:b≠c) (hx:w.cell? ⟨b,0,none⟩=some x) (hy:w.cell? ⟨c,0,none⟩=some y) (fx:w.frozen? ⟨b,0,none⟩=false) (fy:w.frozen? ⟨c,0,none⟩=false) :
  CallsD Tryz.prog 61 #[.pointer (some ⟨b,0,none⟩),.pointer (some ⟨c,0,none⟩)] (.panicking ({ v:=wrongV,recovered:=false }::older)) w fun e u' w' =>
   e=.returned (.tuple #[])∧u'=.panicking ({ v:=wrongV,recovered:=true }::older)∧w'=((w.setCell ⟨b,0,none⟩ (.slice none 0 0)).setCell ⟨c,0,none⟩ (.int .i64 5)).alloc (.cells #[] 123):=by
 have hlb:b < w.heap.size:=cellLt hx
 have hlc:c < w.heap.size:=cellLt hy
 refine callsD_of_wpS Tryz.func61 rfl fun c₀ cs hu=>?_
 apply wpS_seq
 apply wpS_region
 simp [wpOpsS,go_sem,recoverD,hu,Tryz.ntmps61,Exit.thenS]
 have has:=fun W=>assert123 W (.agg #[])
 refine wpS_of_wp ?_
 go_wp2
 cases c₀
 simp_all [bodyPostS,results,Tryz.results61]
theorem blank64 (x:Nat) (w:World):Calls Tryz.prog 64 #[.int .i32 x] w fun e w'=>e=.returned (.bool (isSp x))∧w'=w:=by
 have h:((x:Int)==32)=isSp x:=by
  unfold isSp
  rw [Bool.eq_iff_iff];simp;omega
 go_enter Tryz.func64,Tryz.ntmps64
 go_wp2
 go_ret
 exact ⟨by simp [h],rfl⟩
theorem pred64 (w:World):PredAtRunes Tryz.prog 64 #[] isSp w:=by
 intro W x _ _
 exact (blank64 x W).mono fun e w' h=>⟨h.1,0,h.2⟩
end Go.VE
