/- Bell, in the end: what the books say of one field, and who comes before whom. -/
import Derived.Test.YtaagapoglhndjaaDoorMg5
namespace Go.VE
open Go.RowKit Go.Proofs
section
abbrev uo:=Nat→Fld
def hw (a b:Nat) (x:Int):Prop:=(a < b∧x % 2=0)∨(b < a∧x % 2=1)
theorem fv {a b:Nat} (h:a≠b) {x:Int}:aK a b x=true↔hw a b x:=by
 unfold aK hw
 by_cases h1:(a:Int) < b<;>by_cases h2:x % 2=0<;>simp [h1,h2]<;>omega
def PI (a b:Nat) (x y q w:Int) (S:Int→Int→Prop):Prop :=
 (hw a b x→x≤y)∧x≤y+1∧q≤w∧(hw a b x∨y < x→w - w % 2≤q)∧(y < x→w % 2=1)∧∀ n v,S n v→n≤y∧v≤w∧(x < n→w - w % 2≤v)
def qY (a b:Nat) (x y:Int) (ca cb:Bool):Prop:=x < y∨(x=y∧(ca=true∨(¬ hw a b x∧cb=false)))
def Il (g:uo) (a b:Nat):Prop:=qY a b ((g a).no b) ((g b).no a) (aT a b (g a)) (aT b a (g b))
structure Inv (N:Int) (P:Nat→Prop) (Sd:Nat→Nat→Int→Int→Prop) (g:uo):Prop where
 pi:∀ a b,P a→P b→a≠b→PI a b ((g a).no b) ((g b).no a) ((g a).ask b) (g b).wants (Sd b a)
 rk:∃ r:Nat→Nat,∀ a b,P a→P b→a≠b→Il g a b→r a < r b
 nb:∀ a,P a→(g a).wants≤N∧∀ o,P o→(g a).no o≤N
theorem Inv.mono {N N':Int} {P Sd} {g:uo} (h:Inv N P Sd g) (hN:N≤N'):Inv N' P Sd g:=⟨h.pi,h.rk,fun a ha=>⟨Int.le_trans (h.nb a ha).1 hN,fun o ho=>Int.le_trans ((h.nb a ha).2 o ho) hN⟩⟩
theorem Inv.said {N:Int} {P} {Sd Sd':Nat→Nat→Int→Int→Prop} {g:uo} (h:Inv N P Sd g) (hS:∀ b a n v,P a→P b→Sd' b a n v→Sd b a n v∨(n=(g b).no a∧v=(g b).wants)):Inv N P Sd' g:=by
 refine ⟨fun a b ha hb hab=>?_,h.rk,h.nb⟩
 obtain ⟨p1,p2,p3,p4,p5,p6⟩:=h.pi a b ha hb hab
 refine ⟨p1,p2,p3,p4,p5,fun n v hs=>?_⟩
 rcases hS b a n v ha hb hs with h | ⟨rfl,rfl⟩
 ·exact p6 n v h
 ·omega
section
variable {N:Int} {P:Nat→Prop} {Sd:Nat→Nat→Int→Int→Prop} {g:uo} (hI:Inv N P Sd g) (h6:∀ a,P a→a < 6) {k:Nat} (hk:P k) {f:Fld}
include hI h6 hk
omit hk in
theorem Inv.chg (hn:f.wants≤N∧∀ o,P o→f.no o≤N)
  (h1:∀ b,P b→b≠k→PI k b (f.no b) ((g b).no k) (f.ask b) (g b).wants (Sd b k)∧PI b k ((g b).no k) (f.no b) ((g b).ask k) f.wants (Sd k b))
  (h2:(∀ b,P b→b≠k→(qY k b (f.no b) ((g b).no k) (aT k b f) (aT b k (g b))→Il g k b)∧(qY b k ((g b).no k) (f.no b) (aT b k (g b)) (aT k b f)→Il g b k))∨∀ b,P b→b≠k→¬ qY k b (f.no b) ((g b).no k) (aT k b f) (aT b k (g b))):Inv N P Sd (bv g k f):=by
 have ek:bv g k f k=f:=by simp [bv]
 have eo:∀ {a},k≠a→bv g k f a=g a:=fun h=>by simp [bv,h]
 refine ⟨fun a b ha hb hab=>?_,?_,fun a ha=>?_⟩
 ·by_cases hka:k=a
  ·subst hka
   rw [ek,eo hab]
   exact (h1 b hb (Ne.symm hab)).1
  ·by_cases hkb:k=b
   ·subst hkb
    rw [ek,eo hka]
    exact (h1 a ha hab).2
   ·rw [eo hka,eo hkb]
    exact hI.pi a b ha hb hab
 ·obtain ⟨r,hr⟩:=hI.rk
  rcases h2 with h2 | h2
  ·refine ⟨r,fun a b ha hb hab=>?_⟩
   unfold Il
   by_cases hka:k=a
   ·subst hka
    rw [ek,eo hab]
    exact fun h=>hr _ _ ha hb hab ((h2 b hb (Ne.symm hab)).1 h)
   ·by_cases hkb:k=b
    ·subst hkb
     rw [ek,eo hka]
     exact fun h=>hr _ _ ha hb hab ((h2 a ha hab).2 h)
    ·rw [eo hka,eo hkb]
     exact hr a b ha hb hab
  ·have hm:∀ a,P a→r a≤r 0+r 1+r 2+r 3+r 4+r 5:=fun a ha=>by
    have:=h6 a ha
    rcases (show a=0∨a=1∨a=2∨a=3∨a=4∨a=5 by omega) with rfl | rfl | rfl | rfl | rfl | rfl<;>omega
   generalize r 0+r 1+r 2+r 3+r 4+r 5=m at hm
   refine ⟨bv r k (m+1),fun a b ha hb hab=>?_⟩
   unfold Il
   by_cases hka:k=a
   ·subst hka
    rw [ek,eo hab]
    exact fun h=>absurd h (h2 b hb (Ne.symm hab))
   ·by_cases hkb:k=b
    ·subst hkb
     intro _
     have:=hm a ha
     simp only [bv,hka,Ju,Js]
     omega
    ·rw [eo hka,eo hkb]
     intro h
     have:=hr a b ha hb hab h
     simpa [bv,hka,hkb] using this
 ·by_cases hka:k=a
  ·subst hka;rw [ek];exact hn
  ·rw [eo hka];exact hI.nb a ha
theorem Inv.same (e1:f.no=(g k).no) (e2:f.ask=(g k).ask) (e3:f.wants=(g k).wants) (e4:∀ b,P b→b≠k→aT k b f=aT k b (g k)):Inv N P Sd (bv g k f):=by
 refine hI.chg h6 (by rw [e1,e3];exact hI.nb k hk) (fun b hb hbk=>?_) (.inl fun b hb hbk=>?_)
 ·rw [e1,e2,e3]
  exact ⟨hI.pi k b hk hb (Ne.symm hbk),hI.pi b k hb hk hbk⟩
 ·rw [e1,e4 b hb hbk]
  exact ⟨id,id⟩
theorem Inv.ask1 {o:Nat} {v:Int} (hv:(g k).ask o≤v) (hw:P o→o≠k→v≤(g o).wants) (hf:f={ g k with ask:=bv (g k).ask o v }):Inv N P Sd (bv g k f):=by
 subst hf
 refine hI.chg h6 (hI.nb k hk) (fun b hb hbk=>⟨?_,hI.pi b k hb hk hbk⟩) (.inl fun b hb hbk=>⟨id,id⟩)
 have h:=hI.pi k b hk hb (Ne.symm hbk)
 simp only [bv]
 split
 ·rename_i ho
  subst ho
  obtain ⟨p1,p2,p3,p4,p5,p6⟩:=h
  have:=hw hb hbk
  exact ⟨p1,p2,this,fun h=>Int.le_trans (p4 h) hv,p5,p6⟩
 ·exact h
omit hI h6 hk in
theorem gA {w:Int} (h:0≤w):fe w=true↔w % 2=1:=by
 unfold fe
 rw [Jq,Int.tmod_eq_emod_of_nonneg h]
theorem Inv.want (h0:0≤(g k).wants) (he:(g k).wants % 2=0) (hN:(g k).wants+1≤N) (hf:f={ g k with wants:=(g k).wants+1,af:=fun _=>false }):Inv N P Sd (bv g k f):=by
 subst hf
 refine hI.chg h6 ⟨hN,(hI.nb k hk).2⟩ (fun b hb hbk=>⟨hI.pi k b hk hb (Ne.symm hbk),?_⟩) (.inl fun b hb hbk=>?_)
 ·obtain ⟨p1,p2,p3,p4,p5,p6⟩:=hI.pi b k hb hk hbk
  refine ⟨p1,p2,by simp only;omega,fun h=>?_,fun h=>?_,fun n v hs=>?_⟩
  ·have:=p4 h;simp only;omega
  ·have:=p5 h;omega
  ·have:=p6 n v hs;simp only;omega
 ·have c1:aT k b (g k)=false:=by simp [aT,gA h0,he]
  have c2:aT k b { g k with wants:=(g k).wants+1,af:=fun _=>false }=false:=by simp [aT]
  rw [c2,← c1]
  exact ⟨id,id⟩
theorem Inv.ring (h1:(g k).wants % 2=1) (hN:(g k).wants+1≤N) (hall:∀ b,P b→b≠k→hw k b ((g k).no b)) (hf:f={ g k with wants:=(g k).wants+1,af:=fun _=>false }):Inv N P Sd (bv g k f):=by
 subst hf
 have key:∀ b,P b→b≠k→(g k).no b=(g b).no k∧¬ hw b k ((g b).no k):=fun b hb hbk=>by
  have h:=hall b hb hbk
  have p:=hI.pi k b hk hb (Ne.symm hbk)
  have q:=hI.pi b k hb hk hbk
  unfold PI hw at p q
  unfold hw at h ⊢
  omega
 refine hI.chg h6 ⟨hN,(hI.nb k hk).2⟩ (fun b hb hbk=>⟨hI.pi k b hk hb (Ne.symm hbk),?_⟩) (.inr fun b hb hbk h=>?_)
 ·obtain ⟨p1,p2,p3,p4,p5,p6⟩:=hI.pi b k hb hk hbk
  obtain ⟨e,nh⟩:=key b hb hbk
  refine ⟨p1,p2,by simp only;omega,fun h=>?_,fun h=>?_,fun n v hs=>?_⟩
  ·rcases h with h | h
   ·exact absurd h nh
   ·simp only at h;omega
  ·simp only at h;omega
  ·have:=p6 n v hs;simp only;omega
 ·obtain ⟨e,nh⟩:=key b hb hbk
  have c2:aT k b { g k with wants:=(g k).wants+1,af:=fun _=>false }=false:=by simp [aT]
  have h':=hall b hb hbk
  rw [c2] at h
  rcases h with h | ⟨_,h | h⟩
  ·simp only at h;omega
  ·cases h
  ·exact h.1 h'
omit hI h6 hk in
theorem vP {k b o:Nat} {f:Fld} {x:Int} (h:o≠b):aT k b { f with no:=bv f.no o x,af:=bv f.af o true }=aT k b f:=by
 simp [aT,bv,h]
theorem Inv.give {o:Nat} (ho:P o) (hok:o≠k) (h1:hw k o ((g k).no o)) (h2:(g k).ask o % 2=1) (h3:aT k o (g k)=false) (hN:(g k).no o+1≤N) (hf:f={ g k with no:=bv (g k).no o ((g k).no o+1),af:=bv (g k).af o true }):Inv N P Sd (bv g k f):=by
 subst hf
 obtain ⟨p1,p2,p3,p4,p5,p6⟩:=hI.pi k o hk ho (Ne.symm hok)
 obtain ⟨q1,q2,q3,q4,q5,q6⟩:=hI.pi o k ho hk hok
 have hn:=hI.nb k hk
 have e:(g o).no k=(g k).no o:=by
  clear p4 p5 p6 q4 q5 q6 hn
  have:=p1 h1
  unfold hw at h1 q1
  omega
 have nh:¬ hw o k ((g o).no k):=by rw [e];unfold hw at h1 ⊢;omega
 have ns:¬ hw k o ((g k).no o+1):=by unfold hw at h1 ⊢;omega
 have p4':=p4 (.inl h1)
 clear p4 p5 q4 q5 p1 q1
 refine hI.chg h6 ⟨hn.1,fun b hb=>?_⟩ (fun b hb hbk=>?_) (.inl fun b hb hbk=>?_)
 ·simp only [bv];split
  ·exact hN
  ·exact hn.2 b hb
 ·by_cases hb':o=b
  ·subst hb'
   simp only [bv,Js]
   exact ⟨⟨fun h=>absurd h ns,by omega,p3,fun _=>p4',fun _=>by omega,fun n v hs=>⟨(p6 n v hs).1,(p6 n v hs).2.1,fun h=>by have:=(p6 n v hs).1;omega⟩⟩,
    ⟨fun h=>absurd h nh,by omega,q3,fun h=>h.elim (fun h=>absurd h nh) fun h=>by omega,fun h=>by omega,fun n v hs=>⟨by have:=(q6 n v hs).1;omega,(q6 n v hs).2.1,fun h=>by have:=(q6 n v hs).1;omega⟩⟩⟩
  ·simp only [bv,hb',Ju]
   exact ⟨hI.pi k b hk hb (Ne.symm hbk),hI.pi b k hb hk hbk⟩
 ·by_cases hb':o=b
  ·subst hb'
   simp only [bv,Js]
   refine ⟨fun h=>?_,fun _=>.inr ⟨e,.inr ⟨nh,h3⟩⟩⟩
   exfalso
   rcases h with h | ⟨h,_⟩<;>omega
  ·rw [vP hb']
   simp only [bv,hb',Ju]
   exact ⟨id,id⟩
theorem Inv.take {o:Nat} {n v:Int} (ho:P o) (hok:o≠k) (hs:Sd o k n v) (h1:(g k).no o < n) (h2:hw k o n) (h3:v≤(g k).ask o) (h0:0≤(g k).wants) (hf:f={ g k with no:=bv (g k).no o n,af:=bv (g k).af o true }):Inv N P Sd (bv g k f):=by
 subst hf
 obtain ⟨p1,p2,p3,p4,p5,p6⟩:=hI.pi k o hk ho (Ne.symm hok)
 obtain ⟨q1,q2,q3,q4,q5,q6⟩:=hI.pi o k ho hk hok
 have hn:=hI.nb k hk
 obtain ⟨r1,r2,r3⟩:=p6 n v hs
 have hno:=(hI.nb o ho).2 k hk
 have e:(g o).no k=n:=by omega
 have nh:¬ hw o k ((g o).no k):=by rw [e];unfold hw at h2 ⊢;omega
 have r3':=r3 h1
 have q5':=q5 (by omega)
 clear p1 p4 p5 q1 q4 q5 r3
 refine hI.chg h6 ⟨hn.1,fun b hb=>?_⟩ (fun b hb hbk=>?_) (.inl fun b hb hbk=>?_)
 ·simp only [bv];split
  ·omega
  ·exact hn.2 b hb
 ·by_cases hb':o=b
  ·subst hb'
   simp only [bv,Js]
   exact ⟨⟨fun _=>by omega,by omega,p3,fun _=>by omega,fun h=>by omega,fun n' v' hs=>⟨(p6 n' v' hs).1,(p6 n' v' hs).2.1,fun h=>by have:=(p6 n' v' hs).1;omega⟩⟩,
    ⟨fun h=>absurd h nh,by omega,q3,fun h=>h.elim (fun h=>absurd h nh) fun h=>by omega,fun h=>by omega,fun n' v' hs=>⟨by have:=(q6 n' v' hs).1;omega,(q6 n' v' hs).2.1,fun h=>by have:=(q6 n' v' hs).1;omega⟩⟩⟩
  ·simp only [bv,hb',Ju]
   exact ⟨hI.pi k b hk hb (Ne.symm hbk),hI.pi b k hb hk hbk⟩
 ·by_cases hb':o=b
  ·subst hb'
   have hc:aT k o { g k with no:=bv (g k).no o n,af:=bv (g k).af o true }=true:=by
    have e1:=(fv (Ne.symm hok) (x:=n)).2 h2
    have e2:fe (g k).wants=true:=(gA h0).2 q5'
    simp [aT,bv,e1,e2]
   rw [hc]
   simp only [bv,Js]
   refine ⟨fun _=>.inl (by omega),fun h=>?_⟩
   exfalso
   rcases h with h | ⟨h,h' | h'⟩
   ·omega
   ·have e:aK o k ((g o).no k)=true:=by simp only [aT,Jn,K4] at h';exact h'.1
    exact nh ((fv hok).1 e)
   ·cases h'.2
  ·rw [vP hb']
   simp only [bv,hb',Ju]
   exact ⟨id,id⟩
end
end
section
def Sd (ws:List W4) (ps:List P3) (e:aJ) (b a:Nat) (n v:Int):Prop:=(∃ p∈ps,p.1=(b:Int)∧p.2.1=(a:Int)∧((e.1,n,v):j8)∈p.2.2.getD [])∨∃ w,ws[b]?=some w∧n=(rf b e (bnd w)).no a∧v=(rf b e (bnd w)).wants
def Chs (ws:List W4) (e:aJ) (g:uo):Prop:=∀ (k:Nat) w,ws[k]?=some w→e∈bk k→∃ m,w.2.2.2.toNat≤m∧g k=rf k e ((aG w).take m)
structure GoodX (N:Int) (ws:List W4) (ps:List P3):Prop extends GoodW ws ps where
 inv:∀ e g,Chs ws e g→Inv N (fun k=>e∈bk k) (Sd ws ps e) g
theorem oB {e:aJ} {k:Nat} (h:e∈bk k):k < 6:=by
 unfold bk at h
 obtain ⟨h1,h2⟩:=Kj.1 h
 rcases Nat.lt_or_ge k 6 with h6 | h6
 ·exact h6
 ·have h3:=Nat.ge_two_pow_of_testBit h2
  have h4:2 ^ 6≤2 ^ k:=Nat.pow_le_pow_right (by omega) h6
  simp only [Ka,M5,T1] at h1
  rcases h1 with rfl | rfl | rfl | rfl<;>(simp only [Int.reduceToNat] at h3;omega)
theorem DU {e:aJ} {k o:Nat} (h:e∈bk k) (ho:e.2.toNat.testBit o=true):e∈bk o:=Kj.2 ⟨(Kj.1 h).1,ho⟩
theorem qE {e:aJ} {k:Nat} (h:e∈bk k):e.2.toNat.testBit k=true:=(Kj.1 h).2
theorem lK {me:Int} {e:aJ}:∀ {l:List ba} {f:Fld},ay me e f (l.filter fun s=>decide (s.2.1=e.1))=ay me e f l
 | [],_=>rfl
 | s::r,f=>by
  rw [Mo,ay]
  by_cases h:s.2.1=e.1
  ·rw [K1 (by simpa using h),K1 h,ay,K1 h]
   cases aV me e.2 f s with
   | none=>rfl
   | some g=>exact lK
  ·rw [Kc (by simpa using h),Kc h]
   exact lK
theorem AH {e:aJ} (l:List ba) (i:Nat):∃ j,(l.take i).filter (fun s=>decide (s.2.1=e.1))=(l.filter fun s=>decide (s.2.1=e.1)).take j :=
 ⟨_,List.prefix_iff_eq_take.1 ((List.take_prefix i l).filter _)⟩
theorem va {e:aJ} {l:List ba} (h:∀ s∈l,s.2.1=e.1):l.filter (fun s=>decide (s.2.1=e.1))=l:=List.filter_eq_self.2 fun s hs=>by simpa using h s hs
theorem kI {e:aJ} {l:List ba} (h:∀ s∈l,s.2.1≠e.1):l.filter (fun s=>decide (s.2.1=e.1))=[]:=List.filter_eq_nil_iff.2 fun s hs=>by simpa using h s hs
theorem nv {α:Type} {e:aJ} {key:α→Int} {g:α→List ba} (hg:∀ x,∀ s∈g x,s.2.1=key x):∀ {l:List α} {x:α},(l.Pairwise fun a b=>key a≠key b)→x∈l→key x=e.1→(l.flatMap g).filter (fun s=>decide (s.2.1=e.1))=g x
 | [],_,_,hx,_=>by cases hx
 | y::r,x,hp,hx,hk=>by
  cases hp with
  | cons h1 h2 =>
   rw [List.flatMap_cons,V2]
   rcases Ka.1 hx with rfl | hx
   ·rw [va fun s hs=>by rw [hg x s hs,hk],kI,Kh]
    intro s hs
    obtain ⟨z,hz,hs⟩:=List.mem_flatMap.1 hs
    rw [hg z s hs,← hk]
    exact Ne.symm (h1 z hz)
   ·rw [kI fun s hs=>by rw [hg y s hs,← hk];exact h1 x hx,Ke]
    exact nv hg h2 hx hk
theorem ez {α:Type} (g:Nat→α) (k:Nat):bv g k (g k)=g:=by
 funext a
 simp only [bv]
 split
 ·rename_i h;rw [h]
 ·rfl
theorem sZ {α:Type} (g:Nat→α) (k:Nat) (x y:α):bv (bv g k x) k y=bv g k y:=by
 funext a
 simp only [bv]
 split<;>rfl
def ff (ws:List W4) (e:aJ):uo:=fun k=>match ws[k]? with
 | some w=>rf k e (aG w)
 | none=>fd0
theorem i6 {ws:List W4} {e:aJ} {k:Nat} {w:W4} (h:ws[k]?=some w):ff ws e k=rf k e (aG w):=by simp [ff,h]
section
variable {N:Int} {ws:List W4} {ps:List P3} (hX:GoodX N ws ps)
include hX
theorem GoodX.mono {N':Int} (h:N≤N'):GoodX N' ws ps:=⟨hX.toGoodW,fun e g hg=>(hX.inv e g hg).mono h⟩
theorem GoodX.full (e:aJ):Inv N (fun k=>e∈bk k) (Sd ws ps e) (ff ws e):=by
 refine hX.inv e _ fun k w hw he=>⟨(aG w).length,?_,?_⟩
 ·have:=o9 (hX.wat k w hw).2.2;omega
 ·rw [i6 hw,Mb]
variable {k:Nat} {w:W4} (hw:ws[k]?=some w)
include hw
theorem GoodX.chgX {w':W4} {N':Int} (hN:N≤N') (hg:GoodW (ws.set k w') ps)
  (hb:∀ e∈bk k,∀ m,w'.2.2.2.toNat≤m→(∃ m',w.2.2.2.toNat≤m'∧rf k e ((aG w').take m)=rf k e ((aG w).take m'))∨∀ g,Chs ws e g→g k=rf k e (aG w)→Inv N' (fun k=>e∈bk k) (Sd ws ps e) (bv g k (rf k e ((aG w').take m))))
  (hs:∀ e∈bk k,bnd w'=bnd w∨∀ m,w'.2.2.2.toNat≤m→rf k e ((aG w').take m)=rf k e (bnd w')):GoodX N' (ws.set k w') ps:=by
 have hkl:k < ws.length:=(K5.1 hw).1
 have hset:(ws.set k w')[k]?=some w':=by simp [hkl]
 have hoth:∀ {a},a≠k→(ws.set k w')[a]?=ws[a]?:=fun h=>by simp [Ne.symm h]
 have hold:=o9 (hX.wat k w hw).2.2
 refine ⟨hg,fun e g hc=>?_⟩
 have key:Inv N' (fun k=>e∈bk k) (Sd ws ps e) g:=by
  by_cases he:e∈bk k
  ·obtain ⟨m,hm,hgk⟩:=hc k w' hset he
   rcases hb e he m hm with ⟨m',hm',hr⟩ | h
   ·refine (hX.inv e g fun a v hv ha=>?_).mono hN
    by_cases hak:a=k
    ·subst hak
     rw [hw] at hv;cases hv
     exact ⟨m',hm',by rw [hgk,hr]⟩
    ·exact hc a v (by rw [hoth hak];exact hv) ha
   ·have:=h (bv g k (rf k e (aG w))) (fun a v hv ha=>?_) (by simp [bv])
    ·rw [sZ,← hgk,ez] at this
     exact this
    ·by_cases hak:a=k
     ·subst hak
      rw [hw] at hv;cases hv
      exact ⟨(aG w).length,by omega,by simp [bv]⟩
     ·simp only [bv,Ne.symm hak,Ju]
      exact hc a v (by rw [hoth hak];exact hv) ha
  ·refine (hX.inv e g fun a v hv ha=>?_).mono hN
   have hak:a≠k:=fun h=>he (h ▸ ha)
   exact hc a v (by rw [hoth hak];exact hv) ha
 refine key.said fun b a n v _ hbe h=>?_
 rcases h with h | ⟨u,hu,rfl,rfl⟩
 ·exact .inl (.inl h)
 ·by_cases hbk:b=k
  ·subst hbk
   rw [hset] at hu;cases hu
   rcases hs e hbe with h | h
   ·exact .inl (.inr ⟨w,hw,by rw [h],by rw [h]⟩)
   ·obtain ⟨m,hm,hgk⟩:=hc b w' hset hbe
    exact .inr ⟨by rw [hgk,h m hm],by rw [hgk,h m hm]⟩
  ·exact .inl (.inr ⟨u,by rw [←hoth hbk];exact hu,rfl,rfl⟩)
theorem GoodX.app {L:List ba} {N':Int} (hN:N≤N') (hg:GoodW (ws.set k (w.1,w.2.1,some (aG w++L),w.2.2.2)) ps)
  (hL:∀ e∈bk k,∀ g,Chs ws e g→g k=rf k e (aG w)→∀ j,Inv N' (fun k=>e∈bk k) (Sd ws ps e) (bv g k (ay k e (g k) ((L.filter fun s=>decide (s.2.1=e.1)).take j)).1)):GoodX N' (ws.set k (w.1,w.2.1,some (aG w++L),w.2.2.2)) ps:=by
 have a3:=(hX.wat k w hw).2.2
 have hold:=o9 a3
 refine hX.chgX hw hN hg (fun e he m hm=>?_) fun e _=>.inl ?_
 ·show (∃ m',_∧rf k e ((aG w++L).take m)=_)∨∀ g,_→_→Inv N' _ _ (bv g k (rf k e ((aG w++L).take m)))
  rcases Nat.le_total m (aG w).length with h | h
  ·exact .inl ⟨m,hm,by rw [Tc h]⟩
  ·refine .inr fun g hc hgk=>?_
   obtain ⟨j,hj⟩:=AH (e:=e) L (m - (aG w).length)
   have:=hL e he g hc hgk j
   rw [←hj,lK,hgk] at this
   rw [List.take_append,Kd h]
   unfold rf at this ⊢
   rw [cH ((eG.1 a3).2.2.2.2.2 e he)]
   exact this
 ·show ((aG w++L).take w.2.2.2.toNat)=(aG w).take w.2.2.2.toNat
  rw [Tc (by omega)]
theorem GoodX.app1 {L:List ba} {N' fld:Int} {j:Nat} (hN:N≤N') (hx:cM fld (bk k)=some j) (hg:GoodW (ws.set k (w.1,w.2.1,some (aG w++L),w.2.2.2)) ps) (hf:∀ s∈L,s.2.1=fld)
  (hL:∀ e∈bk k,e=(bk k).getD j (0,0)→∀ g,Chs ws e g→g k=rf k e (aG w)→∀ i,Inv N' (fun k=>e∈bk k) (Sd ws ps e) (bv g k (ay k e (g k) (L.take i)).1)):GoodX N' (ws.set k (w.1,w.2.1,some (aG w++L),w.2.2.2)) ps:=by
 have hm:=fT hx
 refine hX.app hw hN hg fun e he g hc hgk i=>?_
 by_cases hef:e.1=fld
 ·rw [va fun s hs=>by rw [hf s hs,hef]]
  exact hL e he (mg (bw (hX.wat k w hw).2.2) he hm.1 (by rw [hef,hm.2])) g hc hgk i
 ·rw [kI fun s hs=>by rw [hf s hs];exact fun h=>hef h.symm,List.take_nil,ay,ez]
  exact (hX.inv e g hc).mono hN
theorem GoodX.bind (hg:GoodW (ws.set k (w.1,w.2.1,some (aG w),((aG w).length:Int))) ps):GoodX N (ws.set k (w.1,w.2.1,some (aG w),((aG w).length:Int))) ps:=by
 have hold:=o9 (hX.wat k w hw).2.2
 refine hX.chgX hw (Tl _) hg (fun e _ m hm=>.inl ⟨m,?_,rfl⟩) fun e _=>.inr fun m hm=>?_
 ·simp only [K4] at hm;omega
 ·simp only [K4] at hm
  show rf k e ((aG w).take m)=rf k e ((aG w).take ((aG w).length:Int).toNat)
  rw [K4,Mb,Kd hm]
theorem GoodX.tear {n:Nat} (hn:w.2.2.2.toNat≤n) (hg:GoodW (ws.set k (w.1,w.2.1,some ((aG w).take n),w.2.2.2)) ps):GoodX N (ws.set k (w.1,w.2.1,some ((aG w).take n),w.2.2.2)) ps:=by
 refine hX.chgX hw (Tl _) hg (fun e _ m hm=>.inl ⟨min m n,by simp only at hm;omega,?_⟩) fun e _=>.inl ?_
 ·show rf k e (((aG w).take n).take m)=_
  rw [List.take_take]
 ·show ((aG w).take n).take w.2.2.2.toNat=(aG w).take w.2.2.2.toNat
  rw [List.take_take,Tu hn]
theorem GoodX.anew {b:Option (List aJ)} (hg:GoodW (ws.set k (k,b,lV (dy k (bk k) (aG w)),((dy k (bk k) (aG w)).length:Int))) ps):GoodX N (ws.set k (k,b,lV (dy k (bk k) (aG w)),((dy k (bk k) (aG w)).length:Int))) ps:=by
 have a3:=(hX.wat k w hw).2.2
 have hst:aG ((k:Int),b,lV (dy k (bk k) (aG w)),((dy k (bk k) (aG w)).length:Int))=dy k (bk k) (aG w):=dC _
 refine hX.chgX hw (Tl _) hg (fun e he m hm=>.inr fun g hc hgk=>?_) fun e _=>.inr fun m hm=>?_
 ·simp only [K4] at hm
  rw [hst,Kd hm]
  unfold rf
  rw [mi a3 he]
  have hfo:=rF a3 he
  have haf:=Gt a3 e
  rw [←hgk] at hfo haf ⊢
  exact (hX.inv e g hc).same (fun _ h=>oB h) he rfl rfl rfl fun b _ _=>pL hfo haf b
 ·simp only [K4] at hm
  unfold bnd
  rw [hst]
  simp only [K4]
  rw [Kd hm,Mb]
theorem GoodX.tellX {b:Nat} (hg:GoodW ws (ps++[((k:Int),(b:Int),lV (fk k (bk k) (bnd w) b))])):GoodX N ws (ps++[((k:Int),(b:Int),lV (fk k (bk k) (bnd w) b))]):=by
 refine ⟨hg,fun e g hc=>(hX.inv e g hc).said fun c a n v _ hce h=>.inl ?_⟩
 rcases h with ⟨p,hp,h1,h2,h3⟩ | h
 ·rcases Kf.1 hp with hp | hp
  ·exact .inl ⟨p,hp,h1,h2,h3⟩
  ·simp only [Kl] at hp
   subst hp
   simp only [Int.natCast_inj] at h1 h2
   subst h1
   subst h2
   simp only [dC] at h3
   obtain ⟨e',he',ht⟩:=List.mem_filterMap.1 h3
   unfold jt at ht
   split at ht
   ·simp only [Jm,Kn] at ht
    have:e'=e:=mg (bw (hX.wat k w hw).2.2) he' hce ht.1
    subst this
    refine .inr ⟨w,hw,?_,?_⟩
    ·rw [←ht.2.1,K4];rfl
    ·rw [←ht.2.2];rfl
   ·cases ht
 ·exact .inr h
end
end
section
abbrev wL (w:W4) (L:List ba):W4:=(w.1,w.2.1,some (aG w++L),w.2.2.2)
theorem tX {me fld x:Int} {e:aJ} {f:Fld} (he:e.1=fld) (h:f.wants < x):ay me e f [(2,fld,0,x)]=({ f with wants:=x,af:=fun _=>false },true):=by
 rw [bb (g:={ f with wants:=x,af:=fun _=>false }) he.symm]
 ·rfl
 ·simp [aV];omega
theorem D4 {k:Nat} {e:aJ} {f:Fld} (h:bQ k e.2 f=[]) {b:Nat} (hb:e∈bk b) (hbk:b≠k):hw k b (f.no b):=by
 refine (fv (Ne.symm hbk)).1 ?_
 cases hc:aK k b (f.no b) with
 | true=>rfl
 | false =>
  have:b∈bQ k e.2 f:=by
   unfold bQ HG
   refine Kj.2 ⟨Kj.2 ⟨Mg.2 (oB hb),?_⟩,by simp [hc]⟩
   have:¬ (b:Int)=(k:Int):=by omega
   simp [this,qE hb]
  rw [h] at this
  cases this
section
variable {N:Int} {ws:List W4} {ps:List P3} (hX:GoodX N ws ps) {k:Nat} {w:W4} (hw:ws[k]?=some w)
include hX hw
theorem GoodX.wantX {fld:Int} {j:Nat} (hx:cM fld (bk k)=some j) (hg:GoodW (ws.set k (wL w (wantX fld (fl k (bk k) (aG w) j)).2)) ps):GoodX (N+1) (ws.set k (wL w (VE.wantX fld (fl k (bk k) (aG w) j)).2)) ps:=by
 have a3:=(hX.wat k w hw).2.2
 have hm:=fT hx
 have hr:=hH a3 j
 generalize hf:fl k (bk k) (aG w) j=f at hg hr ⊢
 refine hX.app1 hw (by omega) hx hg (fun s hs=>?_) fun e he hej g hc hgk i=>?_
 ·unfold VE.wantX at hs
  repeat' split at hs
  all_goals first
   | cases hs;done
   | (simp only [Kl] at hs;rw [hs])
 ·have hgf:g k=f:=by rw [hgk,← hf,i3,hej]
  have hI:=hX.inv e g hc
  have hI':=hI.mono (show N≤N+1 by omega)
  have hN:=(hI.nb k he).1
  rw [hgf] at hN
  have nil:Inv (N+1) (fun k=>e∈bk k) (Sd ws ps e) (bv g k (ay k e (g k) []).1):=by rw [ay,ez];exact hI'
  unfold VE.wantX
  split
  ·rw [List.take_nil];exact nil
  ·split
   ·rw [List.take_nil];exact nil
   ·rename_i hd
    cases i with
    | zero=>exact nil
    | succ i =>
     rw [Mn,List.take_nil,tX (by rw [hej,hm.2]) (by rw [hgf];omega)]
     rw [gA hr.1.1] at hd
     exact hI'.want (fun _ h=>oB h) he (by rw [hgf];exact hr.1.1) (by rw [hgf];omega) (by rw [hgf];omega) (by rw [hgf])
theorem GoodX.ringX {fld:Int} {j:Nat} (hx:cM fld (bk k)=some j) (hg:GoodW (ws.set k (wL w (ringX k ((bk k).getD j (0,0)).2 fld (fl k (bk k) (aG w) j)).2)) ps):GoodX (N+1) (ws.set k (wL w (VE.ringX k ((bk k).getD j (0,0)).2 fld (fl k (bk k) (aG w) j)).2)) ps:=by
 have a3:=(hX.wat k w hw).2.2
 have hm:=fT hx
 have hr:=hH a3 j
 generalize hf:fl k (bk k) (aG w) j=f at hg hr ⊢
 refine hX.app1 hw (by omega) hx hg (fun s hs=>?_) fun e he hej g hc hgk i=>?_
 ·unfold VE.ringX at hs
  repeat' split at hs
  all_goals first
   | cases hs;done
   | (simp only [Ka,M5,T1] at hs;first | (rw [hs];done) | (rcases hs with hs | hs<;>rw [hs]))
 ·have hgf:g k=f:=by rw [hgk,← hf,i3,hej]
  have hI:=hX.inv e g hc
  have hI':=hI.mono (show N≤N+1 by omega)
  have hN:=(hI.nb k he).1
  rw [hgf] at hN
  have nil:Inv (N+1) (fun k=>e∈bk k) (Sd ws ps e) (bv g k (ay k e (g k) []).1):=by rw [ay,ez];exact hI'
  unfold VE.ringX
  rw [←hej]
  split
  ·rw [List.take_nil];exact nil
  ·rename_i ho
   split
   ·rename_i hmi
    have hmi':bQ k e.2 f=[]:=by simpa using hmi
    have hst:aV k e.2 f (4,fld,0,1)=some { f with opn:=true }:=by
     generalize e.2=P at hmi'
     simp [aV,ho,hmi']
    have hef:e.1=fld:=by rw [hej,hm.2]
    have one:Inv (N+1) (fun k=>e∈bk k) (Sd ws ps e) (bv g k { f with opn:=true }):=hI'.same (fun _ h=>oB h) he (by rw [hgf]) (by rw [hgf]) (by rw [hgf]) fun b _ _=>by rw [hgf];rfl
    split
    ·rw [List.take_nil];exact nil
    ·cases i with
     | zero=>exact nil
     | succ i =>
      rw [Mn,hgf,bb hef.symm hst]
      split
      ·rename_i hd
       rw [gA hr.1.1] at hd
       cases i with
       | zero=>exact one
       | succ i =>
        rw [Mn,List.take_nil,tX hef (by simp only;omega),← sZ g k { f with opn:=true }]
        exact one.ring (fun _ h=>oB h) he (by simp [bv,hd]) (by simp only [bv,Js];omega) (fun b hb hbk=>by simp only [bv,Js];exact D4 hmi' hb hbk) (by simp [bv])
      ·rw [List.take_nil];exact one
   ·rw [List.take_nil];exact nil
theorem GoodX.shutX {fld:Int} {j:Nat} (hx:cM fld (bk k)=some j) (hg:GoodW (ws.set k (wL w (shutX fld (fl k (bk k) (aG w) j)).2)) ps):GoodX (N+1) (ws.set k (wL w (VE.shutX fld (fl k (bk k) (aG w) j)).2)) ps:=by
 have a3:=(hX.wat k w hw).2.2
 have hm:=fT hx
 generalize hf:fl k (bk k) (aG w) j=f at hg ⊢
 refine hX.app1 hw (by omega) hx hg (fun s hs=>?_) fun e he hej g hc hgk i=>?_
 ·unfold VE.shutX at hs
  split at hs
  ·simp only [Kl] at hs;rw [hs]
  ·cases hs
 ·have hgf:g k=f:=by rw [hgk,← hf,i3,hej]
  have hI':=(hX.inv e g hc).mono (show N≤N+1 by omega)
  have nil:Inv (N+1) (fun k=>e∈bk k) (Sd ws ps e) (bv g k (ay k e (g k) []).1):=by rw [ay,ez];exact hI'
  unfold VE.shutX
  split
  ·rename_i ho
   cases i with
   | zero=>exact nil
   | succ i =>
    rw [Mn,List.take_nil,bb (g:={ g k with opn:=false }) (by rw [hej,hm.2])]
    ·exact hI'.same (fun _ h=>oB h) he rfl rfl rfl fun b _ _=>rfl
    ·rw [hgf];simp [aV,ho]
  ·rw [List.take_nil];exact nil
omit hX hw in
theorem sr {e:aJ} {Sd:Nat→Nat→Int→Int→Prop} {f:Fld} (hr:md f) (hN:∀ o,e∈bk o→f.no o+1≤N) (he:e∈bk k):∀ (l:List Nat) (g:uo),l.Nodup→(∀ o∈l,bH k e.2 f o=true∧(g k).no o=f.no o∧(g k).af o=f.af o)→(g k).ask=f.ask→(g k).wants=f.wants→(g k).opn=false→Inv N (fun k=>e∈bk k) Sd g →
  Inv N (fun k=>e∈bk k) Sd (bv g k (ay k e (g k) (l.map fun (o:Nat)=>(1,e.1,(o:Int),f.no o+1))).1)
 | [],g,_,_,_,_,_,hI=>by rw [Ky,ay,ez];exact hI
 | o::r,g,hn,hg,ha,hw,ho,hI=>by
  simp only [Mc] at hn
  obtain ⟨hgv,hno,haf⟩:=hg o (by simp)
  have hgv':=hgv
  simp only [bH,Jn,M1,M7] at hgv
  obtain ⟨g1,g2,g3,g4,g5,g6⟩:=hgv
  have heo:=DU he g2
  have hok:o≠k:=fun h=>g1 (by rw [h])
  have hst:aV k e.2 (g k) (1,e.1,(o:Int),f.no o+1)=some { g k with no:=bv (g k).no o (f.no o+1),af:=bv (g k).af o true }:=by
   have hP:cE e.2 (o:Int)=true:=jk (oB heo) g2
   simp [aV,g1,hP,ho,hno]
   omega
  have hcl:aT k o (g k)=false:=by
   rw [←g5]
   simp only [aT,K4,hno,hw,haf]
  have hI2:=hI.give (fun _ h=>oB h) he (o:=o) heo hok (by rw [hno];exact (fv (Ne.symm hok)).1 g4) (by rw [ha];exact (gA (hr.2 o).2.1).1 g3) hcl (by rw [hno];exact hN o heo) rfl
  rw [hno] at hI2
  have ih:=sr hr hN he r _ hn.2 (fun q hq=>?_) (by simp only [bv,Js];exact ha) (by simp only [bv,Js];exact hw) (by simp only [bv,Js];exact ho) hI2
  ·rw [Jz,bb rfl hst]
   rw [sZ] at ih
   simpa only [bv,Js] using ih
  ·obtain ⟨q1,q2,q3⟩:=hg q (by simp [hq])
   have hoq:¬ o=q:=fun h=>hn.1 (by rw [h];exact hq)
   refine ⟨q1,?_,?_⟩<;>simp only [bv,Js,hoq,Ju]<;>assumption
theorem GoodX.serveX (hg:GoodW (ws.set k (wL w (serveX k (bk k) (aG w)))) ps):GoodX (N+1) (ws.set k (wL w (VE.serveX k (bk k) (aG w)))) ps:=by
 have a3:=(hX.wat k w hw).2.2
 refine hX.app hw (by omega) hg fun e he g hc hgk i=>?_
 unfold VE.serveX
 rw [nv (key:=fun e:aJ=>e.1) (fun x s hs=>(gM s hs).1) (mf (bw a3)) he rfl]
 have hI:=hX.inv e g hc
 have hI':=hI.mono (show N≤N+1 by omega)
 unfold ep
 change Inv _ _ _ (bv g k (ay k e (g k) ((if (rf k e (aG w)).opn=true then [] else ((List.range 6).filter (bH k e.2 (rf k e (aG w)))).map fun (o:Nat)=>(1,e.1,(o:Int),(rf k e (aG w)).no o+1):List ba).take i)).1)
 rw [←hgk]
 split
 ·rw [List.take_nil,ay,ez];exact hI'
 ·rename_i ho
  rw [←V4]
  refine sr (by rw [hgk];exact nj a3 he) (fun o ho=>by have:=(hI.nb k he).2 o ho;omega) he _ g ((List.nodup_range.filter _).sublist (List.take_sublist _ _)) (fun o ho=>⟨?_,rfl,rfl⟩) rfl rfl (by simpa using ho) hI'
  exact (Kj.1 (Mp ho)).2
theorem GoodX.hearX {p:P3} (hp:p∈ps) (hto:p.2.1=(k:Int)) (hg:GoodW (ws.set k (wL w (hearX k p.1 (bk k) (aG w) (p.2.2.getD [])))) ps):GoodX (N+1) (ws.set k (wL w (VE.hearX k p.1 (bk k) (aG w) (p.2.2.getD [])))) ps:=by
 have a3:=(hX.wat k w hw).2.2
 obtain ⟨p1,_⟩:=hX.pl p hp
 have h2':=p1
 simp only [l8,Jn,Jq,M1,M7] at h2'
 obtain ⟨pa,_,hne,_,hL⟩:=h2'
 have hpw:=mu hL
 have ha:=bT.1 pa
 obtain ⟨a,hpa⟩:∃ a:Nat,p.1=(a:Int):=⟨p.1.toNat,by omega⟩
 refine hX.app hw (by omega) hg fun e he g hc hgk i=>?_
 have hI:=hX.inv e g hc
 have hI':=hI.mono (show N≤N+1 by omega)
 have nil:Inv (N+1) (fun k=>e∈bk k) (Sd ws ps e) (bv g k (ay k e (g k) []).1):=by rw [ay,ez];exact hI'
 unfold VE.hearX
 by_cases hex:∃ t∈p.2.2.getD [],t.1=e.1
 ·obtain ⟨t,ht,hte⟩:=hex
  rw [nv (key:=fun t:j8=>t.1) (fun x s hs=>(eZ s hs).1) (List.Pairwise.imp (fun h=>by omega) hpw) ht hte]
  obtain ⟨_,j,hx,hj⟩:=fF a3 he
  unfold mH
  rw [hte,hx]
  simp only [hj,i3,← hgk]
  split
  ·rename_i hP
   rw [hpa] at hP hne ⊢
   have hak:a≠k:=fun h=>hne (by rw [hto,h])
   have ha6:a < 6:=by omega
   have hea:e∈bk a:=DU he (by rw [←cq ha6];exact hP)
   have hS:Sd ws ps e a k t.2.1 t.2.2:=.inl ⟨p,hp,hpa,hto,by rw [←hte];exact ht⟩
   have hv:=(hI.pi k a he hea (Ne.symm hak)).2.2.2.2.2 _ _ hS
   have hr:=nj a3 he
   rw [←hgk] at hr
   have hne':¬ ((a:Int)=(k:Int)):=by omega
   have s3:∀ {f:Fld},f.ask a < t.2.2→ay k e f [(3,t.1,(a:Int),t.2.2)]=({ f with ask:=bv f.ask a t.2.2 },true):=fun {f} h=>by
    rw [bb (g:={ f with ask:=bv f.ask a t.2.2 }) hte]
    ·rfl
    ·simp [aV,hne',hP];omega
   have s1:∀ {f:Fld},f.no a < t.2.1→f.opn=false→ay k e f [(1,t.1,(a:Int),t.2.1)]=({ f with no:=bv f.no a t.2.1,af:=bv f.af a true },true):=fun {f} h ho=>by
    rw [bb (g:={ f with no:=bv f.no a t.2.1,af:=bv f.af a true }) hte]
    ·rfl
    ·simp [aV,hne',hP,ho];omega
   unfold iu
   simp only [K4]
   have tk:∀ {g1:uo},Inv (N+1) (fun k=>e∈bk k) (Sd ws ps e) g1→t.2.2≤(g1 k).ask a→(g1 k).no=(g k).no→(g1 k).wants=(g k).wants→(g1 k).opn=(g k).opn→∀ j,Inv (N+1) (fun k=>e∈bk k) (Sd ws ps e) (bv g1 k (ay k e (g1 k) ((if (g k).no a < t.2.1∧aK k a t.2.1=true∧(g k).opn=false then [(1,t.1,(a:Int),t.2.1)] else []:List ba).take j)).1):=fun {g1} h1 ha hn hww hoo j=>by
    split
    ·rename_i hc
     cases j with
     | zero=>rw [List.take_zero,ay,ez];exact h1
     | succ j =>
      rw [Mn,List.take_nil,s1 (by rw [hn];exact hc.1) (by rw [hoo];exact hc.2.2)]
      exact h1.take (fun _ h=>oB h) he hea hak hS (by rw [hn];exact hc.1) ((fv (Ne.symm hak)).1 hc.2.1) ha (by rw [hww];exact hr.1.1) rfl
    ·rw [List.take_nil,ay,ez];exact h1
   by_cases hq:(g k).ask a < t.2.2
   ·rw [K1 hq]
    cases i with
    | zero=>exact nil
    | succ i =>
     rw [V6,Mn,show ∀ {x:ba} {l:List ba} {f},ay k e f (x::l)=ay k e f ([x]++l) from rfl,cH (by rw [s3 hq]),s3 hq,← sZ g k { g k with ask:=bv (g k).ask a t.2.2 }]
     have h1:=hI'.ask1 (fun _ h=>oB h) he (o:=a) (v:=t.2.2) (by omega) (fun _ _=>hv.2.1) rfl
     have:=tk h1 (by simp [bv]) (by simp [bv]) (by simp [bv]) (by simp [bv]) i
     simpa only [bv,Js] using this
   ·rw [Kc hq,Ke]
    exact tk hI' (by omega) rfl rfl rfl i
  ·rw [List.take_nil];exact nil
 ·rw [kI,List.take_nil]
  ·exact nil
  ·intro s hs
   obtain ⟨t,ht,hs⟩:=List.mem_flatMap.1 hs
   rw [(eZ s hs).1]
   exact fun h=>hex ⟨t,ht,h⟩
end
end
section
theorem r7 {ws:List W4} {ps:List P3} (hG:GoodW ws ps) {k:Nat} {w:W4} (hw:ws[k]?=some w):ck w.1 (w.2.1.getD []) (aG w) w.2.2.2=true:=by
 obtain ⟨a1,a2,a3⟩:=hG.wat k w hw
 rw [a1,a2];exact a3
section
variable {ws:List W4} {ps:List P3} (hG:GoodW ws ps) {k:Nat} {w:W4} (hw:ws[k]?=some w)
include hG hw
theorem km {L:List ba} (h1:ck k (bk k) (aG w++L) w.2.2.2=true) (hs:∀ s∈L,s.1=1→aK k s.2.2.1 s.2.2.2=true→∀ (a:Nat) v,ws[a]?=some v→s.2.2.1=(a:Int)→∀ e∈bk a,e.1=s.2.1→s.2.2.2≤(rf a e (bnd v)).no k):GoodW (ws.set k (wL w L)) ps:=by
 obtain ⟨a1,a2,a3⟩:=hG.wat k w hw
 have hh:=o9 a3
 refine hG.chg hw a1 a2 h1 (fun e _ o=>?_) fun s hm h1s hwi=>?_
 ·have:bnd (wL w L)=bnd w:=by
   show ((aG w++L).take w.2.2.2.toNat)=(aG w).take w.2.2.2.toNat
   rw [Tc (by omega)]
  rw [this]
  exact Tl _
 ·rcases Kf.1 (show s∈aG w++L from hm) with hm | hm
  ·exact .inl hm
  ·exact .inr (hs s hm h1s hwi)
end
section
variable {N:Int} {ws:List W4} {ps:List P3} (hG:GoodX N ws ps) {k:Nat} {w:W4} (hw:ws[k]?=some w)
include hG hw
theorem AE {fld:Int} {j:Nat} (hx:cM fld (bk k)=some j) (hq:(wantX fld (fl k (bk k) (aG w) j)).1=0) (hl:(aG w).length+(wantX fld (fl k (bk k) (aG w) j)).2.length≤120):GoodX (N+1) (ws.set k (wL w (wantX fld (fl k (bk k) (aG w) j)).2)) ps:=by
 have:=EJ (hG.wat k w hw).2.2 hx hq hl
 exact hG.wantX hw hx (km hG.toGoodW hw this.1 fun s hs h1=>absurd h1 (this.2 s hs))
theorem rE {fld:Int} {j:Nat} (hx:cM fld (bk k)=some j) (hq:(ringX k ((bk k).getD j (0,0)).2 fld (fl k (bk k) (aG w) j)).1=0) (hl:(aG w).length+(ringX k ((bk k).getD j (0,0)).2 fld (fl k (bk k) (aG w) j)).2.length≤120):GoodX (N+1) (ws.set k (wL w (ringX k ((bk k).getD j (0,0)).2 fld (fl k (bk k) (aG w) j)).2)) ps:=by
 have:=ES (hG.wat k w hw).2.2 hx hq hl
 exact hG.ringX hw hx (km hG.toGoodW hw this.1 fun s hs h1=>absurd h1 (this.2 s hs))
theorem ne {fld:Int} {j:Nat} (hx:cM fld (bk k)=some j) (hq:(shutX fld (fl k (bk k) (aG w) j)).1=0) (hl:(aG w).length+(shutX fld (fl k (bk k) (aG w) j)).2.length≤120):GoodX (N+1) (ws.set k (wL w (shutX fld (fl k (bk k) (aG w) j)).2)) ps:=by
 have:=EO (hG.wat k w hw).2.2 hx hq hl
 exact hG.shutX hw hx (km hG.toGoodW hw this.1 fun s hs h1=>absurd h1 (this.2 s hs))
theorem pF (hl:(aG w).length+(serveX k (bk k) (aG w)).length≤120):GoodX (N+1) (ws.set k (wL w (serveX k (bk k) (aG w)))) ps:=by
 have:=Ck (hG.wat k w hw).2.2 hl
 exact hG.serveX hw (km hG.toGoodW hw this.1 fun s hs h1 hwi=>by rw [this.2 s hs h1] at hwi;cases hwi)
theorem sj {p:P3} (hp:p∈ps) (hto:p.2.1=(k:Int)) (hl:(aG w).length+(hearX k p.1 (bk k) (aG w) (p.2.2.getD [])).length≤120):GoodX (N+1) (ws.set k (wL w (hearX k p.1 (bk k) (aG w) (p.2.2.getD [])))) ps:=by
 obtain ⟨p1,p2⟩:=hG.pl p hp
 have:=Ft (hG.wat k w hw).2.2 p1 hto hl
 refine hG.hearX hw hp hto (km hG.toGoodW hw this.1 fun s hs h1 hwi a v hv hsa e he hes=>?_)
 obtain ⟨t,ht,rfl⟩:=this.2 s hs h1
 exact p2 t ht a k v hsa hto hv e he hes
theorem BM:GoodX (N+1) (ws.set k (w.1,w.2.1,some (aG w),((aG w).length:Int))) ps:=by
 obtain ⟨a1,a2,a3⟩:=hG.wat k w hw
 refine (hG.bind hw (hG.chg hw a1 a2 (G2 a3) (fun e he o=>?_) fun s hs _ _=>.inl hs)).mono (by omega)
 have:bnd (w.1,w.2.1,some (aG w),((aG w).length:Int))=aG w:=by simp [bnd,aG]
 rw [this]
 exact oY a3 he _ o
theorem pM {b:Option (List aJ)} (hb:b.getD []=bk k):GoodX (N+1) (ws.set k (k,b,lV (dy k (bk k) (aG w)),((dy k (bk k) (aG w)).length:Int))) ps:=by
 obtain ⟨a1,a2,a3⟩:=hG.wat k w hw
 refine (hG.anew hw (hG.chg hw rfl hb (by show ck k (bk k) ((lV (dy k (bk k) (aG w))).getD []) _=true;rw [dC];exact Hm a3) (fun e he o=>?_) fun s hs h1 _=>.inl ?_)).mono (by omega)
 ·have:bnd ((k:Int),b,lV (dy k (bk k) (aG w)),((dy k (bk k) (aG w)).length:Int))=dy k (bk k) (aG w):=by simp [bnd,aG,dC]
  rw [this]
  have hr:(rf k e (dy k (bk k) (aG w))).no=(rf k e (aG w)).no:=by
   unfold rf
   rw [mi a3 he]
   rfl
  rw [hr]
  exact oY a3 he _ o
 ·have hs':s∈dy k (bk k) (aG w):=by
   have:aG ((k:Int),b,lV (dy k (bk k) (aG w)),((dy k (bk k) (aG w)).length:Int))=dy k (bk k) (aG w):=dC _
   rw [this] at hs
   exact hs
  exact ET a3 hs' h1
theorem AG {left:Int}:GoodX (N+1) (ws.set k (w.1,w.2.1,some ((aG w).take (gr (aG w) w.2.2.2 left)),w.2.2.2)) ps:=by
 obtain ⟨a1,a2,a3⟩:=hG.wat k w hw
 have hh:=o9 a3
 obtain ⟨t1,t2⟩:=pz (left:=left) hh.1 hh.2
 have t3:=gY (x:=left) (m:=((aG w).length:Int) - w.2.2.2+1) (by omega)
 refine (hG.tear hw (by omega) (hG.chg hw a1 a2 (yN a3 (by omega)) (fun e he o=>?_) fun s hs _ _=>.inl (Mp hs))).mono (by omega)
 have:bnd (w.1,w.2.1,some ((aG w).take (gr (aG w) w.2.2.2 left)),w.2.2.2)=bnd w:=by
  show ((aG w).take (gr (aG w) w.2.2.2 left)).take w.2.2.2.toNat=(aG w).take w.2.2.2.toNat
  rw [List.take_take,Tu (by omega)]
 rw [this]
 exact Tl _
end
def wQ (N:Int) (ws:List W4) (ps:List P3) (k:Nat) (E:Int→Prop) (X:az):Prop:=∃ m b s h e,X=some (0,[.d (il m),.d (dB b),.d (dS s),.d (il h),.d (il e)])∧((e=0∧GoodX N (ws.set k (m,b,s,h)) ps)∨(e≠0∧E e))
theorem mN {N:Int} {ws:List W4} {ps:List P3} {k:Nat} {w:W4} {q:Wrt} {E:Int→Prop} (h0:q.1=0→(aG w).length+q.2.length≤120→GoodX N (ws.set k (wL w q.2)) ps) (h2:E 2) (h3:q.1≠0→E q.1):wQ N ws ps k E (fA w.1 w.2.2.2 w.2.1 (aG w) q):=by
 unfold fA
 split
 ·rename_i hq
  split
  ·exact ⟨0,none,none,0,2,rfl,.inr ⟨by decide,h2⟩⟩
  ·rename_i hl
   exact ⟨w.1,w.2.1,some (aG w++q.2),w.2.2.2,0,rfl,.inl ⟨rfl,h0 hq (by omega)⟩⟩
 ·rename_i hq
  exact ⟨0,none,none,0,q.1,rfl,.inr ⟨hq,h3 hq⟩⟩
section
variable {N:Int} {ws:List W4} {ps:List P3} (hG:GoodX N ws ps) {k:Nat} {w:W4} (hw:ws[k]?=some w)
include hG hw
theorem C8 {fld:Int} {j:Nat} (hx:cM fld (bk k)=some j):wQ (N+1) ws ps k (fun e=>e=2∨e=95) (oM w.1 (w.2.1.getD []) (aG w) w.2.2.2 fld gB fun j=>fA w.1 w.2.2.2 w.2.1 (aG w) (wantX fld (fl w.1 (w.2.1.getD []) (aG w) j))):=by
 obtain ⟨a1,a2,a3⟩:=hG.wat k w hw
 unfold oM
 rw [K1 (r7 hG.toGoodW hw),a2,hx]
 refine mN (fun hq hl=>?_) (.inl rfl) fun hq=>?_
 ·rw [a1] at hq hl ⊢
  exact AE hG hw hx hq hl
 ·revert hq
  unfold wantX
  split
  ·intro _;exact .inr rfl
  ·split<;>(intro h;exact absurd rfl h)
theorem Cu {fld:Int} {j:Nat} (hx:cM fld (bk k)=some j):wQ (N+1) ws ps k (fun e=>e=2∨e=95∨e=97) (oM w.1 (w.2.1.getD []) (aG w) w.2.2.2 fld gB fun j=>fA w.1 w.2.2.2 w.2.1 (aG w) (ringX w.1 ((w.2.1.getD []).getD j (0,0)).2 fld (fl w.1 (w.2.1.getD []) (aG w) j))):=by
 obtain ⟨a1,a2,a3⟩:=hG.wat k w hw
 unfold oM
 rw [K1 (r7 hG.toGoodW hw),a2,hx]
 refine mN (fun hq hl=>?_) (.inl rfl) fun hq=>?_
 ·rw [a1] at hq hl ⊢
  exact rE hG hw hx hq hl
 ·revert hq
  unfold ringX
  split
  ·intro _;exact .inr (.inl rfl)
  ·split
   ·split
    ·intro _;exact .inl rfl
    ·intro h;exact absurd rfl h
   ·intro _;exact .inr (.inr rfl)
theorem Ch {fld:Int} {j:Nat} (hx:cM fld (bk k)=some j):wQ (N+1) ws ps k (fun e=>e=2∨e=96) (oM w.1 (w.2.1.getD []) (aG w) w.2.2.2 fld gB fun j=>fA w.1 w.2.2.2 w.2.1 (aG w) (shutX fld (fl w.1 (w.2.1.getD []) (aG w) j))):=by
 obtain ⟨a1,a2,a3⟩:=hG.wat k w hw
 unfold oM
 rw [K1 (r7 hG.toGoodW hw),a2,hx]
 refine mN (fun hq hl=>?_) (.inl rfl) fun hq=>?_
 ·rw [a1] at hq hl ⊢
  exact ne hG hw hx hq hl
 ·revert hq
  unfold shutX
  split
  ·intro h;exact absurd rfl h
  ·intro _;exact .inr rfl
theorem AK:wQ (N+1) ws ps k (fun e=>e=2) (if ck w.1 (w.2.1.getD []) (aG w) w.2.2.2=true then fA w.1 w.2.2.2 w.2.1 (aG w) (0,serveX w.1 (w.2.1.getD []) (aG w)) else gB 92):=by
 obtain ⟨a1,a2,a3⟩:=hG.wat k w hw
 rw [K1 (r7 hG.toGoodW hw),a2]
 refine mN (fun _ hl=>?_) rfl fun hq=>absurd rfl hq
 rw [a1] at hl ⊢
 exact pF hG hw hl
theorem Dn {p:P3} (hp:p∈ps) (hto:p.2.1=(k:Int)):wQ (N+1) ws ps k (fun e=>e=2) (if ck w.1 (w.2.1.getD []) (aG w) w.2.2.2=true then (if l8 p.1 p.2.1 (p.2.2.getD [])=true∧p.2.1=w.1 then fA w.1 w.2.2.2 w.2.1 (aG w) (0,hearX w.1 p.1 (w.2.1.getD []) (aG w) (p.2.2.getD [])) else gB 93) else gB 92):=by
 obtain ⟨a1,a2,a3⟩:=hG.wat k w hw
 rw [K1 (r7 hG.toGoodW hw),a2,K1 ⟨(hG.pl p hp).1,by rw [hto,a1]⟩]
 refine mN (fun _ hl=>?_) rfl fun hq=>absurd rfl hq
 rw [a1] at hl ⊢
 exact sj hG hw hp hto hl
theorem DX:wQ (N+1) ws ps k (fun _=>False) (if ck w.1 (w.2.1.getD []) (aG w) w.2.2.2=true then some (0,[.d (il w.1),.d (dB w.2.1),.d (dS (some (aG w))),.d (il (aG w).length),.d (il 0)]) else gB 92):=by
 rw [K1 (r7 hG.toGoodW hw)]
 exact ⟨_,_,_,_,0,rfl,.inl ⟨rfl,BM hG hw⟩⟩
theorem Cd {left:Int}:wQ (N+1) ws ps k (fun _=>False) (if ck w.1 (w.2.1.getD []) (aG w) w.2.2.2=true then some (0,[.d (il w.1),.d (dB w.2.1),.d (dS (some ((aG w).take (gr (aG w) w.2.2.2 left)))),.d (il w.2.2.2),.d (il 0)]) else gB 92):=by
 rw [K1 (r7 hG.toGoodW hw)]
 exact ⟨_,_,_,_,0,rfl,.inl ⟨rfl,AG hG hw⟩⟩
theorem EU:wQ (N+1) ws ps k (fun _=>False) (if ck w.1 (w.2.1.getD []) (aG w) w.2.2.2=true then some (0,[.d (il w.1),.d (dB w.2.1),.d (dS (lV (dy w.1 (w.2.1.getD []) (aG w)))),.d (il (dy w.1 (w.2.1.getD []) (aG w)).length),.d (il 0)]) else gB 92):=by
 obtain ⟨a1,a2,_⟩:=hG.wat k w hw
 rw [K1 (r7 hG.toGoodW hw),a2,a1]
 exact ⟨_,_,_,_,0,rfl,.inl ⟨rfl,pM hG hw a2⟩⟩
end
end
end Go.VE
