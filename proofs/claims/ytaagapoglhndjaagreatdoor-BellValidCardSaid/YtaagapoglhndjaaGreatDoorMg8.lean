/- Bell: what the reference's acts do to the j7 watches. -/
import Derived.Test.YtaagapoglhndjaaGreatDoorMg7
import Derived.Test.YtaagapoglhndjaaGreatDoorMg3
import Derived.Test.YtaagapoglhndjaaGreatDoorMg5
import Derived.Test.YtaagapoglhndjaaGreatDoorChecked
import Derived.Test.YtaagapoglhndjaaGreatDoorMh
import Derived.KernelRfl
import Derived.WalkKit
import Derived.LoopN
import Derived.Shelf.Strings.BuilderF
import Derived.Test.YtaagapoglhndjaaGreatDoorMt
import Derived.Test.YtaagapoglhndjaaGreatDoorMg0
namespace Go.VE
open Go.RowKit Go.Proofs
section
def RefA (ws:List W4) (ps:List P3) (k:Nat) (X:az):Prop:=∃ m b s h e,X=some (0,[.d (il m),.d (dB b),.d (dS s),.d (il h),.d (il e)])∧(e=0→GoodV (ws.set k (m,b,s,h)) ps)
theorem RefA.no {ws:List W4} {ps:List P3} {k:Nat} {e:Int} (h:e≠0):RefA ws ps k (eP e):=⟨0,none,none,0,e,rfl,fun h'=>absurd h' h⟩
section
variable {ws:List W4} {ps:List P3} (hV:GoodV ws ps) {k:Nat} {w:W4} (hw:ws[k]?=some w)
include hV hw
theorem vD {q:Wrt} (h0:q.1=0→(bF w).length+q.2.length≤120→bS k (bk k) (bF w++q.2) w.2.2.2=true∧∀ s∈q.2,s.1=1→aK k s.2.2.1 s.2.2.2=true→∀ (a:Nat) v,ws[a]?=some v→s.2.2.1=(a:Int)→∀ e∈bk a,e.1=s.2.1→s.2.2.2≤(rf a e (bnd v)).no k):RefA ws ps k (et w.1 w.2.2.2 (some (bk k)) (bF w) q):=by
 have hh:=qg (hV.wat k w hw).2.2
 unfold et
 split
 ·rename_i hq
  split
  ·exact .no (by decide)
  ·rename_i hl
   obtain ⟨a,b⟩:=h0 hq (by omega)
   refine ⟨w.1,some (bk k),some (bF w++q.2),w.2.2.2,0,rfl,fun _=>hV.chgV hw (DJ hV.toGoodW hw rfl a b) fun e _=>?_⟩
   have:bnd (w.1,some (bk k),some (bF w++q.2),w.2.2.2)=bnd w:=by
    show ((bF w++q.2).take w.2.2.2.toNat)=(bF w).take w.2.2.2.toNat
    rw [Tl (by omega)]
   rw [this]
   exact ⟨fun o=>Mu _,Mu _⟩
 ·rename_i hq
  exact .no hq
theorem He {fld:Int} {j:Nat} (hx:dg fld (bk k)=some j):RefA ws ps k (nl w.1 (w.2.1.getD []) (bF w) w.2.2.2 fld eP fun j=>et w.1 w.2.2.2 (some (w.2.1.getD [])) (bF w) (lB fld (fl w.1 (w.2.1.getD []) (bF w) j))):=by
 obtain ⟨a1,a2,a3⟩:=hV.wat k w hw
 unfold nl
 rw [K9 (E8 hV.toGoodW hw),a2,hx]
 refine vD hV hw fun hq hl=>?_
 rw [a1] at hq hl ⊢
 have:=EC a3 hx hq hl
 exact ⟨this.1,fun s hs h1=>absurd h1 (this.2 s hs)⟩
theorem Hs {fld:Int} {j:Nat} (hx:dg fld (bk k)=some j):RefA ws ps k (nl w.1 (w.2.1.getD []) (bF w) w.2.2.2 fld eP fun j=>et w.1 w.2.2.2 (some (w.2.1.getD [])) (bF w) (k8 w.1 ((w.2.1.getD []).getD j (0,0)).2 fld (fl w.1 (w.2.1.getD []) (bF w) j))):=by
 obtain ⟨a1,a2,a3⟩:=hV.wat k w hw
 unfold nl
 rw [K9 (E8 hV.toGoodW hw),a2,hx]
 refine vD hV hw fun hq hl=>?_
 rw [a1] at hq hl ⊢
 have:=EP a3 hx hq hl
 exact ⟨this.1,fun s hs h1=>absurd h1 (this.2 s hs)⟩
theorem Hn {fld:Int} {j:Nat} (hx:dg fld (bk k)=some j):RefA ws ps k (nl w.1 (w.2.1.getD []) (bF w) w.2.2.2 fld eP fun j=>et w.1 w.2.2.2 (some (w.2.1.getD [])) (bF w) (my fld (fl w.1 (w.2.1.getD []) (bF w) j))):=by
 obtain ⟨a1,a2,a3⟩:=hV.wat k w hw
 unfold nl
 rw [K9 (E8 hV.toGoodW hw),a2,hx]
 refine vD hV hw fun hq hl=>?_
 rw [a1] at hq hl ⊢
 have:=EI a3 hx hq hl
 exact ⟨this.1,fun s hs h1=>absurd h1 (this.2 s hs)⟩
theorem EJ:RefA ws ps k (if bS w.1 (w.2.1.getD []) (bF w) w.2.2.2=true then et w.1 w.2.2.2 (some (w.2.1.getD [])) (bF w) (0,gB w.1 (w.2.1.getD []) (bF w)) else eP 92):=by
 obtain ⟨a1,a2,a3⟩:=hV.wat k w hw
 rw [K9 (E8 hV.toGoodW hw),a2]
 refine vD hV hw fun _ hl=>?_
 rw [a1] at hl ⊢
 have:=C9 a3 hl
 exact ⟨this.1,fun s hs h1 hwi=>by rw [this.2 s hs h1] at hwi;cases hwi⟩
theorem I2 {p:P3} (hp:p∈ps) (hto:p.2.1=(k:Int)):RefA ws ps k (if bS w.1 (w.2.1.getD []) (bF w) w.2.2.2=true then (if gm p.1 p.2.1 (p.2.2.getD [])=true∧p.2.1=w.1 then et w.1 w.2.2.2 (some (w.2.1.getD [])) (bF w) (0,bu w.1 p.1 (w.2.1.getD []) (bF w) (p.2.2.getD [])) else eP 93) else eP 92):=by
 obtain ⟨a1,a2,a3⟩:=hV.wat k w hw
 obtain ⟨p1,p2⟩:=hV.pl p hp
 rw [K9 (E8 hV.toGoodW hw),a2,K9 ⟨p1,by rw [hto,a1]⟩]
 refine vD hV hw fun _ hl=>?_
 rw [a1] at hl ⊢
 have:=zF a3 p1 hto hl
 refine ⟨this.1,fun s hs h1 hwi a v hv hsa e he hes=>?_⟩
 obtain ⟨t,ht,rfl⟩:=this.2 s hs h1
 exact p2 t ht a k v hsa hto hv e he hes
theorem Ip:RefA ws ps k (if bS w.1 (w.2.1.getD []) (bF w) w.2.2.2=true then some (0,[.d (il w.1),.d (dB (some (w.2.1.getD []))),.d (dS (some (bF w))),.d (il (bF w).length),.d (il 0)]) else eP 92):=by
 obtain ⟨a1,a2,a3⟩:=hV.wat k w hw
 rw [K9 (E8 hV.toGoodW hw),a2]
 have hb:bnd (w.1,some (bk k),some (bF w),((bF w).length:Int))=bF w:=by simp [bnd,bF]
 refine ⟨_,_,_,_,0,rfl,fun _=>hV.chgV hw (hV.chg hw a1 rfl (Ad a3) (fun e he o=>?_) fun s hs _ _=>.inl hs) fun e he=>?_⟩
 ·rw [hb]
  exact jJ a3 he _ o
 ·rw [hb]
  exact ⟨fun o=>jJ a3 he _ o,uo a3 he _⟩
theorem Hi {left:Int}:RefA ws ps k (if bS w.1 (w.2.1.getD []) (bF w) w.2.2.2=true then some (0,[.d (il w.1),.d (dB (some (w.2.1.getD []))),.d (dS (oU ((bF w).take (ft (bF w) w.2.2.2 left)))),.d (il w.2.2.2),.d (il 0)]) else eP 92):=by
 obtain ⟨a1,a2,a3⟩:=hV.wat k w hw
 rw [K9 (E8 hV.toGoodW hw),a2]
 have hh:=qg a3
 obtain ⟨t1,t2⟩:=jI (left:=left) hh.1 hh.2
 have t3:=dV (x:=left) (m:=((bF w).length:Int) - w.2.2.2+1) (by omega)
 generalize hn:ft (bF w) w.2.2.2 left=n at t1 t2
 have hst:bF (w.1,some (bk k),oU ((bF w).take n),w.2.2.2)=(bF w).take n:=cZ _
 have hb:bnd (w.1,some (bk k),oU ((bF w).take n),w.2.2.2)=bnd w:=by
  unfold bnd
  rw [hst]
  show ((bF w).take n).take w.2.2.2.toNat=(bF w).take w.2.2.2.toNat
  rw [List.take_take,V1 (by omega)]
 refine ⟨_,_,_,_,0,rfl,fun _=>hV.chgV hw (hV.chg hw a1 rfl (by rw [hst];exact sT a3 (by omega)) (fun e he o=>?_) fun s hs _ _=>.inl ?_) fun e he=>?_⟩
 ·rw [hb]
  exact Mu _
 ·rw [hst] at hs
  exact Mo hs
 ·rw [hb]
  exact ⟨fun o=>Mu _,Mu _⟩
theorem rec_V:RefA ws ps k (if bS w.1 (w.2.1.getD []) (bF w) w.2.2.2=true then some (0,[.d (il w.1),.d (dB (some (w.2.1.getD []))),.d (dS (oU (dU w.1 (w.2.1.getD []) (bF w)))),.d (il (dU w.1 (w.2.1.getD []) (bF w)).length),.d (il 0)]) else eP 92):=by
 obtain ⟨a1,a2,a3⟩:=hV.wat k w hw
 rw [K9 (E8 hV.toGoodW hw),a2,a1]
 have hst:bF ((k:Int),some (bk k),oU (dU k (bk k) (bF w)),((dU k (bk k) (bF w)).length:Int))=dU k (bk k) (bF w):=cZ _
 have hb:bnd ((k:Int),some (bk k),oU (dU k (bk k) (bF w)),((dU k (bk k) (bF w)).length:Int))=dU k (bk k) (bF w):=by simp [bnd,bF,cZ]
 have hr:∀ e∈bk k,(rf k e (dU k (bk k) (bF w))).no=(rf k e (bF w)).no∧(rf k e (dU k (bk k) (bF w))).wants=(rf k e (bF w)).wants:=fun e he=>by
  unfold rf
  rw [mD a3 he]
  exact ⟨rfl,rfl⟩
 refine ⟨_,_,_,_,0,rfl,fun _=>hV.chgV hw (hV.chg hw rfl rfl (by rw [hst];exact Cn a3) (fun e he o=>?_) fun s hs h1 _=>.inl ?_) fun e he=>?_⟩
 ·rw [hb,(hr e he).1]
  exact jJ a3 he _ o
 ·rw [hst] at hs
  exact EQ a3 hs h1
 ·rw [hb,(hr e he).1,(hr e he).2]
  exact ⟨fun o=>jJ a3 he _ o,uo a3 he _⟩
end
end
section
set_option maxRecDepth 100000
def mt (W:Nat→W4):List D:=[il (W 0).1,dB (W 0).2.1,dS (W 0).2.2.1,il (W 0).2.2.2,il (W 1).1,dB (W 1).2.1,dS (W 1).2.2.1,il (W 1).2.2.2,il (W 2).1,dB (W 2).2.1,dS (W 2).2.2.1,il (W 2).2.2.2,il (W 3).1,dB (W 3).2.1,dS (W 3).2.2.1,il (W 3).2.2.2,il (W 4).1,dB (W 4).2.1,dS (W 4).2.2.1,il (W 4).2.2.2,il (W 5).1,dB (W 5).2.1,dS (W 5).2.2.1,il (W 5).2.2.2]
abbrev rG (W:Nat→W4):List W4:=(List.range 6).map W
def st0 (W:Nat→W4) (o:Option (List P3)) (kk e m:Int) (b:Option (List aT)) (s:Option (List aY)) (h:Int):List Yr:=[.d (il kk),.d (il e),.d (il m),.d (dB b),.d (dS s),.d (il h),.d (il 0),.d (il 0),.d (il 0),.d (il 0),.d (il 0),.d (il 0),.d (il 0),.d (il 0),.d (il 0),.d (il 0),.d (il 0),.d (il 0),.d (il (W 0).1),.d (dB (W 0).2.1),.d (dS (W 0).2.2.1),.d (il (W 0).2.2.2),.d (il (W 1).1),.d (dB (W 1).2.1),.d (dS (W 1).2.2.1),.d (il (W 1).2.2.2),.d (il (W 2).1),.d (dB (W 2).2.1),.d (dS (W 2).2.2.1),.d (il (W 2).2.2.2),.d (il (W 3).1),.d (dB (W 3).2.1),.d (dS (W 3).2.2.1),.d (il (W 3).2.2.2),.d (il (W 4).1),.d (dB (W 4).2.1),.d (dS (W 4).2.2.1),.d (il (W 4).2.2.2),.d (il (W 5).1),.d (dB (W 5).2.1),.d (dS (W 5).2.2.1),.d (il (W 5).2.2.2),.d (dP o)]
def st1 (W:Nat→W4) (ps:List P3) (kk e m:Int) (b:Option (List aT)) (s:Option (List aY)) (h:Int) (c:Nat):List Yr:=[.d (il kk),.d (il e),.r (ps.map rP),.d (il m),.d (dB b),.d (dS s),.d (il h),.d (il 0),.d (il 0),.d (il 0),.d (il 0),.d (il 0),.d (il 0),.d (il 0),.d (il 0),.d (il 0),.d (il 0),.d (il 0),.d (il 0),.d (il (W 0).1),.d (dB (W 0).2.1),.d (dS (W 0).2.2.1),.d (il (W 0).2.2.2),.d (il (W 1).1),.d (dB (W 1).2.1),.d (dS (W 1).2.2.1),.d (il (W 1).2.2.2),.d (il (W 2).1),.d (dB (W 2).2.1),.d (dS (W 2).2.2.1),.d (il (W 2).2.2.2),.d (il (W 3).1),.d (dB (W 3).2.1),.d (dS (W 3).2.2.1),.d (il (W 3).2.2.2),.d (il (W 4).1),.d (dB (W 4).2.1),.d (dS (W 4).2.2.1),.d (il (W 4).2.2.2),.d (il (W 5).1),.d (dB (W 5).2.1),.d (dS (W 5).2.2.1),.d (il (W 5).2.2.2),.n c,.n c]
noncomputable abbrev Dc (n:Nat) (W:Nat→W4) (o:Option (List P3)) (kind who fld to pick:Int) (k:Nat):az:=fV (RP (n+9)) (il (W 0).1) (dB (W 0).2.1) (dS (W 0).2.2.1) (il (W 0).2.2.2) (il (W 1).1) (dB (W 1).2.1) (dS (W 1).2.2.1) (il (W 1).2.2.2) (il (W 2).1) (dB (W 2).2.1) (dS (W 2).2.2.1) (il (W 2).2.2.2) (il (W 3).1) (dB (W 3).2.1) (dS (W 3).2.2.1) (il (W 3).2.2.2) (il (W 4).1) (dB (W 4).2.1) (dS (W 4).2.2.1) (il (W 4).2.2.2) (il (W 5).1) (dB (W 5).2.1) (dS (W 5).2.2.1) (il (W 5).2.2.2) (dP o) (il kind) (il who) (il fld) (il to) (il pick) [.d (il k)] k
theorem i8 {W:Nat→W4} {k:Nat} (h:k < 6):(rG W)[k]?=some (W k):=by simp [h]
theorem iJ {W:Nat→W4} {k:Nat} (w:W4):(rG W).set k w=rG (cd W k w):=by
 refine List.ext_getElem (by simp) fun i h1 h2=>?_
 simp only [List.getElem_set,List.getElem_map,List.getElem_range,cd]
theorem yJ (g:Nat→D) {i:Nat} (h:i < 6):[g 0,g 1,g 2,g 3,g 4,g 5].getD i default=g i:=by
 rcases (show i=0∨i=1∨i=2∨i=3∨i=4∨i=5 by omega) with rfl | rfl | rfl | rfl | rfl | rfl<;>rfl
section
variable {W:Nat→W4} {i:Nat} (h:i < 6)
include h
theorem nD:[il (W 0).1,il (W 1).1,il (W 2).1,il (W 3).1,il (W 4).1,il (W 5).1].getD i default=il (W i).1:=yJ (fun j=>il (W j).1) h
theorem nC:[dB (W 0).2.1,dB (W 1).2.1,dB (W 2).2.1,dB (W 3).2.1,dB (W 4).2.1,dB (W 5).2.1].getD i default=dB (W i).2.1:=yJ (fun j=>dB (W j).2.1) h
theorem nB:[dS (W 0).2.2.1,dS (W 1).2.2.1,dS (W 2).2.2.1,dS (W 3).2.2.1,dS (W 4).2.2.1,dS (W 5).2.2.1].getD i default=dS (W i).2.2.1:=yJ (fun j=>dS (W j).2.2.1) h
theorem nA:[il (W 0).2.2.2,il (W 1).2.2.2,il (W 2).2.2.2,il (W 3).2.2.2,il (W 4).2.2.2,il (W 5).2.2.2].getD i default=il (W i).2.2.2:=yJ (fun j=>il (W j).2.2.2) h
end
def Eh (W:Nat→W4) (o:Option (List P3)) (X:az):Prop :=
 (∃ (kk:Nat) (e m h:Int) (b:Option (List aT)) (s:Option (List aY)),X=some (0,st0 W o kk e m b s h)∧kk < 6∧(e=0→GoodV (rG (cd W kk (m,b,s,h))) (o.getD []))) ∨
 (∃ (p:P3) (kk e m h:Int) (b:Option (List aT)) (s:Option (List aY)),X=some (1,st1 W (o.getD []++[p]) kk e m b s h ((o.getD []).length+1))∧e≠0∧GoodV (rG W) (o.getD []++[p]))
end
section
set_option maxRecDepth 100000
def rW (ss:List aY) (i:Nat):Option (List D):=(ss[i]?).bind fun s=>some (rS s)
theorem Az (ss:List aY):(List.range ss.length).filterMap (rW ss)=ss.map rS :=
 (qC (fun s=>some (rS s)) ss).trans (by rw [List.filterMap_eq_map'])
theorem l44_0 (n:Nat) (o:Option (List aY)) {h:Int} (h0:0≤h) (hh:h.toNat≤(o.getD []).length) (hl:(o.getD []).length≤120) (c0 c1 c2 c6 c7 c8 c9:D) :
  bh [wm (RP n),wl (RP n)] M0 0 [.d c0,.d c1,.d c2,.d (dS o),.d (il h),.d (il 0),.d c6,.d c7,.d c8,.d c9] =
   eD (some (0,[.d c0,.d c1,.d c2,.d (dS o),.d (il h),.d c6,.d c7,.d c8,.d c9])) (fun acc=>some (1,[.d c0,.d c1,.d c2,.d (dS o),.d (il h),.n acc.length,.n acc.length,.r acc,.d c6,.d c7,.d c8,.d c9])) (((o.getD []).take h.toNat).map rS):=by
 have hlen:((o.getD []).take h.toNat).length=h.toNat:=by simp;omega
 have:=iD h.toNat (by omega) (rW ((o.getD []).take h.toNat)) (wm (RP n)) (wl (RP n))
  (fun i=>[.d c0,.d c1,.d c2,.d (dS o),.d (il h),.d (il i),.d c6,.d c7,.d c8,.d c9])
  (fun i acc=>[.d c0,.d c1,.d c2,.d (dS o),.d (il h),.n acc.length,.n acc.length,.d (il i),.r acc,.d c6,.d c7,.d c8,.d c9])
  (some (0,[.d c0,.d c1,.d c2,.d (dS o),.d (il h),.d c6,.d c7,.d c8,.d c9])) (fun acc=>some (1,[.d c0,.d c1,.d c2,.d (dS o),.d (il h),.n acc.length,.n acc.length,.r acc,.d c6,.d c7,.d c8,.d c9])) ?_ ?_ ?_ ?_
 ·have e:=Az ((o.getD []).take h.toNat)
  rw [hlen] at e
  rw [e] at this
  exact this
 ·intro k
  have:¬ ((h.toNat:Int) < h):=by omega
  simp only [wm,ae,aj,aB,this,Jw,ac,Jq,Jx,au]
 ·intro k a t _
  have:¬ ((h.toNat:Int) < h):=by omega
  simp only [wl,ae,aj,aw,ax,av,aA,aB,this,Jw,ac,Jq,Jx,au]
 ·intro i k hi hw
  obtain ⟨s,hs⟩:∃ s,(o.getD [])[i]?=some s:=⟨_,Jz (by omega)⟩
  have hs':((o.getD []).take h.toNat)[i]?=some s:=by rw [M8,K9 hi];exact hs
  have hlt:(i:Int) < h:=by omega
  have er:rW ((o.getD []).take h.toNat) i=some (rS s):=by unfold rW;rw [hs'];rfl
  rw [er]
  simp only [wm,ae,aj,aB,hlt,Jt,ac,Jv,lx hs,wX,vU,wW,vS,aO,aQ,Jy,K8,aC,aS,aN,List.take,cl,aL,Bq 32 (by decide),Kk,ah,aF,hw,b5]
  rfl
 ·intro i k a t hi ha hw
  obtain ⟨s,hs⟩:∃ s,(o.getD [])[i]?=some s:=⟨_,Jz (by omega)⟩
  have hs':((o.getD []).take h.toNat)[i]?=some s:=by rw [M8,K9 hi];exact hs
  have hlt:(i:Int) < h:=by omega
  have er:rW ((o.getD []).take h.toNat) i=some (rS s):=by unfold rW;rw [hs'];rfl
  rw [er]
  simp only [Jy] at ha
  have hfit:=tY (n:=t.length) 32 (by decide) (by omega)
  simp only [wl,ae,aj,aw,ax,av,aA,aB,hlt,Jt,ac,Jv,lx hs,wX,vU,wW,vS,aO,aQ,Jy,K8,aC,aH,aS,aN,List.take,aL,hfit,Kk,ah,aF,hw,b5,bp]
  simp [rS]
theorem l44_2 (n:Nat) (b:Option (List aT)) (hb:(b.getD []).length≤120) (h66:∀ e∈b.getD [],j7 e.2) {me to:Int} (hm:dR me=true) (hp:dR to=true) (c3 c4 c6 c7 c8 c9:D) :
  bh [wk (RP (n+6)),wi (RP (n+6))] M0 0 [.d (il to),.d (il me),.d (dB b),.d c3,.d c4,.d (il 0),.d c6,.d c7,.d c8,.d c9]=eD (some (0,[.d c6,.d c7,.d c8,.d c9])) (fun acc=>some (1,[.r acc,.d c6,.d c7,.n acc.length,.n acc.length,.d c8,.d c9])) ((ea me (b.getD []) ([]:List aY) to).map rT):=by
 have hlt:=bP hp
 have hltm:=bP hm
 have:=iD (b.getD []).length (by omega) (rV me (b.getD []) ([]:List aY) to) (wk (RP (n+6))) (wi (RP (n+6))) (fun i=>[.d (il to),.d (il me),.d (dB b),.d c3,.d c4,.d (il i),.d c6,.d c7,.d c8,.d c9]) (fun i acc=>[.d (il to),.d (il me),.d (dB b),.d c3,.d c4,.d (il i),.r acc,.d c6,.d c7,.n acc.length,.n acc.length,.d c8,.d c9]) (some (0,[.d c6,.d c7,.d c8,.d c9])) (fun acc=>some (1,[.r acc,.d c6,.d c7,.n acc.length,.n acc.length,.d c8,.d c9])) ?_ ?_ ?_ ?_
 ·rw [nF] at this
  exact this
 ·intro k;simp [wk,b7]
 ·intro k a t _;simp [wi,b7]
 ·intro i k hi hw
  obtain ⟨e,he⟩:∃ e,(b.getD [])[i]?=some e:=⟨_,Jz hi⟩
  have h6:=h66 e (Ka he)
  have hlt':(i:Int) < ((b.getD []).length:Int):=by omega
  have h75:=BK n e h6 hm none (by simp) (by simp)
  simp only [dY,K2,K7,K0,Kb] at h75
  simp only [n5,dl,T5] at h75
  rw [jc he]
  simp only [wk,ae,aj,ah,aB,hlt',Jt,ac,Jv,b7,bO he,eC,fL,an,ab,aJ,aC,bo hp,bo hm,aH,bC hlt,bC hltm,be,K4,aO,aQ,Jy,K8,aS,aN,List.take,cl,aL,Kk,aF,hw,b5,jE _ _ h6,fw,Bq 24 (by decide)]
  by_cases h2:bU e.2 to=true
  ·simp only [h2,K1,Jq,Jx,Jv,h75,ae,aj,Jv,ab,dh _ hlt,dh _ hltm,jH hm]
  ·simp [h2]
 ·intro i k a t hi ha hw
  obtain ⟨e,he⟩:∃ e,(b.getD [])[i]?=some e:=⟨_,Jz hi⟩
  have h6:=h66 e (Ka he)
  have hlt':(i:Int) < ((b.getD []).length:Int):=by omega
  have h75:=BK n e h6 hm none (by simp) (by simp)
  simp only [dY,K2,K7,K0,Kb] at h75
  simp only [n5,dl,T5] at h75
  rw [jc he]
  simp only [Jy] at ha
  have hfit:=tY (n:=t.length) 24 (by decide) (by omega)
  simp only [wi,ae,aj,aw,ax,av,aA,ah,aB,hlt',Jt,ac,Jv,b7,bO he,eC,fL,an,ab,aJ,aC,bo hp,bo hm,aH,bC hlt,bC hltm,be,K4,aO,aQ,Jy,K8,aS,aN,List.take,aL,Kk,aF,hw,b5,jE _ _ h6,fw,hfit,bp]
  by_cases h2:bU e.2 to=true
  ·simp only [h2,K1,Jq,Jx,Jv,h75,ae,aj,Jv,ab,dh _ hlt,dh _ hltm,jH hm,K4,Jy,K8,Kc]
  ·simp [h2]
theorem l44_4 (n:Nat) (b:Option (List aT)) (hb:(b.getD []).length≤120) (h66:∀ e∈b.getD [],j7 e.2) {me to:Int} (hm:dR me=true) (hp:dR to=true) (ss:List aY) (_:ss≠[]) (hok:∀ s∈ss,gQ s=true) (hl:ss.length≤120) (c3 c4 c6 c7 c8 c9:D) :
  bh [wh (RP (n+6)),wg (RP (n+6))] M0 0 [.d (il to),.d (il me),.d (dB b),.d c3,.d c4,.n ss.length,.n ss.length,.d (il 0),.r (ss.map rS),.d c6,.d c7,.d c8,.d c9]=eD (some (0,[.d c6,.d c7,.d c8,.d c9])) (fun acc=>some (1,[.r acc,.d c6,.d c7,.n acc.length,.n acc.length,.d c8,.d c9])) ((ea me (b.getD []) ss to).map rT):=by
 have hlt:=bP hp
 have hltm:=bP hm
 have:=iD (b.getD []).length (by omega) (rV me (b.getD []) ss to) (wh (RP (n+6))) (wg (RP (n+6))) (fun i=>[.d (il to),.d (il me),.d (dB b),.d c3,.d c4,.n ss.length,.n ss.length,.d (il i),.r (ss.map rS),.d c6,.d c7,.d c8,.d c9]) (fun i acc=>[.d (il to),.d (il me),.d (dB b),.d c3,.d c4,.n ss.length,.n ss.length,.d (il i),.r acc,.r (ss.map rS),.d c6,.d c7,.n acc.length,.n acc.length,.d c8,.d c9]) (some (0,[.d c6,.d c7,.d c8,.d c9])) (fun acc=>some (1,[.r acc,.d c6,.d c7,.n acc.length,.n acc.length,.d c8,.d c9])) ?_ ?_ ?_ ?_
 ·rw [nF] at this
  exact this
 ·intro k;simp [wh,b7]
 ·intro k a t _;simp [wg,b7]
 ·intro i k hi hw
  obtain ⟨e,he⟩:∃ e,(b.getD [])[i]?=some e:=⟨_,Jz hi⟩
  have h6:=h66 e (Ka he)
  have hlt':(i:Int) < ((b.getD []).length:Int):=by omega
  have h75:=BK n e h6 hm (some ss) (by simp only [M1];omega) hok
  simp only [dY,K2,K7,K0,Kb] at h75
  have hd:dS (some ss)=.sl 4 (ss.map rS):=rfl
  have htk:(ss.map rS).take ss.length=ss.map rS:=Kl (by simp)
  simp only [hd,M1] at h75
  rw [jc he]
  simp only [wh,ae,aj,aw,ax,av,aA,ah,aB,hlt',Jt,ac,Jv,b7,bO he,eC,fL,an,ab,aJ,aC,bo hp,bo hm,aH,bC hlt,bC hltm,be,K4,aO,aQ,Jy,K8,aS,aN,List.take,cl,aL,Kk,aF,hw,b5,jE _ _ h6,dt,pc,T6,List.all_nil,Tw,K5,htk,Bq 24 (by decide)]
  by_cases h2:bU e.2 to=true
  ·simp only [h2,K1,Jq,Jx,Jv,h75,ae,aj,Jv,ab,dh _ hlt,dh _ hltm,jH hm,Hc,EB,V2]
  ·simp [h2]
 ·intro i k a t hi ha hw
  obtain ⟨e,he⟩:∃ e,(b.getD [])[i]?=some e:=⟨_,Jz hi⟩
  have h6:=h66 e (Ka he)
  have hlt':(i:Int) < ((b.getD []).length:Int):=by omega
  have h75:=BK n e h6 hm (some ss) (by simp only [M1];omega) hok
  simp only [dY,K2,K7,K0,Kb] at h75
  have hd:dS (some ss)=.sl 4 (ss.map rS):=rfl
  have htk:(ss.map rS).take ss.length=ss.map rS:=Kl (by simp)
  simp only [hd,M1] at h75
  rw [jc he]
  simp only [Jy] at ha
  have hfit:=tY (n:=t.length) 24 (by decide) (by omega)
  simp only [wg,ae,aj,aw,ax,av,aA,ah,aB,hlt',Jt,ac,Jv,b7,bO he,eC,fL,an,ab,aJ,aC,bo hp,bo hm,aH,bC hlt,bC hltm,be,K4,aO,aQ,Jy,K8,aS,aN,List.take,aL,Kk,aF,hw,b5,jE _ _ h6,dt,pc,T6,List.all_nil,Tw,K5,htk,hfit,bp]
  by_cases h2:bU e.2 to=true
  ·simp only [h2,K1,Jq,Jx,Jv,h75,ae,aj,Jv,ab,dh _ hlt,dh _ hltm,jH hm,K4,Jy,K8,Hc,EB,V2,Kc]
  ·simp [h2]
theorem s44 (n:Nat) (me h to:Int) (b:Option (List aT)) (o:Option (List aY)) (hl:(o.getD []).length≤4611686018427387904) (hb:(b.getD []).length≤4611686018427387904) :
  FN (n+9) 79 [il me,dB b,dS o,il h,il to]=rI me (b.getD []) (o.getD []) h to:=by
 rw [FS,II]
 unfold rI
 simp only [G79,an,Hq _ _ _ _ _ hl hb,← gL,EN,ab,ae,ah,br,iX _ 92 (by omega),ac,au,aJ,ba]
 by_cases h1:bS me (b.getD []) (o.getD []) h=true
 ·have hW:=h1
  rw [gL] at hW
  obtain ⟨w1,w2,w3⟩:=dF hW
  have h1':=h1
  simp only [bS,Js,Ju] at h1'
  by_cases h2:dR to=true
  ·by_cases h3:to=me
   ·simp [h1,h3,jT];rfl
   ·have hh:=h1'.2.2.2.1
    simp only [eZ,Js,Ju] at hh
    have hb4:(b.getD []).length≤120:=by
     have:=h1'.2.1
     simp only [cC,Js,Ju] at this
     omega
    simp only [h1,h2,h3,Jw,K1,Jq,Mv,Jx,Jv,bf]
    rw [l44_0 _ o (by omega) (by omega) (by omega)]
    cases ht:(o.getD []).take h.toNat with
    | nil =>
     simp only [Kb,eD,ab,ae,aj]
     have h44:=l44_2 (n+2) b hb4 (bK w2) w1 h2 (dS o) (il h) (il me) (il to) (il 0) (il 0)
     rw [h44]
     cases ea me (b.getD []) [] to with
     | nil=>rfl
     | cons a t =>
      simp [eD,FI]
      exact Kl (by simp)
    | cons c r =>
     have hlc:(c::r).length≤120:=by rw [←ht,M4];omega
     have hok:∀ s∈c::r,gQ s=true:=fun s hs=>w3 s (Mo (by rw [ht];exact hs))
     have h44:=l44_4 (n+2) b hb4 (bK w2) w1 h2 (c::r) (by simp) hok hlc (dS o) (il h) (il me) (il to) (il 0) (il 0)
     simp only [K0,Jy] at h44
     simp only [K0,eD,Jy,K5,bH,ae,aj,aw,ax,av,aA]
     rw [h44]
     cases ea me (b.getD []) (c::r) to with
     | nil=>rfl
     | cons a t =>
      simp [eD,FI]
      exact Kl (by simp)
  ·simp [h1,h2,jT];rfl
 ·simp [h1,jT];rfl
end
section
set_option maxRecDepth 100000
section
variable {W:Nat→W4} {o:Option (List P3)} (hV:GoodV (rG W) (o.getD [])) {k:Nat} (hk:k < 6) (n:Nat) (kind who fld to pick:Int)
include hV hk
theorem i29_0 (hc:bQ kind 19=0∨bQ kind 19=1):Eh W o (Dc n W o kind who fld to pick k):=by
 have hw:=i8 (W:=W) hk
 obtain ⟨a1,a2,a3⟩:=hV.wat k _ hw
 have hsm:=hV.small _ (Ka hw)
 have h6k:=uf (n+8) kind 19 (by omega) (by omega)
 rcases hc with hc | hc
 all_goals
  rw [hc] at h6k
  obtain ⟨fl',j,h100,hx⟩:=Hr (n+7) hk a2 (il kind) (il who) (il to) (il pick) (il (W k).1) (dS (W k).2.2.1) (il (W k).2.2.2) fld
  have hcall:=s20 n (W k).1 (W k).2.2.2 (W k).2.1 (W k).2.2.1 fl' hsm.2 hsm.1
  obtain ⟨m,b,s,h,e,hX,he⟩:RefA (rG W) (o.getD []) k _:=He hV hw hx
  have hcall:=hcall.trans hX
  refine .inl ⟨k,e,m,h,b,s,?_,hk,fun h0=>by rw [←iJ];exact he h0⟩
  simp only [fV,st0,Int.reduceEq,an,ab,ae,aj,ah,b8,ba,Jt,Jw,ac,Jv,Jx,Jq,au,be,nD hk,nC hk,nB hk,nA hk,h6k,h100,hcall]
theorem i29_2 (hc:bQ kind 19=2∨bQ kind 19=3):Eh W o (Dc n W o kind who fld to pick k):=by
 have hw:=i8 (W:=W) hk
 obtain ⟨a1,a2,a3⟩:=hV.wat k _ hw
 have hsm:=hV.small _ (Ka hw)
 have h6k:=uf (n+8) kind 19 (by omega) (by omega)
 rcases hc with hc | hc
 all_goals
  rw [hc] at h6k
  obtain ⟨fl',j,h100,hx⟩:=Hr (n+7) hk a2 (il kind) (il who) (il to) (il pick) (il (W k).1) (dS (W k).2.2.1) (il (W k).2.2.2) fld
  have hcall:=s22 n (W k).1 (W k).2.2.2 (W k).2.1 (W k).2.2.1 fl' hsm.2 hsm.1
  obtain ⟨m,b,s,h,e,hX,he⟩:RefA (rG W) (o.getD []) k _:=Hs hV hw hx
  have hcall:=hcall.trans hX
  refine .inl ⟨k,e,m,h,b,s,?_,hk,fun h0=>by rw [←iJ];exact he h0⟩
  simp only [fV,st0,Int.reduceEq,an,ab,ae,aj,ah,b8,ba,Jt,Jw,ac,Jv,Jx,Jq,au,be,nD hk,nC hk,nB hk,nA hk,h6k,h100,hcall]
theorem i29_4 (hc:bQ kind 19=4):Eh W o (Dc n W o kind who fld to pick k):=by
 have hw:=i8 (W:=W) hk
 obtain ⟨a1,a2,a3⟩:=hV.wat k _ hw
 have hsm:=hV.small _ (Ka hw)
 have h6k:=uf (n+8) kind 19 (by omega) (by omega)
 rw [hc] at h6k
 obtain ⟨fl',j,h100,hx⟩:=Hr (n+7) hk a2 (il kind) (il who) (il to) (il pick) (il (W k).1) (dS (W k).2.2.1) (il (W k).2.2.2) fld
 have hcall:=s24 n (W k).1 (W k).2.2.2 (W k).2.1 (W k).2.2.1 fl' hsm.2 hsm.1
 obtain ⟨m,b,s,h,e,hX,he⟩:RefA (rG W) (o.getD []) k _:=Hn hV hw hx
 have hcall:=hcall.trans hX
 refine .inl ⟨k,e,m,h,b,s,?_,hk,fun h0=>by rw [←iJ];exact he h0⟩
 simp only [fV,st0,Int.reduceEq,an,ab,ae,aj,ah,b8,ba,Jt,Jw,ac,Jv,Jx,Jq,au,be,nD hk,nC hk,nB hk,nA hk,h6k,h100,hcall]
theorem i29_5 (hc:bQ kind 19=5∨bQ kind 19=6):Eh W o (Dc n W o kind who fld to pick k):=by
 have hw:=i8 (W:=W) hk
 obtain ⟨a1,a2,a3⟩:=hV.wat k _ hw
 have hsm:=hV.small _ (Ka hw)
 have h6k:=uf (n+8) kind 19 (by omega) (by omega)
 rcases hc with hc | hc
 all_goals
  rw [hc] at h6k
  have hcall:=s26 (n+1) (W k).1 (W k).2.2.2 (W k).2.1 (W k).2.2.1 hsm.2 hsm.1
  obtain ⟨m,b,s,h,e,hX,he⟩:RefA (rG W) (o.getD []) k _:=EJ hV hw
  have hcall:=hcall.trans hX
  refine .inl ⟨k,e,m,h,b,s,?_,hk,fun h0=>by rw [←iJ];exact he h0⟩
  simp only [fV,st0,Int.reduceEq,an,ab,ae,aj,ah,b8,ba,Jt,Jw,ac,Jv,Jx,Jq,au,be,nD hk,nC hk,nB hk,nA hk,h6k,hcall]
theorem i29_7 (hc:bQ kind 19=7):Eh W o (Dc n W o kind who fld to pick k):=by
 have hw:=i8 (W:=W) hk
 obtain ⟨a1,a2,a3⟩:=hV.wat k _ hw
 have hsm:=hV.small _ (Ka hw)
 have h6k:=uf (n+8) kind 19 (by omega) (by omega)
 rw [hc] at h6k
 have hcall:=s50 (n+1) (W k).1 (W k).2.2.2 (W k).2.1 (W k).2.2.1 hsm.2 hsm.1
 obtain ⟨m,b,s,h,e,hX,he⟩:RefA (rG W) (o.getD []) k _:=Ip hV hw
 have hcall:=hcall.trans hX
 refine .inl ⟨k,e,m,h,b,s,?_,hk,fun h0=>by rw [←iJ];exact he h0⟩
 simp only [fV,st0,Int.reduceEq,an,ab,ae,aj,ah,b8,ba,Jt,Jw,ac,Jv,Jx,Jq,au,be,nD hk,nC hk,nB hk,nA hk,h6k,hcall]
theorem i29_8 (hc:bQ kind 19=8):Eh W o (Dc n W o kind who fld to pick k):=by
 have hw:=i8 (W:=W) hk
 obtain ⟨a1,a2,a3⟩:=hV.wat k _ hw
 have hsm:=hV.small _ (Ka hw)
 have h6k:=uf (n+8) kind 19 (by omega) (by omega)
 rw [hc] at h6k
 have hcall:=s52 (n+1) (W k).1 (W k).2.2.2 pick (W k).2.1 (W k).2.2.1 hsm.2 hsm.1
 obtain ⟨m,b,s,h,e,hX,he⟩:RefA (rG W) (o.getD []) k _:=Hi hV hw
 have hcall:=hcall.trans hX
 refine .inl ⟨k,e,m,h,b,s,?_,hk,fun h0=>by rw [←iJ];exact he h0⟩
 simp only [fV,st0,Int.reduceEq,an,ab,ae,aj,ah,b8,ba,Jt,Jw,ac,Jv,Jx,Jq,au,be,nD hk,nC hk,nB hk,nA hk,h6k,hcall]
theorem i29_9 (hc:bQ kind 19=9):Eh W o (Dc n W o kind who fld to pick k):=by
 have hw:=i8 (W:=W) hk
 obtain ⟨a1,a2,a3⟩:=hV.wat k _ hw
 have hsm:=hV.small _ (Ka hw)
 have h6k:=uf (n+8) kind 19 (by omega) (by omega)
 rw [hc] at h6k
 have hcall:=s54 (n+1) (W k).1 (W k).2.2.2 (W k).2.1 (W k).2.2.1 hsm.2 hsm.1
 obtain ⟨m,b,s,h,e,hX,he⟩:RefA (rG W) (o.getD []) k _:=rec_V hV hw
 have hcall:=hcall.trans hX
 refine .inl ⟨k,e,m,h,b,s,?_,hk,fun h0=>by rw [←iJ];exact he h0⟩
 simp only [fV,st0,Int.reduceEq,an,ab,ae,aj,ah,b8,ba,Jt,Jw,ac,Jv,Jx,Jq,au,be,nD hk,nC hk,nB hk,nA hk,h6k,hcall]
theorem I1 (hl:(o.getD []).length≤200) (hc:bQ kind 19=10∨bQ kind 19=11∨bQ kind 19=12):Eh W o (Dc n W o kind who fld to pick k):=by
 have hw:=i8 (W:=W) hk
 obtain ⟨a1,a2,a3⟩:=hV.wat k _ hw
 have hsm:=hV.small _ (Ka hw)
 have h6k:=uf (n+8) kind 19 (by omega) (by omega)
 have h6:=uf (n+8) to 6 (by omega) (by omega)
 have hr:=dV (x:=to) (m:=6) (by omega)
 have hz:bQ to 6=((bQ to 6).toNat:Int):=by omega
 rw [hz] at h6
 have hb6:(bQ to 6).toNat < 6:=by omega
 generalize (bQ to 6).toNat=b at h6 hb6
 have h43:=s44 n (W k).1 (W k).2.2.2 (b:Int) (W k).2.1 (W k).2.2.1 hsm.2 hsm.1
 unfold rI at h43
 have hpb:dR (b:Int)=true:=bn.2 (by omega)
 rw [K9 (show bS (W k).1 ((W k).2.1.getD []) ((W k).2.2.1.getD []) (W k).2.2.2=true from E8 hV.toGoodW hw),hpb] at h43
 rcases hc with hc | hc | hc
 all_goals
  rw [hc] at h6k
  by_cases hbk:b=k
  ·subst hbk
   rw [K9 (by rw [a1];simp)] at h43
   refine .inl ⟨b,1,(W b).1,(W b).2.2.2,(W b).2.1,(W b).2.2.1,?_,hk,fun h0=>absurd h0 (by decide)⟩
   simp only [fV,st0,Int.reduceEq,an,ab,ae,aj,ah,b8,ba,Jt,Jw,ac,Jv,Jx,Jq,au,be,nD hk,nC hk,nB hk,nA hk,h6k,h6,h43,jT]
  ·have hne:¬ ((b:Int)=(W k).1):=by rw [a1];omega
   rw [Kg (by simp [hne]),a1,a2] at h43
   refine .inr ⟨((k:Int),(b:Int),oU (ea k (bk k) (bnd (W k)) b)),k,1,(W k).1,(W k).2.2.2,(W k).2.1,(W k).2.2.1,?_,by decide,hV.tellV hw hb6 (fun h=>hbk h.symm)⟩
   have f1:(o.getD []).length*40≤140737488355328∧(o.getD []).length≤9223372036854775807:=by omega
   have f2:((o.getD []).length+1)*40≤140737488355328∧(o.getD []).length+1≤9223372036854775807:=by omega
   simp only [st1,fV,Int.reduceEq,an,ab,ae,aj,ah,b8,ba,Jt,Jw,ac,Jv,Jx,Jq,au,be,nD hk,nC hk,nB hk,nA hk,h6k,h6,a1,h43,jb,aC,aO,bp,K7,aQ,K8,K5,aH,K4,aS,aL,f1,f2,Kk,Jy,aN,List.take,Mm,K0,Kb,rP,FH]
   rfl
theorem I0 (hl:(o.getD []).length≤200) (hc:13≤bQ kind 19):Eh W o (Dc n W o kind who fld to pick k):=by
 have h6k:=uf (n+8) kind 19 (by omega) (by omega)
 generalize bQ kind 19=c at h6k hc
 have ne0:¬ c=0:=by omega
 have ne1:¬ c=1:=by omega
 have ne2:¬ c=2:=by omega
 have ne3:¬ c=3:=by omega
 have ne4:¬ c=4:=by omega
 have ne5:¬ c=5:=by omega
 have ne6:¬ c=6:=by omega
 have ne7:¬ c=7:=by omega
 have ne8:¬ c=8:=by omega
 have ne9:¬ c=9:=by omega
 have ne10:¬ c=10:=by omega
 have ne11:¬ c=11:=by omega
 have ne12:¬ c=12:=by omega
 by_cases h0:(o.getD []).length=0
 ·refine .inl ⟨k,1,(W k).1,(W k).2.2.2,(W k).2.1,(W k).2.2.1,?_,hk,fun h0=>absurd h0 (by decide)⟩
  have h0':¬ (((o.getD []).length:Nat):Int) > 0:=by omega
  simp only [fV,st0,an,ab,ae,aj,ah,b8,ba,Jw,ac,Jx,Jq,au,be,nD hk,nC hk,nB hk,nA hk,h6k,ne0,ne1,ne2,ne3,ne4,ne5,ne6,ne7,ne8,ne9,ne10,ne11,ne12,b7,bz,h0']
 ·have h0':(((o.getD []).length:Nat):Int) > 0:=by omega
  have hp96:=uf (n+8) pick ((o.getD []).length:Int) (by omega) (by omega)
  have hr:=dV (x:=pick) (m:=((o.getD []).length:Int)) (by omega)
  have hz:bQ pick ((o.getD []).length:Int)=((bQ pick ((o.getD []).length:Int)).toNat:Int):=by omega
  rw [hz] at hp96
  have hlt:(bQ pick ((o.getD []).length:Int)).toNat < (o.getD []).length:=by omega
  generalize (bQ pick ((o.getD []).length:Int)).toNat=i at hp96 hlt
  have hpi:=Jz hlt
  have hpm:=Ka hpi
  generalize (o.getD [])[i]=p at hpi hpm
  obtain ⟨p1,_⟩:=hV.pl p hpm
  have p1':=p1
  simp only [gm,Js,Ju] at p1'
  have pto:=bn.1 p1'.2.1
  have hto:p.2.1=((p.2.1.toNat:Nat):Int):=by omega
  have ht6:p.2.1.toNat < 6:=by omega
  generalize p.2.1.toNat=kk at hto ht6
  have hv:=i8 (W:=W) ht6
  have hsm:=hV.small _ (Ka hv)
  have htl:(p.2.2.getD []).length≤4611686018427387904:=by have:=p1'.2.2.2.1;omega
  have hcall:=s28 (n+1) (W kk).1 (W kk).2.2.2 p.1 p.2.1 (W kk).2.1 (W kk).2.2.1 p.2.2 hsm.2 hsm.1 htl
  obtain ⟨m,b,s,h,e,hX,he⟩:RefA (rG W) (o.getD []) kk _:=I2 hV hv hpm hto
  have hcall:=hcall.trans hX
  rw [hto] at hcall
  have hrow:=fun k=>sZ (Fn:=FN (n+9)) (FnD:=dW Tryz.prog (fm tb Tryz.prog) (FN (n+9))) (m:=M0) (n:=3) (f:=rP) hpi rfl k
  have hc1:(RP (n+9)).cell (rP p) 1=il kk:=by rw [←hto];rfl
  have hc0:(RP (n+9)).cell (rP p) 0=il p.1:=rfl
  have hc2:(RP (n+9)).cell (rP p) 2=dT p.2.2:=rfl
  refine .inl ⟨kk,e,m,h,b,s,?_,ht6,fun h0=>by rw [←iJ];exact he h0⟩
  simp only [fV,st0,an,ab,ae,aj,ah,b8,ba,Jt,Jw,ac,Jv,Jx,Jq,au,be,nD hk,nC hk,nB hk,nA hk,h6k,ne0,ne1,ne2,ne3,ne4,ne5,ne6,ne7,ne8,ne9,ne10,ne11,ne12,b7,bz,h0',hp96,hrow,hc0,hc1,hc2,aC,cQ ht6,aH,bC ht6,nD ht6,nC ht6,nB ht6,nA ht6,hcall]
end
end
section
open Go.Shelf
set_option maxRecDepth 100000
set_option maxHeartbeats 4000000
theorem GG (w:World):Calls Tryz.prog 91 #[.int .i64 1] w fun e w'=>e=.returned (.string ⟨#[49]⟩)∧w'=w:=by
 go_enter Tryz.func91,Tryz.ntmps91
 go_wp2
 go_ret
 exact ⟨rfl,rfl⟩
theorem itoa0 (w:World):Calls Tryz.prog 91 #[.int .i64 0] w fun e w'=>e=.returned (.string ⟨#[48]⟩)∧w'=w:=by
 go_enter Tryz.func91,Tryz.ntmps91
 go_wp2
 go_ret
 exact ⟨rfl,rfl⟩
theorem GF (w:World):Calls Tryz.prog 91 #[.int .i64 7] w fun e w'=>e=.returned (.string ⟨#[55]⟩)∧w'=w:=by
 go_enter Tryz.func91,Tryz.ntmps91
 go_wp2
 go_ret
 exact ⟨rfl,rfl⟩
theorem row2 (w:World) (b:Nat) (h0:w.cell? ⟨b,0,none⟩=some (.int .i64 7)) (h1:w.cell? ⟨b,1,none⟩=some (.int .i64 1)) :
  Calls Tryz.prog 55 #[.string ⟨#[119,97,110,116,115]⟩,.slice (some ⟨b,0,none⟩) 2 2] w fun e w'=>e=.returned (.string ⟨#[119,97,110,116,115,32,55,32,49,10]⟩)∧w'=w:=by
 go_enter Tryz.func55,Tryz.ntmps55
 go_wp2
 refine wp_loop_rounds 3 ?_
 rw [rounds_succ]
 go_wp2_with (go_at_call 91;refine (GF _).mono ?_;rintro e w' ⟨rfl,rfl⟩)
 rw [rounds_succ]
 go_wp2_with (go_at_call 91;refine (GG _).mono ?_;rintro e w' ⟨rfl,rfl⟩)
 rw [rounds_succ]
 go_wp2
 go_ret
 exact ⟨rfl,rfl⟩
theorem row3 (w:World) (b:Nat) (h0:w.cell? ⟨b,0,none⟩=some (.int .i64 7)) (h1:w.cell? ⟨b,1,none⟩=some (.int .i64 0)) (h2:w.cell? ⟨b,2,none⟩=some (.int .i64 1)) :
  Calls Tryz.prog 55 #[.string ⟨#[116,97,108,108,121]⟩,.slice (some ⟨b,0,none⟩) 3 3] w fun e w'=>e=.returned (.string ⟨#[116,97,108,108,121,32,55,32,48,32,49,10]⟩)∧w'=w:=by
 go_enter Tryz.func55,Tryz.ntmps55
 go_wp2
 refine wp_loop_rounds 4 ?_
 rw [rounds_succ]
 go_wp2_with (go_at_call 91;refine (GF _).mono ?_;rintro e w' ⟨rfl,rfl⟩)
 rw [rounds_succ]
 go_wp2_with (go_at_call 91;refine (itoa0 _).mono ?_;rintro e w' ⟨rfl,rfl⟩)
 rw [rounds_succ]
 go_wp2_with (go_at_call 91;refine (GG _).mono ?_;rintro e w' ⟨rfl,rfl⟩)
 rw [rounds_succ]
 go_wp2
 go_ret
 exact ⟨rfl,rfl⟩
def Ht:Ren:=⟨fun x=>if x=166 then 54 else if x=240 then 90 else if x=276 then 116 else if x=169 then 56 else 0,fun x=>if x=72 then 112 else if x=70 then 109 else if x=37 then 110 else if x=164 then 164 else if x=75 then 114 else if x=127 then 141 else if x=80 then 118 else x,fun x=>x⟩
theorem Fd:Lays.n166 Tryz.prog Ht where
 mixed:=by kernel_rfl
 f166:=by kernel_rfl
 f240:=by kernel_rfl
 f276:=by kernel_rfl
 t0:=by kernel_rfl
 a0:=fun w=>by kernel_rfl
 z0:=fun w=>by kernel_rfl
 v0:=fun w=>by kernel_rfl
 t3:=by kernel_rfl
 a3:=fun w=>by kernel_rfl
 z3:=fun w=>by kernel_rfl
 v3:=fun w=>by kernel_rfl
 t4:=by kernel_rfl
 a4:=fun w=>by kernel_rfl
 z4:=fun w=>by kernel_rfl
 v4:=fun w=>by kernel_rfl
 t9:=by kernel_rfl
 a9:=fun w=>by kernel_rfl
 z9:=fun w=>by kernel_rfl
 v9:=fun w=>by kernel_rfl
 t20:=by kernel_rfl
 a20:=fun w=>by kernel_rfl
 z20:=fun w=>by kernel_rfl
 v20:=fun w=>by kernel_rfl
 t37:=by kernel_rfl
 a37:=fun w=>by kernel_rfl
 z37:=fun w=>by kernel_rfl
 v37:=fun w=>by kernel_rfl
 t70:=by kernel_rfl
 a70:=fun w=>by kernel_rfl
 z70:=fun w=>by kernel_rfl
 v70:=fun w=>by kernel_rfl
 t72:=by kernel_rfl
 a72:=fun w=>by kernel_rfl
 z72:=fun w=>by kernel_rfl
 v72:=fun w=>by kernel_rfl
 t75:=by kernel_rfl
 a75:=fun w=>by kernel_rfl
 z75:=fun w=>by kernel_rfl
 v75:=fun w=>by kernel_rfl
 t164:=by kernel_rfl
 a164:=fun w=>by kernel_rfl
 z164:=fun w=>by kernel_rfl
 v164:=fun w=>by kernel_rfl
theorem Fc:Lays.n169 Tryz.prog Ht where
 mixed:=by kernel_rfl
 f169:=by kernel_rfl
 t0:=by kernel_rfl
 a0:=fun w=>by kernel_rfl
 z0:=fun w=>by kernel_rfl
 v0:=fun w=>by kernel_rfl
 t3:=by kernel_rfl
 a3:=fun w=>by kernel_rfl
 z3:=fun w=>by kernel_rfl
 v3:=fun w=>by kernel_rfl
 t9:=by kernel_rfl
 a9:=fun w=>by kernel_rfl
 z9:=fun w=>by kernel_rfl
 v9:=fun w=>by kernel_rfl
 t37:=by kernel_rfl
 a37:=fun w=>by kernel_rfl
 z37:=fun w=>by kernel_rfl
 v37:=fun w=>by kernel_rfl
 t70:=by kernel_rfl
 a70:=fun w=>by kernel_rfl
 z70:=fun w=>by kernel_rfl
 v70:=fun w=>by kernel_rfl
 t72:=by kernel_rfl
 a72:=fun w=>by kernel_rfl
 z72:=fun w=>by kernel_rfl
 v72:=fun w=>by kernel_rfl
 t127:=by kernel_rfl
 a127:=fun w=>by kernel_rfl
 z127:=fun w=>by kernel_rfl
 v127:=fun w=>by kernel_rfl
theorem Dw:Builder.Extra Tryz.prog Ht where
 sizeBuilder:=by kernel_rfl
 liesBuilder:=by kernel_rfl
 t5:=by kernel_rfl
 a5:=fun w=>by kernel_rfl
 z5:=fun w=>by kernel_rfl
 v5:=fun w=>by kernel_rfl
 infoByte:=by kernel_rfl
 cellsByte:=by kernel_rfl
 sizeByte:=by kernel_rfl
 neB5:=by decide
theorem wS (B b:Nat) (bs:List Value) (s:ByteArray) (w:World) (h:Lib.IsBuilderF 112 5 B b bs w) (hlen:bs.length+s.size≤140737488355328) (hBw:B≤w.heap.size) :
  Calls Tryz.prog 54 #[.pointer (some ⟨b,0,none⟩),.string s] w fun e w'=>e=.returned (.tuple #[.int .i64 s.size,.nilIface])∧(Lib.BuilderAtF 112 5 B b (.pointer (some ⟨b,0,none⟩)) (bs++Lib.strCells s) w'∧Below B w w'):=Any.Builder_WriteString_f Fd Dw B b bs s w h hlen hBw
theorem wStr (B b:Nat) (l:List UInt8) (w:World) (h:Lib.IsBuilderF 112 5 B b (Lib.byteCells l) w) (hBw:B≤w.heap.size) :
  Calls Tryz.prog 56 #[.pointer (some ⟨b,0,none⟩)] w fun e w'=>e=.returned (.string ⟨l.toArray⟩)∧(Lib.IsBuilderF 112 5 B b (Lib.byteCells l) w'∧Below B w w'):=Any.Builder_String_any_f Fc Dw B b l w h hBw
end
section
open Go.Shelf
set_option maxRecDepth 100000
set_option maxHeartbeats 4000000
theorem HK (w:World) (a:Nat) (o c:Nat) (_:2≤c) (h0:w.cell? ⟨a,o,none⟩=some (.int .i64 2)) (h1:w.cell? ⟨a,o+1,none⟩=some (.int .i64 7)) (h2:w.cell? ⟨a,o+2,none⟩=some (.int .i64 0)) (h3:w.cell? ⟨a,o+3,none⟩=some (.int .i64 1))
  (h4:w.cell? ⟨a,o+4,none⟩=some (.int .i64 1)) (h5:w.cell? ⟨a,o+5,none⟩=some (.int .i64 7)) (h6:w.cell? ⟨a,o+6,none⟩=some (.int .i64 0)) (h7:w.cell? ⟨a,o+7,none⟩=some (.int .i64 1))
  (hf:Calls Tryz.prog 51 #[.slice (some ⟨a,o,none⟩) 2 c,(.func (.func 52) #[] #[])] w fun e w'=>e=.returned (.bool false)∧Below w.heap.size w w') :
  Calls Tryz.prog 23 #[.slice (some ⟨a,o,none⟩) 2 c] w fun e w'=>e=.returned (.tuple #[.string ⟨#[119,97,110,116,115,32,55,32,49,10,116,97,108,108,121,32,55,32,48,32,49,10]⟩,.int .i64 0])∧Below w.heap.size w w':=by
 have ha:a < w.heap.size:=by
  unfold World.cell? at h0
  simp only at h0
  rcases Nat.lt_or_ge a w.heap.size with h | h
  ·exact h
  ·rw [Array.getElem?_eq_none h] at h0;cases h0
 go_enter Tryz.func23,Tryz.ntmps23
 go_wp2_with (go_at_call 51;refine hf.mono ?_)
 rintro e w1 ⟨rfl,b1⟩
 have ha1:a < w1.heap.size:=Mq ha b1.size
 have g0:=(b1.cell (p:=⟨a,o,none⟩) ha).trans h0
 have g1:=(b1.cell (p:=⟨a,o+1,none⟩) ha).trans h1
 have g2:=(b1.cell (p:=⟨a,o+2,none⟩) ha).trans h2
 have g3:=(b1.cell (p:=⟨a,o+3,none⟩) ha).trans h3
 have g4:=(b1.cell (p:=⟨a,o+4,none⟩) ha).trans h4
 have g5:=(b1.cell (p:=⟨a,o+5,none⟩) ha).trans h5
 have g6:=(b1.cell (p:=⟨a,o+6,none⟩) ha).trans h6
 have g7:=(b1.cell (p:=⟨a,o+7,none⟩) ha).trans h7
 clear h0 h1 h2 h3 h4 h5 h6 h7 hf
 go_wp2
 refine wp_loop_rounds 3 ?_
 rw [rounds_succ]
 go_wp2_with (go_at_call 55;refine (row2 _ _ (by simp [go_sem]) (by simp [go_sem])).mono ?_)
 rintro e w2 ⟨rfl,rfl⟩
 have k0:Lib.IsBuilderF 112 5 w1.heap.size w1.heap.size [] (w1.alloc (.cells #[.pointer none,.slice none 0 0] 112)):=Lib.IsBuilderF.of (Lib.fresh_isBuilder 112 5 w1)
 have c0:Below w1.heap.size w1 (w1.alloc (.cells #[.pointer none,.slice none 0 0] 112)):=(Below.refl _ w1).alloc (Ko _) _
 go_wp2_with (go_at_call 54;refine (wS w1.heap.size w1.heap.size [] _ _ ((k0.imp (·.alloc _) (·.alloc _)).imp (·.alloc _) (·.alloc _)) (by decide) (((c0.alloc c0.size _).alloc (c0.alloc c0.size _).size _).size)).mono ?_)
 rintro e w3 ⟨rfl,k3,d3⟩
 have c3:=((c0.alloc c0.size _).alloc (c0.alloc c0.size _).size _).trans d3
 clear d3 k0 c0
 have ha3:a < w3.heap.size:=Mq ha1 c3.size
 have f4:=(c3.cell (p:=⟨a,o+4,none⟩) ha1).trans g4
 have f5:=(c3.cell (p:=⟨a,o+5,none⟩) ha1).trans g5
 have f6:=(c3.cell (p:=⟨a,o+6,none⟩) ha1).trans g6
 have f7:=(c3.cell (p:=⟨a,o+7,none⟩) ha1).trans g7
 clear g0 g1 g2 g3 g4 g5 g6 g7
 go_wp2
 rw [rounds_succ]
 go_wp2_with (go_at_call 55;refine (row3 _ _ (by simp [go_sem]) (by simp [go_sem]) (by simp [go_sem])).mono ?_)
 rintro e w4 ⟨rfl,rfl⟩
 have c4:=(c3.alloc c3.size (.cells #[.int .i64 1,.int .i64 7,.int .i64 0,.int .i64 1] 84)).alloc ((c3.alloc c3.size (.cells #[.int .i64 1,.int .i64 7,.int .i64 0,.int .i64 1] 84)).size) (.cells #[.int .i64 7,.int .i64 0,.int .i64 1] 3)
 go_wp2_with (go_at_call 54;refine (wS w1.heap.size w1.heap.size _ _ _ (.inr ((k3.alloc _).alloc _)) (by decide) c4.size).mono ?_)
 rintro e w5 ⟨rfl,k5,d5⟩
 have c5:=c4.trans d5
 clear d5 c4 k3 f4 f5 f6 f7
 go_wp2
 rw [rounds_succ]
 have k6:Lib.IsBuilderF 112 5 w1.heap.size w1.heap.size (Lib.byteCells [119,97,110,116,115,32,55,32,49,10,116,97,108,108,121,32,55,32,48,32,49,10]) w5:=.inr k5
 go_wp2_with (go_at_call 56;refine (wStr w1.heap.size w1.heap.size _ _ k6 c5.size).mono ?_)
 rintro e w6 ⟨rfl,_,d6⟩
 go_wp2
 go_ret2
 refine ⟨rfl,?_⟩
 have c6:=c5.trans d6
 exact b1.trans ⟨c6.os,c6.tape,c6.output,c6.size,fun k hk=>c6.block k (Mq hk b1.size)⟩
end
section
set_option maxRecDepth 100000
set_option maxHeartbeats 0
def rt (p:Int) (bs:D) (l:D) (h e:Int):az:=some (0,[.d (il p),.d bs,.d l,.d (il h),.d (il e)])
def nn:D:=.sl 2 [[il 7,il 11]]
def bL (a b c d:Int):List D:=[il a,il b,il c,il d]
def lz (p:Int) (l:D) (h:Int):List D:=[il p,nn,l,il h]
def yf:D:=.lit (.slice none 0 0)
theorem FE:FN 14 41 [il 0,nn]=rt 0 nn yf 0 0:=by kernel_rfl
theorem FC:FN 14 41 [il 1,nn]=rt 1 nn yf 0 0:=by kernel_rfl
theorem FB:FN 14 41 [il 3,nn]=rt 3 nn yf 0 0:=by kernel_rfl
theorem e41:FN 14 16 (lz 3 yf 0++[il 7])=some (0,[.d (.sl 1 [[il 0],[il 1]]),.d (il 0)]):=by kernel_rfl
theorem e19:FN 14 42 (lz 1 yf 0++[il 7])=rt 1 nn (.sl 4 [bL 2 7 0 1]) 0 0:=by kernel_rfl
theorem A2:FN 14 11 (lz 1 (.sl 4 [bL 2 7 0 1]) 0++[il 0])=some (0,[.d (il 1),.d (il 0),.d (.sl 3 [[il 7,il 0,il 0]]),.d (il 0)]):=by kernel_rfl
theorem zZ:FN 14 8 (lz 1 (.sl 4 [bL 2 7 0 1]) 0)=rt 1 nn (.sl 4 [bL 2 7 0 1]) 1 0:=by kernel_rfl
theorem A1:FN 14 11 (lz 1 (.sl 4 [bL 2 7 0 1]) 1++[il 0])=some (0,[.d (il 1),.d (il 0),.d (.sl 3 [[il 7,il 0,il 1]]),.d (il 0)]):=by kernel_rfl
theorem A4:FN 14 21 (lz 0 yf 0++[il 1,il 0,.sl 3 [[il 7,il 0,il 1]]])=rt 0 nn (.sl 4 [bL 3 7 1 1]) 0 0:=by kernel_rfl
theorem e25:FN 14 43 (lz 0 (.sl 4 [bL 3 7 1 1]) 0)=rt 0 nn (.sl 4 [bL 3 7 1 1,bL 1 7 1 1]) 0 0:=by kernel_rfl
theorem e29:FN 14 19 (lz 0 (.sl 4 [bL 3 7 1 1,bL 1 7 1 1]) 0++[il 7,il 1])=some (0,[.d (il 1),.d (il 0)]):=by kernel_rfl
theorem zY:FN 14 8 (lz 0 (.sl 4 [bL 3 7 1 1,bL 1 7 1 1]) 0)=rt 0 nn (.sl 4 [bL 3 7 1 1,bL 1 7 1 1]) 2 0:=by kernel_rfl
theorem A0:FN 14 11 (lz 0 (.sl 4 [bL 3 7 1 1,bL 1 7 1 1]) 2++[il 1])=some (0,[.d (il 0),.d (il 1),.d (.sl 3 [[il 7,il 1,il 0]]),.d (il 0)]):=by kernel_rfl
theorem A3:FN 14 21 (lz 1 (.sl 4 [bL 2 7 0 1]) 1++[il 0,il 1,.sl 3 [[il 7,il 1,il 0]]])=rt 1 nn (.sl 4 [bL 2 7 0 1,bL 1 7 0 1]) 1 0:=by kernel_rfl
theorem e33:FN 14 18 (lz 1 (.sl 4 [bL 2 7 0 1,bL 1 7 0 1]) 1++[il 7,il 0])=some (0,[.d (bl true),.d (il 0)]):=by kernel_rfl
theorem e21:FN 14 44 (lz 1 (.sl 4 [bL 2 7 0 1,bL 1 7 0 1]) 1++[il 7])=rt 1 nn (.sl 4 [bL 2 7 0 1,bL 1 7 0 1,bL 4 7 0 1,bL 2 7 0 2]) 1 0:=by kernel_rfl
theorem e47:FN 14 45 [.sl 4 [lz 0 (.sl 4 [bL 3 7 1 1,bL 1 7 1 1]) 2,lz 1 (.sl 4 [bL 2 7 0 1,bL 1 7 0 1,bL 4 7 0 1,bL 2 7 0 2]) 1,lz 3 yf 0],il 7]=some (0,[.d (.sl 1 [[il 1]]),.d (il 0)]):=by kernel_rfl
end
section
set_option maxRecDepth 100000
set_option maxHeartbeats 0
theorem xF:Tryz.prog.follows .mixedOrders=true:=by kernel_rfl
theorem xm:rD Tryz.prog (fm tb Tryz.prog):=fun f p h=>by
 have:(fm tb Tryz.prog).sp f=none:=rfl
 rw [this] at h;cases h
def EF:List (List D):=[bL 2 7 0 1,bL 1 7 0 1]
def Au:D:=.lit (.string ⟨#[119,97,110,116,115,32,55,32,49,10,116,97,108,108,121,32,55,32,48,32,49,10]⟩)
theorem e105:FN 8 51 [.sl 4 EF,.fn 52 []]=some (0,[.d (bl false)]):=by kernel_rfl
theorem sc105:SC Tryz.prog 51 [.one (.sl 4 EF),.one (.fn 52 [])] (.one (.d (bl false))) :=
 yy (P:=Tryz.prog) (T:=tb) xF xm 8 51 [.one,.one] [.sl 4 EF,.fn 52 []] _ 0 [.d (bl false)] [(false,[.d])] rfl rfl e105 rfl
theorem CG:SC Tryz.prog 23 [.one (.sl 4 EF)] (.tup [.one (.d Au),.one (.d (il 0))]):=by
 refine ⟨fun xs w=>enters_of Tryz.func23 (by kernel_rfl) rfl xs w,?_⟩
 intro w U vs hU hv
 obtain ⟨vs⟩:=vs
 simp only [VDF,It,DR] at hv
 obtain ⟨v,_,rfl,⟨a,c,rfl,hc,hm,hb⟩,rfl⟩:=hv
 obtain ⟨b,o,rfl,hb1,hr⟩:=hb (by decide)
 have hr':=hr
 simp only [EF,bL,RR,CR,DR,il,Ta,Nat.reduceAdd] at hr
 obtain ⟨_,⟨⟨_,h0,rfl,_⟩,⟨_,h1,rfl,_⟩,⟨_,h2,rfl,_⟩,⟨_,h3,rfl,_⟩,_⟩,_,⟨⟨_,h4,rfl,_⟩,⟨_,h5,rfl,_⟩,⟨_,h6,rfl,_⟩,⟨_,h7,rfl,_⟩,_⟩,_⟩:=hr
 refine (HK w b o c hc h0 h1 h2 h3 h4 h5 h6 h7 ?_).mono ?_
 ·refine (sc105.2 w U _ hU ?_).mono ?_
  ·simp only [VDF,It,DR]
   exact ⟨_,_,rfl,⟨⟨b,o,none⟩,c,rfl,hc,hm,fun _=>⟨b,o,rfl,hb1,hr'⟩⟩,_,_,rfl,⟨#[],rfl,by simp [FR]⟩,rfl⟩
  ·rintro e w' ⟨v,U',bs,rfl,hbe,_,_,_,_,hrv⟩
   simp only [RvR,RcR,DR,bl] at hrv
   obtain ⟨_,rfl,_⟩:=hrv
   exact ⟨rfl,hbe⟩
 ·rintro e w' ⟨rfl,hbe⟩
  refine ⟨_,U,[],rfl,hbe,fun _ h=>h,fun x hx=>⟨Mq (hU x hx) hbe.size,.inl hx⟩,V9,by simp,?_⟩
  simp only [RvR,RvF,RcR,DR,Au,il]
  exact ⟨_,rfl,_,_,[],[],rfl,rfl,⟨rfl,rfl,rfl⟩,_,_,[],[],rfl,rfl,⟨rfl,rfl,rfl⟩,rfl,rfl⟩
end
end Go.VE
