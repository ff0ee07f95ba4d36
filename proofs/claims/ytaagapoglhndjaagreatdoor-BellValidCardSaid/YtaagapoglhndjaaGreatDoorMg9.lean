/- Bell: the examples are so. -/
import Derived.Test.YtaagapoglhndjaaGreatDoorMg8
import Derived.Test.YtaagapoglhndjaaGreatDoorMh
import Derived.Test.YtaagapoglhndjaaGreatDoorMg3
import Derived.Test.YtaagapoglhndjaaGreatDoorMg6
import Derived.Test.YtaagapoglhndjaaGreatDoorMg4
namespace Go.VE
open Go.RowKit Go.Proofs
section
set_option maxRecDepth 100000
set_option maxHeartbeats 0
open Classical in
noncomputable def GS (f:Nat) (xs:List D):az:=if f=23∧xs=[.sl 4 EF] then some (0,[.d Au,.d (il 0)]) else FN 14 f xs
theorem pE {f:Nat} {xs:List D} (h:f≠23):GS f xs=FN 14 f xs:=Kg fun e=>h e.1
theorem pP:GS 23 [.sl 4 EF]=some (0,[.d Au,.d (il 0)]):=K9 ⟨rfl,rfl⟩
theorem Jl:mo Tryz.prog (fm tb Tryz.prog) GS:=by
 intro f sh xs vs j ys rs h1 h2 h3 h4
 unfold GS at h3
 split at h3
 ·rename_i hc
  obtain ⟨rfl,rfl⟩:=hc
  simp only [Jr,Ku] at h3
  obtain ⟨rfl,rfl⟩:=h3
  have e1:(fm tb Tryz.prog).ash 23=some [.one]:=rfl
  rw [e1] at h1
  cases h1
  cases h2
  have e2:((fm tb Tryz.prog).rsk 23)[0]?=some [(false,[.d]),(false,[.d])]:=rfl
  rw [e2] at h4
  cases h4
  exact CG
 ·exact yy xF xm 14 f sh xs vs j ys rs h1 h2 h3 h4
theorem Gm:nj Tryz.prog (fm tb Tryz.prog) GS:=fun f ms xs zs h1 h2=>by
 rw [pE (by omega)] at h2
 exact Am xF xm 14 f ms xs zs h1 h2
theorem Ih:FN 14 17 [.sl 1 [[il 0],[il 1]],.sl 1 [[il 0],[il 1]]]=some (0,[.d (bl true)]):=by kernel_rfl
theorem Ig:FN 14 17 [.sl 1 [[il 1]],.sl 1 [[il 1]]]=some (0,[.d (bl true)]):=by kernel_rfl
theorem If:FN 14 12 [il 1,il 0,.sl 3 [[il 7,il 0,il 0]],il 1,il 0,.sl 3 [[il 7,il 0,il 0]]]=some (0,[.d (bl true)]):=by kernel_rfl
theorem Ie:FN 14 12 [il 1,il 0,.sl 3 [[il 7,il 0,il 1]],il 1,il 0,.sl 3 [[il 7,il 0,il 1]]]=some (0,[.d (bl true)]):=by kernel_rfl
theorem Id:FN 14 12 [il 0,il 1,.sl 3 [[il 7,il 1,il 0]],il 0,il 1,.sl 3 [[il 7,il 1,il 0]]]=some (0,[.d (bl true)]):=by kernel_rfl
theorem HD {Fn:Nat→List D→az} {FnD:D→List Sh→List D→az} {m:Nat} (s:ByteArray) (k:D→az):(aa Fn FnD m).bin .eql false (.lit (.string s)) (.lit (.string s)) k=k (bl true):=by
 simp [aa,iz,FU,oT,bl]
theorem Hz {Fn:Nat→List D→az} {FnD:D→List Sh→List D→az} {m:Nat} (s:ByteArray):(aa Fn FnD m).lit (.string s)=.lit (.string s):=rfl
theorem g18a {Fn:Nat→List D→az} {FnD:D→List Sh→List D→az} (FE:Fn 41 [il 0,nn]=rt 0 nn yf 0 0)
  (FC:Fn 41 [il 1,nn]=rt 1 nn yf 0 0)
  (FB:Fn 41 [il 3,nn]=rt 3 nn yf 0 0)
  (e41:Fn 16 (lz 3 yf 0++[il 7])=some (0,[.d (.sl 1 [[il 0],[il 1]]),.d (il 0)]))
  (e19:Fn 42 (lz 1 yf 0++[il 7])=rt 1 nn (.sl 4 [bL 2 7 0 1]) 0 0)
  (A2:Fn 11 (lz 1 (.sl 4 [bL 2 7 0 1]) 0++[il 0])=some (0,[.d (il 1),.d (il 0),.d (.sl 3 [[il 7,il 0,il 0]]),.d (il 0)]))
  (zZ:Fn 8 (lz 1 (.sl 4 [bL 2 7 0 1]) 0)=rt 1 nn (.sl 4 [bL 2 7 0 1]) 1 0)
  (A1:Fn 11 (lz 1 (.sl 4 [bL 2 7 0 1]) 1++[il 0])=some (0,[.d (il 1),.d (il 0),.d (.sl 3 [[il 7,il 0,il 1]]),.d (il 0)]))
  (A4:Fn 21 (lz 0 yf 0++[il 1,il 0,.sl 3 [[il 7,il 0,il 1]]])=rt 0 nn (.sl 4 [bL 3 7 1 1]) 0 0)
  (e25:Fn 43 (lz 0 (.sl 4 [bL 3 7 1 1]) 0)=rt 0 nn (.sl 4 [bL 3 7 1 1,bL 1 7 1 1]) 0 0)
  (e29:Fn 19 (lz 0 (.sl 4 [bL 3 7 1 1,bL 1 7 1 1]) 0++[il 7,il 1])=some (0,[.d (il 1),.d (il 0)]))
  (zY:Fn 8 (lz 0 (.sl 4 [bL 3 7 1 1,bL 1 7 1 1]) 0)=rt 0 nn (.sl 4 [bL 3 7 1 1,bL 1 7 1 1]) 2 0)
  (A0:Fn 11 (lz 0 (.sl 4 [bL 3 7 1 1,bL 1 7 1 1]) 2++[il 1])=some (0,[.d (il 0),.d (il 1),.d (.sl 3 [[il 7,il 1,il 0]]),.d (il 0)]))
  (A3:Fn 21 (lz 1 (.sl 4 [bL 2 7 0 1]) 1++[il 0,il 1,.sl 3 [[il 7,il 1,il 0]]])=rt 1 nn (.sl 4 [bL 2 7 0 1,bL 1 7 0 1]) 1 0)
  (e33:Fn 18 (lz 1 (.sl 4 [bL 2 7 0 1,bL 1 7 0 1]) 1++[il 7,il 0])=some (0,[.d (bl true),.d (il 0)]))
  (e21:Fn 44 (lz 1 (.sl 4 [bL 2 7 0 1,bL 1 7 0 1]) 1++[il 7])=rt 1 nn (.sl 4 [bL 2 7 0 1,bL 1 7 0 1,bL 4 7 0 1,bL 2 7 0 2]) 1 0)
  (e47:Fn 45 [.sl 4 [lz 0 (.sl 4 [bL 3 7 1 1,bL 1 7 1 1]) 2,lz 1 (.sl 4 [bL 2 7 0 1,bL 1 7 0 1,bL 4 7 0 1,bL 2 7 0 2]) 1,lz 3 yf 0],il 7]=some (0,[.d (.sl 1 [[il 1]]),.d (il 0)]))
  (Ih:Fn 17 [.sl 1 [[il 0],[il 1]],.sl 1 [[il 0],[il 1]]]=some (0,[.d (bl true)]))
  (Ig:Fn 17 [.sl 1 [[il 1]],.sl 1 [[il 1]]]=some (0,[.d (bl true)]))
  (If:Fn 12 [il 1,il 0,.sl 3 [[il 7,il 0,il 0]],il 1,il 0,.sl 3 [[il 7,il 0,il 0]]]=some (0,[.d (bl true)]))
  (Ie:Fn 12 [il 1,il 0,.sl 3 [[il 7,il 0,il 1]],il 1,il 0,.sl 3 [[il 7,il 0,il 1]]]=some (0,[.d (bl true)]))
  (Id:Fn 12 [il 0,il 1,.sl 3 [[il 7,il 1,il 0]],il 0,il 1,.sl 3 [[il 7,il 1,il 0]]]=some (0,[.d (bl true)]))
  (pP:Fn 23 [.sl 4 EF]=some (0,[.d Au,.d (il 0)])):G20 (aa Fn FnD M0)=some (0,[.d (bl true)]):=by
 simp only [rt,nn,bL,lz,yf,EF,Au,K2,K7] at FE FC FB e41 e19 A2 zZ A1 A4 e25 e29 zY A0 A3 e33 e21 e47 pP
 simp only [G20,aC,ah,b8,aO,aQ,Jy,K8,aS,K4,Jv,aN,List.take,dt,an,ab,ae,aj,FE,FC,FB,e41,e19,A2,zZ,A1,A4,e25,e29,zY,A0,A3,e33,e21,e47,pP,
  ba,Jt,ac,au,Ih,Ig,If,Ie,Id,pc,T6,List.all_nil,EB,V2,HD,Hz]
theorem pq {f:Nat} {xs:List D} {o:az} (h:FN 14 f xs=o) (hf:f≠23):GS f xs=o:=(pE hf).trans h
theorem g18:G20 (aa GS (dW Tryz.prog (fm tb Tryz.prog) GS) M0)=some (0,[.d (bl true)]) :=
 g18a (pq FE (by decide)) (pq FC (by decide)) (pq FB (by decide)) (pq e41 (by decide)) (pq e19 (by decide)) (pq A2 (by decide)) (pq zZ (by decide)) (pq A1 (by decide)) (pq A4 (by decide)) (pq e25 (by decide)) (pq e29 (by decide)) (pq zY (by decide)) (pq A0 (by decide)) (pq A3 (by decide)) (pq e33 (by decide)) (pq e21 (by decide)) (pq e47 (by decide)) (pq Ih (by decide)) (pq Ig (by decide)) (pq If (by decide)) (pq Ie (by decide)) (pq Id (by decide)) pP
theorem EK:SC Tryz.prog 20 [] (.one (.d (bl true))) :=
 tQ (T:=tb) (P:=Tryz.prog) xF Jl Gm xm (fuel:=400) (m0:=M0) (xs:=[]) (j:=0) (ys:=[.d (bl true)]) (rs:=[(false,[.d])]) (by rw [dJ];exact (J6 _).trans g18) (by decide) (sh:=[]) rfl rfl rfl
end
section
set_option maxRecDepth 100000
theorem o3 {n:Nat} {ds:List D} (h:HasT Tryz.prog (n+1) 3 ds):∃ z,ds=[il z]∧-9223372036854775808≤z∧z≤9223372036854775807:=h.int Tryz.underlying3
theorem CM {α:Type} {f:α→List D}:∀ {o:Option Rr},(∀ r∈o.getD [],∃ c,r=f c)→∃ q:Option (List α),o=q.map (·.map f)
 | none,_=>⟨none,rfl⟩
 | some rows,h=>by
  obtain ⟨l,hl⟩:=ur (f:=f) (rows:=rows) h
  exact ⟨some l,by rw [hl];rfl⟩
theorem oL {α:Type} {f:α→List D} {n t e c b:Nat} {ds:List D} (hu:Tryz.prog.underlying t=some (.slice e)) (hc:Tryz.prog.cellsOf e=c) (hb:Tryz.prog.bytesOf e=b) (he:∀ r,HasT Tryz.prog n e r→∃ x,r=f x) (h:HasT Tryz.prog (n+1) t ds):∃ o,ds=[dL c f o]∧(o.getD []).length*b≤140737488351232:=by
 obtain ⟨o,rfl,h1,h2⟩:=h.sl hu hc hb
 obtain ⟨q,rfl⟩:=CM (f:=f) fun r hr=>he r (h2 r hr)
 refine ⟨q,rfl,?_⟩
 cases q with
 | none=>simp
 | some l=>simpa using h1
noncomputable def Jk (n:Nat) (f:Nat) (xs:List D):az:=if f=20∧xs=[] then some (0,[.d (bl true)]) else FN n f xs
theorem Ji (n:Nat):mo Tryz.prog (fm tb Tryz.prog) (Jk n):=by
 intro f sh xs vs j ys rs h1 h2 h3 h4
 unfold Jk at h3
 split at h3
 ·rename_i hc
  obtain ⟨rfl,rfl⟩:=hc
  simp only [Jr,Ku] at h3
  obtain ⟨rfl,rfl⟩:=h3
  have e1:(fm tb Tryz.prog).ash 20=some []:=rfl
  rw [e1] at h1
  cases h1
  cases h2
  have e2:((fm tb Tryz.prog).rsk 20)[0]?=some [(false,[.d])]:=rfl
  rw [e2] at h4
  cases h4
  exact EK
 ·exact yy xF xm n f sh xs vs j ys rs h1 h2 h3 h4
theorem Jj (n:Nat):Jk n 20 []=some (0,[.d (bl true)]):=by simp [Jk]
theorem E2 {n f:Nat} {xs:List D} {o:az} (h:FN n f xs=o) (hf:f≠20):Jk n f xs=o:=by rw [←h];simp [Jk,hf]
theorem Gl (n:Nat):nj Tryz.prog (fm tb Tryz.prog) (Jk n):=fun f ms xs zs h1 h2=>by
 rw [E2 rfl (by omega)] at h2
 exact Am xF xm n f ms xs zs h1 h2
end
section
set_option maxRecDepth 100000
section
variable {W:Nat→W4} {k:Nat} {w:W4} (j:Nat)
theorem up1:il (cd W k w j).1=if k=j then il w.1 else il (W j).1:=by unfold cd;split<;>rfl
theorem up2:dB (cd W k w j).2.1=if k=j then dB w.2.1 else dB (W j).2.1:=by unfold cd;split<;>rfl
theorem up3:dS (cd W k w j).2.2.1=if k=j then dS w.2.2.1 else dS (W j).2.2.1:=by unfold cd;split<;>rfl
theorem up4:il (cd W k w j).2.2.2=if k=j then il w.2.2.2 else il (W j).2.2.2:=by unfold cd;split<;>rfl
end
abbrev sx (W:Nat→W4) (o:Option (List P3)):List Yr:=(mt W++[dP o]).map .d
theorem k29_0 (n:Nat) {W:Nat→W4} {o:Option (List P3)} {kk:Nat} (hk:kk < 6) (e m h:Int) (b:Option (List aT)) (s:Option (List aY)):og (RP n) (st0 W o kk e m b s h)=some (0,sx (if e=0 then cd W kk (m,b,s,h) else W) o):=by
 by_cases h0:e=0
 ·simp only [og,st0,sx,mt,K2,K7,K0,Kb,ae,aj,ah,ba,h0,Jt,ac,Jv,aC,cQ hk,aH,bC hk,Jv,iU,au,up1,up2,up3,up4]
 ·simp only [og,st0,sx,mt,K2,K7,K0,Kb,ae,aj,ah,ba,h0,Jw,Jq,ac,Jx,au]
theorem k29_1 (n:Nat) {W:Nat→W4} {ps:List P3} (kk e m h:Int) (b:Option (List aT)) (s:Option (List aY)) (h0:e≠0):rm (RP n) (st1 W ps kk e m b s h ps.length)=some (0,sx W (some ps)):=by
 have hp:(ps.map rP).take ps.length=ps.map rP:=Kl (by simp)
 simp only [rm,st1,ae,aj,av,aA,aw,ax,ah,ba,h0,Jw,Jq,ac,Jx,aQ,K5,aS,Jv,aN,hp,dt,au]
 rfl
theorem sDo (n:Nat) {W:Nat→W4} {o:Option (List P3)} (hV:GoodV (rG W) (o.getD [])) (hl:(o.getD []).length≤200) (kind who fld to pick:Int) :
  ∃ W' o',FN (n+10) 29 (mt W++[dP o,il kind,il who,il fld,il to,il pick])=some (0,sx W' o')∧GoodV (rG W') (o'.getD [])∧(o'.getD []).length≤(o.getD []).length+1:=by
 have hr:=dV (x:=who) (m:=6) (by omega)
 have h96:=uf (n+8) who 6 (by omega) (by omega)
 have hz:bQ who 6=((bQ who 6).toNat:Int):=by omega
 rw [hz] at h96
 have hk:(bQ who 6).toNat < 6:=by omega
 generalize (bQ who 6).toNat=k at h96 hk
 have hA:Eh W o (Dc n W o kind who fld to pick k):=by
  have hm:=dV (x:=kind) (m:=19) (by omega)
  rcases (show (bQ kind 19=0∨bQ kind 19=1)∨(bQ kind 19=2∨bQ kind 19=3)∨bQ kind 19=4∨(bQ kind 19=5∨bQ kind 19=6)∨bQ kind 19=7∨bQ kind 19=8∨bQ kind 19=9∨(bQ kind 19=10∨bQ kind 19=11∨bQ kind 19=12)∨13≤bQ kind 19 by omega) with h | h | h | h | h | h | h | h | h
  ·exact i29_0 hV hk n kind who fld to pick h
  ·exact i29_2 hV hk n kind who fld to pick h
  ·exact i29_4 hV hk n kind who fld to pick h
  ·exact i29_5 hV hk n kind who fld to pick h
  ·exact i29_7 hV hk n kind who fld to pick h
  ·exact i29_8 hV hk n kind who fld to pick h
  ·exact i29_9 hV hk n kind who fld to pick h
  ·exact I1 hV hk n kind who fld to pick hl h
  ·exact I0 hV hk n kind who fld to pick hl h
 have hbody:∀ X:az,Dc n W o kind who fld to pick k=X→FN (n+10) 29 (mt W++[dP o,il kind,il who,il fld,il to,il pick])=(RP (n+9)).bnd X [og (RP (n+9)),rm (RP (n+9))]:=by
  intro X hX
  simp only [mt,K2,K7]
  rw [FS,IZ]
  simp only [G29,ah,an,h96,ab,ae,aC,cQ hk,aH,bC hk]
  exact congrArg (fun x=>(RP (n+9)).bnd x [og (RP (n+9)),rm (RP (n+9))]) hX
 rcases hA with ⟨kk,e,m,h,b,s,hX,hkk,he⟩ | ⟨p,kk,e,m,h,b,s,hX,hne,hg⟩
 ·refine ⟨_,o,((hbody _ hX).trans (ab ..)).trans (k29_0 (n+9) hkk e m h b s),?_,by omega⟩
  split
  ·rename_i h0
   exact he h0
  ·exact hV
 ·have hk1:=k29_1 (n+9) (W:=W) (ps:=o.getD []++[p]) kk e m h b s hne
  rw [Kc] at hk1
  exact ⟨W,some (o.getD []++[p]),((hbody _ hX).trans (bH ..)).trans hk1,hg,by simp⟩
def v0 (k:Nat):W4:=((k:Int),some (bk k),none,0)
def vs (i:Nat):Nat→W4:=fun j=>if j < i then v0 j else (0,none,none,0)
theorem yB (i:Nat):vs (i+1)=cd (vs i) i (v0 i):=by
 funext j
 unfold vs cd
 by_cases h:i=j
 ·subst h;simp
 ·rw [Kg h]
  show (if j < i+1 then v0 j else (0,none,none,0))=if j < i then v0 j else (0,none,none,0)
  by_cases h1:j < i
  ·rw [K9 h1,K9 (by omega)]
  ·rw [Kg h1,Kg (by omega)]
theorem vs_0 (j:Nat):vs 0 j=(0,none,none,0):=by simp [vs]
theorem FJ:dB none=dl:=rfl
theorem GA (n:Nat) {i:Nat} (hi:i < 6):FN (n+6) 69 [il i,dB (oU (bk i))]=some (0,[.d (il (v0 i).1),.d (dB (v0 i).2.1),.d (dS (v0 i).2.2.1),.d (il (v0 i).2.2.2),.d (il 0)]):=by
 have hok:=eU.1 (vW i hi)
 have h:=s10 n (i:Int) (oU (bk i)) (by rw [cZ];have:=cU (vW i hi);omega)
 rw [cZ,K9 hok.1,K9 hok.2.1] at h
 exact h
end
section
set_option maxRecDepth 100000
abbrev jF:List Yr:=[.d (il 0),.d (il 0),.d (il 0),.d (il 0),.d (il 0),.d (il 0),.d (il 0),.d (il 0),.d (il 0),.d (il 0),.d (il 0),.d (il 0)]
theorem l28_a (n:Nat) (k:Nat→List Yr→az):wz (RP (n+6)) k ([.d (il 0)]++jF++jF)=k 1 (.d (il 1)::((mt (cd (vs 0) 0 (v0 0))).map .d++jF)):=by
 have h99:=s99 (n+2) (show 0 < 6 by omega)
 have hnew:=GA n (show 0 < 6 by omega)
 simp only [Tf] at h99 hnew
 have hw:IntKind.i64.wrap (0+1)=1:=rfl
 have hx:∀ k:Nat→az,(RP (n+6)).inx (il 0) 6 k=k 0:=fun k=>cQ (i:=0) (by omega) k
 simp only [wz,mt,K2,K7,K0,Kb,ae,aj,ah,aB,show ((0:Int) < 6) by omega,Jt,ac,Jv,an,h99,hnew,ab,aC,hx,aH,bC (show 0 < 6 by omega),iU,up1,up2,up3,up4,vs_0,FJ,n5,dl,jF,aF,hw,fw]
theorem l28_b (n:Nat) {q:Nat} (hq:q < 6) (k:Nat→List Yr→az):qP (RP (n+6)) k (.d (il q)::((mt (vs q)).map .d++jF))=k 1 (.d (il ((q:Int)+1))::((mt (cd (vs q) q (v0 q))).map .d++jF)):=by
 have h99:=s99 (n+2) hq
 have hnew:=GA n hq
 have hw:IntKind.i64.wrap ((q:Int)+1)=(q:Int)+1:=dX hq (by omega)
 have hlt:(q:Int) < 6:=by omega
 simp only [qP,mt,K2,K7,K0,Kb,ae,aj,ah,aB,hlt,Jt,ac,Jv,an,h99,hnew,ab,aC,cQ hq,aH,bC hq,iU,up1,up2,up3,up4,jF,aF,hw]
theorem l28_c (n:Nat) (k:Nat→List Yr→az) (W:Nat→W4):qP (RP (n+6)) k (.d (il 6)::((mt W).map .d++jF))=some (1,(mt W).map .d++jF):=by
 simp only [qP,mt,K2,K7,K0,Kb,ae,aj,ah,aB,Int.lt_irrefl,Jw,Jq,ac,Jx,jF,au]
theorem HV (n:Nat):bh [wz (RP (n+6)),qP (RP (n+6))] M0 0 ([.d (il 0)]++jF++jF)=some (1,(mt (vs 6)).map .d++jF):=by
 refine iN (σ:=Nat) [wz (RP (n+6)),qP (RP (n+6))] (fun i=>match i with | 0=>(0,[.d (il 0)]++jF++jF) | i+1=>(1,.d (il ((i+1:Nat):Int))::((mt (vs (i+1))).map .d++jF))) (fun i=>6 - i) (fun i=>i≤6) (fun _=>some (1,(mt (vs 6)).map .d++jF)) ?_ M0 0 (by omega) (by simp only [M0];omega)
 rintro i k hi ih
 match i,hi with
 | 0,_ =>
  have ih0:=ih 1 (by omega) (by omega)
  refine ⟨_,rfl,(l28_a n k).trans (Eq.trans ?_ ih0)⟩
  rw [←yB]
  rfl
 | i+1,hi =>
  by_cases h:i+1=6
  ·have h5:i=5:=by omega
   subst h5
   exact ⟨_,rfl,l28_c n k (vs 6)⟩
  ·have hi6:i+1 < 6:=by omega
   have ih0:=ih (i+1+1) (by omega) (by omega)
   refine ⟨_,rfl,(l28_b n hi6 k).trans (Eq.trans ?_ ih0)⟩
   rw [←yB,← b5]
theorem Hp (n:Nat):FN (n+7) 28 []=some (0,sx (vs 6) none):=by
 rw [FS,J0]
 have h:=HV n
 simp only [K2,K7] at h
 simp only [G28,ah,bf,h,bH,mt,K2,K7,K0,Kb,ae,aj,fw,au]
 rfl
theorem I3:GoodV (rG (vs 6)) ((none:Option (List P3)).getD []):=by
 have hat:∀ {k:Nat} {w:W4},(rG (vs 6))[k]?=some w→k < 6∧w=v0 k:=fun {k w} h=>by
  have h6:k < 6:=by have:=(Kv.1 h).1;simpa using this
  rw [i8 h6] at h
  cases h
  exact ⟨h6,by simp [vs,h6]⟩
 refine ⟨⟨rfl,fun k w h=>?_,fun k w a v h _ s hs=>?_,fun p hp=>(by cases hp)⟩,fun p hp=>(by cases hp),fun p hp=>(by cases hp),fun p hp=>(by cases hp),.nil⟩
 ·obtain ⟨h6,rfl⟩:=hat h
  exact ⟨rfl,rfl,vW k h6⟩
 ·obtain ⟨h6,rfl⟩:=hat h
  cases hs
abbrev A5:=Int×Int×Int×Int×Int
def rA (a:A5):List D:=[il a.1,il a.2.1,il a.2.2.1,il a.2.2.2.1,il a.2.2.2.2]
theorem D7 {β:Type} (N:Nat) (hN:N≤4611686018427387904) (body:(Nat→List Yr→az)→List Yr→az) (en:Nat→β→List Yr) (I:Nat→β→Prop) (out:β→az)
  (h0:∀ b k,I N b→body k (en N b)=out b)
  (h1:∀ i b,i < N→I i b→IntKind.i64.wrap ((i:Int)+1)=(i:Int)+1→∃ b',I (i+1) b'∧∀ k,body k (en i b)=k 0 (en (i+1) b'))
  (b:β) (hb:I 0 b):∃ b',I N b'∧bh [body] M0 0 (en 0 b)=out b':=by
 have key:∀ (d i:Nat) (b:β) (n:Nat),i+d=N→I i b→d < n→∃ b',I N b'∧bh [body] n 0 (en i b)=out b':=by
  intro d
  induction d with
  | zero =>
   intro i b n hi hI hn
   obtain ⟨n,rfl⟩:∃ m,n=m+1:=⟨n - 1,by omega⟩
   have:i=N:=by omega
   subst this
   exact ⟨b,hI,by simp only [bh,Ky];exact h0 b _ hI⟩
  | succ d ih =>
   intro i b n hi hI hn
   obtain ⟨n,rfl⟩:∃ m,n=m+1:=⟨n - 1,by omega⟩
   obtain ⟨b',h2,h3⟩:=h1 i b (by omega) hI (dX (show i < N by omega) hN)
   obtain ⟨b'',h4,h5⟩:=ih (i+1) b' n (by omega) h2 (by omega)
   exact ⟨b'',h4,by simp only [bh,Ky];rw [h3];exact h5⟩
 exact key N 0 b M0 (by omega) hb (by simp only [M0];omega)
theorem EL (n:Nat) (l:Option (List A5)):∃ W o,FN (n+11) 5 [dL 5 rA l,il 40]=some (0,sx W o)∧GoodV (rG W) (o.getD [])∧(o.getD []).length≤40:=by
 have hm:min (l.getD []).length 40≤40:=Nat.min_le_right _ _
 have hm2:min (l.getD []).length 40≤(l.getD []).length:=Nat.min_le_left _ _
 have hinv:=D7 (β:=(Nat→W4)×Option (List P3)) (min (l.getD []).length 40) (by omega) (FZ (RP (n+10))) (fun i g=>[.d (dL 5 rA l),.d (il 40),.d (il i)]++(sx g.1 g.2++jF))
  (fun i g=>GoodV (rG g.1) (g.2.getD [])∧(g.2.getD []).length≤i) (fun g=>some (0,sx g.1 g.2++jF)) ?_ ?_ (vs 6,none) ⟨I3,by simp⟩
 ·obtain ⟨⟨W,o⟩,⟨hG,ho⟩,hloop⟩:=hinv
  refine ⟨W,o,?_,hG,by simp only at ho;omega⟩
  rw [FS,G5_eq]
  have h28:=Hp (n+3)
  simp only [sx,mt,K2,K7,K0,Kb,Tf] at hloop h28 ⊢
  simp only [G5,an,h28,ab,ae,aj,ah,bf]
  rw [hloop]
  simp only [ab,ae,aj,au]
 ·intro g k _
  simp only [sx,mt,K2,K7,K0,Kb,FZ,ae,aj,b7,ah,aB,ac,au]
  rcases (show (((min (l.getD []).length 40:Nat):Int) < ((l.getD []).length:Int)∧¬ ((min (l.getD []).length 40:Nat):Int) < 40)∨¬ ((min (l.getD []).length 40:Nat):Int) < ((l.getD []).length:Int) by omega) with ⟨a,b⟩ | a
  ·simp only [a,b,Jt,Jw,Jv,Jq,Jx]
  ·simp only [a,Jw,Jq,Jx]
 ·rintro i ⟨W,o⟩ hi ⟨hG,ho⟩ hw
  simp only at hG ho
  have hil:i < (l.getD []).length:=by omega
  have hrow:(l.getD [])[i]?=some (l.getD [])[i]:=Jz hil
  generalize (l.getD [])[i]=a at hrow
  obtain ⟨W',o',h1,h2,h3⟩:=sDo n hG (by omega) a.1 a.2.1 a.2.2.1 a.2.2.2.1 a.2.2.2.2
  refine ⟨(W',o'),⟨h2,by simp only;omega⟩,fun k=>?_⟩
  have c0:(RP (n+10)).cell (rA a) 0=il a.1:=rfl
  have c1:(RP (n+10)).cell (rA a) 1=il a.2.1:=rfl
  have c2:(RP (n+10)).cell (rA a) 2=il a.2.2.1:=rfl
  have c3:(RP (n+10)).cell (rA a) 3=il a.2.2.2.1:=rfl
  have c4:(RP (n+10)).cell (rA a) 4=il a.2.2.2.2:=rfl
  have hlt:(i:Int) < ((l.getD []).length:Int):=by omega
  have h40:(i:Int) < 40:=by omega
  simp only [b5 i]
  simp only [sx,mt,K2,K7,K0,Kb] at h1 ⊢
  simp only [FZ,ae,aj,ah,b7,aB,hlt,h40,Jt,ac,Jv,sZ hrow (show (rA a).length=5 from rfl),c0,c1,c2,c3,c4,an,h1,ab,aF,hw]
end
section
set_option maxRecDepth 100000
theorem dN_L (l:List Nat):∃ o:Option (List Nat),o.getD []=l∧dN l=dL 1 rN o:=by
 cases l with
 | nil=>exact ⟨none,rfl,rfl⟩
 | cons a t=>exact ⟨some (a::t),rfl,rfl⟩
theorem dTn_L (l:List ge):∃ o:Option (List ge),o.getD []=l∧FI l=dT o:=by
 cases l with
 | nil=>exact ⟨none,rfl,rfl⟩
 | cons a t=>exact ⟨some (a::t),rfl,rfl⟩
theorem s45 (n:Nat) (l:List Nat) (hl:l.length≤4611686018427387904):FN (n+1) 17 [dN l,dN l]=some (0,[.d (bl true)]):=by
 obtain ⟨o,rfl,e⟩:=dN_L l
 rw [e,FS,J9]
 simp only [G17,b7,br,My,Mf,Jw,ac,Jq,Jx,b8,au,bf,ah]
 have:=aZ (β:=Unit) (o.getD []) hl (Ak (RP n)) (fun i _=>[.d (dL 1 rN o),.d (dL 1 rN o),.d (il i)]) (fun _ _=>True)
  (fun _ _ _=>some (1,[])) (fun _ k _=>by simp [Ak,b7]) ?_ M0 () trivial (cc hl)
 ·simp only [Tf] at this
  rw [this];rfl
 ·intro i e r _ k hi hd hlt hw _ ih
  have ih':=ih () trivial
  rw [b5] at ih'
  have hlt':(i:Int) < ((o.getD []).length:Int):=by omega
  have hc:(RP n).cell (rN e) 0=il e:=rfl
  simp only [Ak,b7,ae,aj,aB,ac,hlt',Jt,Jv,sZ hi (show (rN e).length=1 from rfl),hc,br,My,Mf,Jw,Jq,Jx,ah,aF,hw]
  exact ih'
theorem s46 (n:Nat) (a c:Int) (l:List ge) (hl:l.length≤4611686018427387904):FN (n+1) 12 [il a,il c,FI l,il a,il c,FI l]=some (0,[.d (bl true)]):=by
 obtain ⟨o,rfl,e⟩:=dTn_L l
 rw [e,FS,Je]
 simp only [G12,dT,b7,br,My,Mf,Jw,ac,Jq,Jx,b8,au,bf,ah]
 have:=aZ (β:=Unit) (o.getD []) hl (Al (RP n)) (fun i _=>[.d (il a),.d (il c),.d (dT o),.d (il a),.d (il c),.d (dT o),.d (il i)]) (fun _ _=>True)
  (fun _ _ _=>some (1,[])) (fun _ k _=>by simp [Al,dT,b7]) ?_ M0 () trivial (cc hl)
 ·simp only [Tf,dT] at this
  rw [this];rfl
 ·intro i e r _ k hi hd hlt hw _ ih
  have ih':=ih () trivial
  rw [b5] at ih'
  have hlt':(i:Int) < ((o.getD []).length:Int):=by omega
  have hln:∀ k:D→az,(RP n).lenD (dT o) k=k (il (o.getD []).length):=fun k=>b7 _ _ _ k
  simp only [Al,hln,ae,aj,aB,ac,hlt',Jt,Jv,eh hi,kr,nr,nq,Cz,Kk,Jt,K1,Jv,Jq,Jx,ah,aF,hw]
  exact ih'
theorem vu {α β:Type} {f g:α→Option β}:∀ {l:List α},(∀ e∈l,f e=g e)→l.filterMap f=l.filterMap g
 | [],_=>rfl
 | a::t,h=>by rw [List.filterMap_cons,List.filterMap_cons,h a (by simp),vu fun e he=>h e (by simp [he])]
def Va (k:Nat) (v:W4):Prop:=v.1=(k:Int)∧v.2.1.getD []=bk k∧bS k (bk k) (bF v) v.2.2.2=true
def Ef (v:W4):List D:=[il v.1,dB v.2.1,dS v.2.2.1,il v.2.2.2]
def Is (v:W4):az:=some (0,[.d (il v.1),.d (dB v.2.1),.d (dS v.2.2.1),.d (il v.2.2.2),.d (il 0)])
section
variable {k:Nat} {v:W4} (hv:Va k v)
include hv
theorem Va.small:C6 v:=by
 obtain ⟨_,a2,a3⟩:=hv
 have:=sd a3
 exact ⟨by rw [a2];exact this.1,this.2⟩
theorem Va.ok:bS v.1 (v.2.1.getD []) (v.2.2.1.getD []) v.2.2.2=true:=by
 obtain ⟨a1,a2,a3⟩:=hv
 rw [a1,a2];exact a3
theorem a7 (n:Nat):FN (n+5) 7 [il v.1,dB v.2.1,dS v.2.2.1,il v.2.2.2]=some (0,[.d (il 0)]):=by
 have h:=hv.small
 rw [s14 n _ _ _ _ h.2 h.1,K9 hv.ok]
theorem pD (n:Nat) {b:Nat} (hb:b < 6) (hbk:b≠k):FN (n+6) 11 [il v.1,dB v.2.1,dS v.2.2.1,il v.2.2.2,il b]=some (0,[.d (il k),.d (il b),.d (FI (ea k (bk k) (bnd v) b)),.d (il 0)]):=by
 have h:=hv.small
 obtain ⟨a1,a2,a3⟩:=hv
 have hok:=Va.ok ⟨a1,a2,a3⟩
 have h1:dR (b:Int)=true:=bn.2 (by omega)
 have h2:¬ ((b:Int)=(k:Int)):=by omega
 refine (s43 n _ _ _ _ _ h.2 h.1).trans ?_
 unfold rI
 rw [K9 hok,a1,a2,h1]
 simp only [h2,Jw,K1,Bool.or_self,Jq,Jx]
 rfl
variable {e:aT} (he:e∈bk k)
include he
theorem AS {X:Int→az} {f:Nat→az} {Y:az} (h:∀ j,(bk k).getD j (0,0)=e→f j=Y):nl v.1 (v.2.1.getD []) (v.2.2.1.getD []) v.2.2.2 e.1 X f=Y:=by
 have hok:=hv.ok
 obtain ⟨a1,a2,a3⟩:=hv
 obtain ⟨_,j,hx,hj⟩:=nJ a3 he
 unfold nl
 rw [K9 hok,a2,hx]
 exact h j hj
omit he in
theorem Bp {j:Nat} (hj:(bk k).getD j (0,0)=e):fl v.1 (v.2.1.getD []) (v.2.2.1.getD []) j=rf k e (bF v):=by
 obtain ⟨a1,a2,_⟩:=hv
 rw [vy,a1,a2,hj]
 rfl
theorem pC (n:Nat):FN (n+6) 13 [il v.1,dB v.2.1,dS v.2.2.1,il v.2.2.2,il e.1]=some (0,[.d (bl (rf k e (bF v)).opn),.d (il 0)]):=by
 have h:=hv.small
 exact (s35 n _ _ _ _ _ h.2 h.1).trans (AS hv he fun j hj=>by rw [Bp hv hj])
theorem pB (n:Nat):FN (n+6) 14 [il v.1,dB v.2.1,dS v.2.2.1,il v.2.2.2,il e.1]=some (0,[.d (bl (gR (rf k e (bF v)).wants)),.d (il 0)]):=by
 have h:=hv.small
 exact (s37 n _ _ _ _ _ h.2 h.1).trans (AS hv he fun j hj=>by rw [Bp hv hj])
theorem pA (n:Nat):FN (n+6) 15 [il v.1,dB v.2.1,dS v.2.2.1,il v.2.2.2,il e.1]=some (0,[.d (dN (yp k (rf k e (bF v)))),.d (il 0)]):=by
 have h:=hv.small
 exact (s39 n _ _ _ _ _ h.2 h.1).trans (AS hv he fun j hj=>by rw [Bp hv hj,hv.1])
theorem pz (n:Nat):FN (n+6) 16 [il v.1,dB v.2.1,dS v.2.2.1,il v.2.2.2,il e.1]=some (0,[.d (dN (dC k e.2 (rf k e (bF v)))),.d (il 0)]):=by
 have h:=hv.small
 exact (s41 n _ _ _ _ _ h.2 h.1).trans (AS hv he fun j hj=>by rw [Bp hv hj,hv.1,hv.2.1,hj])
theorem py (n:Nat) (p:Int):FN (n+6) 18 [il v.1,dB v.2.1,dS v.2.2.1,il v.2.2.2,il e.1,il p]=if decide (p=(k:Int))||!bU e.2 p then some (0,[.d (bl false),.d (il 1)]) else some (0,[.d (bl (cq k p (rf k e (bF v)))),.d (il 0)]):=by
 have h:=hv.small
 exact (s33 n _ _ _ _ _ _ h.2 h.1).trans (AS hv he fun j hj=>by unfold rH;simp only [Bp hv hj];rw [hv.1,hv.2.1,hj];rfl)
theorem pw (n:Nat) (p:Int):FN (n+6) 19 [il v.1,dB v.2.1,dS v.2.2.1,il v.2.2.2,il e.1,il p]=if decide (p=(k:Int))||!bU e.2 p then some (0,[.d (il 0),.d (il 1)]) else some (0,[.d (il ((rf k e (bF v)).no p.toNat)),.d (il 0)]):=by
 have h:=hv.small
 exact (s29 n _ _ _ _ _ _ h.2 h.1).trans (AS hv he fun j hj=>by unfold rH;simp only [Bp hv hj];rw [hv.1,hv.2.1,hj];rfl)
end
def vB (v:W4):W4:=(v.1,v.2.1,some (bF v),((bF v).length:Int))
def vT (v:W4) (left:Int):W4:=(v.1,v.2.1,some ((bF v).take (ft (bF v) v.2.2.2 left)),v.2.2.2)
def vR (k:Nat) (v:W4):W4:=((k:Int),v.2.1,oU (dU k (bk k) (bF v)),((dU k (bk k) (bF v)).length:Int))
section
variable {k:Nat} {v:W4} (hv:Va k v)
include hv
theorem vaB:Va k (vB v):=⟨hv.1,hv.2.1,Ad hv.2.2⟩
theorem vaT (left:Int):Va k (vT v left):=by
 have hh:=qg hv.2.2
 obtain ⟨t1,t2⟩:=jI (left:=left) hh.1 hh.2
 have t3:=dV (x:=left) (m:=((bF v).length:Int) - v.2.2.2+1) (by omega)
 exact ⟨hv.1,hv.2.1,sT hv.2.2 (by omega)⟩
omit hv in
theorem C3:bF (vR k v)=dU k (bk k) (bF v):=cZ _
theorem vaR:Va k (vR k v):=⟨rfl,hv.2.1,by rw [C3];exact Cn hv.2.2⟩
theorem a8 (n:Nat):FN (n+6) 8 [il v.1,dB v.2.1,dS v.2.2.1,il v.2.2.2]=Is (vB v):=by
 have h:=hv.small
 exact (s49 n _ _ _ _ h.2 h.1).trans (K9 hv.ok)
theorem a9 (n:Nat):FN (n+6) 9 [il v.1,dB v.2.1,dS v.2.2.1,il v.2.2.2]=Is (vR k v):=by
 have h:=hv.small
 refine ((s53 n _ _ _ _ h.2 h.1).trans (K9 hv.ok)).trans ?_
 rw [hv.1,hv.2.1]
 rfl
theorem qN (n:Nat) (left:Int):FN (n+6) 10 [il v.1,dB v.2.1,dS v.2.2.1,il v.2.2.2,il left]=Is (vT v left):=by
 have h:=hv.small
 exact (s51 n _ _ _ _ _ h.2 h.1).trans (K9 hv.ok)
theorem Gy {e:aT} (he:e∈bk k):rf k e (bF (vR k v))=renF k (rf k e (bF v)):=by
 rw [C3]
 unfold rf
 rw [mD hv.2.2 he]
 rfl
omit hv in
theorem In:bnd (vB v)=bF v:=by simp [bnd,vB,bF]
omit hv in
theorem Im:bnd (vR k v)=dU k (bk k) (bF v):=by simp [bnd,vR,bF,cZ]
theorem EG (b:Nat):ea k (bk k) (bnd (vR k v)) b=ea k (bk k) (bnd (vB v)) b:=by
 rw [Im,In]
 unfold ea
 refine vu fun e he=>?_
 unfold ky
 have h:=mD hv.2.2 he
 rw [h]
 rfl
theorem GH {a:Nat} (_:a≠k) {p q:P3} (hp:gm (a:Int) (k:Int) (p.2.2.getD [])=true) (_:(bF v).length+(bu k a (bk k) (bF v) (p.2.2.getD [])).length≤120) (hn:GP q p)
  (hh:∀ t∈p.2.2.getD [],aK a k t.2.1=true→∀ e∈bk k,e.1=t.1→t.2.1≤(rf k e (bF v)).no a) (_:a < 6):bu k a (bk k) (bF v++bu k a (bk k) (bF v) (p.2.2.getD [])) (q.2.2.getD [])=[]:=by
 have a3:=hv.2.2
 have h2':=hp
 simp only [gm,Js,Ju,Md,Mk] at h2'
 have hpw:=mK h2'.2.2.2.2
 refine List.flatMap_eq_nil_iff.2 fun t' ht'=>?_
 obtain ⟨t,ht,e1,e2,e3⟩:=hn t' ht'
 unfold da
 split
 ·rfl
 ·rename_i j hx
  split
  ·rename_i hP
   have hm:=nc hx
   rw [vy]
   generalize (bk k).getD j (0,0)=e at hP hm
   obtain ⟨he,hef⟩:=hm
   have hne:((a:Nat):Int)≠(k:Int):=by omega
   have hte:t.1=e.1:=by rw [e1,hef]
   have hr:rf k e (bF v++bu k a (bk k) (bF v) (p.2.2.getD []))=(aI k e (rf k e (bF v)) (gq k a t (rf k e (bF v)))).1:=by
    unfold rf
    rw [cW ((eU.1 a3).2.2.2.2.2 e he)]
    unfold bu
    rw [gu (key:=fun t:ge=>t.1) (fun x s hs=>(jl s hs).1) (List.Pairwise.imp (fun h=>by omega) hpw) ht hte]
    obtain ⟨_,j',hx',hj'⟩:=nJ a3 he
    unfold da
    rw [hte,hx']
    simp only [hj',hP,Jv,vy]
    rfl
   rw [hr]
   refine B9 hte hne hP e2 e3 fun hw=>?_
   cases hc:aK k a t.2.1 with
   | true=>exact .inl rfl
   | false =>
    right
    have:aK a k t.2.1=true:=by
     unfold aK at hc ⊢
     by_cases h1:(k:Int) < a<;>by_cases h2:t.2.1 % 2=0<;>simp [h1,h2] at hc ⊢<;>omega
    have:=hh t ht this e he hte.symm
    rw [Km]
    omega
  ·rfl
end
end
section
set_option maxRecDepth 100000
theorem F1 {Fn:Nat→List D→az} {FnD:D→List Sh→List D→az} {m:Nat} (x:P3):(aa Fn FnD m).cell (rP x) 0=il x.1:=rfl
theorem CF {Fn:Nat→List D→az} {FnD:D→List Sh→List D→az} {m:Nat} (x:P3):(aa Fn FnD m).cell (rP x) 1=il x.2.1:=rfl
theorem HH {Fn:Nat→List D→az} {FnD:D→List Sh→List D→az} {m:Nat} (x:P3):(aa Fn FnD m).cell (rP x) 2=dT x.2.2:=rfl
abbrev ay (v:W4):List Yr:=(Ef v).map .d
section
variable {Fn:Nat→List D→az} {FnD:D→List Sh→List D→az} (hF:∀ {f xs y},FN 22 f xs=y→f≠20→Fn f xs=y) {k:Nat} {v:W4} (hv:Va k v) (x0 x1 x2 x3:D) (W:Nat→W4) (o:Option (List P3))
include hF hv
theorem l3_0 (x4 x5:D) {e:aT} (he:e∈bk k):bh [BJ (aa Fn FnD M0)] M0 0 ([.d x0,.d x1,.d x2,.d x3,.d x4,.d x5,.d (il e.1),.d (il 0)]++(ay (vR k v)++(ay v++sx W o)))=some (1,[.d x0,.d x1,.d x2,.d x3,.d x4,.d x5]++(ay (vR k v)++(ay v++sx W o))):=by
 have hu:=vaR hv
 have hr:=Gy hv he
 have hcl:=fun p:Nat=>xt (Cj hv.2.2 he) (rf_af hv.2.2 e) p
 have:=ew (β:=Unit) 6 (by omega) (BJ (aa Fn FnD M0)) (fun p _=>[.d x0,.d x1,.d x2,.d x3,.d x4,.d x5,.d (il e.1),.d (il p)]++(ay (vR k v)++(ay v++sx W o))) (fun _ _=>True)
  (fun _ _=>some (1,[.d x0,.d x1,.d x2,.d x3,.d x4,.d x5]++(ay (vR k v)++(ay v++sx W o)))) ?_ ?_ () trivial
 ·exact this
 ·intro _ j _
  simp only [sx,mt,ay,Ef,K2,K7,K0,Kb,BJ,ae,aj,ah,aB,show ¬ (((6:Nat):Int) < 6) by omega,Jw,ac,Jq,Jx,au]
 ·intro p _ j hp _ hw ih
  have ih0:=ih () trivial
  rw [b5] at ih0
  have hlt:(p:Int) < 6:=by omega
  have c1:=hF (py hv he 16 p) (by decide)
  have c2:=hF (py hu he 16 p) (by decide)
  have c3:=hF (pw hv he 16 p) (by decide)
  have c4:=hF (pw hu he 16 p) (by decide)
  rw [hr,hcl] at c2
  rw [hr] at c4
  change _=(if (decide ((p:Int)=(k:Int))||!bU e.2 p)=true then some (0,[.d (il 0),.d (il 1)]) else some (0,[.d (il ((rf k e (bF v)).no ((p:Nat):Int).toNat)),.d (il 0)]):az) at c4
  generalize vR k v=u at c2 c4 ih0 ⊢
  simp only [sx,mt,ay,Ef,K2,K7,K0,Kb] at ih0 ⊢
  by_cases hb:(decide ((p:Int)=(k:Int))||!bU e.2 p)=true
  ·rw [K9 hb] at c1 c2 c3 c4
   simp only [BJ,ae,aj,ah,aB,hlt,Jt,ac,Jv,an,c1,c2,c3,c4,ab,tn,bne_self_eq_false,br,My,Mf,Jw,Jq,Jx,aF,hw]
   exact ih0
  ·rw [Kg hb] at c1 c2 c3 c4
   simp only [BJ,ae,aj,ah,aB,hlt,Jt,ac,Jv,an,c1,c2,c3,c4,ab,tn,bne_self_eq_false,br,My,Mf,Jw,Jq,Jx,aF,hw]
   exact ih0
theorem l3_1 (x4:D):bh [DY (aa Fn FnD M0)] M0 0 ([.d x0,.d x1,.d x2,.d x3,.d x4,.d (il 0)]++(ay (vR k v)++(ay v++sx W o)))=some (1,[.d x0,.d x1,.d x2,.d x3,.d x4]++(ay v++sx W o)):=by
 have hu:=vaR hv
 have hb:=hv.2.1
 have h4:=cU hv.2.2
 have:=aZ (β:=Unit) (bk k) (by omega) (DY (aa Fn FnD M0)) (fun i _=>[.d x0,.d x1,.d x2,.d x3,.d x4,.d (il i)]++(ay (vR k v)++(ay v++sx W o))) (fun _ _=>True)
  (fun _ _ _=>some (1,[.d x0,.d x1,.d x2,.d x3,.d x4]++(ay v++sx W o))) ?_ ?_ M0 () trivial (cc (by omega))
 ·exact this
 ·intro _ j _
  generalize vR k v=u
  simp only [sx,mt,ay,Ef,K2,K7,K0,Kb,DY,ae,aj,b7,hb,aB,Int.lt_irrefl,Jw,ac,Jq,Jx,au]
 ·intro i e r _ j hi hd hlt hw _ ih
  have ih0:=ih () trivial
  rw [b5] at ih0
  have he:e∈bk k:=Ka hi
  have hrow:(v.2.1.getD [])[i]?=some e:=by rw [hb];exact hi
  have hlt':(i:Int) < ((bk k).length:Int):=by omega
  have hr:=Gy hv he
  have c1:=hF (pC hv he 16) (by decide)
  have c2:=hF (pC hu he 16) (by decide)
  have c3:=hF (pB hv he 16) (by decide)
  have c4:=hF (pB hu he 16) (by decide)
  have c5:=hF (pA hv he 16) (by decide)
  have c6:=hF (pA hu he 16) (by decide)
  have c7:=hF (pz hv he 16) (by decide)
  have c8:=hF (pz hu he 16) (by decide)
  rw [hr] at c2 c4 c6 c8
  have c9:=hF (s45 21 (yp k (rf k e (bF v))) (Tb (Tk _ _) (by rw [Tm];omega))) (by decide)
  have c10:=hF (s45 21 (dC k e.2 (rf k e (bF v))) (Tb (Tk _ _) (Tb (Tk _ _) (by rw [Tm];omega)))) (by decide)
  have hl:=l3_0 (FnD:=FnD) hF hv x0 x1 x2 x3 W o x4 (il i) he
  change _=(some (0,[.d (bl (rf k e (bF v)).opn),.d (il 0)]):az) at c2
  change _=(some (0,[.d (bl (gR (rf k e (bF v)).wants)),.d (il 0)]):az) at c4
  change _=(some (0,[.d (dN (yp k (rf k e (bF v)))),.d (il 0)]):az) at c6
  change _=(some (0,[.d (dN (dC k e.2 (rf k e (bF v)))),.d (il 0)]):az) at c8
  generalize vR k v=u at c2 c4 c6 c8 hl ih0 ⊢
  simp only [sx,mt,ay,Ef,K2,K7,K0,Kb] at ih0 hl ⊢
  simp only [DY,ae,aj,b7,hb,ah,aB,hlt',Jt,ac,Jv,bO hrow,eC,an,c1,c2,c3,c4,c5,c6,c7,c8,c9,c10,ab,tn,bne_self_eq_false,br,My,Mf,Jw,Jq,Jx,aJ,K1,bf]
  rw [hl]
  simp only [bH,ae,aj,aF,hw]
  exact ih0
omit hF in
theorem l3_2 (to:Int) (ho:(o.getD []).length≤100):bh [yr (aa Fn FnD M0)] M0 0 ([.d x0,.d x1,.d x2,.d x3,.d (il to),.n 0,.d (il 0),.r []]++(ay v++sx W o))=some (0,[.d x0,.d x1,.d x2,.d x3,.n ((o.getD []).filter fun p=>decide (p.2.1=(k:Int))&&decide (p.1=to)).length,.r (((o.getD []).filter fun p=>decide (p.2.1=(k:Int))&&decide (p.1=to)).map rP)]++ay v):=by
 have h1:=hv.1
 have:=aZ (β:=List P3) (o.getD []) (by omega) (yr (aa Fn FnD M0)) (fun i g=>[.d x0,.d x1,.d x2,.d x3,.d (il to),.n g.length,.d (il i),.r (g.map rP)]++(ay v++sx W o)) (fun i g=>g.length≤i)
  (fun _ r g=>some (0,[.d x0,.d x1,.d x2,.d x3,.n (g++r.filter fun p=>decide (p.2.1=(k:Int))&&decide (p.1=to)).length,.r ((g++r.filter fun p=>decide (p.2.1=(k:Int))&&decide (p.1=to)).map rP)]++ay v)) ?_ ?_ M0 [] (by simp) (cc (by omega))
 ·exact this
 ·intro g j _
  simp only [sx,mt,ay,Ef,K2,K7,K0,Kb,yr,ae,aj,aw,ax,av,aA,b7,aB,Int.lt_irrefl,Jw,ac,Jq,Jx,au,List.filter_nil,Kj]
 ·intro i p r g j hi hd hlt hw hg ih
  have hlt':(i:Int) < ((o.getD []).length:Int):=by omega
  have hrow:=fun k=>sZ (Fn:=Fn) (FnD:=FnD) (m:=M0) (n:=3) (f:=rP) hi rfl k
  by_cases h2:p.2.1=(k:Int)
  ·by_cases h3:p.1=to
   ·have ih0:=ih (g++[p]) (by simp;omega)
    rw [b5] at ih0
    have hfit:(g.length+1)*40≤140737488355328∧g.length+1≤9223372036854775807:=by omega
    rw [show (p::r).filter (fun p=>decide (p.2.1=(k:Int))&&decide (p.1=to))=p::r.filter (fun p=>decide (p.2.1=(k:Int))&&decide (p.1=to)) by simp [h2,h3],List.append_cons]
    refine Eq.trans ?_ ih0
    simp only [sx,mt,ay,Ef,h1,K2,K7,K0,Kb,Mm,Kc,Jy,K8,K4]
    simp only [yr,ae,aj,aw,ax,av,aA,b7,ah,aB,hlt',Jt,ac,Jv,hrow,F1,CF,HH,h2,h3,ba,aC,aO,aQ,Jy,K8,K5,K4,aS,aN,List.take,aH,aL,hfit,Kk,bp,aF,hw]
    simp only [rP,h2,h3]
   ·have ih0:=ih g (by omega)
    rw [b5] at ih0
    rw [show (p::r).filter (fun p=>decide (p.2.1=(k:Int))&&decide (p.1=to))=r.filter (fun p=>decide (p.2.1=(k:Int))&&decide (p.1=to)) by simp [h3]]
    refine Eq.trans ?_ ih0
    simp only [sx,mt,ay,Ef,h1,K2,K7,K0,Kb]
    simp only [yr,ae,aj,aw,ax,av,aA,b7,ah,aB,hlt',Jt,ac,Jv,hrow,F1,CF,h2,h3,ba,Jw,Jq,Jx,aF,hw]
  ·have ih0:=ih g (by omega)
   rw [b5] at ih0
   rw [show (p::r).filter (fun p=>decide (p.2.1=(k:Int))&&decide (p.1=to))=r.filter (fun p=>decide (p.2.1=(k:Int))&&decide (p.1=to)) by simp [h2]]
   refine Eq.trans ?_ ih0
   simp only [sx,mt,ay,Ef,h1,K2,K7,K0,Kb]
   simp only [yr,ae,aj,aw,ax,av,aA,b7,ah,aB,hlt',Jt,ac,Jv,hrow,CF,h2,ba,Jw,Jq,Jx,aF,hw]
end
end
section
set_option maxRecDepth 100000
def vH (v:W4) (L:List aY):W4:=(v.1,v.2.1,some (bF v++L),v.2.2.2)
theorem ns {k:Nat} {v:W4} (hv:Va k v) (n:Nat) {p:P3} (hp:gm p.1 p.2.1 (p.2.2.getD [])=true) (hto:p.2.1=(k:Int)):FN (n+6) 21 [il v.1,dB v.2.1,dS v.2.2.1,il v.2.2.2,il p.1,il p.2.1,dT p.2.2]=if 120 < (bF v).length+(bu k p.1 (bk k) (bF v) (p.2.2.getD [])).length then eP 2 else Is (vH v (bu k p.1 (bk k) (bF v) (p.2.2.getD []))):=by
 have h:=hv.small
 have h4:(p.2.2.getD []).length≤4:=by
  simp only [gm,Js,Ju] at hp
  exact hp.2.2.2.1
 refine (s27 n _ _ _ _ _ _ _ h.2 h.1 (by omega)).trans ?_
 rw [K9 hv.ok,K9 ⟨hp,by rw [hto,hv.1]⟩,hv.2.1]
 rw [show bu v.1 p.1 (bk k) (v.2.2.1.getD []) (p.2.2.getD [])=bu k p.1 (bk k) (bF v) (p.2.2.getD []) by rw [hv.1];rfl]
 unfold et
 rw [K9 rfl]
 rfl
theorem C2 (k:Nat) (hk:k < 6) (ss:List aY) (b:Int):(ea k (bk k) ss b).length≤4611686018427387904:=by
 have:=cU (vW k hk)
 have h:(ea k (bk k) ss b).length≤(bk k).length:=List.length_filterMap_le _ _
 omega
theorem tmod6 {k q:Nat} (hk:k < 6) (hq:q < 5):((k:Int)+1+(q:Int)).tmod 6=(((k+1+q) % 6:Nat):Int):=by
 rw [Int.tmod_eq_emod_of_nonneg (by omega)]
 omega
theorem noW2:eP 2=some (0,[.d (il 0),.d dl,.d dl,.d (il 0),.d (il 2)]):=rfl
theorem D2 {Fn:Nat→List D→az} {FnD:D→List Sh→List D→az} (h20:Fn 20 []=some (0,[.d (bl true)])) (hF:∀ {f xs y},FN 22 f xs=y→f≠20→Fn f xs=y)
  (l:Option (List A5)) (n0 n1 n2 n3:Int):G3 (aa Fn FnD M0) (dL 5 rA l) (il n0) (il n1) (il n2) (il n3)=some (0,[.d (bl true)]):=by
 obtain ⟨W,o,h5,hV,ho⟩:=EL 11 l
 have h5:=hF h5 (by decide)
 have r0:=dV (x:=n0) (m:=6) (by omega)
 have c0:=hF (uf 21 n0 6 (by omega) (by omega)) (by decide)
 rw [show bQ n0 6=((bQ n0 6).toNat:Int) by omega] at c0
 have hk:(bQ n0 6).toNat < 6:=by omega
 generalize (bQ n0 6).toNat=k at c0 hk
 have r1:=dV (x:=n1) (m:=5) (by omega)
 have c1:=hF (uf 21 n1 5 (by omega) (by omega)) (by decide)
 rw [show bQ n1 5=((bQ n1 5).toNat:Int) by omega] at c1
 have hq:(bQ n1 5).toNat < 5:=by omega
 generalize (bQ n1 5).toNat=q at c1 hq
 have hw:=i8 (W:=W) hk
 have hv:Va k (W k):=hV.wat k _ hw
 have hadd1:IntKind.i64.wrap ((W k).1+1)=(k:Int)+1:=by rw [hv.1];exact cP (by omega) (by omega)
 have hadd2:IntKind.i64.wrap ((k:Int)+1+(q:Int))=(k:Int)+1+(q:Int):=cP (by omega) (by omega)
 have hrem:=tmod6 hk hq
 have hb6:(k+1+q) % 6 < 6:=Nat.mod_lt _ (by omega)
 have hbk:(k+1+q) % 6≠k:=by omega
 generalize (k+1+q) % 6=b at hrem hb6 hbk
 have d7:=hF (a7 hv 17) (by decide)
 have d8:=hF (a8 hv 16) (by decide)
 have d9:=hF (a9 hv 16) (by decide)
 have d10:=hF (qN hv 16 n2) (by decide)
 have t1:=hF (pD (vaB hv) 16 hb6 hbk) (by decide)
 have t2:=hF (pD (vaR hv) 16 hb6 hbk) (by decide)
 rw [EG hv] at t2
 have e1:=hF (a7 (vaB hv) 17) (by decide)
 have e2:=hF (a7 (vaR hv) 17) (by decide)
 have e3:=hF (a7 (vaT hv n2) 17) (by decide)
 have sp:=hF (s46 21 (k:Int) (b:Int) _ (C2 k hk (bnd (vB (W k))) b)) (by decide)
 have hl1:=l3_1 (FnD:=FnD) hF hv (il n0) (il n1) (il n2) (il n3) W o (il b)
 have hl2:=l3_2 (Fn:=Fn) (FnD:=FnD) hv (il n0) (il n1) (il n2) (il n3) W o (b:Int) (by omega)
 have hold:∀ p∈(o.getD []).filter (fun p=>decide (p.2.1=(k:Int))&&decide (p.1=(b:Int))),p∈o.getD []∧p.2.1=(k:Int)∧p.1=(b:Int):=fun p hp=>by
  obtain ⟨h1,h2⟩:=M7.1 hp
  simp only [Js,Ju] at h2
  exact ⟨h1,h2.1,h2.2⟩
 have hord:=hV.ord.sublist (List.filter_sublist (p:=fun p=>decide (p.2.1=(k:Int))&&decide (p.1=(b:Int))))
 have holn:((o.getD []).filter (fun p=>decide (p.2.1=(k:Int))&&decide (p.1=(b:Int)))).length≤40:=Tb (Tk _ _) ho
 generalize (o.getD []).filter (fun p=>decide (p.2.1=(k:Int))&&decide (p.1=(b:Int)))=old at hl2 hold hord holn
 have hsl:(aa Fn FnD M0).slN 3 (old.map rP)=dP (oU old):=by cases old<;>rfl
 have hok:∀ p∈old,gm p.1 p.2.1 (p.2.2.getD [])=true:=fun p hp=>(hV.pl p (hold p hp).1).1
 generalize vB (W k)=wB at d8 t1 t2 e1 sp
 generalize vT (W k) n2=wT at d10 e3
 generalize vR k (W k)=wR at d9 t2 e2 hl1
 simp only [sx,mt,ay,Ef,K2,K7,K0,Kb] at h5 hl1 hl2
 simp only [G3,an,ah,h5,c0,c1,ab,ae,aj,aC,cQ hk,aH,bC hk,be,nD hk,nC hk,nB hk,nA hk,aF,hadd1,hadd2,eF _ _ _ _ (show (6:Int)≠0 by decide),hrem,d7,d8,d9,d10,Is,t1,t2,br,My,Mf,Jw,ac,Jq,Jx,sp,aJ,K1,e1,e2,e3,bf]
 rw [hl1]
 simp only [bH,ae,aj,aO]
 rw [hl2]
 simp only [ab,ae,aj,aw,ax,av,aA,aQ,K5,aS,Jv,hsl,b7,cZ,ba]
 by_cases h0:old.length=0
 ·have h0':((old.length:Nat):Int)=0:=by omega
  simp only [h0',Jt,ac,Jv,h20,ab,ae,au]
 ·have h0':¬ ((old.length:Nat):Int)=0:=by omega
  have r3:=dV (x:=n3) (m:=(old.length:Int)) (by omega)
  have c3:=hF (uf 21 n3 (old.length:Int) (by omega) (by omega)) (by decide)
  rw [show bQ n3 (old.length:Int)=((bQ n3 (old.length:Int)).toNat:Int) by omega] at c3
  have hi:(bQ n3 (old.length:Int)).toNat < old.length:=by omega
  generalize (bQ n3 (old.length:Int)).toNat=i at c3 hi
  have hpi:((oU old).getD [])[i]?=some old[i]:=by rw [cZ];exact Jz hi
  have hpm:old[i]∈old:=List.getElem_mem hi
  have hrow:=fun k=>sZ (Fn:=Fn) (FnD:=FnD) (m:=M0) (n:=3) (f:=rP) hpi rfl k
  obtain ⟨pm,pto,pfr⟩:=hold _ hpm
  have hh:=hF (ns hv 16 (hok _ hpm) pto) (by decide)
  rw [pto,pfr] at hh
  by_cases hlen:120 < (bF (W k)).length+(bu k b (bk k) (bF (W k)) (old[i].2.2.getD [])).length
  ·rw [K9 hlen] at hh
   simp only [h0',Jw,Jt,ac,Jq,Jx,Jv,c3,ab,ae,aj,hrow,F1,CF,HH,pto,pfr,hh,noW2,br,My,show ¬ ((2:Int)=0) by decide,Kw,ba,h20,au]
  ·rw [Kg hlen] at hh
   have hx:Va k (vH (W k) (bu k b (bk k) (bF (W k)) (old[i].2.2.getD []))):=by
    have hp:=hok _ hpm
    rw [pfr] at hp
    exact ⟨hv.1,hv.2.1,(zF hv.2.2 hp pto (by omega)).1⟩
   have hnone:∀ j,(hj:j < old.length)→j≤i→bu k b (bk k) (bF (vH (W k) (bu k b (bk k) (bF (W k)) (old[i].2.2.getD [])))) (old[j].2.2.getD [])=[]:=fun j hj hji=>by
    have hp:=hok _ hpm
    rw [pfr,pto] at hp
    refine GH hv hbk hp (by omega) ?_ (fun t ht hwi e he het=>?_) hb6
    ·rcases Nat.lt_or_ge j i with h | h
     ·have:=(List.pairwise_iff_getElem.1 hord) j i hj hi h
      obtain ⟨_,q1,q2⟩:=hold _ (List.getElem_mem hj)
      exact this (by rw [q2,pfr]) (by rw [q1,pto])
     ·have:j=i:=by omega
      subst this
      exact fun t ht=>⟨t,ht,rfl,Mu _,Mu _⟩
    ·have:=hV.hld _ pm t ht b k (W k) pfr pto hwi hw e he het
     exact Int.le_trans this (jJ hv.2.2 he _ b)
   have hans:∀ j,(hj:j < old.length)→j≤i→Fn 21 [il (vH (W k) (bu k b (bk k) (bF (W k)) (old[i].2.2.getD []))).1,dB (vH (W k) (bu k b (bk k) (bF (W k)) (old[i].2.2.getD []))).2.1,dS (vH (W k) (bu k b (bk k) (bF (W k)) (old[i].2.2.getD []))).2.2.1,il (vH (W k) (bu k b (bk k) (bF (W k)) (old[i].2.2.getD []))).2.2.2,il b,il k,dT old[j].2.2]=Is (vH (vH (W k) (bu k b (bk k) (bF (W k)) (old[i].2.2.getD []))) []):=fun j hj hji=>by
    obtain ⟨_,q1,q2⟩:=hold _ (List.getElem_mem hj)
    have h:=hF (ns hx 16 (hok _ (List.getElem_mem hj)) q1) (by decide)
    rw [q1,q2,hnone j hj hji,Kg (by have:=du hx.2.2;simp only [K8];omega)] at h
    exact h
   have hchk:=hF (a7 hx 17) (by decide)
   have hs1:=hx.small
   have hsame:Fn 22 [il (vH (W k) (bu k b (bk k) (bF (W k)) (old[i].2.2.getD []))).1,dB (vH (W k) (bu k b (bk k) (bF (W k)) (old[i].2.2.getD []))).2.1,dS (vH (W k) (bu k b (bk k) (bF (W k)) (old[i].2.2.getD []))).2.2.1,il (vH (W k) (bu k b (bk k) (bF (W k)) (old[i].2.2.getD []))).2.2.2,il (vH (vH (W k) (bu k b (bk k) (bF (W k)) (old[i].2.2.getD []))) []).1,dB (vH (vH (W k) (bu k b (bk k) (bF (W k)) (old[i].2.2.getD []))) []).2.1,dS (vH (vH (W k) (bu k b (bk k) (bF (W k)) (old[i].2.2.getD []))) []).2.2.1,il (vH (vH (W k) (bu k b (bk k) (bF (W k)) (old[i].2.2.getD []))) []).2.2.2]=some (0,[.d (bl true)]):=by
    refine (hF (s11 20 _ _ _ _ _ _ _ _ hs1.1 hs1.2) (by decide)).trans ?_
    rw [Vh]
    refine ⟨rfl,rfl,rfl,?_⟩
    show bF (vH _ _)=bF (vH (vH _ _) [])
    show bF (vH _ _)=bF (vH _ _)++[]
    rw [Kj]
   have r4:=dV (x:=n2) (m:=(i:Int)+1) (by omega)
   have c4:=hF (uf 21 n2 ((i:Int)+1) (by omega) (by omega)) (by decide)
   rw [show bQ n2 ((i:Int)+1)=((bQ n2 ((i:Int)+1)).toNat:Int) by omega] at c4
   have hj:(bQ n2 ((i:Int)+1)).toNat≤i:=by omega
   generalize (bQ n2 ((i:Int)+1)).toNat=j at c4 hj
   have hjl:j < old.length:=by omega
   have hpj:((oU old).getD [])[j]?=some old[j]:=by rw [cZ];exact Jz hjl
   have hrowj:=fun k=>sZ (Fn:=Fn) (FnD:=FnD) (m:=M0) (n:=3) (f:=rP) hpj rfl k
   obtain ⟨_,qto,qfr⟩:=hold _ (List.getElem_mem hjl)
   have h1:=hans i hi (Ko _)
   have h2:=hans j hjl hj
   have hwr:IntKind.i64.wrap ((i:Int)+1)=(i:Int)+1:=cP (by omega) (by omega)
   generalize vH (vH (W k) (bu k b (bk k) (bF (W k)) (old[i].2.2.getD []))) []=y at h1 h2 hsame
   generalize vH (W k) (bu k b (bk k) (bF (W k)) (old[i].2.2.getD []))=x at hh h1 h2 hchk hsame
   simp only [h0',Jw,Jt,ac,Jq,Jx,Jv,c3,c4,ab,ae,aj,hrow,hrowj,F1,CF,HH,pto,pfr,qto,qfr,hh,h1,h2,hchk,hsame,Is,br,My,Mf,aF,hwr,ba,h20,au]
end
end Go.VE
