/- Bell: the examples are so. -/
import Derived.Test.YtaagapoglhndjaaDoorMg7
import Derived.Test.YtaagapoglhndjaaDoorMh
import Derived.Test.YtaagapoglhndjaaDoorMg1
import Derived.Test.YtaagapoglhndjaaDoorMg4
namespace Go.VE
open Go.RowKit Go.Proofs
section
set_option maxRecDepth 100000
set_option maxHeartbeats 0
open Classical in
noncomputable def GT (f:Nat) (xs:List D):az:=if f=76∧xs=[.sl 4 EM] then some (0,[.d AF,.d (il 0)]) else FN 14 f xs
theorem pE {f:Nat} {xs:List D} (h:f≠76):GT f xs=FN 14 f xs:=Kc fun e=>h e.1
theorem pP:GT 76 [.sl 4 EM]=some (0,[.d AF,.d (il 0)]):=K1 ⟨rfl,rfl⟩
theorem Jg:lS Tryd.prog (eI tb Tryd.prog) GT:=by
 intro f sh xs vs j ys rs h1 h2 h3 h4
 unfold GT at h3
 split at h3
 ·rename_i hc
  obtain ⟨rfl,rfl⟩:=hc
  simp only [Jm,Kn] at h3
  obtain ⟨rfl,rfl⟩:=h3
  have e1:(eI tb Tryd.prog).ash 76=some [.one]:=rfl
  rw [e1] at h1
  cases h1
  cases h2
  have e2:((eI tb Tryd.prog).rsk 76)[0]?=some [(false,[.d]),(false,[.d])]:=rfl
  rw [e2] at h4
  cases h4
  exact CL
 ·exact yF xG xk 14 f sh xs vs j ys rs h1 h2 h3 h4
theorem Gl:mY Tryd.prog (eI tb Tryd.prog) GT:=fun f ms xs zs h1 h2=>by
 rw [pE (by omega)] at h2
 exact Ax xG xk 14 f ms xs zs h1 h2
theorem If:FN 14 45 [.sl 1 [[il 0],[il 1]],.sl 1 [[il 0],[il 1]]]=some (0,[.d (bl true)]):=by kernel_rfl
theorem Ie:FN 14 45 [.sl 1 [[il 1]],.sl 1 [[il 1]]]=some (0,[.d (bl true)]):=by kernel_rfl
theorem Id:FN 14 46 [il 1,il 0,.sl 3 [[il 7,il 0,il 0]],il 1,il 0,.sl 3 [[il 7,il 0,il 0]]]=some (0,[.d (bl true)]):=by kernel_rfl
theorem Ic:FN 14 46 [il 1,il 0,.sl 3 [[il 7,il 0,il 1]],il 1,il 0,.sl 3 [[il 7,il 0,il 1]]]=some (0,[.d (bl true)]):=by kernel_rfl
theorem Ib:FN 14 46 [il 0,il 1,.sl 3 [[il 7,il 1,il 0]],il 0,il 1,.sl 3 [[il 7,il 1,il 0]]]=some (0,[.d (bl true)]):=by kernel_rfl
theorem Hy {Fn:Nat→List D→az} {FnD:D→List Sh→List D→az} {m:Nat} (s:ByteArray) (k:D→az):(aa Fn FnD m).bin .eql false (.lit (.string s)) (.lit (.string s)) k=k (bl true):=by
 simp [aa,ib,G7,oK,bl]
theorem Hr {Fn:Nat→List D→az} {FnD:D→List Sh→List D→az} {m:Nat} (s:ByteArray):(aa Fn FnD m).lit (.string s)=.lit (.string s):=rfl
theorem g18a {Fn:Nat→List D→az} {FnD:D→List Sh→List D→az} (FM:Fn 9 [il 0,na]=r6 0 na yl 0 0)
  (FL:Fn 9 [il 1,na]=r6 1 na yl 0 0)
  (FK:Fn 9 [il 3,na]=r6 3 na yl 0 0)
  (e41:Fn 41 (lc 3 yl 0++[il 7])=some (0,[.d (.sl 1 [[il 0],[il 1]]),.d (il 0)]))
  (e19:Fn 19 (lc 1 yl 0++[il 7])=r6 1 na (.sl 4 [bD 2 7 0 1]) 0 0)
  (Aa:Fn 43 (lc 1 (.sl 4 [bD 2 7 0 1]) 0++[il 0])=some (0,[.d (il 1),.d (il 0),.d (.sl 3 [[il 7,il 0,il 0]]),.d (il 0)]))
  (A7:Fn 49 (lc 1 (.sl 4 [bD 2 7 0 1]) 0)=r6 1 na (.sl 4 [bD 2 7 0 1]) 1 0)
  (A9:Fn 43 (lc 1 (.sl 4 [bD 2 7 0 1]) 1++[il 0])=some (0,[.d (il 1),.d (il 0),.d (.sl 3 [[il 7,il 0,il 1]]),.d (il 0)]))
  (Ac:Fn 27 (lc 0 yl 0++[il 1,il 0,.sl 3 [[il 7,il 0,il 1]]])=r6 0 na (.sl 4 [bD 3 7 1 1]) 0 0)
  (e25:Fn 25 (lc 0 (.sl 4 [bD 3 7 1 1]) 0)=r6 0 na (.sl 4 [bD 3 7 1 1,bD 1 7 1 1]) 0 0)
  (e29:Fn 29 (lc 0 (.sl 4 [bD 3 7 1 1,bD 1 7 1 1]) 0++[il 7,il 1])=some (0,[.d (il 1),.d (il 0)]))
  (A6:Fn 49 (lc 0 (.sl 4 [bD 3 7 1 1,bD 1 7 1 1]) 0)=r6 0 na (.sl 4 [bD 3 7 1 1,bD 1 7 1 1]) 2 0)
  (A8:Fn 43 (lc 0 (.sl 4 [bD 3 7 1 1,bD 1 7 1 1]) 2++[il 1])=some (0,[.d (il 0),.d (il 1),.d (.sl 3 [[il 7,il 1,il 0]]),.d (il 0)]))
  (Ab:Fn 27 (lc 1 (.sl 4 [bD 2 7 0 1]) 1++[il 0,il 1,.sl 3 [[il 7,il 1,il 0]]])=r6 1 na (.sl 4 [bD 2 7 0 1,bD 1 7 0 1]) 1 0)
  (e33:Fn 33 (lc 1 (.sl 4 [bD 2 7 0 1,bD 1 7 0 1]) 1++[il 7,il 0])=some (0,[.d (bl true),.d (il 0)]))
  (e21:Fn 21 (lc 1 (.sl 4 [bD 2 7 0 1,bD 1 7 0 1]) 1++[il 7])=r6 1 na (.sl 4 [bD 2 7 0 1,bD 1 7 0 1,bD 4 7 0 1,bD 2 7 0 2]) 1 0)
  (e47:Fn 47 [.sl 4 [lc 0 (.sl 4 [bD 3 7 1 1,bD 1 7 1 1]) 2,lc 1 (.sl 4 [bD 2 7 0 1,bD 1 7 0 1,bD 4 7 0 1,bD 2 7 0 2]) 1,lc 3 yl 0],il 7]=some (0,[.d (.sl 1 [[il 1]]),.d (il 0)]))
  (If:Fn 45 [.sl 1 [[il 0],[il 1]],.sl 1 [[il 0],[il 1]]]=some (0,[.d (bl true)]))
  (Ie:Fn 45 [.sl 1 [[il 1]],.sl 1 [[il 1]]]=some (0,[.d (bl true)]))
  (Id:Fn 46 [il 1,il 0,.sl 3 [[il 7,il 0,il 0]],il 1,il 0,.sl 3 [[il 7,il 0,il 0]]]=some (0,[.d (bl true)]))
  (Ic:Fn 46 [il 1,il 0,.sl 3 [[il 7,il 0,il 1]],il 1,il 0,.sl 3 [[il 7,il 0,il 1]]]=some (0,[.d (bl true)]))
  (Ib:Fn 46 [il 0,il 1,.sl 3 [[il 7,il 1,il 0]],il 0,il 1,.sl 3 [[il 7,il 1,il 0]]]=some (0,[.d (bl true)]))
  (pP:Fn 76 [.sl 4 EM]=some (0,[.d AF,.d (il 0)])):G18 (aa Fn FnD M0)=some (0,[.d (bl true)]):=by
 simp only [r6,na,bD,lc,yl,EM,AF,Kp,Ke] at FM FL FK e41 e19 Aa A7 A9 Ac e25 e29 A6 A8 Ab e33 e21 e47 pP
 simp only [G18,aD,ak,aZ,aR,aO,Jx,Jy,b6,Jv,Js,be,List.take,cS,aC,ae,ah,aj,FM,FL,FK,e41,e19,Aa,A7,A9,Ac,e25,e29,A6,A8,Ab,e33,e21,e47,pP,
  bo,Jr,ag,aL,If,Ie,Id,Ic,Ib,z6,Tj,List.all_nil,yl_b,Vd,Hy,Hr]
theorem pq {f:Nat} {xs:List D} {o:az} (h:FN 14 f xs=o) (hf:f≠76):GT f xs=o:=(pE hf).trans h
theorem g18:G18 (aa GT (dq Tryd.prog (eI tb Tryd.prog) GT) M0)=some (0,[.d (bl true)]) :=
 g18a (pq FM (by decide)) (pq FL (by decide)) (pq FK (by decide)) (pq e41 (by decide)) (pq e19 (by decide)) (pq Aa (by decide)) (pq A7 (by decide)) (pq A9 (by decide)) (pq Ac (by decide)) (pq e25 (by decide)) (pq e29 (by decide)) (pq A6 (by decide)) (pq A8 (by decide)) (pq Ab (by decide)) (pq e33 (by decide)) (pq e21 (by decide)) (pq e47 (by decide)) (pq If (by decide)) (pq Ie (by decide)) (pq Id (by decide)) (pq Ic (by decide)) (pq Ib (by decide)) pP
theorem EP:SC Tryd.prog 18 [] (.one (.d (bl true))) :=
 tU (T:=tb) (P:=Tryd.prog) xG Jg Gl xk (fuel:=400) (m0:=M0) (xs:=[]) (j:=0) (ys:=[.d (bl true)]) (rs:=[(false,[.d])]) (by rw [dz];exact (IZ _).trans g18) (by decide) (sh:=[]) rfl rfl rfl
end
section
set_option maxRecDepth 100000
theorem o3 {n:Nat} {ds:List D} (h:HasT Tryd.prog (n+1) 3 ds):∃ z,ds=[il z]∧-9223372036854775808≤z∧z≤9223372036854775807:=h.int Tryd.underlying3
theorem CQ {α:Type} {f:α→List D}:∀ {o:Option Rr},(∀ r∈o.getD [],∃ c,r=f c)→∃ q:Option (List α),o=q.map (·.map f)
 | none,_=>⟨none,rfl⟩
 | some rows,h=>by
  obtain ⟨l,hl⟩:=uC (f:=f) (rows:=rows) h
  exact ⟨some l,by rw [hl];rfl⟩
theorem oL {α:Type} {f:α→List D} {n t e c b:Nat} {ds:List D} (hu:Tryd.prog.underlying t=some (.slice e)) (hc:Tryd.prog.cellsOf e=c) (hb:Tryd.prog.bytesOf e=b) (he:∀ r,HasT Tryd.prog n e r→∃ x,r=f x) (h:HasT Tryd.prog (n+1) t ds):∃ o,ds=[dL c f o]∧(o.getD []).length*b≤140737488351232:=by
 obtain ⟨o,rfl,h1,h2⟩:=h.sl hu hc hb
 obtain ⟨q,rfl⟩:=CQ (f:=f) fun r hr=>he r (h2 r hr)
 refine ⟨q,rfl,?_⟩
 cases q with
 | none=>simp
 | some l=>simpa using h1
noncomputable def Jf (n:Nat) (f:Nat) (xs:List D):az:=if f=18∧xs=[] then some (0,[.d (bl true)]) else FN n f xs
theorem Jd (n:Nat):lS Tryd.prog (eI tb Tryd.prog) (Jf n):=by
 intro f sh xs vs j ys rs h1 h2 h3 h4
 unfold Jf at h3
 split at h3
 ·rename_i hc
  obtain ⟨rfl,rfl⟩:=hc
  simp only [Jm,Kn] at h3
  obtain ⟨rfl,rfl⟩:=h3
  have e1:(eI tb Tryd.prog).ash 18=some []:=rfl
  rw [e1] at h1
  cases h1
  cases h2
  have e2:((eI tb Tryd.prog).rsk 18)[0]?=some [(false,[.d])]:=rfl
  rw [e2] at h4
  cases h4
  exact EP
 ·exact yF xG xk n f sh xs vs j ys rs h1 h2 h3 h4
theorem Je (n:Nat):Jf n 18 []=some (0,[.d (bl true)]):=by simp [Jf]
theorem Ee {n f:Nat} {xs:List D} {o:az} (h:FN n f xs=o) (hf:f≠18):Jf n f xs=o:=by rw [←h];simp [Jf,hf]
theorem Gk (n:Nat):mY Tryd.prog (eI tb Tryd.prog) (Jf n):=fun f ms xs zs h1 h2=>by
 rw [Ee rfl (by omega)] at h2
 exact Ax xG xk n f ms xs zs h1 h2
end
section
set_option maxRecDepth 100000
def newZ (me:Int) (l:List aJ):Int:=if gz me=true then (if cr me l=true then 0 else 90) else 1
def rW (z me:Int) (o:Option (List aJ)):az:=if z=0 then some (0,[.d (il me),.d (dB o),.d (dS none),.d (il 0),.d (il z)]) else some (0,[.d (il 0),.d (dB none),.d (dS none),.d (il 0),.d (il z)])
theorem t9 (n:Nat) (me:Int) (o:Option (List aJ)) (hl:(o.getD []).length≤4611686018427387904):FN (n+5) 9 [il me,dB o]=rW (newZ me (o.getD [])) me o:=by
 rw [s9 _ _ _ hl];unfold rW newZ
 by_cases h1:gz me=true
 ·by_cases h2:cr me (o.getD [])=true
  ·simp only [h1,h2,Js];rfl
  ·simp only [h1,h2,Js];rfl
 ·simp only [h1];rfl
end
section
set_option maxRecDepth 100000
end
section
set_option maxRecDepth 100000
theorem Ad (l:List j8):dTn l=dT (lV l):=by cases l<;>rfl
theorem GoodW.tell {ws:List W4} {ps:List P3} (hG:GoodW ws ps) {k b:Nat} {w:W4} (hw:ws[k]?=some w) (hb:b < 6) (hkb:k≠b):GoodW ws (ps++[((k:Int),(b:Int),lV (fk k (bk k) (bnd w) b))]):=by
 obtain ⟨a1,a2,a3⟩:=hG.wat k w hw
 have hk:k < 6:=by rw [←hG.len];exact (K5.1 hw).1
 have hh:=o9 a3
 have hbd:ck k (bk k) (bnd w) w.2.2.2=true:=yN a3 (by omega)
 have htld:∀ e∈bk k,∀ t,jt k (bnd w) b e=some t→t.1=e.1∧t.2.1=(rf k e (bnd w)).no b∧mt t=true:=fun e he t ht=>by
  unfold jt at ht
  split at ht
  ·simp only [Jm] at ht
   subst ht
   refine ⟨rfl,by rw [K4];rfl,?_⟩
   have hr:=nj hbd he
   have h1:=(fF a3 he).1
   have h2:=hr.1
   have h3:=(hr.2 b).1
   unfold rf at h2 h3
   simp only [mt,h1,Ki]
   simp only [fg,Jn,Jq,K4]
   omega
  ·cases ht
 refine hG.add ?_ ?_
 ·simp only [dC]
  have hl:(fk k (bk k) (bnd w) b).length≤4:=by
   unfold fk
   exact T6 (List.length_filterMap_le _ _) (iC a3)
  have h1:gz (k:Int)=true:=bT.2 (by omega)
  have h2:gz (b:Int)=true:=bT.2 (by omega)
  have h3:¬ ((k:Int)=(b:Int)):=by omega
  have h5:p9 mt (·.1) none (fk k (bk k) (bnd w) b)=true:=by
   have key:∀ {bs:List aJ} {p:Option Int},kw bs→(∀ e∈bs,e∈bk k)→(∀ e∈bs,tE p e.1=true)→p9 mt (·.1) p (bs.filterMap (jt k (bnd w) b))=true:=by
    intro bs
    induction bs with
    | nil=>intro p _ _ _;rfl
    | cons e r ih =>
     intro p hr hm hp
     cases hr with
     | cons h1 h2 =>
      rw [List.filterMap_cons]
      cases he:jt k (bnd w) b e with
      | none=>exact ih h2 (fun x hx=>hm x (by simp [hx])) fun x hx=>hp x (by simp [hx])
      | some t =>
       obtain ⟨t1,_,t2⟩:=htld e (hm e (by simp)) t he
       simp only [p9,t2,Ki]
       rw [t1,hp e (by simp),Ki]
       exact ih h2 (fun x hx=>hm x (by simp [hx])) fun x hx=>by simp only [tE,Jq];exact h1 x hx
   exact key (bw a3) (fun _ h=>h) fun _ _=>rfl
  simp only [l8,h1,h2,h3,h5,hl,Jr,Jt,Mq,Ki]
 ·intro t ht a c v ha hc hv e he het
  simp only [dC] at ht
  simp only [Int.natCast_inj] at ha hc
  subst ha
  subst hc
  rw [hw] at hv
  cases hv
  obtain ⟨e',he',hte⟩:=List.mem_filterMap.1 ht
  obtain ⟨t1,t2,_⟩:=htld e' he' t hte
  have:e=e':=mg (bw a3) he he' (by rw [het,t1])
  rw [t2,this]
  exact Tl _
theorem GoodX.tell {N:Int} {ws:List W4} {ps:List P3} (hG:GoodX N ws ps) {k b:Nat} {w:W4} (hw:ws[k]?=some w) (hb:b < 6) (hkb:k≠b):GoodX (N+1) ws (ps++[((k:Int),(b:Int),lV (fk k (bk k) (bnd w) b))]) :=
 (hG.tellX hw (hG.toGoodW.tell hw hb hkb)).mono (by omega)
theorem bk_ne {k:Nat} (h:k < 6):bk k≠[]:=by
 have:∀ k,k < 6→bk k≠[]:=by decide
 exact this k h
theorem Hi (n:Nat) {k:Nat} (hk:k < 6) {b:Option (List aJ)} (hb:b.getD []=bk k) (x0 x1 x3 x4 x5 x7 x8:D) (f:Int):∃ fld j,FN (n+2) 100 [x0,x1,il f,x3,x4,x5,dB b,x7,x8]=some (0,[.d (il fld)])∧cM fld (bk k)=some j:=by
 have hok:=mS k hk
 have h4:=iC hok
 have h1:0 < (bk k).length:=Tx.2 (bk_ne hk)
 have hm:=gY (x:=f) (m:=((bk k).length:Int)) (by omega)
 have hz:cz f ((bk k).length:Int)=((cz f ((bk k).length:Int)).toNat:Int):=by omega
 generalize hi:(cz f ((bk k).length:Int)).toNat=i at hz
 have hlt:i < (bk k).length:=by omega
 have hrow:(b.getD [])[i]?=some (bk k)[i]:=by rw [hb,Jo hlt]
 refine ⟨(bk k)[i].1,i,?_,ud (bw hok) hlt⟩
 rw [FS,Gj]
 have h96:=AM n f ((bk k).length:Int) (by omega) (by omega)
 have hne:¬ (((bk k).length:Int)=0):=by omega
 simp only [G100,cX,hb,ak,bo,hne,Jt,ag,Jl,Ju,aC,h96,ae,ah,hz,eK hrow,lj,aL]
end
section
set_option maxRecDepth 100000
theorem k56_0 (n:Nat) (ws:List W4) (o:Option (List P3)) (t:D):Aw (RP n) [.d t,.r (ws.map cg),.n ws.length,.n ws.length,.d (dP o)]=some (0,[.d (dW (some ws)),.d (dP o),.d t]):=by
 have ht:(ws.map cg).take ws.length=ws.map cg:=Kd (by simp)
 simp only [Aw,ah,aj,aq,av,ao,aw,aO,Jp,b6,Js,be,ht,cS,aL]
 rfl
theorem k56_2 (n:Nat) (ws:List W4) (ps:List P3) (t:D):Av (RP n) [.d t,.r (ps.map rP),.r (ws.map cg),.n ws.length,.n ws.length,.n ps.length,.n ps.length]=some (0,[.d (dW (some ws)),.d (dP (some ps)),.d t]):=by
 have ht:(ws.map cg).take ws.length=ws.map cg:=Kd (by simp)
 have hp:(ps.map rP).take ps.length=ps.map rP:=Kd (by simp)
 simp only [Av,ah,aj,aq,av,ao,aw,aO,Jp,b6,Js,be,ht,hp,cS,aL]
 rfl
theorem k56_1 (n:Nat) (ws:List W4) (o:Option (List P3)) {k:Nat} (hk:k < ws.length) (m h e:Int) (b:Option (List aJ)) (s:Option (List ba)) (he:e=0∨e=2) :
  wH (RP n) [.d (il k),.d (il e),.r (ws.map cg),.d (il m),.d (dB b),.d (dS s),.d (il h),.n ws.length,.n ws.length,.d (dP o)]=some (0,[.d (dW (some (if e=0 then ws.set k (m,b,s,h) else ws))),.d (dP o),.d (bl true)]):=by
 have ht:(ws.map cg).take ws.length=ws.map cg:=Kd (by simp)
 have hs:(ws.map cg).set k [il m,dB b,dS s,il h]=(ws.set k (m,b,s,h)).map cg:=by rw [Tg];rfl
 have hts:((ws.set k (m,b,s,h)).map cg).take ws.length=(ws.set k (m,b,s,h)).map cg:=Kd (by simp)
 have hrow:(ws.map cg)[k]?=some (cg ws[k]):=by rw [K9,Jo hk];rfl
 have hc:(cg ws[k]).length=4:=rfl
 have hki:(0:Int)≤(k:Int)∧(k:Int) < (ws.length:Int):=by omega
 rcases he with rfl | rfl
 ·simp only [wH,ah,aj,aq,av,ao,aw,ak,aZ,bo,bP,T3,Mk,show ((0:Int)=2)=False by simp,Jt,ag,Jl,Ju,aO,Jp,b6,Js,bS,hki,Kt,K4,cU,hrow,hc,nn,hs,Vc,be,hts,cS,aL]
  rfl
 ·simp only [wH,ah,aj,aq,av,ao,aw,ak,aZ,bo,Jr,ag,Js,aO,Jp,b6,be,ht,cS,aL,show ((2:Int)=0)=False by simp,Ju]
  rfl
def Act (N:Int) (ws:List W4) (o:Option (List P3)) (X:az):Prop :=
 X=some (0,[.d (bl true),.r (ws.map cg),.n 6,.n 6,.d (dP o)]) ∨
 (∃ (kk:Nat) (e m h:Int) (b:Option (List aJ)) (s:Option (List ba)),X=some (1,[.d (il kk),.d (il e),.r (ws.map cg),.d (il m),.d (dB b),.d (dS s),.d (il h),.n 6,.n 6,.d (dP o)])∧kk < 6∧(e=2∨(e=0∧GoodX (N+1) (ws.set kk (m,b,s,h)) (o.getD [])))) ∨
 (∃ p:P3,X=some (2,[.d (bl true),.r ((o.getD []++[p]).map rP),.r (ws.map cg),.n 6,.n 6,.n ((o.getD []).length+1),.n ((o.getD []).length+1)])∧GoodX (N+1) ws (o.getD []++[p]))
section
variable {N:Int} {ws:List W4} {o:Option (List P3)} (hG:GoodX N ws (o.getD [])) {k:Nat} {w:W4} (hw:ws[k]?=some w) (n:Nat) (kind who fld to pick:Int)
include hG hw
theorem i56_0 (hc:cz kind 19=0∨cz kind 19=1):Act N ws o (ll (RP (n+8)) (dP o) (il kind) (il who) (il fld) (il to) (il pick) (ws.map cg) [.d (il k)] (cg w)):=by
 rcases hc with hc | hc
 all_goals
  obtain ⟨a1,a2,a3⟩:=hG.wat k w hw
  have hk:k < 6:=by rw [←hG.len];exact (K5.1 hw).1
  have hsm:=hG.small w (K2 hw)
  have h96:=AM (n+7) kind 19 (by omega) (by omega)
  rw [hc] at h96
  obtain ⟨fl',j,h100,hx⟩:=Hi (n+6) hk a2 (il kind) (il who) (il to) (il pick) (il w.1) (dS w.2.2.1) (il w.2.2.2) fld
  have hcall:=s19 (n+2) w.1 w.2.2.2 w.2.1 w.2.2.1 fl' hsm.2 hsm.1
  obtain ⟨m,b,s,h,e,hX,he⟩:wQ (N+1) ws (o.getD []) k _ _:=C8 hG hw hx
  have hcall:=hcall.trans hX
  rcases he with ⟨rfl,hg⟩ | ⟨hne,he⟩
  ·refine .inr (.inl ⟨k,0,m,h,b,s,?_,hk,.inr ⟨rfl,hg⟩⟩)
   simp only [ll,Int.reduceEq,aC,ae,bf,d8,ah,aj,aq,av,ao,aw,ak,aZ,bo,Jr,Jt,ag,Js,Ju,Jl,aL,lX,lW,mR,mQ,aD,aR,bh,Ke,aO,Jy,Jp,hG.len,aN,Jv,h96,h100,hcall]
  ·rcases he with rfl | rfl
   ·refine .inr (.inl ⟨k,2,m,h,b,s,?_,hk,.inl rfl⟩)
    simp only [ll,Int.reduceEq,aC,ae,bf,d8,ah,aj,aq,av,ao,aw,ak,aZ,bo,Jr,Jt,ag,Js,Ju,Jl,aL,lX,lW,mR,mQ,aD,aR,bh,Ke,aO,Jy,Jp,hG.len,aN,Jv,h96,h100,hcall]
   ·left
    simp only [ll,Int.reduceEq,aC,ae,bf,d8,ah,aj,aq,av,ao,aw,ak,aZ,bo,Jr,Jt,ag,Js,Ju,Jl,aL,lX,lW,mR,mQ,aD,aR,bh,Ke,aO,Jy,Jp,hG.len,aN,Jv,h96,h100,hcall]
theorem i56_2 (hc:cz kind 19=2∨cz kind 19=3):Act N ws o (ll (RP (n+8)) (dP o) (il kind) (il who) (il fld) (il to) (il pick) (ws.map cg) [.d (il k)] (cg w)):=by
 rcases hc with hc | hc
 all_goals
  obtain ⟨a1,a2,a3⟩:=hG.wat k w hw
  have hk:k < 6:=by rw [←hG.len];exact (K5.1 hw).1
  have hsm:=hG.small w (K2 hw)
  have h96:=AM (n+7) kind 19 (by omega) (by omega)
  rw [hc] at h96
  obtain ⟨fl',j,h100,hx⟩:=Hi (n+6) hk a2 (il kind) (il who) (il to) (il pick) (il w.1) (dS w.2.2.1) (il w.2.2.2) fld
  have hcall:=s21 (n+2) w.1 w.2.2.2 w.2.1 w.2.2.1 fl' hsm.2 hsm.1
  obtain ⟨m,b,s,h,e,hX,he⟩:wQ (N+1) ws (o.getD []) k _ _:=Cu hG hw hx
  have hcall:=hcall.trans hX
  rcases he with ⟨rfl,hg⟩ | ⟨hne,he⟩
  ·refine .inr (.inl ⟨k,0,m,h,b,s,?_,hk,.inr ⟨rfl,hg⟩⟩)
   simp only [ll,Int.reduceEq,aC,ae,bf,d8,ah,aj,aq,av,ao,aw,ak,aZ,bo,Jr,Jt,ag,Js,Ju,Jl,aL,lX,lW,mR,mQ,aD,aR,bh,Ke,aO,Jy,Jp,hG.len,aN,Jv,h96,h100,hcall]
  ·rcases he with rfl | rfl | rfl
   ·refine .inr (.inl ⟨k,2,m,h,b,s,?_,hk,.inl rfl⟩)
    simp only [ll,Int.reduceEq,aC,ae,bf,d8,ah,aj,aq,av,ao,aw,ak,aZ,bo,Jr,Jt,ag,Js,Ju,Jl,aL,lX,lW,mR,mQ,aD,aR,bh,Ke,aO,Jy,Jp,hG.len,aN,Jv,h96,h100,hcall]
   ·left
    simp only [ll,Int.reduceEq,aC,ae,bf,d8,ah,aj,aq,av,ao,aw,ak,aZ,bo,Jr,Jt,ag,Js,Ju,Jl,aL,lX,lW,mR,mQ,aD,aR,bh,Ke,aO,Jy,Jp,hG.len,aN,Jv,h96,h100,hcall]
   ·left
    simp only [ll,Int.reduceEq,aC,ae,bf,d8,ah,aj,aq,av,ao,aw,ak,aZ,bo,Jr,Jt,ag,Js,Ju,Jl,aL,lX,lW,mR,mQ,aD,aR,bh,Ke,aO,Jy,Jp,hG.len,aN,Jv,h96,h100,hcall]
theorem i56_4 (hc:cz kind 19=4):Act N ws o (ll (RP (n+8)) (dP o) (il kind) (il who) (il fld) (il to) (il pick) (ws.map cg) [.d (il k)] (cg w)):=by
 obtain ⟨a1,a2,a3⟩:=hG.wat k w hw
 have hk:k < 6:=by rw [←hG.len];exact (K5.1 hw).1
 have hsm:=hG.small w (K2 hw)
 have h96:=AM (n+7) kind 19 (by omega) (by omega)
 rw [hc] at h96
 obtain ⟨fl',j,h100,hx⟩:=Hi (n+6) hk a2 (il kind) (il who) (il to) (il pick) (il w.1) (dS w.2.2.1) (il w.2.2.2) fld
 have hcall:=s23 (n+2) w.1 w.2.2.2 w.2.1 w.2.2.1 fl' hsm.2 hsm.1
 obtain ⟨m,b,s,h,e,hX,he⟩:wQ (N+1) ws (o.getD []) k _ _:=Ch hG hw hx
 have hcall:=hcall.trans hX
 rcases he with ⟨rfl,hg⟩ | ⟨hne,he⟩
 ·refine .inr (.inl ⟨k,0,m,h,b,s,?_,hk,.inr ⟨rfl,hg⟩⟩)
  simp only [ll,Int.reduceEq,aC,ae,bf,d8,ah,aj,aq,av,ao,aw,ak,aZ,bo,Jr,Jt,ag,Js,Ju,Jl,aL,lX,lW,mR,mQ,aD,aR,bh,Ke,aO,Jy,Jp,hG.len,aN,Jv,h96,h100,hcall]
 ·rcases he with rfl | rfl
  ·refine .inr (.inl ⟨k,2,m,h,b,s,?_,hk,.inl rfl⟩)
   simp only [ll,Int.reduceEq,aC,ae,bf,d8,ah,aj,aq,av,ao,aw,ak,aZ,bo,Jr,Jt,ag,Js,Ju,Jl,aL,lX,lW,mR,mQ,aD,aR,bh,Ke,aO,Jy,Jp,hG.len,aN,Jv,h96,h100,hcall]
  ·left
   simp only [ll,Int.reduceEq,aC,ae,bf,d8,ah,aj,aq,av,ao,aw,ak,aZ,bo,Jr,Jt,ag,Js,Ju,Jl,aL,lX,lW,mR,mQ,aD,aR,bh,Ke,aO,Jy,Jp,hG.len,aN,Jv,h96,h100,hcall]
theorem i56_5 (hc:cz kind 19=5∨cz kind 19=6):Act N ws o (ll (RP (n+8)) (dP o) (il kind) (il who) (il fld) (il to) (il pick) (ws.map cg) [.d (il k)] (cg w)):=by
 rcases hc with hc | hc
 all_goals
  obtain ⟨a1,a2,a3⟩:=hG.wat k w hw
  have hk:k < 6:=by rw [←hG.len];exact (K5.1 hw).1
  have hsm:=hG.small w (K2 hw)
  have h96:=AM (n+7) kind 19 (by omega) (by omega)
  rw [hc] at h96
  have hcall:=s25 (n+2) w.1 w.2.2.2 w.2.1 w.2.2.1 hsm.2 hsm.1
  obtain ⟨m,b,s,h,e,hX,he⟩:wQ (N+1) ws (o.getD []) k _ _:=AK hG hw
  have hcall:=hcall.trans hX
  rcases he with ⟨rfl,hg⟩ | ⟨hne,he⟩
  ·refine .inr (.inl ⟨k,0,m,h,b,s,?_,hk,.inr ⟨rfl,hg⟩⟩)
   simp only [ll,Int.reduceEq,aC,ae,bf,d8,ah,aj,aq,av,ao,aw,ak,aZ,bo,Jr,Jt,ag,Js,Ju,Jl,aL,lX,lW,mR,mQ,aD,aR,bh,Ke,aO,Jy,Jp,hG.len,aN,Jv,h96,hcall]
  ·subst he
   refine .inr (.inl ⟨k,2,m,h,b,s,?_,hk,.inl rfl⟩)
   simp only [ll,Int.reduceEq,aC,ae,bf,d8,ah,aj,aq,av,ao,aw,ak,aZ,bo,Jr,Jt,ag,Js,Ju,Jl,aL,lX,lW,mR,mQ,aD,aR,bh,Ke,aO,Jy,Jp,hG.len,aN,Jv,h96,hcall]
theorem i56_7 (hc:cz kind 19=7):Act N ws o (ll (RP (n+8)) (dP o) (il kind) (il who) (il fld) (il to) (il pick) (ws.map cg) [.d (il k)] (cg w)):=by
 obtain ⟨a1,a2,a3⟩:=hG.wat k w hw
 have hk:k < 6:=by rw [←hG.len];exact (K5.1 hw).1
 have hsm:=hG.small w (K2 hw)
 have h96:=AM (n+7) kind 19 (by omega) (by omega)
 rw [hc] at h96
 have hcall:=s49 (n+2) w.1 w.2.2.2 w.2.1 w.2.2.1 hsm.2 hsm.1
 obtain ⟨m,b,s,h,e,hX,he⟩:wQ (N+1) ws (o.getD []) k _ _:=DX hG hw
 have hcall:=hcall.trans hX
 rcases he with ⟨rfl,hg⟩ | ⟨hne,he⟩
 ·refine .inr (.inl ⟨k,0,m,h,b,s,?_,hk,.inr ⟨rfl,hg⟩⟩)
  simp only [ll,Int.reduceEq,aC,ae,bf,d8,ah,aj,aq,av,ao,aw,ak,aZ,bo,Jr,Jt,ag,Js,Ju,Jl,aL,lX,lW,mR,mQ,aD,aR,bh,Ke,aO,Jy,Jp,hG.len,aN,Jv,h96,hcall]
 ·exact he.elim
theorem i56_8 (hc:cz kind 19=8):Act N ws o (ll (RP (n+8)) (dP o) (il kind) (il who) (il fld) (il to) (il pick) (ws.map cg) [.d (il k)] (cg w)):=by
 obtain ⟨a1,a2,a3⟩:=hG.wat k w hw
 have hk:k < 6:=by rw [←hG.len];exact (K5.1 hw).1
 have hsm:=hG.small w (K2 hw)
 have h96:=AM (n+7) kind 19 (by omega) (by omega)
 rw [hc] at h96
 have hcall:=s51 (n+2) w.1 w.2.2.2 pick w.2.1 w.2.2.1 hsm.2 hsm.1
 obtain ⟨m,b,s,h,e,hX,he⟩:wQ (N+1) ws (o.getD []) k _ _:=Cd hG hw
 have hcall:=hcall.trans hX
 rcases he with ⟨rfl,hg⟩ | ⟨hne,he⟩
 ·refine .inr (.inl ⟨k,0,m,h,b,s,?_,hk,.inr ⟨rfl,hg⟩⟩)
  simp only [ll,Int.reduceEq,aC,ae,bf,d8,ah,aj,aq,av,ao,aw,ak,aZ,bo,Jr,Jt,ag,Js,Ju,Jl,aL,lX,lW,mR,mQ,aD,aR,bh,Ke,aO,Jy,Jp,hG.len,aN,Jv,h96,hcall]
 ·exact he.elim
theorem i56_9 (hc:cz kind 19=9):Act N ws o (ll (RP (n+8)) (dP o) (il kind) (il who) (il fld) (il to) (il pick) (ws.map cg) [.d (il k)] (cg w)):=by
 obtain ⟨a1,a2,a3⟩:=hG.wat k w hw
 have hk:k < 6:=by rw [←hG.len];exact (K5.1 hw).1
 have hsm:=hG.small w (K2 hw)
 have h96:=AM (n+7) kind 19 (by omega) (by omega)
 rw [hc] at h96
 have hcall:=s53 (n+2) w.1 w.2.2.2 w.2.1 w.2.2.1 hsm.2 hsm.1
 obtain ⟨m,b,s,h,e,hX,he⟩:wQ (N+1) ws (o.getD []) k _ _:=EU hG hw
 have hcall:=hcall.trans hX
 rcases he with ⟨rfl,hg⟩ | ⟨hne,he⟩
 ·refine .inr (.inl ⟨k,0,m,h,b,s,?_,hk,.inr ⟨rfl,hg⟩⟩)
  simp only [ll,Int.reduceEq,aC,ae,bf,d8,ah,aj,aq,av,ao,aw,ak,aZ,bo,Jr,Jt,ag,Js,Ju,Jl,aL,lX,lW,mR,mQ,aD,aR,bh,Ke,aO,Jy,Jp,hG.len,aN,Jv,h96,hcall]
 ·exact he.elim
end
end
section
set_option maxRecDepth 100000
section
variable {N:Int} {ws:List W4} {o:Option (List P3)} (hG:GoodX N ws (o.getD [])) {k:Nat} {w:W4} (hw:ws[k]?=some w) (n:Nat) (kind who fld to pick:Int)
include hG hw
theorem HZ (hl:(o.getD []).length≤200) (hc:cz kind 19=10∨cz kind 19=11∨cz kind 19=12):Act N ws o (ll (RP (n+8)) (dP o) (il kind) (il who) (il fld) (il to) (il pick) (ws.map cg) [.d (il k)] (cg w)):=by
 rcases hc with hc | hc | hc
 all_goals
  obtain ⟨a1,a2,a3⟩:=hG.wat k w hw
  have hk:k < 6:=by rw [←hG.len];exact (K5.1 hw).1
  have hsm:=hG.small w (K2 hw)
  have h96:=AM (n+7) kind 19 (by omega) (by omega)
  rw [hc] at h96
  have h6:=AM (n+7) to 6 (by omega) (by omega)
  have hr:=gY (x:=to) (m:=6) (by omega)
  have hz:cz to 6=((cz to 6).toNat:Int):=by omega
  rw [hz] at h6
  have hb6:(cz to 6).toNat < 6:=by omega
  generalize (cz to 6).toNat=b at h6 hb6
  have h43:=s43 (n+2) w.1 w.2.2.2 (b:Int) w.2.1 w.2.2.1 hsm.2 hsm.1
  unfold yM at h43
  have hpb:gz (b:Int)=true:=bT.2 (by omega)
  rw [K1 (show ck w.1 (w.2.1.getD []) (w.2.2.1.getD []) w.2.2.2=true from r7 hG.toGoodW hw),hpb] at h43
  by_cases hbk:b=k
  ·subst hbk
   rw [K1 (by rw [a1];simp)] at h43
   left
   simp only [ll,Int.reduceEq,aC,ae,bf,d8,ah,aj,aq,av,ao,aw,ak,aZ,bo,Jr,Jt,ag,Js,Ju,Jl,aL,lX,lW,mR,mQ,aD,aR,bh,Ke,aO,Jy,Jp,hG.len,aN,Jv,h96,h6,h43,ny]
  ·have hne:¬ ((b:Int)=w.1):=by rw [a1];omega
   rw [Kc (by simp [hne]),a1,a2] at h43
   refine .inr (.inr ⟨((k:Int),(b:Int),lV (fk k (bk k) (bnd w) b)),?_,hG.tell hw hb6 (fun h=>hbk h.symm)⟩)
   have f1:(o.getD []).length*40≤140737488355328∧(o.getD []).length≤9223372036854775807:=by omega
   have f2:((o.getD []).length+1)*40≤140737488355328∧(o.getD []).length+1≤9223372036854775807:=by omega
   simp only [ll,Int.reduceEq,aC,ae,bf,d8,ah,aj,aq,av,ao,aw,ak,aZ,bo,Jr,Jt,ag,Js,Ju,Jl,aL,lX,lW,mR,mQ,aD,aR,bh,Ke,aO,Jy,Jp,hG.len,aN,Jv,h96,h6,h43,iO,b6,bp,f1,f2,Kt,Jx,be,List.take,M6,Jz,Ky,rP,Ad,a1,a2]
   rfl
theorem HY (hl:(o.getD []).length≤200) (hc:13≤cz kind 19):Act N ws o (ll (RP (n+8)) (dP o) (il kind) (il who) (il fld) (il to) (il pick) (ws.map cg) [.d (il k)] (cg w)):=by
 have _:=hw
 have h96:=AM (n+7) kind 19 (by omega) (by omega)
 generalize cz kind 19=c at h96 hc
 have ne0:¬ c=0:=by omega
 have ne1:¬ c=1:=by omega
 have ne2:¬ c=2:=by omega
 have ne3:¬ c=3:=by omega
 have ne4:¬ c=4:=by omega
 have ne5:¬ c=5:=by omega
 have ne6:¬ c=6:=by omega
 have ne7:¬ c=7:=by omega
 have ne8:¬ c=8:=by omega
 have ne9:¬ c=9:=by omega
 have ne10:¬ c=10:=by omega
 have ne11:¬ c=11:=by omega
 have ne12:¬ c=12:=by omega
 by_cases h0:(o.getD []).length=0
 ·left
  have h0':(((o.getD []).length:Nat):Int)=0:=by omega
  simp only [ll,Int.reduceEq,aC,ae,bf,d8,ah,aj,aq,av,ao,aw,ak,aZ,bo,Jr,Jt,ag,Js,Ju,Jl,aL,lX,lW,mR,mQ,aD,aR,bh,Ke,aO,Jy,Jp,hG.len,aN,Jv,h96,ne0,ne1,ne2,ne3,ne4,ne5,ne6,ne7,ne8,ne9,ne10,ne11,ne12,cX,h0']
 ·have h0':¬ (((o.getD []).length:Nat):Int)=0:=by omega
  have hp96:=AM (n+7) pick ((o.getD []).length:Int) (by omega) (by omega)
  have hr:=gY (x:=pick) (m:=((o.getD []).length:Int)) (by omega)
  have hz:cz pick ((o.getD []).length:Int)=((cz pick ((o.getD []).length:Int)).toNat:Int):=by omega
  rw [hz] at hp96
  have hlt:(cz pick ((o.getD []).length:Int)).toNat < (o.getD []).length:=by omega
  generalize (cz pick ((o.getD []).length:Int)).toNat=i at hp96 hlt
  have hpi:=Jo hlt
  have hpm:=K2 hpi
  generalize (o.getD [])[i]=p at hpi hpm
  obtain ⟨p1,_⟩:=hG.pl p hpm
  have p1':=p1
  simp only [l8,Jn,Jq] at p1'
  have pto:=bT.1 p1'.2.1
  have hto:p.2.1=((p.2.1.toNat:Nat):Int):=by omega
  have ht6:p.2.1.toNat < 6:=by omega
  have hlw:p.2.1.toNat < ws.length:=by rw [hG.len];exact ht6
  have hv:=Jo hlw
  generalize ws[p.2.1.toNat]=v at hv
  have hsm:=hG.small v (K2 hv)
  have htl:(p.2.2.getD []).length≤4611686018427387904:=by have:=p1'.2.2.2.1;omega
  have hcall:=s27 (n+2) v.1 v.2.2.2 p.1 p.2.1 v.2.1 v.2.2.1 p.2.2 hsm.2 hsm.1 htl
  obtain ⟨m,b,s,h,e,hX,he⟩:wQ (N+1) ws (o.getD []) p.2.1.toNat _ _:=Dn hG hv hpm hto
  have hcall:=hcall.trans hX
  have hrow:=fun k=>r9 (Fn:=FN (n+8)) (FnD:=dq Tryd.prog (eI tb Tryd.prog) (FN (n+8))) (m:=M0) (n:=3) (f:=rP) hpi rfl k
  have hc1:(RP (n+8)).cell (rP p) 1=il p.2.1:=rfl
  have hc0:(RP (n+8)).cell (rP p) 0=il p.1:=rfl
  have hc2:(RP (n+8)).cell (rP p) 2=dT p.2.2:=rfl
  have hlo:¬ p.2.1 < 0:=by omega
  have hhi:¬ p.2.1≥6:=by omega
  have hin:0≤p.2.1∧p.2.1 < ((6:Nat):Int):=by omega
  have hrw:(ws.map cg)[p.2.1.toNat]?=some (cg v):=by rw [K9,hv];rfl
  have hrl:(cg v).length=4:=rfl
  have key:∀ e:Int,(FN (n+8) 27 [il v.1,dB v.2.1,dS v.2.2.1,il v.2.2.2,il p.1,il p.2.1,dT p.2.2]=some (0,[.d (il m),.d (dB b),.d (dS s),.d (il h),.d (il e)]))→ll (RP (n+8)) (dP o) (il kind) (il who) (il fld) (il to) (il pick) (ws.map cg) [.d (il k)] (cg w)=some (1,[.d (il p.2.1),.d (il e),.r (ws.map cg),.d (il m),.d (dB b),.d (dS s),.d (il h),.n 6,.n 6,.d (dP o)]):=fun e hcall=>by
   simp only [ll,Int.reduceEq,aC,ae,bf,d8,ah,aj,aq,av,ao,aw,ak,aZ,bo,Jr,Jt,ag,Js,Ju,Jl,aL,lX,lW,mR,mQ,aD,aR,bh,Ke,aO,Jy,Jp,hG.len,aN,Jv,h96,ne0,ne1,ne2,ne3,ne4,ne5,ne6,ne7,ne8,ne9,ne10,ne11,ne12,cX,h0',hp96,hrow,hc0,hc1,hc2,aU,hlo,rU,hhi,b6,bS,hin,Kt,cU,hrw,hrl,hcall]
  rw [hto] at key
  rcases he with ⟨rfl,hg⟩ | ⟨hne,rfl⟩
  ·exact .inr (.inl ⟨p.2.1.toNat,0,m,h,b,s,by rw [←hto] at key ⊢;exact key 0 hcall,ht6,.inr ⟨rfl,hg⟩⟩)
  ·exact .inr (.inl ⟨p.2.1.toNat,2,m,h,b,s,by rw [←hto] at key ⊢;exact key 2 hcall,ht6,.inl rfl⟩)
end
end
section
set_option maxRecDepth 100000
end
section
set_option maxRecDepth 100000
end
section
set_option maxRecDepth 100000
theorem iW {β:Type} (N:Nat) (hN:N≤4611686018427387904) (body:(Nat→List Yr→az)→List Yr→az) (en:Nat→β→List Yr) (I:Nat→β→Prop) (out:β→az)
  (h0:∀ b k,I N b→body k (en N b)=out b)
  (h1:∀ i b,i < N→I i b→IntKind.i64.wrap ((i:Int)+1)=(i:Int)+1→∃ b',I (i+1) b'∧∀ k,body k (en i b)=k 0 (en (i+1) b'))
  (b:β) (hb:I 0 b):∃ b',I N b'∧bm [body] M0 0 (en 0 b)=out b':=by
 have key:∀ (d i:Nat) (b:β) (n:Nat),i+d=N→I i b→d < n→∃ b',I N b'∧bm [body] n 0 (en i b)=out b':=by
  intro d
  induction d with
  | zero =>
   intro i b n hi hI hn
   obtain ⟨n,rfl⟩:∃ m,n=m+1:=⟨n - 1,by omega⟩
   have:i=N:=by omega
   subst this
   exact ⟨b,hI,by simp only [bm,Kx];exact h0 b _ hI⟩
  | succ d ih =>
   intro i b n hi hI hn
   obtain ⟨n,rfl⟩:∃ m,n=m+1:=⟨n - 1,by omega⟩
   obtain ⟨b',h2,h3⟩:=h1 i b (by omega) hI (fD (show i < N by omega) hN)
   obtain ⟨b'',h4,h5⟩:=ih (i+1) b' n (by omega) h2 (by omega)
   exact ⟨b'',h4,by simp only [bm,Kx];rw [h3];exact h5⟩
 exact key N 0 b M0 (by omega) hb (by simp only [M0];omega)
theorem Im (n:Nat) {N:Int} {ws:List W4} {o:Option (List P3)} (hG:GoodX N ws (o.getD [])) (hl:(o.getD []).length≤200) (kind who fld to pick:Int) :
  ∃ ws' o',FN (n+9) 56 [dW (some ws),dP o,il kind,il who,il fld,il to,il pick]=some (0,[.d (dW (some ws')),.d (dP o'),.d (bl true)])∧GoodX (N+1) ws' (o'.getD [])∧(o'.getD []).length≤(o.getD []).length+1:=by
 have hr:=gY (x:=who) (m:=6) (by omega)
 have h96:=AM (n+7) who 6 (by omega) (by omega)
 have hz:cz who 6=((cz who 6).toNat:Int):=by omega
 rw [hz] at h96
 have hk:(cz who 6).toNat < 6:=by omega
 generalize (cz who 6).toNat=k at h96 hk
 have hlk:k < ws.length:=by rw [hG.len];exact hk
 have hw:=Jo hlk
 generalize ws[k]=w at hw
 have hA:Act N ws o (ll (RP (n+8)) (dP o) (il kind) (il who) (il fld) (il to) (il pick) (ws.map cg) [.d (il k)] (cg w)):=by
  have hm:=gY (x:=kind) (m:=19) (by omega)
  rcases (show (cz kind 19=0∨cz kind 19=1)∨(cz kind 19=2∨cz kind 19=3)∨cz kind 19=4∨(cz kind 19=5∨cz kind 19=6)∨cz kind 19=7∨cz kind 19=8∨cz kind 19=9∨(cz kind 19=10∨cz kind 19=11∨cz kind 19=12)∨13≤cz kind 19 by omega) with h | h | h | h | h | h | h | h | h
  ·exact i56_0 hG hw n kind who fld to pick h
  ·exact i56_2 hG hw n kind who fld to pick h
  ·exact i56_4 hG hw n kind who fld to pick h
  ·exact i56_5 hG hw n kind who fld to pick h
  ·exact i56_7 hG hw n kind who fld to pick h
  ·exact i56_8 hG hw n kind who fld to pick h
  ·exact i56_9 hG hw n kind who fld to pick h
  ·exact HZ hG hw n kind who fld to pick hl h
  ·exact HY hG hw n kind who fld to pick hl h
 have hrow:(ws.map cg)[k]?=some (cg w):=by rw [K9,hw];rfl
 have hrl:(cg w).length=4:=rfl
 have hin:(0:Int)≤(k:Int)∧(k:Int) < ((6:Nat):Int):=by omega
 have f6:6*64≤140737488355328∧6≤9223372036854775807:=by omega
 have hbody:∀ X:az,X=ll (RP (n+8)) (dP o) (il kind) (il who) (il fld) (il to) (il pick) (ws.map cg) [.d (il k)] (cg w)→FN (n+9) 56 [dW (some ws),dP o,il kind,il who,il fld,il to,il pick]=(RP (n+8)).bnd X [Aw (RP (n+8)),wH (RP (n+8)),Av (RP (n+8))]:=by
  intro X hX
  rw [FS,IK,hX]
  simp only [G56,dW,iO,M4,aD,aR,aO,Jy,b6,Js,Jp,hG.len,aN,Jv,bp,f6,Kt,aC,ak,h96,ae,bh,Ke,ah,bS,hin,K4,cU,hrow,hrl]
 rcases hA with hX | ⟨kk,e,m,h,b,s,hX,hkk,he⟩ | ⟨p,hX,hg⟩
 ·refine ⟨ws,o,?_,hG.mono (by omega),by omega⟩
  rw [hbody _ hX.symm,ae]
  have:=k56_0 (n+8) ws o (bl true)
  rw [hG.len] at this
  exact this
 ·have h1:=k56_1 (n+8) ws o (k:=kk) (by rw [hG.len];exact hkk) m h e b s (by rcases he with h | h;exact .inr h;exact .inl h.1)
  rw [hG.len] at h1
  refine ⟨if e=0 then ws.set kk (m,b,s,h) else ws,o,?_,?_,by omega⟩
  ·rw [hbody _ hX.symm,bf]
   exact h1
  ·split
   ·rename_i h0
    rcases he with h | h
    ·omega
    ·exact h.2
   ·exact hG.mono (by omega)
 ·refine ⟨ws,some (o.getD []++[p]),?_,hg,by simp⟩
  rw [hbody _ hX.symm,d8]
  have:=k56_2 (n+8) ws (o.getD []++[p]) (bl true)
  rw [hG.len,K0] at this
  exact this
theorem I0:GoodX ((0:Nat):Int) Hb ((none:Option (List P3)).getD []):=by
 refine ⟨good0,fun e g hc=>?_⟩
 have hg:∀ k,e∈bk k→g k=fd0:=fun k hk=>by
  obtain ⟨m,_,h⟩:=hc k (w0 k) (by simp [Hb,oB hk]) hk
  rw [h,Ce,List.take_nil];rfl
 have hb:∀ a b,e∈bk a→e∈bk b→(Il g a b↔¬ hw a b 0):=fun a b ha hb=>by
  unfold Il qY
  rw [hg a ha,hg b hb]
  simp [fd0,aT]
 refine ⟨fun a b ha hb hab=>?_,⟨fun a=>6 - a,fun a b ha hb' hab h=>?_⟩,fun a ha=>?_⟩
 ·rw [hg a ha,hg b hb]
  refine ⟨fun _=>by simp [fd0],by simp [fd0],by simp [fd0],fun _=>by simp [fd0],fun h=>by simp [fd0] at h,fun n v hs=>?_⟩
  rcases hs with ⟨p,hp,_⟩ | ⟨w,hw,rfl,rfl⟩
  ·cases hp
  ·obtain ⟨_,rfl⟩:=wX hw
   simp [bnd,Ce,rf,ay,fd0]
 ·have:=(hb a b ha hb').1 h
  have:=oB ha
  have:=oB hb'
  unfold hw at *
  show 6 - a < 6 - b
  omega
 ·rw [hg a ha]
  simp [fd0]
abbrev A5:=Int×Int×Int×Int×Int
def rA (a:A5):List D:=[il a.1,il a.2.1,il a.2.2.1,il a.2.2.2.1,il a.2.2.2.2]
theorem o68 {n:Nat} {ds:List D} (h:HasT Tryd.prog (n+2) 68 ds):∃ a:A5,ds=rA a:=by
 obtain ⟨_,_,rfl,h1,_,_,rfl,h2,_,_,rfl,h3,_,_,rfl,h4,_,_,rfl,h5,rfl⟩:=h.struct Tryd.underlying68 rfl
 obtain ⟨x,rfl,_⟩:=o3 h1
 obtain ⟨y,rfl,_⟩:=o3 h2
 obtain ⟨z,rfl,_⟩:=o3 h3
 obtain ⟨u,rfl,_⟩:=o3 h4
 obtain ⟨v,rfl,_⟩:=o3 h5
 exact ⟨(x,y,z,u,v),rfl⟩
end
end Go.VE
