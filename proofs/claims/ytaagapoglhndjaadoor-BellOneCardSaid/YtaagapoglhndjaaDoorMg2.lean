/- Bell: reading strokes that are data. -/
import Derived.Test.YtaagapoglhndjaaDoorMg1
namespace Go.VE
open Go.RowKit Go.Proofs
section
theorem l96_0 (n:Nat) (bs:List Brd) (fs:List Fld) {j:Nat} {f:Fld} (hj:fs[j]?=some f) (c1 c2 c3 c4:D) :
  q1b [q35 (RP n)] M0 0 [.n j,.n 0,.d (il 0),.d c1,.d c2,.d c3,.d c4,.m (mapM bs fs)]=some (0,[.d c1,.d c2,.d c3,.d c4,.m (mapM bs (fs.set j { f with af:=fun _=>false }))]):=by
 have:=q30 (β:=Fld) 6 (by omega) (q35 (RP n)) (fun i g=>[.n j,.n 0,.d (il i),.d c1,.d c2,.d c3,.d c4,.m (mapM bs (fs.set j g))]) (fun _ _=>True)
  (fun i g=>some (0,[.d c1,.d c2,.d c3,.d c4,.m (mapM bs (fs.set j { g with af:=fun q=>if i≤q then false else g.af q }))])) ?_ ?_ f trivial
 ·have e:fs.set j f=fs:=by
   apply List.ext_getElem?
   intro i
   rw [List.getElem?_set]
   split
   ·subst_vars;split<;>simp_all
   ·rfl
  simp only [e] at this
  simpa using this
 ·intro g k _
  simp [q35,mapM,List.map_set]
  rfl
 ·intro i g k hi _ hw ih
  have ih':=ih { g with af:=upN g.af i false } trivial
  rw [q1h] at ih'
  have e:(fun q=>if i+1≤q then false else upN g.af i false q)=fun q=>if i≤q then false else g.af q:=by
   funext q
   unfold upN
   by_cases h1:i=q
   ·subst h1;simp
   ·by_cases h2:i≤q
    ·rw [if_pos (by omega),if_pos h2]
    ·rw [if_neg (by omega),if_neg h1,if_neg h2]
  simp only [e] at ih'
  rw [←ih']
  have h20:3*i+1+1≤20:=by omega
  simp only [q35,mapM,q06,q0a,q0p,q0q,q0e,q0g,q09,q0u,q0V,q04,show ((i:Int) < 6) by omega,decide_true,if_true,q0k,q1K,q0n,q1i,q11,q2b,q0s (q2R hj g),q29,q1G,Nat.zero_add,Nat.add_zero,Int.toNat_natCast,h20,q9p (q2R hj g) hi,List.set_set,q0T,hw]
  rw [if_pos (by omega)]
theorem e96_3:@q8u=@q35:=rfl
theorem e96_4:@q8t=@q34:=rfl
theorem e96_5:@q8s=@q33:=rfl
def enN (c1 c2 c3 c4 c5 c6:D) (m:Mr) (i:Nat) (acc:List Nat):Nat×List Yr:=match acc with
 | []=>(0,[.d c1,.d c2,.d (il i),.m m,.d c3,.d c4,.d c5,.d c6])
 | a::t=>(1,[.d c1,.d c2,.d (il i),.r ((a::t).map fun (o:Nat)=>[il o]),.n (t.length+1),.n (t.length+1),.m m,.d c3,.d c4,.d c5,.d c6])
def outN (c3 c4 c5 c6:D) (m:Mr) (acc:List Nat):Out:=match acc with
 | []=>some (0,[.m m,.d c3,.d c4,.d c5,.d c6])
 | a::t=>some (1,[.r ((a::t).map fun (o:Nat)=>[il o]),.n (t.length+1),.n (t.length+1),.m m,.d c3,.d c4,.d c5,.d c6])
theorem qhq (c1 c2 c3 c4 c5 c6:D) (m:Mr) (i:Nat) (acc:List Nat) (x:Nat) :
  enN c1 c2 c3 c4 c5 c6 m i (acc++[x])=(1,[.d c1,.d c2,.d (il i),.r ((acc++[x]).map fun (o:Nat)=>[il o]),.n (acc.length+1),.n (acc.length+1),.m m,.d c3,.d c4,.d c5,.d c6]):=by
 cases acc with
 | nil=>rfl
 | cons a t=>simp [enN]
theorem l96_m (n:Nat) {bs:List Brd} {fs:List Fld} {j:Nat} {f:Fld} {fld:Int} (hj:fs[j]?=some f) (hx:bix fld bs=some j) {P:Int} (hP:six P) (me:Int) (y:List Yr) (hy:(RP (n+3)).ld y 6=il fld) (c1 c4 c5 c6:D) :
  q1b [q34 (RP (n+3)) y,q33 (RP (n+3)) y] M0 0 [.d c1,.d (il P),.d (il 0),.m (mapM bs fs),.d (il me),.d c4,.d c5,.d c6]=outN (il me) c4 c5 c6 (mapM bs fs) (q3x me P f):=by
 have:=q60 (σ:=Nat×List Nat) [q34 (RP (n+3)) y,q33 (RP (n+3)) y] (fun s=>enN c1 (il P) (il me) c4 c5 c6 (mapM bs fs) s.1 s.2) (fun s=>6 - s.1) (fun s=>s.1≤6∧s.2.length≤s.1)
  (fun s=>outN (il me) c4 c5 c6 (mapM bs fs) (s.2++qaS me P f s.1)) ?_ M0 (0,[]) ⟨by simp,by simp⟩ (by simp only [M0];omega)
 ·exact this
 ·rintro ⟨i,acc⟩ k ⟨hi,ha⟩ ih
  simp only at hi ha
  by_cases h6:i=6
  ·subst h6
   cases acc with
   | nil=>exact ⟨_,rfl,by simp [q34,enN,outN,q5t]⟩
   | cons a t=>exact ⟨_,rfl,by simp [q33,enN,outN,q5t]⟩
  ·have hi':i < 6:=by omega
   have hw:=q3C (show i < 7 by omega) (show 7≤4611686018427387904 by omega)
   have ih0:=ih (i+1,acc) ⟨hi',by simp only;omega⟩ (by simp only;omega)
   have ih1:=ih (i+1,acc++[i]) ⟨hi',by simp;omega⟩ (by simp only;omega)
   simp only [qhq,q1h,List.append_assoc,List.cons_append,List.nil_append] at ih1
   simp only at ih0
   have h20:3*i+1≤20:=by omega
   have hlt:(i:Int) < 6:=by omega
   have hin:0≤(i:Int)∧(i:Int) < (6:Nat):=by omega
   rw [q8d hi']
   cases acc with
   | nil =>
    refine ⟨_,rfl,?_⟩
    simp only [enN,q1h] at ih0
    simp only [enN,q34,mapM,q06,q0a,q0p,q0q,q09,q0V,hlt,decide_true,q04,if_true,q2a,q0i,s91 _ _ hP,q02,q1k hi',hy,q2E,hx,q0k,q1K,q11,q0s hj,q0n,q1i,q1G,q0F,Nat.zero_add,Nat.add_zero,Int.toNat_natCast,h20,q2U f hi',s86,q0E,q0o,q0v,List.length_cons,List.length_nil,q0O,q0K,List.take,q5l,q0Q,q0T,hw]
    rw [if_pos hin]
    by_cases h1:(i:Int)=me
    ·simp only [h1,ne_eq,not_true,decide_false,decide_true,Bool.false_eq_true,if_false,Bool.not_true,Bool.false_and]
     rw [←h1] at ih0 ⊢
     exact ih0
    ·cases h2:P.toNat.testBit i with
     | false =>
      simp only [h1,ne_eq,not_false_eq_true,decide_true,if_true,Bool.false_eq_true,if_false,Bool.and_false,Bool.false_and]
      exact ih0
     | true =>
      cases h3:q0C me i (f.no i) with
      | true =>
       simp only [h1,ne_eq,not_false_eq_true,decide_true,if_true,Bool.false_eq_true,if_false,Bool.and_false,Bool.not_true]
       exact ih0
      | false =>
       simp only [h1,ne_eq,not_false_eq_true,decide_true,if_true,Bool.not_false,decide_false,Bool.true_and]
       rw [if_pos (by decide)]
       exact ih1
   | cons a t =>
    refine ⟨_,rfl,?_⟩
    simp only [enN,q1h] at ih0
    simp only [enN,q33,mapM,q06,q0a,q0p,q0q,q0e,q0g,q0h,q0j,q09,q0V,hlt,decide_true,q04,if_true,q2a,q0i,s91 _ _ hP,q02,q1k hi',hy,q2E,hx,q0k,q1K,q11,q0s hj,q0n,q1i,q1G,q0F,Nat.zero_add,Nat.add_zero,Int.toNat_natCast,h20,q2U f hi',s86,q0E,q0o,q0v,List.length_cons,List.length_nil,q0O,q0K,List.take,q0Q,q0T,hw,List.length_map,q0I]
    rw [if_pos hin]
    by_cases h1:(i:Int)=me
    ·simp only [h1,ne_eq,not_true,decide_false,decide_true,Bool.false_eq_true,if_false,Bool.not_true,Bool.false_and]
     rw [←h1] at ih0 ⊢
     exact ih0
    ·cases h2:P.toNat.testBit i with
     | false =>
      simp only [h1,ne_eq,not_false_eq_true,decide_true,if_true,Bool.false_eq_true,if_false,Bool.and_false,Bool.false_and]
      exact ih0
     | true =>
      cases h3:q0C me i (f.no i) with
      | true =>
       simp only [h1,ne_eq,not_false_eq_true,decide_true,if_true,Bool.false_eq_true,if_false,Bool.and_false,Bool.not_true]
       exact ih0
      | false =>
       simp only [h1,ne_eq,not_false_eq_true,decide_true,if_true,Bool.not_false,decide_false,Bool.true_and]
       simp only [List.length_cons] at ha
       rw [if_pos (by omega)]
       simp only [List.map_append,List.map_cons,List.map_nil,List.length_cons] at ih1 ⊢
       exact ih1
def enP (l:List Stk) (bs:List Brd) (c1 c2 c3 c4:D) (i:Nat) (fs:List Fld):List Yr:=[.d (dS (some l)),.d (il l.length),.d (il i),.m (mapM bs fs),.d c1,.d c2,.d c3,.d c4]
def q9h (bs:List Brd) (c1 c2 c3 c4:D) (q:List Fld×Bool):Out:=if q.2=true then some (1,[.m (mapM bs q.1),.d c1,.d c2,.d c3,.d c4]) else some (0,[.d (bl false),.m (mapM bs q.1),.d c1,.d c2,.d c3,.d c4])
set_option maxRecDepth 20000 in
theorem l96 (n:Nat) (b:Option (List Brd)) (hb:(b.getD []).length≤4611686018427387904) (h6:∀ c∈b.getD [],six c.2) (l:List Stk) (hl:l.length≤4611686018427387904) (me:Int) (c3 c4:D) (fs:List Fld) (hf:fs.length=(b.getD []).length) :
  q1b [q2v (RP (n+3))] M0 0 (enP l (b.getD []) (il me) (dB b) c3 c4 0 fs)=q9h (b.getD []) (il me) (dB b) c3 c4 (q19 me (b.getD []) fs l):=by
 have:=q0L (β:=List Fld) l hl (q2v (RP (n+3))) (fun i fs=>enP l (b.getD []) (il me) (dB b) c3 c4 i fs) (fun _ fs=>fs.length=(b.getD []).length)
  (fun _ r fs=>q9h (b.getD []) (il me) (dB b) c3 c4 (q19 me (b.getD []) fs r)) ?_ ?_ M0 fs hf (q2K hl)
 ·exact this
 ·intro fs k _
  simp [q2v,enP,q9h,q19]
 ·intro i s r fs k hi hd hlt hw hfs ih
  have hlt':(i:Int) < (l.length:Int):=by omega
  have hin:0≤(i:Int)∧(i:Int) < (l.length:Nat):=by omega
  rw [q19]
  by_cases hs:okS s=true
  ·rw [if_pos hs]
   cases hx:bix s.2.1 (b.getD []) with
   | none =>
    have hneg:ixI s.2.1 (b.getD []) < 0:=q3d.2 hx
    simp only [enP,q2v,q06,q0a,q0p,q0q,q0e,q0g,q0V,hlt',decide_true,q04,if_true,rowS (o:=some l) hi,cS0,cS1,cS2,cS3,q0i,qgr,q02,hs,q0E,Bool.not_true,Bool.false_eq_true,if_false,q1B,qby _ _ hb,q09,hneg,q0u,q0t,q0H,q5m,q9h]
    simp
   | some j =>
    obtain ⟨hj1,hj2⟩:=q2k hx
    have hnn:¬ (ixI s.2.1 (b.getD []) < 0):=by rw [q3d,hx];simp
    have hix:ixI s.2.1 (b.getD [])=(j:Int):=by simp [ixI,hx]
    obtain ⟨e,he⟩:∃ e,(b.getD [])[j]?=some e:=⟨_,List.getElem?_eq_getElem hj1⟩
    have hP:six e.2:=h6 e (List.mem_of_getElem? he)
    have hge:(b.getD []).getD j (0,0)=e:=by simp [List.getD_eq_getElem?_getD,he]
    obtain ⟨f,hf⟩:∃ f,fs[j]?=some f:=⟨_,List.getElem?_eq_getElem (by omega)⟩
    have hgf:fs.getD j fd0=f:=by simp [List.getD_eq_getElem?_getD,hf]
    simp only
    rw [hge,hgf]
    have ihs:∀ g,k 0 (enP l (b.getD []) (il me) (dB b) c3 c4 (i+1) (fs.set j g))=q9h (b.getD []) (il me) (dB b) c3 c4 (q19 me (b.getD []) (fs.set j g) r):=fun g=>ih _ (by rw [q3W];exact hfs)
    simp only [enP,q1h] at ihs
    simp only [enP,q2v,q06,q0a,q0p,q0q,q0V,hlt',decide_true,q04,if_true,rowS (o:=some l) hi,cS0,cS1,cS2,cS3,q0i,qgr,q02,hs,q0E,Bool.not_true,Bool.false_eq_true,if_false,q1B,qby _ _ hb,q09,hnn,decide_false,q0u,q0t]
    rw [hix,q6y he]
    simp only [cB0,cB1,q02,q06,q0a,q0p,q0q]
    rcases q8U hs with ⟨h1,ho⟩ | h1 | ⟨h1,ho⟩ | h1
    ·have hp:=q4q ho
     have hq:0≤s.2.2.1∧s.2.2.1 < (6:Nat):=by have:=q16.1 ho;omega
     have k1:3*s.2.2.1.toNat+1≤20:=by omega
     have k2:3*s.2.2.1.toNat+1+1≤20:=by omega
     unfold q0N
     simp only [h1,q0H,decide_true,if_true,q02,q06,q0a,q0p,q0q,q0E,q04,Bool.not_true,Bool.false_eq_true,if_false,s91 _ _ hP,mapM,q0k,q1K,hq,and_self,q11,q0s hf,q0n,q1i,q1G,q0F,Nat.zero_add,Nat.add_zero,q1W,q2U f hp,q70,qaJ,q2E,hx,q2b,q29,qdI hf hp,q0s (q2R hf _),q9p (q2R hf _) hp,List.set_set,q0T,hw,k1,k2,show 19+1≤20 by decide,decide_eq_true_eq]
     by_cases g1:s.2.2.1=me
     ·simp [g1,q9h,mapM]
     ·by_cases g2:q3h e.2 s.2.2.1=true
      ·by_cases g3:f.opn=true
       ·simp [g1,g2,g3,q9h,mapM]
       ·by_cases g4:s.2.2.2≤f.no s.2.2.1.toNat
        ·simp [g1,g2,g3,g4,q9h,mapM]
        ·have ih':=ihs { f with no:=upN f.no s.2.2.1.toNat s.2.2.2,af:=upN f.af s.2.2.1.toNat true }
         have g3':f.opn=false:=by simpa using g3
         simp only [mapM,g3'] at ih'
         simp only [g1,g2,g3',g4,if_false,q02,q06,q0a,q0p,q0q,q0E,q04,Bool.not_true,Bool.false_eq_true,decide_false,Bool.or_false]
         exact ih'
      ·simp [g1,g2,q9h,mapM]
    ·unfold q0N
     simp only [h1,q0H,show ¬ ((2:Int)=1) by decide,show ¬ ((2:Int)=3) by decide,decide_false,if_true,q02,q06,q0a,q0p,q0q,q0E,q04,Bool.not_true,Bool.false_eq_true,if_false,mapM,q0k,q11,q0s hf,q0n,q1i,q1G,q0F,Nat.zero_add,Nat.add_zero,q1s,q70,qaI,q2E,hx,q2b,q29,q6Q hf,q10,e96_3,q0T,hw,show 18+1≤20 by decide,decide_eq_true_eq]
     by_cases g1:s.2.2.2≤f.wants
     ·simp [g1,q9h,mapM]
     ·have ih':=ihs { f with wants:=s.2.2.2,af:=fun _=>false }
      have h0:=l96_0 (n+3) (b.getD []) (fs.set j { f with wants:=s.2.2.2 }) (q2R hf _) (il me) (dB b) c3 c4
      simp only [mapM,List.set_set] at ih' h0
      simp only [g1,if_false,h0,q02,q06,q0a,q0p,q0q]
      exact ih'
    ·have hp:=q4q ho
     have hq:0≤s.2.2.1∧s.2.2.1 < (6:Nat):=by have:=q16.1 ho;omega
     have k2:3*s.2.2.1.toNat+2+1≤20:=by omega
     unfold q0N
     simp only [h1,q0H,show ¬ ((3:Int)=1) by decide,show ¬ ((3:Int)=2) by decide,decide_true,decide_false,if_true,q02,q06,q0a,q0p,q0q,q0E,q04,Bool.not_true,Bool.false_eq_true,if_false,s91 _ _ hP,mapM,q0k,q1K,hq,and_self,q11,q0s hf,q0n,q1i,q1G,q0F,Nat.zero_add,Nat.add_zero,q65 f hp,q70,qaH,q2E,hx,q2b,q29,qaw hf hp,q0T,hw,k2,decide_eq_true_eq]
     by_cases g1:s.2.2.1=me
     ·simp [g1,q9h,mapM]
     ·by_cases g2:q3h e.2 s.2.2.1=true
      ·by_cases g4:s.2.2.2≤f.ask s.2.2.1.toNat
       ·simp [g1,g2,g4,q9h,mapM]
       ·have ih':=ihs { f with ask:=upN f.ask s.2.2.1.toNat s.2.2.2 }
        simp only [mapM] at ih'
        simp only [g1,g2,g4,if_false,q02,q06,q0a,q0p,q0q,Bool.not_true,Bool.false_eq_true,decide_false,Bool.or_false]
        exact ih'
      ·simp [g1,g2,q9h,mapM]
    ·unfold q0N
     have he1:e.1=s.2.1:=by rw [←hge];exact hj2
     have hj0:¬ ((j:Int) < 0):=by omega
     simp only [h1,q0H,show ¬ ((4:Int)=1) by decide,show ¬ ((4:Int)=2) by decide,show ¬ ((4:Int)=3) by decide,decide_false,if_true,q02,q06,q0a,q0p,q0q,q0e,q0g,q0E,q04,Bool.not_true,Bool.false_eq_true,if_false,mapM,q0k,qaG,q2E,hx,q1B,qby _ _ hb,hix,hj0,q6y he,cB0,cB1,q0V,q11,q0s hf,q0n,q1i,q1G,q0F,Nat.zero_add,Nat.add_zero,q1W,q4p,q2b,q29,q10,e96_4,e96_5,q0T,hw,show 19+1≤20 by decide,he1,decide_eq_true_eq]
     by_cases g1:s.2.2.2=1
     ·cases g2:f.opn with
      | true=>simp [g1,q9h,mapM]
      | false =>
       have h0:=fun y hy=>l96_m (n:=n) hf hx hP me y hy (il s.2.1) (dB b) c3 c4
       simp only [mapM] at h0
       simp only [g1,decide_true,show ((false==true)=true)=False by simp,if_false,if_true]
       rw [h0 _ (by simp)]
       cases hm:q3x me e.2 f with
       | nil =>
        have ih':=ihs { f with opn:=true }
        simp only [mapM] at ih'
        simp only [outN,q02,q06,q0a,q0p,q0q,q2s,q04,show ¬ ((0:Int) < 0) by decide,decide_false,Bool.false_eq_true,if_false,q0s hf,q5P hf,q0E,Bool.not_true,List.isEmpty_nil,Bool.and_false,Bool.or_false,show ((false==true)=true)=False by simp]
        exact ih'
       | cons a t =>
        have:(0:Int) < ((t.length+1:Nat):Int):=by omega
        simp only [outN,q02,q1C,q06,q0a,q0p,q0q,q0e,q0g,q0h,q2s,q04,q1A,this,decide_true,if_true,q0E,Bool.not_false]
        simp [q9h,mapM]
     ·cases g2:f.opn with
      | true =>
       have ih':=ihs { f with opn:=false }
       simp only [mapM] at ih'
       simp only [g1,decide_false,show ((true==false)=true)=False by simp,if_false,Bool.false_eq_true,q5P hf,q02,q06,q0a,q0p,q0q,q0E,q04,Bool.not_true,Bool.false_and,Bool.or_false]
       exact ih'
      | false=>simp [g1,q9h,mapM]
  ·simp only [enP,q2v,q06,q0a,q0p,q0q,q0V,hlt',decide_true,q04,if_true,rowS (o:=some l) hi,cS0,cS1,cS2,cS3,q0i,qgr,q02,hs,q0E,q0t,q0u]
   simp [q9h]
theorem qgq (n:Nat) (b:Option (List Brd)) (hb:(b.getD []).length≤4611686018427387904) (h6:∀ c∈b.getD [],six c.2) (l:List Stk) (hl:l.length≤4611686018427387904) (me:Int) (c3 c4:D) (fs:List Fld) (hf:fs.length=(b.getD []).length) :
  FN (n+4) 1600095 [il me,dB b,c3,c4,.mp true (q3K (b.getD [])) (fs.map q1g),.sl 4 (l.map rS)] =
   some (0,[.d (bl (q19 me (b.getD []) fs l).2),.d (il me),.d (dB b),.d c3,.d c4,.d (.mp true (q3K (b.getD [])) ((q19 me (b.getD []) fs l).1.map q1g))]):=by
 rw [FS,qbo]
 have h:=l96 n b hb h6 l hl me c3 c4 fs hf
 have ha:∀ k:Mr→Out,(RP (n+3)).asM true (.mp true (q3K (b.getD [])) (fs.map q1g)) k=k (mapM (b.getD []) fs):=fun _=>rfl
 have hd:(D.sl 4 (l.map rS))=dS (some l):=rfl
 have hn:(RP (n+3)).lenD (dS (some l))=fun k=>k (il l.length):=by funext k;exact q5c _ _ _ k
 simp only [enP,Int.natCast_zero] at h
 simp only [qcw,hd,hn,ha,q10,q09,h,q9h]
 cases (q19 me (b.getD []) fs l).2<;>simp [q4O,mapM]
end
section
set_option maxRecDepth 100000
section
variable {Δ N R W M E Ω:Type} (p:Pr Δ N R W M E Ω)
def opn2 (a0 a1 a2 a3 a4: Δ):Ω:=(p.bnd (p.call 61 [a0]) [fun y0=>p.un .not (p.ld y0 0) fun x1=>p.cond x1 (p.out 0 [.d a4,.d (p.lit (.int .i64 92)),.d (p.lit (.int .i64 0)),.d (p.lit (.int .i64 0))]) (p.bnd (p.call 62 [a0,a1]) [fun y2=>p.un .not (p.ld y2 0) fun x3=>p.cond x3 (p.out 0 [.d a4,.d (p.lit (.int .i64 92)),.d (p.lit (.int .i64 0)),.d (p.lit (.int .i64 0))]) (p.lenD a2 fun x4=>p.bin .gtr false x4 (p.lit (.int .i64 120)) fun x5=>p.cond x5 (p.out 0 [.d a4,.d (p.lit (.int .i64 92)),.d (p.lit (.int .i64 0)),.d (p.lit (.int .i64 0))]) (p.lenD a2 fun x6=>p.bnd (p.call 68 [a3,(p.lit (.int .i64 0)),x6]) [fun y7=>p.un .not (p.ld y7 0) fun x8=>p.cond x8 (p.out 0 [.d a4,.d (p.lit (.int .i64 92)),.d (p.lit (.int .i64 0)),.d (p.lit (.int .i64 0))]) (p.bnd (p.call 63 [a1]) [fun y9=>p.lenD a2 fun x10=>p.mkN 32 x10 x10 fun n11=>p.rowsD 4 a2 fun r12=>p.eqN n11 (p.len (p.repl n11 [(p.lit (.int .i64 0)),(p.lit (.int .i64 0)),(p.lit (.int .i64 0)),(p.lit (.int .i64 0))])) (p.eqN n11 (p.len (p.repl n11 [(p.lit (.int .i64 0)),(p.lit (.int .i64 0)),(p.lit (.int .i64 0)),(p.lit (.int .i64 0))])) (p.lenD (p.ld y9 0) fun x13=>p.bnd (p.loop [(q6g p)] 0 [.d (p.ld y9 0),.d x13,.d (p.lit (.int .i64 0)),.m p.emp,.d a0,.d (p.ld y9 0),.n n11,.n n11,.d a3,.d (p.lit (.int .i64 0)),.d (p.lit (.int .i64 0)),.r (p.app (p.seg r12 none n11) (p.seg (p.repl n11 [(p.lit (.int .i64 0)),(p.lit (.int .i64 0)),(p.lit (.int .i64 0)),(p.lit (.int .i64 0))]) (some (p.len r12)) n11)),.d a0,.d (p.ld y9 0),.n n11,.n n11,.d a3]) [fun y14=>p.eqN n11 (p.len (p.lr y14 8)) (p.eqN n11 (p.len (p.lr y14 8)) (p.bnd (p.call 1000095 [p.ld y14 1,p.ld y14 2,(p.natD (p.ln y14 3)),(p.natD (p.ln y14 4)),p.ld y14 5,(p.slD 4 (p.lr y14 8)),(p.mpD true (p.lm y14 0))]) [fun y15=>p.rowsD 4 (p.ld y15 6) fun r16=>p.asM true (p.ld y15 7) fun q17=>p.un .not (p.ld y15 0) fun x18=>p.cond x18 (p.out 0 [.d a4,.d (p.lit (.int .i64 92)),.d (p.ld y14 6),.d (p.ld y14 7)]) (p.out 1 [.d a4,.d (p.lit (.int .i64 0)),.m q17,.r r16,.d (p.ld y15 1),.d (p.ld y15 2),.n (p.dN (p.ld y15 3)),.n (p.dN (p.ld y15 4)),.d (p.ld y15 5),.d (p.ld y14 6),.d (p.ld y14 7)])]))]))])]))])])
end
theorem l43 (n:Nat) (o:Option (List Brd)) (hl:(o.getD []).length≤4611686018427387904) (hr:qat (o.getD [])) (c0:D) (c1:D) (c2:Nat) (c3:Nat) (c4:D) (c5:D) (c6:D) (c7:Rr) (c8:D) (c9:D) (c10:Nat) (c11:Nat) (c12:D) :
  q1b [q6g (RP n)] M0 0 [.d (dB o),.d (il (o.getD []).length),.d (il 0),.m ([],[]),.d c0,.d c1,.n c2,.n c3,.d c4,.d c5,.d c6,.r c7,.d c8,.d c9,.n c10,.n c11,.d c12] =
   some (0,[.m (mapM (o.getD []) (new (o.getD []))),.d c0,.d c1,.n c2,.n c3,.d c4,.d c5,.d c6,.r c7,.d c8,.d c9,.n c10,.n c11,.d c12]):=by
 have:=q0L (β:=Unit) (o.getD []) hl (q6g (RP n)) (fun i _=>[.d (dB o),.d (il (o.getD []).length),.d (il i),.m (mapM ((o.getD []).take i) (new ((o.getD []).take i))),.d c0,.d c1,.n c2,.n c3,.d c4,.d c5,.d c6,.r c7,.d c8,.d c9,.n c10,.n c11,.d c12]) (fun _ _=>True)
  (fun _ _ _=>some (0,[.m (mapM (o.getD []) (new (o.getD []))),.d c0,.d c1,.n c2,.n c3,.d c4,.d c5,.d c6,.r c7,.d c8,.d c9,.n c10,.n c11,.d c12])) ?_ ?_ M0 () trivial (q2K hl)
 ·exact this
 ·intro _ k _
  simp [q6g,List.take_length]
 ·intro i e r _ k hi hd hlt hw _ ih
  have hlt':(i:Int) < ((o.getD []).length:Int):=by omega
  have ih':=ih () trivial
  rw [q1h,q4k hi,q5s] at ih'
  have hadd:=fun k=>q9G (Fn:=FN n) (FnD:=q2L Tryd.prog (cf3 tb Tryd.prog) (FN n)) (m:=M0) (q1l ((o.getD []).take i)) (q7v hr hi) fd0 k
  have hlen:((o.getD []).take i).length=i:=by simp;omega
  simp only [q6U,hlen] at hadd
  simp only [q6g,mapM,q06,q0a,q0p,q0q,q0e,q0g,q0h,q0j,q0V,hlt',decide_true,q04,if_true,q6y hi,cB0,q0k,q0O,q2b,q0I,q11,q0o,q09,q0u,q0v,List.length_map,q1l,hlen,hadd,q0T,hw]
  exact ih'
theorem op2 (n:Nat) (me h:Int) (b:Option (List Brd)) (o:Option (List Stk)) (a:D) (hl:(o.getD []).length≤4611686018427387904) (hb:(b.getD []).length≤4611686018427387904) :
  opn2 (RP (n+4)) (il me) (dB b) (dS o) (il h) a=if okP me (b.getD []) (o.getD []) h=true then some (1,[.d a,.d (il 0),.m (mapM (b.getD []) (pg me (b.getD []) (o.getD []))),.r ((o.getD []).map rS),.d (il me),.d (dB b),.n (o.getD []).length,.n (o.getD []).length,.d (il h),.d (il 0),.d (il 0)]) else some (0,[.d a,.d (il 92),.d (il 0),.d (il 0)]):=by
 simp only [opn2,q0i,s61,s62 _ _ _ hb,s68,q5c,q02,q06,q0E,q04,q0t,q09,q2s,okP]
 by_cases h1:par me=true
 ·by_cases h2:q1T me (b.getD [])=true
  ·have h2':=h2
   simp only [q1T,Bool.and_eq_true,decide_eq_true_eq] at h2'
   by_cases h3:(o.getD []).length≤120
   ·have h3':¬ ((120:Int) < (o.getD []).length):=by omega
    by_cases h4:inn h 0 (o.getD []).length=true
    ·have hmk:0≤((o.getD []).length:Int)∧((32:Nat):Int)*((o.getD []).length:Int)≤140737488355328∧((o.getD []).length:Int)≤9223372036854775807:=by omega
     simp only [h1,h2,h3,h3',h4,Bool.not_true,Bool.false_eq_true,if_false,if_true,decide_true,decide_false,Bool.true_and,s63 _ _ h2'.2,q02,q06,q6Z,hmk,and_self,Int.toNat_natCast,q6T,q6Y,q0v,List.length_replicate,q0O,q5c,q9F,q0I,q0K,q6X,q10,List.length_map]
     have hseg:=q4G ((o.getD []).map rS) [il 0,il 0,il 0,il 0]
     rw [List.length_map] at hseg
     rw [hseg,l43 _ _ hb (q2Y h2'.1)]
     simp only [q02,q06,q0a,q0p,q0e,q0g,q0h,q0j,List.length_map,if_true,q1A,q2N,q4O,mapM]
     rw [q4H _ _ hb (q1M h2) _ (by omega) _ _ _ _ _ (q1l _)]
     have hr4:∀ k:Rr→Out,(RP (n+4)).rowsD 4 (.sl 4 ((o.getD []).map rS)) k=k ((o.getD []).map rS):=fun _=>rfl
     simp only [q02,q06,q0a,q1O,q0E,q04,qaK]
     have ha:∀ (a:List Value) (b:Rr) (k:Mr→Out),(RP (n+4)).asM true (.mp true a b) k=k (a,b):=fun _ _ _=>rfl
     rw [ha]
     simp only [pg]
     rw [show (b.getD []).map (fun _=>fd0)=new (b.getD []) from rfl]
     cases (q19 me (b.getD []) (new (b.getD [])) (o.getD [])).2<;>rfl
    ·simp [h1,h2,h3,h3',h4]
   ·have h3':((120:Int) < (o.getD []).length):=by omega
    simp [h1,h2,h3,h3']
  ·simp [h1,h2]
 ·simp [h1]
theorem l43_1 (n:Nat) (o:Option (List Brd)) (hl:(o.getD []).length≤4611686018427387904) (hr:qat (o.getD [])) (c0 c1 c2 c3 c4 c5 c6 c7 c8 c9:D) (q:Mr) :
  q1b [qfO (RP n)] M0 0 [.d (dB o),.d (il (o.getD []).length),.d (il 0),.m ([],[]),.d c0,.d c1,.d c2,.d c3,.d c4,.d c5,.d c6,.d c7,.d c8,.d c9,.m q] =
   some (0,[.m (mapM (o.getD []) (new (o.getD []))),.d c0,.d c1,.d c2,.d c3,.d c4,.d c5,.d c6,.d c7,.d c8,.d c9,.m q]):=by
 have:=q0L (β:=Unit) (o.getD []) hl (qfO (RP n)) (fun i _=>[.d (dB o),.d (il (o.getD []).length),.d (il i),.m (mapM ((o.getD []).take i) (new ((o.getD []).take i))),.d c0,.d c1,.d c2,.d c3,.d c4,.d c5,.d c6,.d c7,.d c8,.d c9,.m q]) (fun _ _=>True)
  (fun _ _ _=>some (0,[.m (mapM (o.getD []) (new (o.getD []))),.d c0,.d c1,.d c2,.d c3,.d c4,.d c5,.d c6,.d c7,.d c8,.d c9,.m q])) ?_ ?_ M0 () trivial (q2K hl)
 ·exact this
 ·intro _ k _
  simp [qfO,List.take_length]
 ·intro i e r _ k hi hd hlt hw _ ih
  have hlt':(i:Int) < ((o.getD []).length:Int):=by omega
  have ih':=ih () trivial
  rw [q1h,q4k hi,q5s] at ih'
  have hadd:=fun k=>q9G (Fn:=FN n) (FnD:=q2L Tryd.prog (cf3 tb Tryd.prog) (FN n)) (m:=M0) (q1l ((o.getD []).take i)) (q7v hr hi) fd0 k
  have hlen:((o.getD []).take i).length=i:=by simp;omega
  simp only [q6U,hlen] at hadd
  simp only [qfO,mapM,q06,q0a,q0p,q0q,q0V,hlt',decide_true,q04,if_true,q6y hi,cB0,q0k,q0O,q2b,q0I,q11,q0o,q09,q0u,q0v,List.length_map,q1l,hlen,hadd,q0T,hw]
  exact ih'
def q9m (me:Int) (ss:List Stk) (to:Int) (c:Brd):Option Tld:=if q3h c.2 to=true then some (c.1,(q0x me c fd0 ss).1.no to.toNat,(q0x me c fd0 ss).1.wants) else none
def q6N (me:Int) (bs:List Brd) (ss:List Stk) (to:Int):List Tld:=bs.filterMap (q9m me ss to)
def dTn (l:List Tld):D:=match l with
 | []=>q4L
 | a::t=>.sl 3 ((a::t).map rT)
def q6n (e:Int):Out:=some (0,[.d (il 0),.d (il 0),.d q4L,.d (il e)])
def qdw (me:Int) (bs:List Brd) (ss:List Stk) (h to:Int):Out :=
 if okP me bs ss h=true then (if !par to||decide (to=me) then q6n 1 else some (0,[.d (il me),.d (il to),.d (dTn (q6N me bs (ss.take h.toNat) to)),.d (il 0)])) else q6n 92
theorem qc8 {α β:Type} (f:α→Option β):∀ l:List α,(List.range l.length).filterMap (fun i=>(l[i]?).bind f)=l.filterMap f
 | []=>rfl
 | a::t=>by
  rw [List.length_cons,List.range_succ_eq_map,List.filterMap_cons,List.filterMap_cons,List.filterMap_map]
  have:=qc8 f t
  simp only [List.getElem?_cons_zero,Option.bind_some,Function.comp_def,List.getElem?_cons_succ,Nat.succ_eq_add_one,this]
theorem fm_map {α β γ:Type} (f:α→Option β) (g:β→γ) (l:List α):l.filterMap (fun x=>(f x).map g)=(l.filterMap f).map g:=by
 rw [List.map_filterMap]
theorem q89 {me:Int} {bs:List Brd}:∀ (l:List Stk) (fs:List Fld) (n:Nat),(q19 me bs fs l).2=true→(q19 me bs fs (l.take n)).2=true
 | [],fs,n,h=>by simpa using h
 | s::r,fs,0,_=>rfl
 | s::r,fs,n+1,h=>by
  rw [List.take_succ_cons]
  unfold q19 at h ⊢
  by_cases h1:okS s=true
  ·rw [if_pos h1] at h ⊢
   cases hx:bix s.2.1 bs with
   | none=>simp [hx] at h
   | some i =>
    simp only [hx] at h ⊢
    cases hs:q0N me (bs.getD i (0,0)).2 (fs.getD i fd0) s with
    | none=>rw [hs] at h;cases h
    | some f =>
     simp only [hs] at h ⊢
     exact q89 r _ n h
  ·rw [if_neg h1] at h;cases h
theorem qec {me:Int} {bs:List Brd} {ss:List Stk} {h:Int} (ho:okP me bs ss h=true) (n:Nat) {j:Nat} {e:Brd} (he:bs[j]?=some e):(pg me bs (ss.take n))[j]?=some (q0x me e fd0 (ss.take n)).1:=by
 have hj:j < bs.length:=by
  rcases Nat.lt_or_ge j bs.length with h' | h'
  ·exact h'
  ·rw [List.getElem?_eq_none h'] at he;cases he
 have hr:=q12 ho
 have ho':=ho
 simp only [okP,Bool.and_eq_true] at ho'
 have:=(q5p (me:=me) hr (ss.take n) (new bs) (q1l bs)).2.1 (q89 ss _ n ho'.2.2.2.2)
 have h1:=this.2 j hj
 rw [qer,q2Q _ he] at h1
 have h2:j < (pg me bs (ss.take n)).length:=by rw [q6m hr];exact hj
 rw [List.getElem?_eq_getElem h2,h1]
 simp [pg,List.getD_eq_getElem?_getD,List.getElem?_eq_getElem (show j < (q19 me bs (new bs) (ss.take n)).1.length from h2)]
theorem qhG {bs:List Brd} (hr:qat bs) {i:Nat} {e:Brd} (he:bs[i]?=some e):bix e.1 bs=some i:=by
 have hi:i < bs.length:=by
  rcases Nat.lt_or_ge i bs.length with h | h
  ·exact h
  ·rw [List.getElem?_eq_none h] at he;cases he
 rw [List.getElem?_eq_getElem hi] at he
 simp only [Option.some.injEq] at he
 rw [←he]
 exact qcn hr hi
def qgu (me:Int) (bs:List Brd) (ss:List Stk) (to:Int) (i:Nat):Option (List D):=(bs[i]?).bind fun c=>(q9m me ss to c).map rT
theorem qdJ (me:Int) (bs:List Brd) (ss:List Stk) (to:Int):(List.range bs.length).filterMap (qgu me bs ss to)=(q6N me bs ss to).map rT:=by
 exact (qc8 (fun c=>(q9m me ss to c).map rT) bs).trans (fm_map _ _ _)
theorem qbB {me:Int} {bs:List Brd} {ss:List Stk} {to:Int} {i:Nat} {e:Brd} (he:bs[i]?=some e):qgu me bs ss to i=if q3h e.2 to=true then some [il e.1,il ((q0x me e fd0 ss).1.no to.toNat),il (q0x me e fd0 ss).1.wants] else none:=by
 unfold qgu q9m
 rw [he]
 simp only [Option.bind_some]
 split<;>rfl
theorem l43_2 (n:Nat) (b:Option (List Brd)) (hb:(b.getD []).length≤120) {me h:Int} {ss:List Stk} (ho:okP me (b.getD []) ss h=true) (m:Nat) {to:Int} (hp:par to=true) (c0 c1 c2 c3 c4 c5 c6 c7:D) :
  q1b [qfN (RP (n+3)),qfM (RP (n+3))] M0 0 [.d (il to),.d (dB b),.d (il (b.getD []).length),.d (il 0),.m (mapM (b.getD []) (pg me (b.getD []) (ss.take m))),.d c0,.d c1,.d c2,.d c3,.d c4,.d c5,.d c6,.d c7] =
   qhN (some (0,[.d c0,.d c1,.d c6,.d c7])) (fun acc=>some (1,[.r acc,.d c0,.d c1,.n acc.length,.n acc.length,.d c6,.d c7])) ((q6N me (b.getD []) (ss.take m) to).map rT):=by
 have hr:=q12 ho
 have hlt:=q4q hp
 have ho':=ho
 simp only [okP,Bool.and_eq_true] at ho'
 have:=qct (b.getD []).length (by omega) (qgu me (b.getD []) (ss.take m) to) (qfN (RP (n+3))) (qfM (RP (n+3)))
  (fun i=>[.d (il to),.d (dB b),.d (il (b.getD []).length),.d (il i),.m (mapM (b.getD []) (pg me (b.getD []) (ss.take m))),.d c0,.d c1,.d c2,.d c3,.d c4,.d c5,.d c6,.d c7])
  (fun i acc=>[.d (il to),.d (dB b),.d (il (b.getD []).length),.d (il i),.m (mapM (b.getD []) (pg me (b.getD []) (ss.take m))),.r acc,.d c0,.d c1,.n acc.length,.n acc.length,.d c2,.d c3,.d c4,.d c5,.d c6,.d c7])
  (some (0,[.d c0,.d c1,.d c6,.d c7])) (fun acc=>some (1,[.r acc,.d c0,.d c1,.n acc.length,.n acc.length,.d c6,.d c7])) ?_ ?_ ?_ ?_
 ·rw [qdJ] at this
  exact this
 ·intro k;simp [qfN]
 ·intro k a t _;simp [qfM]
 ·intro i k hi hw
  obtain ⟨e,he⟩:∃ e,(b.getD [])[i]?=some e:=⟨_,List.getElem?_eq_getElem hi⟩
  have h6:=q1M ho'.2.1 e (List.mem_of_getElem? he)
  have hx:=qhG hr he
  have hf:=qec ho m he
  have hle:3*to.toNat+1≤20:=by omega
  have hl9:¬ (19 < 3*to.toNat):=by omega
  have hlt':(i:Int) < ((b.getD []).length:Int):=by omega
  rw [qbB he]
  simp only [qfN,q06,q0a,q0p,q0q,q09,q0V,hlt',decide_true,q04,if_true,q6y he,cB0,cB1,q0i,q02,q0k,q9D hp,q0n,q1i,q1G,q0U,q1P,hx,q0s hf,Nat.reduceAdd,Nat.reduceLeDiff,q0F,Nat.zero_add,Nat.add_zero,q2U _ hlt,q1s,q0o,q0v,List.length_cons,List.length_nil,q0O,q0K,List.take,q5l,q0Q,and_self,q0T,hw,q1h,s91 _ _ h6,fit0 24 (by decide)]
  by_cases h2:q3h e.2 to=true<;>simp [h2,hl9]
 ·intro i k a t hi ha hw
  obtain ⟨e,he⟩:∃ e,(b.getD [])[i]?=some e:=⟨_,List.getElem?_eq_getElem hi⟩
  have h6:=q1M ho'.2.1 e (List.mem_of_getElem? he)
  have hx:=qhG hr he
  have hf:=qec ho m he
  have hle:3*to.toNat+1≤20:=by omega
  have hl9:¬ (19 < 3*to.toNat):=by omega
  have hlt':(i:Int) < ((b.getD []).length:Int):=by omega
  simp only [List.length_cons] at ha
  have hfit:=fit1 (n:=t.length) 24 (by decide) (by omega)
  rw [qbB he]
  simp only [qfM,q06,q0a,q0p,q0q,q0e,q0g,q0h,q0j,q09,q0V,hlt',decide_true,q04,if_true,q6y he,cB0,cB1,q0i,q02,q0k,q9D hp,q0n,q1i,q1G,q0U,q1P,hx,q0s hf,Nat.reduceAdd,Nat.reduceLeDiff,q0F,Nat.zero_add,Nat.add_zero,q2U _ hlt,q1s,q0o,q0v,List.length_cons,List.length_nil,q0O,q0K,List.take,q0Q,and_self,q0T,hw,q1h,s91 _ _ h6,hfit,q0I]
  by_cases h2:q3h e.2 to=true<;>simp [h2,hl9]
theorem s43 (n:Nat) (me h to:Int) (b:Option (List Brd)) (o:Option (List Stk)) (hl:(o.getD []).length≤4611686018427387904) (hb:(b.getD []).length≤4611686018427387904) :
  FN (n+6) 43 [il me,dB b,dS o,il h,il to]=qdw me (b.getD []) (o.getD []) h to:=by
 rw [FS,G43_eq]
 have hop:opn2 (RP (n+5)) (il me) (dB b) (dS o) (il h) (il to)=_:=op2 (n+1) me h b o (il to) hl hb
 unfold G43
 refine q4D hop ?_
 unfold qdw
 by_cases h1:okP me (b.getD []) (o.getD []) h=true
 ·have ho:=h1
  simp only [okP,Bool.and_eq_true,decide_eq_true_eq] at h1
  simp only [ho,if_true,q02,q1C,q06,q0a,q0p,q0q,q0e,q0g,q0h,q0j,q09,q2a,q0H,ne_eq,not_true,decide_false,q04,Bool.false_eq_true,if_false,if_true,q0t,q0i,s61,q0E]
  by_cases h2:par to=true
  ·by_cases h3:to=me
   ·simp [h3,q6n];rfl
   ·have hh:0≤h∧h≤(((o.getD []).map rS).length:Nat):=by
     have:=h1.2.2.2.1
     simp only [inn,Bool.and_eq_true,decide_eq_true_eq] at this
     rw [List.length_map]
     exact this
    have hb4:(b.getD []).length≤120:=by
     have:=h1.2.1
     simp only [q1T,Bool.and_eq_true,decide_eq_true_eq] at this
     omega
    have hsl:((o.getD []).map rS).take (o.getD []).length=(o.getD []).map rS:=List.take_of_length_le (by simp)
    have h96:=qgq (n+1) b hb (q1M h1.2.1) ((o.getD []).take h.toNat) (by simp;omega) me (D.sl 4 ((o.getD []).map rS)) (il h) (new (b.getD [])) (q1l _)
    have h43:=l43_2 (n+2) b hb4 ho h.toNat h2
    simp only [h2,h3,decide_false,Bool.not_true,Bool.false_eq_true,Bool.or_false,if_false,if_true,q02,q1C,q06,q0a,q0p,q0q,decide_false,Bool.false_eq_true,if_false,if_true,q0v,List.length_map,q0O,q0K,q2N,hsl,q5c,q9F,q10,l43_1 _ _ hb (q12 ho),q4O,qe8 _ _ _ _ hh,← List.map_take,mapM]
    rw [h96]
    simp only [q02,q06,q0a]
    have ha:∀ (a:List Value) (b:Rr) (k:Mr→Out),(RP (n+5)).asM true (.mp true a b) k=k (a,b):=fun _ _ _=>rfl
    rw [ha]
    simp only [mapM,pg] at h43
    rw [h43]
    cases q6N me (b.getD []) ((o.getD []).take h.toNat) to with
    | nil=>rfl
    | cons a t =>
     simp [qhN,dTn]
     exact List.take_of_length_le (by simp)
  ·simp [h2,q6n];rfl
 ·simp [h1,q6n];rfl
end
section
set_option maxRecDepth 100000
section
variable {Δ N R W M E Ω:Type} (p:Pr Δ N R W M E Ω)
def opn9 (a0 a1 a2 a3 a4: Δ):Ω:=(p.bnd (p.call 61 [a0]) [fun y0=>p.un .not (p.ld y0 0) fun x1=>p.cond x1 (p.out 0 [.d a4,.d (p.lit (.int .i64 92)),.d (p.lit (.int .i64 0)),.d (p.lit (.int .i64 0)),.d (p.lit (.int .i64 0)),.d (p.lit (.int .i64 0))]) (p.bnd (p.call 62 [a0,a1]) [fun y2=>p.un .not (p.ld y2 0) fun x3=>p.cond x3 (p.out 0 [.d a4,.d (p.lit (.int .i64 92)),.d (p.lit (.int .i64 0)),.d (p.lit (.int .i64 0)),.d (p.lit (.int .i64 0)),.d (p.lit (.int .i64 0))]) (p.lenD a2 fun x4=>p.bin .gtr false x4 (p.lit (.int .i64 120)) fun x5=>p.cond x5 (p.out 0 [.d a4,.d (p.lit (.int .i64 92)),.d (p.lit (.int .i64 0)),.d (p.lit (.int .i64 0)),.d (p.lit (.int .i64 0)),.d (p.lit (.int .i64 0))]) (p.lenD a2 fun x6=>p.bnd (p.call 68 [a3,(p.lit (.int .i64 0)),x6]) [fun y7=>p.un .not (p.ld y7 0) fun x8=>p.cond x8 (p.out 0 [.d a4,.d (p.lit (.int .i64 92)),.d (p.lit (.int .i64 0)),.d (p.lit (.int .i64 0)),.d (p.lit (.int .i64 0)),.d (p.lit (.int .i64 0))]) (p.bnd (p.call 63 [a1]) [fun y9=>p.lenD a2 fun x10=>p.mkN 32 x10 x10 fun n11=>p.rowsD 4 a2 fun r12=>p.eqN n11 (p.len (p.repl n11 [(p.lit (.int .i64 0)),(p.lit (.int .i64 0)),(p.lit (.int .i64 0)),(p.lit (.int .i64 0))])) (p.eqN n11 (p.len (p.repl n11 [(p.lit (.int .i64 0)),(p.lit (.int .i64 0)),(p.lit (.int .i64 0)),(p.lit (.int .i64 0))])) (p.lenD (p.ld y9 0) fun x13=>p.bnd (p.loop [(qap p)] 0 [.d (p.ld y9 0),.d x13,.d (p.lit (.int .i64 0)),.m p.emp,.d a0,.d (p.ld y9 0),.n n11,.n n11,.d a3,.d (p.lit (.int .i64 0)),.d (p.lit (.int .i64 0)),.d a0,.d a1,.d a2,.d a3,.d (p.lit (.int .i64 0)),.d (p.lit (.int .i64 0)),.r (p.app (p.seg r12 none n11) (p.seg (p.repl n11 [(p.lit (.int .i64 0)),(p.lit (.int .i64 0)),(p.lit (.int .i64 0)),(p.lit (.int .i64 0))]) (some (p.len r12)) n11)),.d a0,.d (p.ld y9 0),.n n11,.n n11,.d a3]) [fun y14=>p.eqN n11 (p.len (p.lr y14 14)) (p.eqN n11 (p.len (p.lr y14 14)) (p.bnd (p.call 1000095 [p.ld y14 1,p.ld y14 2,(p.natD (p.ln y14 3)),(p.natD (p.ln y14 4)),p.ld y14 5,(p.slD 4 (p.lr y14 14)),(p.mpD true (p.lm y14 0))]) [fun y15=>p.rowsD 4 (p.ld y15 6) fun r16=>p.asM true (p.ld y15 7) fun q17=>p.un .not (p.ld y15 0) fun x18=>p.cond x18 (p.out 0 [.d a4,.d (p.lit (.int .i64 92)),.d (p.ld y14 12),.d (p.ld y14 13),.d (p.ld y14 6),.d (p.ld y14 7)]) (p.out 1 [.d a4,.d (p.lit (.int .i64 0)),.m q17,.r r16,.d (p.ld y15 1),.d (p.ld y15 2),.n (p.dN (p.ld y15 3)),.n (p.dN (p.ld y15 4)),.d (p.ld y15 5),.d (p.ld y14 12),.d (p.ld y14 13),.d (p.ld y14 6),.d (p.ld y14 7)])]))]))])]))])])
def qek (a0 a1 a2 a3: Δ):Ω:=(p.bnd (p.call 61 [a0]) [fun y0=>p.un .not (p.ld y0 0) fun x1=>p.cond x1 (p.out 0 [.d (p.lit (.int .i64 92)),.d (p.lit (.int .i64 0)),.d (p.lit (.int .i64 0))]) (p.bnd (p.call 62 [a0,a1]) [fun y2=>p.un .not (p.ld y2 0) fun x3=>p.cond x3 (p.out 0 [.d (p.lit (.int .i64 92)),.d (p.lit (.int .i64 0)),.d (p.lit (.int .i64 0))]) (p.lenD a2 fun x4=>p.bin .gtr false x4 (p.lit (.int .i64 120)) fun x5=>p.cond x5 (p.out 0 [.d (p.lit (.int .i64 92)),.d (p.lit (.int .i64 0)),.d (p.lit (.int .i64 0))]) (p.lenD a2 fun x6=>p.bnd (p.call 68 [a3,(p.lit (.int .i64 0)),x6]) [fun y7=>p.un .not (p.ld y7 0) fun x8=>p.cond x8 (p.out 0 [.d (p.lit (.int .i64 92)),.d (p.lit (.int .i64 0)),.d (p.lit (.int .i64 0))]) (p.bnd (p.call 63 [a1]) [fun y9=>p.lenD a2 fun x10=>p.mkN 32 x10 x10 fun n11=>p.rowsD 4 a2 fun r12=>p.eqN n11 (p.len (p.repl n11 [(p.lit (.int .i64 0)),(p.lit (.int .i64 0)),(p.lit (.int .i64 0)),(p.lit (.int .i64 0))])) (p.eqN n11 (p.len (p.repl n11 [(p.lit (.int .i64 0)),(p.lit (.int .i64 0)),(p.lit (.int .i64 0)),(p.lit (.int .i64 0))])) (p.lenD (p.ld y9 0) fun x13=>p.bnd (p.loop [(q6g p)] 0 [.d (p.ld y9 0),.d x13,.d (p.lit (.int .i64 0)),.m p.emp,.d a0,.d (p.ld y9 0),.n n11,.n n11,.d a3,.d (p.lit (.int .i64 0)),.d (p.lit (.int .i64 0)),.r (p.app (p.seg r12 none n11) (p.seg (p.repl n11 [(p.lit (.int .i64 0)),(p.lit (.int .i64 0)),(p.lit (.int .i64 0)),(p.lit (.int .i64 0))]) (some (p.len r12)) n11)),.d a0,.d (p.ld y9 0),.n n11,.n n11,.d a3]) [fun y14=>p.eqN n11 (p.len (p.lr y14 8)) (p.eqN n11 (p.len (p.lr y14 8)) (p.bnd (p.call 1000095 [p.ld y14 1,p.ld y14 2,(p.natD (p.ln y14 3)),(p.natD (p.ln y14 4)),p.ld y14 5,(p.slD 4 (p.lr y14 8)),(p.mpD true (p.lm y14 0))]) [fun y15=>p.rowsD 4 (p.ld y15 6) fun r16=>p.asM true (p.ld y15 7) fun q17=>p.un .not (p.ld y15 0) fun x18=>p.cond x18 (p.out 0 [.d (p.lit (.int .i64 92)),.d (p.ld y14 6),.d (p.ld y14 7)]) (p.out 1 [.d (p.lit (.int .i64 0)),.m q17,.r r16,.d (p.ld y15 1),.d (p.ld y15 2),.n (p.dN (p.ld y15 3)),.n (p.dN (p.ld y15 4)),.d (p.ld y15 5),.d (p.ld y14 6),.d (p.ld y14 7)])]))]))])]))])])
def qj8 (a0 a1 a2 a3 a4 a5 a6: Δ):Ω:=(p.bnd (p.call 61 [a0]) [fun y0=>p.un .not (p.ld y0 0) fun x1=>p.cond x1 (p.out 0 [.d a4,.d a5,.d a6,.d (p.lit (.int .i64 92)),.d (p.lit (.int .i64 0)),.d (p.lit (.int .i64 0))]) (p.bnd (p.call 62 [a0,a1]) [fun y2=>p.un .not (p.ld y2 0) fun x3=>p.cond x3 (p.out 0 [.d a4,.d a5,.d a6,.d (p.lit (.int .i64 92)),.d (p.lit (.int .i64 0)),.d (p.lit (.int .i64 0))]) (p.lenD a2 fun x4=>p.bin .gtr false x4 (p.lit (.int .i64 120)) fun x5=>p.cond x5 (p.out 0 [.d a4,.d a5,.d a6,.d (p.lit (.int .i64 92)),.d (p.lit (.int .i64 0)),.d (p.lit (.int .i64 0))]) (p.lenD a2 fun x6=>p.bnd (p.call 68 [a3,(p.lit (.int .i64 0)),x6]) [fun y7=>p.un .not (p.ld y7 0) fun x8=>p.cond x8 (p.out 0 [.d a4,.d a5,.d a6,.d (p.lit (.int .i64 92)),.d (p.lit (.int .i64 0)),.d (p.lit (.int .i64 0))]) (p.bnd (p.call 63 [a1]) [fun y9=>p.lenD a2 fun x10=>p.mkN 32 x10 x10 fun n11=>p.rowsD 4 a2 fun r12=>p.eqN n11 (p.len (p.repl n11 [(p.lit (.int .i64 0)),(p.lit (.int .i64 0)),(p.lit (.int .i64 0)),(p.lit (.int .i64 0))])) (p.eqN n11 (p.len (p.repl n11 [(p.lit (.int .i64 0)),(p.lit (.int .i64 0)),(p.lit (.int .i64 0)),(p.lit (.int .i64 0))])) (p.lenD (p.ld y9 0) fun x13=>p.bnd (p.loop [(q6g p)] 0 [.d (p.ld y9 0),.d x13,.d (p.lit (.int .i64 0)),.m p.emp,.d a0,.d (p.ld y9 0),.n n11,.n n11,.d a3,.d (p.lit (.int .i64 0)),.d (p.lit (.int .i64 0)),.r (p.app (p.seg r12 none n11) (p.seg (p.repl n11 [(p.lit (.int .i64 0)),(p.lit (.int .i64 0)),(p.lit (.int .i64 0)),(p.lit (.int .i64 0))]) (some (p.len r12)) n11)),.d a0,.d (p.ld y9 0),.n n11,.n n11,.d a3]) [fun y14=>p.eqN n11 (p.len (p.lr y14 8)) (p.eqN n11 (p.len (p.lr y14 8)) (p.bnd (p.call 1000095 [p.ld y14 1,p.ld y14 2,(p.natD (p.ln y14 3)),(p.natD (p.ln y14 4)),p.ld y14 5,(p.slD 4 (p.lr y14 8)),(p.mpD true (p.lm y14 0))]) [fun y15=>p.rowsD 4 (p.ld y15 6) fun r16=>p.asM true (p.ld y15 7) fun q17=>p.un .not (p.ld y15 0) fun x18=>p.cond x18 (p.out 0 [.d a4,.d a5,.d a6,.d (p.lit (.int .i64 92)),.d (p.ld y14 6),.d (p.ld y14 7)]) (p.out 1 [.d a4,.d a5,.d a6,.d (p.lit (.int .i64 0)),.m q17,.r r16,.d (p.ld y15 1),.d (p.ld y15 2),.n (p.dN (p.ld y15 3)),.n (p.dN (p.ld y15 4)),.d (p.ld y15 5),.d (p.ld y14 6),.d (p.ld y14 7)])]))]))])]))])])
end
theorem l19 (n:Nat) (o:Option (List Brd)) (hl:(o.getD []).length≤4611686018427387904) (hr:qat (o.getD [])) (c0:D) (c1:D) (c2:Nat) (c3:Nat) (c4:D) (c5:D) (c6:D) (c7:D) (c8:D) (c9:D) (c10:D) (c11:D) (c12:D) (c13:Rr) (c14:D) (c15:D) (c16:Nat) (c17:Nat) (c18:D) :
  q1b [qap (RP n)] M0 0 [.d (dB o),.d (il (o.getD []).length),.d (il 0),.m ([],[]),.d c0,.d c1,.n c2,.n c3,.d c4,.d c5,.d c6,.d c7,.d c8,.d c9,.d c10,.d c11,.d c12,.r c13,.d c14,.d c15,.n c16,.n c17,.d c18] =
   some (0,[.m (mapM (o.getD []) (new (o.getD []))),.d c0,.d c1,.n c2,.n c3,.d c4,.d c5,.d c6,.d c7,.d c8,.d c9,.d c10,.d c11,.d c12,.r c13,.d c14,.d c15,.n c16,.n c17,.d c18]):=by
 have:=q0L (β:=Unit) (o.getD []) hl (qap (RP n)) (fun i _=>[.d (dB o),.d (il (o.getD []).length),.d (il i),.m (mapM ((o.getD []).take i) (new ((o.getD []).take i))),.d c0,.d c1,.n c2,.n c3,.d c4,.d c5,.d c6,.d c7,.d c8,.d c9,.d c10,.d c11,.d c12,.r c13,.d c14,.d c15,.n c16,.n c17,.d c18]) (fun _ _=>True)
  (fun _ _ _=>some (0,[.m (mapM (o.getD []) (new (o.getD []))),.d c0,.d c1,.n c2,.n c3,.d c4,.d c5,.d c6,.d c7,.d c8,.d c9,.d c10,.d c11,.d c12,.r c13,.d c14,.d c15,.n c16,.n c17,.d c18])) ?_ ?_ M0 () trivial (q2K hl)
 ·exact this
 ·intro _ k _
  simp [qap,List.take_length]
 ·intro i e r _ k hi hd hlt hw _ ih
  have hlt':(i:Int) < ((o.getD []).length:Int):=by omega
  have ih':=ih () trivial
  rw [q1h,q4k hi,q5s] at ih'
  have hadd:=fun k=>q9G (Fn:=FN n) (FnD:=q2L Tryd.prog (cf3 tb Tryd.prog) (FN n)) (m:=M0) (q1l ((o.getD []).take i)) (q7v hr hi) fd0 k
  have hlen:((o.getD []).take i).length=i:=by simp;omega
  simp only [q6U,hlen] at hadd
  simp only [qap,mapM,q06,q0a,q0p,q0q,q0e,q0g,q0h,q0j,q0V,hlt',decide_true,q04,if_true,q6y hi,cB0,q0k,q0O,q2b,q0I,q11,q0o,q09,q0u,q0v,List.length_map,q1l,hlen,hadd,q0T,hw]
  exact ih'
theorem op9 (n:Nat) (me h:Int) (b:Option (List Brd)) (o:Option (List Stk)) (a:D) (hl:(o.getD []).length≤4611686018427387904) (hb:(b.getD []).length≤4611686018427387904) :
  opn9 (RP (n+4)) (il me) (dB b) (dS o) (il h) a=if okP me (b.getD []) (o.getD []) h=true then some (1,[.d a,.d (il 0),.m (mapM (b.getD []) (pg me (b.getD []) (o.getD []))),.r ((o.getD []).map rS),.d (il me),.d (dB b),.n (o.getD []).length,.n (o.getD []).length,.d (il h),.d (il 0),.d (il 0),.d (il 0),.d (il 0)]) else some (0,[.d a,.d (il 92),.d (il 0),.d (il 0),.d (il 0),.d (il 0)]):=by
 simp only [opn9,q0i,s61,s62 _ _ _ hb,s68,q5c,q02,q06,q0E,q04,q0t,q09,q2s,okP]
 by_cases h1:par me=true
 ·by_cases h2:q1T me (b.getD [])=true
  ·have h2':=h2
   simp only [q1T,Bool.and_eq_true,decide_eq_true_eq] at h2'
   by_cases h3:(o.getD []).length≤120
   ·have h3':¬ ((120:Int) < (o.getD []).length):=by omega
    by_cases h4:inn h 0 (o.getD []).length=true
    ·have hmk:0≤((o.getD []).length:Int)∧((32:Nat):Int)*((o.getD []).length:Int)≤140737488355328∧((o.getD []).length:Int)≤9223372036854775807:=by omega
     simp only [h1,h2,h3,h3',h4,Bool.not_true,Bool.false_eq_true,if_false,if_true,decide_true,decide_false,Bool.true_and,s63 _ _ h2'.2,q02,q06,q6Z,hmk,and_self,Int.toNat_natCast,q6T,q6Y,q0v,List.length_replicate,q0O,q5c,q9F,q0I,q0K,q6X,q10,List.length_map]
     have hseg:=q4G ((o.getD []).map rS) [il 0,il 0,il 0,il 0]
     rw [List.length_map] at hseg
     rw [hseg,l19 _ _ hb (q2Y h2'.1)]
     simp only [q02,q06,q0a,q0p,q0e,q0g,q0h,q0j,List.length_map,if_true,q1A,q2N,q4O,mapM]
     rw [q4H _ _ hb (q1M h2) _ (by omega) _ _ _ _ _ (q1l _)]
     simp only [q02,q06,q0a,q1O,q0E,q04,qaK]
     have ha:∀ (a:List Value) (b:Rr) (k:Mr→Out),(RP (n+4)).asM true (.mp true a b) k=k (a,b):=fun _ _ _=>rfl
     rw [ha]
     simp only [pg]
     rw [show (b.getD []).map (fun _=>fd0)=new (b.getD []) from rfl]
     cases (q19 me (b.getD []) (new (b.getD [])) (o.getD [])).2<;>rfl
    ·simp [h1,h2,h3,h3',h4]
   ·have h3':((120:Int) < (o.getD []).length):=by omega
    simp [h1,h2,h3,h3']
  ·simp [h1,h2]
 ·simp [h1]
theorem op25 (n:Nat) (me h:Int) (b:Option (List Brd)) (o:Option (List Stk)) (hl:(o.getD []).length≤4611686018427387904) (hb:(b.getD []).length≤4611686018427387904) :
  qek (RP (n+4)) (il me) (dB b) (dS o) (il h)=if okP me (b.getD []) (o.getD []) h=true then some (1,[.d (il 0),.m (mapM (b.getD []) (pg me (b.getD []) (o.getD []))),.r ((o.getD []).map rS),.d (il me),.d (dB b),.n (o.getD []).length,.n (o.getD []).length,.d (il h),.d (il 0),.d (il 0)]) else some (0,[.d (il 92),.d (il 0),.d (il 0)]):=by
 simp only [qek,q0i,s61,s62 _ _ _ hb,s68,q5c,q02,q06,q0E,q04,q0t,q09,q2s,okP]
 by_cases h1:par me=true
 ·by_cases h2:q1T me (b.getD [])=true
  ·have h2':=h2
   simp only [q1T,Bool.and_eq_true,decide_eq_true_eq] at h2'
   by_cases h3:(o.getD []).length≤120
   ·have h3':¬ ((120:Int) < (o.getD []).length):=by omega
    by_cases h4:inn h 0 (o.getD []).length=true
    ·have hmk:0≤((o.getD []).length:Int)∧((32:Nat):Int)*((o.getD []).length:Int)≤140737488355328∧((o.getD []).length:Int)≤9223372036854775807:=by omega
     simp only [h1,h2,h3,h3',h4,Bool.not_true,Bool.false_eq_true,if_false,if_true,decide_true,decide_false,Bool.true_and,s63 _ _ h2'.2,q02,q06,q6Z,hmk,and_self,Int.toNat_natCast,q6T,q6Y,q0v,List.length_replicate,q0O,q5c,q9F,q0I,q0K,q6X,q10,List.length_map]
     have hseg:=q4G ((o.getD []).map rS) [il 0,il 0,il 0,il 0]
     rw [List.length_map] at hseg
     rw [hseg,l43 _ _ hb (q2Y h2'.1)]
     simp only [q02,q06,q0a,q0p,q0e,q0g,q0h,q0j,List.length_map,if_true,q1A,q2N,q4O,mapM]
     rw [q4H _ _ hb (q1M h2) _ (by omega) _ _ _ _ _ (q1l _)]
     simp only [q02,q06,q0a,q1O,q0E,q04,qaK]
     have ha:∀ (a:List Value) (b:Rr) (k:Mr→Out),(RP (n+4)).asM true (.mp true a b) k=k (a,b):=fun _ _ _=>rfl
     rw [ha]
     simp only [pg]
     rw [show (b.getD []).map (fun _=>fd0)=new (b.getD []) from rfl]
     cases (q19 me (b.getD []) (new (b.getD [])) (o.getD [])).2<;>rfl
    ·simp [h1,h2,h3,h3',h4]
   ·have h3':((120:Int) < (o.getD []).length):=by omega
    simp [h1,h2,h3,h3']
  ·simp [h1,h2]
 ·simp [h1]
theorem op27 (n:Nat) (me h:Int) (b:Option (List Brd)) (o:Option (List Stk)) (x:D) (y:D) (z:D) (hl:(o.getD []).length≤4611686018427387904) (hb:(b.getD []).length≤4611686018427387904) :
  qj8 (RP (n+4)) (il me) (dB b) (dS o) (il h) x y z=if okP me (b.getD []) (o.getD []) h=true then some (1,[.d x,.d y,.d z,.d (il 0),.m (mapM (b.getD []) (pg me (b.getD []) (o.getD []))),.r ((o.getD []).map rS),.d (il me),.d (dB b),.n (o.getD []).length,.n (o.getD []).length,.d (il h),.d (il 0),.d (il 0)]) else some (0,[.d x,.d y,.d z,.d (il 92),.d (il 0),.d (il 0)]):=by
 simp only [qj8,q0i,s61,s62 _ _ _ hb,s68,q5c,q02,q06,q0E,q04,q0t,q09,q2s,okP]
 by_cases h1:par me=true
 ·by_cases h2:q1T me (b.getD [])=true
  ·have h2':=h2
   simp only [q1T,Bool.and_eq_true,decide_eq_true_eq] at h2'
   by_cases h3:(o.getD []).length≤120
   ·have h3':¬ ((120:Int) < (o.getD []).length):=by omega
    by_cases h4:inn h 0 (o.getD []).length=true
    ·have hmk:0≤((o.getD []).length:Int)∧((32:Nat):Int)*((o.getD []).length:Int)≤140737488355328∧((o.getD []).length:Int)≤9223372036854775807:=by omega
     simp only [h1,h2,h3,h3',h4,Bool.not_true,Bool.false_eq_true,if_false,if_true,decide_true,decide_false,Bool.true_and,s63 _ _ h2'.2,q02,q06,q6Z,hmk,and_self,Int.toNat_natCast,q6T,q6Y,q0v,List.length_replicate,q0O,q5c,q9F,q0I,q0K,q6X,q10,List.length_map]
     have hseg:=q4G ((o.getD []).map rS) [il 0,il 0,il 0,il 0]
     rw [List.length_map] at hseg
     rw [hseg,l43 _ _ hb (q2Y h2'.1)]
     simp only [q02,q06,q0a,q0p,q0e,q0g,q0h,q0j,List.length_map,if_true,q1A,q2N,q4O,mapM]
     rw [q4H _ _ hb (q1M h2) _ (by omega) _ _ _ _ _ (q1l _)]
     simp only [q02,q06,q0a,q1O,q0E,q04,qaK]
     have ha:∀ (a:List Value) (b:Rr) (k:Mr→Out),(RP (n+4)).asM true (.mp true a b) k=k (a,b):=fun _ _ _=>rfl
     rw [ha]
     simp only [pg]
     rw [show (b.getD []).map (fun _=>fd0)=new (b.getD []) from rfl]
     cases (q19 me (b.getD []) (new (b.getD [])) (o.getD [])).2<;>rfl
    ·simp [h1,h2,h3,h3',h4]
   ·have h3':((120:Int) < (o.getD []).length):=by omega
    simp [h1,h2,h3,h3']
  ·simp [h1,h2]
 ·simp [h1]
end
end Go.VE
