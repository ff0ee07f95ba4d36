/- Family: the reference's homes. -/
import Derived.Test.YtobeabinccohlaaGreatMg1
set_option maxRecDepth 20000
namespace Go.VE
open Go.RowKit Go.Proofs
section
theorem mV (n:Nat) (x:Int):FN (n+1) 92 [.lit (.slice none 0 0),il x]=some (0,[.d (dI (some [x]))]):=Fq n none x (by simp) (by simp)
def EQ (d who:Int) (a b c o:D) (m:Nat) (acc:List Int):Nat×List Yr:=match acc with
 | []=>(0,[.d (il who),.d (il d),.d a,.d b,.d c,.d o,.d (il ((m:Int) - 1))])
 | y::r=>(1,[.d (il who),.d (il d),.d a,.d b,.d c,.d o,.d (dI (some (y::r))),.d (il ((m:Int) - 1))])
def Q78 (n:Nat) (T:List Int) (r:aq):Prop :=
 (∃ acc:List Int,acc≠[]∧Up acc∧acc.length≤n∧((r=some (2,[.d (dI (some acc))])∧acc=T)∨(r=some (3,[.d (dI (some acc))])∧ins 0 acc=T)))∨(r=some (1,[])∧ins 0 []=T)
theorem lk (f1 f2 t1 t2 d:Int):wg f1 f2 t1 t2 d≠0↔bh f1 t2 d=true:=by unfold wg;repeat' split;all_goals simp_all
theorem dy (f1 f2 t1 t2 d:Int) (h:bh f1 t2 d=true):wg f1 f2 t1 t2 d=1↔bq f2 t1 d=true:=by unfold wg;rw [T1 h];split<;>simp_all
theorem lj (f1 f2 t1 t2 d:Int) (h:¬ bh f1 t2 d=true):wg f1 f2 t1 t2 d=0:=by unfold wg;rw [T5 h]
theorem l78 (n:Nat) (a:Option (List E9)) (b c o:D) (d who:Int) (hl:(a.getD []).length≤1000000) :
  Q78 (a.getD []).length (cg f0 [] (aG d who (below (a.getD []) (a.getD []).length))) (ax [qV (RP (n+4)),qU (RP (n+4))] M0 0 [il who,il d,d9 a,b,c,o,il (((a.getD []).length:Int) - 1)]):=by
 have:=eZ (σ:=Nat×List Int) [qV (RP (n+4)),qU (RP (n+4))] (fun s=>EQ d who (d9 a) b c o s.1 s.2) (fun s=>s.1)
  (fun s=>s.1≤(a.getD []).length∧Up s.2∧s.2.length+s.1≤(a.getD []).length∧cg f0 s.2 (aG d who (below (a.getD []) s.1))=cg f0 [] (aG d who (below (a.getD []) (a.getD []).length)))
  (Q78 (a.getD []).length (cg f0 [] (aG d who (below (a.getD []) (a.getD []).length)))) ?_ M0 ((a.getD []).length,[]) ⟨Tf _,by simp,by simp,rfl⟩ (by unfold M0;simp only;omega)
 ·exact this
 ·generalize cg f0 [] (aG d who (below (a.getD []) (a.getD []).length))=T
  rintro ⟨m,acc⟩ k ⟨g1,g2,g3,g4⟩ ih
  simp only at g1 g2 g3 g4 ih
  cases m with
  | zero =>
   rw [ib] at g4
   cases acc with
   | nil =>
    refine ⟨qV (RP (n+4)),rfl,.inr ⟨?_,g4⟩⟩
    simp [EQ,qV]
   | cons y r =>
    refine ⟨qU (RP (n+4)),rfl,.inl ⟨y::r,by simp,g2,by omega,.inr ⟨?_,g4⟩⟩⟩
    simp [EQ,qU]
  | succ m =>
   obtain ⟨e,he⟩:∃ e,(a.getD [])[m]?=some e:=⟨_,Tc (by omega)⟩
   rw [fF he,aG] at g4
   have hm:(((m+1:Nat):Int) - 1)=((m:Nat):Int):=by omega
   have hw:IntKind.i64.wrap (((m:Nat):Int) - 1)=((m:Nat):Int) - 1:=aE (by omega) (by omega)
   cases acc with
   | nil =>
    refine ⟨qV (RP (n+4)),rfl,?_⟩
    simp only [EQ,hm,qV,ac,ag,ae,bQ,aa]
    rw [T1 (by simp)]
    simp only [ct he,r9,ak,ar,aL,aa,br,hw,T4]
    by_cases h1:e.a=who
    ·rw [T5 (by simp [h1])]
     simp only [ah,C3,ab,ac,aL,aa,aV,T4]
     by_cases h2:bh e.f1 e.t2 d=true
     ·rw [T1 ((lk _ _ _ _ _).2 h2)]
      rw [T1 ⟨h1,h2⟩] at g4
      simp only [cc,mV,ab,ac]
      by_cases h3:bq e.f2 e.t1 d=true
      ·rw [T1 h3] at g4
       rw [T1 ((dy _ _ _ _ _ h2).2 h3)]
       exact .inl ⟨[e.b],by simp,by simp,by simp;omega,.inl ⟨rfl,g4⟩⟩
      ·rw [T5 h3] at g4
       rw [T5 fun h=>h3 ((dy _ _ _ _ _ h2).1 h)]
       exact ih (m,[e.b]) ⟨by simp only;omega,by simp,by simp only [Wt];omega,g4⟩ (by simp only;omega)
     ·rw [lj _ _ _ _ _ h2,T5 (by simp),T5 (by simp)]
      rw [T5 fun h=>h2 h.2] at g4
      exact ih (m,[]) ⟨by simp only;omega,g2,by simp only [Td];omega,g4⟩ (by simp only;omega)
    ·rw [T1 (by simp [h1])]
     rw [T5 fun h=>h1 h.1] at g4
     exact ih (m,[]) ⟨by simp only;omega,g2,by simp only [Td];omega,g4⟩ (by simp only;omega)
   | cons y r =>
    refine ⟨qU (RP (n+4)),rfl,?_⟩
    simp only [EQ,hm,qU,ac,ag,ae,bQ,aa]
    rw [T1 (by simp)]
    simp only [ct he,r9,ak,ar,aL,aa,br,hw,T4]
    by_cases h1:e.a=who
    ·rw [T5 (by simp [h1])]
     simp only [ah,C3,ab,ac,aL,aa,aV,T4]
     by_cases h2:bh e.f1 e.t2 d=true
     ·rw [T1 ((lk _ _ _ _ _).2 h2)]
      rw [T1 ⟨h1,h2⟩] at g4
      have hput:=Fq (n+3) (some (y::r)) e.b (by simp only [T7,Tb] at g3 ⊢;omega) g2
      simp only [T7] at hput
      simp only [hput,ab,ac]
      have hil:=fJ e.b (y::r)
      have hne:=md e.b (y::r)
      have hup:=gc e.b g2
      by_cases h3:bq e.f2 e.t1 d=true
      ·rw [T1 h3] at g4
       rw [T1 ((dy _ _ _ _ _ h2).2 h3)]
       exact .inl ⟨ins e.b (y::r),hne,hup,by simp only [Tb] at g3 hil ⊢;omega,.inl ⟨rfl,g4⟩⟩
      ·rw [T5 h3] at g4
       rw [T5 fun h=>h3 ((dy _ _ _ _ _ h2).1 h)]
       have:=ih (m,ins e.b (y::r)) ⟨by simp only;omega,hup,by simp only [Tb] at g3 hil ⊢;omega,g4⟩ (by simp only;omega)
       revert this
       generalize ins e.b (y::r)=q at hne
       cases q with
       | nil=>exact absurd rfl hne
       | cons z zs=>intro this;exact this
     ·rw [lj _ _ _ _ _ h2,T5 (by simp),T5 (by simp)]
      rw [T5 fun h=>h2 h.2] at g4
      exact ih (m,y::r) ⟨by simp only;omega,g2,by simp only at g3 ⊢;omega,g4⟩ (by simp only;omega)
    ·rw [T1 (by simp [h1])]
     rw [T5 fun h=>h1 h.1] at g4
     exact ih (m,y::r) ⟨by simp only;omega,g2,by simp only at g3 ⊢;omega,g4⟩ (by simp only;omega)
end
section
theorem ve (d who:Int) (l:List E9):Up (aY d who l):=nO _ _ (by simp)
theorem s78 (n:Nat) (a:Option (List E9)) (b c o:D) (d who:Int) (hl:(a.getD []).length≤1000000):FN (n+5) 78 [d9 a,b,c,o,il who,il d]=some (0,[.d (dI (some (aY d who (a.getD []))))]):=by
 rw [FS,NB]
 simp only [G78,cS,ae,br]
 rw [aE (by omega) (by omega),aD]
 have h:=l78 n a b c o d who hl
 unfold Q78 at h
 rw [show aY d who (a.getD [])=cg f0 [] (aG d who (below (a.getD []) (a.getD []).length)) from rfl]
 rcases h with ⟨acc,hne,hup,hle,(⟨hr,hT⟩ | ⟨hr,hT⟩)⟩ | ⟨hr,hT⟩
 ·rw [hr,← hT];simp
 ·rw [hr,← hT]
  have hput:=Fq (n+3) (some acc) 0 (by simp only [T7];omega) hup
  simp only [T7] at hput
  simp [hput]
 ·rw [hr,← hT]
  simp [mV,ins]
theorem F5 (ok:Bool) (p:Int) (ds:List Int):aQ ok true true p 1 ds=aQ ok true false p 0 ds:=by
 unfold aQ;simp
end
section
def fm (o:Option Int):Int:=o.getD (-1)
def cM (d who:Int) (l:List E9):List Int:=cg fm [] (aG d who (below l l.length))
def wH (d who:Int) (a b c o:D) (m:Nat) (acc:List Int):Nat×List Yr:=match acc with
 | []=>(0,[.d (il who),.d (il d),.d a,.d b,.d c,.d o,.d (il ((m:Int) - 1))])
 | y::r=>(1,[.d (il who),.d (il d),.d a,.d b,.d c,.d o,.d (dI (some (y::r))),.d (il ((m:Int) - 1))])
def N7 (n:Nat) (T:List Int) (r:aq):Prop :=
 (∃ acc:List Int,acc≠[]∧Up acc∧acc.length≤n∧((r=some (2,[.d (dI (some acc))])∧acc=T)∨(r=some (3,[.d (dI (some acc))])∧ins (-1) acc=T)))∨(r=some (1,[])∧ins (-1) []=T)
theorem l165 (n:Nat) (a:Option (List E9)) (b c o:D) (d who:Int) (hl:(a.getD []).length≤1000000) :
  N7 (a.getD []).length (cg fm [] (aG d who (below (a.getD []) (a.getD []).length))) (ax [mu (RP (n+4)),mt (RP (n+4))] M0 0 [il who,il d,b,c,d9 a,o,il (((a.getD []).length:Int) - 1)]):=by
 have:=eZ (σ:=Nat×List Int) [mu (RP (n+4)),mt (RP (n+4))] (fun s=>wH d who b c (d9 a) o s.1 s.2) (fun s=>s.1)
  (fun s=>s.1≤(a.getD []).length∧Up s.2∧s.2.length+s.1≤(a.getD []).length∧cg fm s.2 (aG d who (below (a.getD []) s.1))=cg fm [] (aG d who (below (a.getD []) (a.getD []).length)))
  (N7 (a.getD []).length (cg fm [] (aG d who (below (a.getD []) (a.getD []).length)))) ?_ M0 ((a.getD []).length,[]) ⟨Tf _,by simp,by simp,rfl⟩ (by unfold M0;simp only;omega)
 ·exact this
 ·generalize cg fm [] (aG d who (below (a.getD []) (a.getD []).length))=T
  rintro ⟨m,acc⟩ k ⟨g1,g2,g3,g4⟩ ih
  simp only at g1 g2 g3 g4 ih
  cases m with
  | zero =>
   rw [ib] at g4
   cases acc with
   | nil =>
    refine ⟨mu (RP (n+4)),rfl,.inr ⟨?_,g4⟩⟩
    simp [wH,mu]
   | cons y r =>
    refine ⟨mt (RP (n+4)),rfl,.inl ⟨y::r,by simp,g2,by omega,.inr ⟨?_,g4⟩⟩⟩
    simp [wH,mt]
  | succ m =>
   obtain ⟨e,he⟩:∃ e,(a.getD [])[m]?=some e:=⟨_,Tc (by omega)⟩
   rw [fF he,aG] at g4
   have hm:(((m+1:Nat):Int) - 1)=((m:Nat):Int):=by omega
   have hw:IntKind.i64.wrap (((m:Nat):Int) - 1)=((m:Nat):Int) - 1:=aE (by omega) (by omega)
   cases acc with
   | nil =>
    refine ⟨mu (RP (n+4)),rfl,?_⟩
    simp only [wH,hm,mu,ac,ag,ae,bQ,aa]
    rw [T1 (by simp)]
    simp only [ct he,r9,ak,ar,aL,aa,br,hw,T4]
    by_cases h1:e.a=who
    ·rw [T5 (by simp [h1])]
     simp only [ah,C3,ab,ac,aL,aa,aV,T4]
     by_cases h2:bh e.f1 e.t2 d=true
     ·rw [T1 ((lk _ _ _ _ _).2 h2)]
      rw [T1 ⟨h1,h2⟩] at g4
      simp only [cc,mV,ab,ac]
      by_cases h3:bq e.f2 e.t1 d=true
      ·rw [T1 h3] at g4
       rw [T1 ((dy _ _ _ _ _ h2).2 h3)]
       exact .inl ⟨[e.b],by simp,by simp,by simp;omega,.inl ⟨rfl,g4⟩⟩
      ·rw [T5 h3] at g4
       rw [T5 fun h=>h3 ((dy _ _ _ _ _ h2).1 h)]
       exact ih (m,[e.b]) ⟨by simp only;omega,by simp,by simp only [Wt];omega,g4⟩ (by simp only;omega)
     ·rw [lj _ _ _ _ _ h2,T5 (by simp),T5 (by simp)]
      rw [T5 fun h=>h2 h.2] at g4
      exact ih (m,[]) ⟨by simp only;omega,g2,by simp only [Td];omega,g4⟩ (by simp only;omega)
    ·rw [T1 (by simp [h1])]
     rw [T5 fun h=>h1 h.1] at g4
     exact ih (m,[]) ⟨by simp only;omega,g2,by simp only [Td];omega,g4⟩ (by simp only;omega)
   | cons y r =>
    refine ⟨mt (RP (n+4)),rfl,?_⟩
    simp only [wH,hm,mt,ac,ag,ae,bQ,aa]
    rw [T1 (by simp)]
    simp only [ct he,r9,ak,ar,aL,aa,br,hw,T4]
    by_cases h1:e.a=who
    ·rw [T5 (by simp [h1])]
     simp only [ah,C3,ab,ac,aL,aa,aV,T4]
     by_cases h2:bh e.f1 e.t2 d=true
     ·rw [T1 ((lk _ _ _ _ _).2 h2)]
      rw [T1 ⟨h1,h2⟩] at g4
      have hput:=Fq (n+3) (some (y::r)) e.b (by simp only [T7,Tb] at g3 ⊢;omega) g2
      simp only [T7] at hput
      simp only [hput,ab,ac]
      have hil:=fJ e.b (y::r)
      have hne:=md e.b (y::r)
      have hup:=gc e.b g2
      by_cases h3:bq e.f2 e.t1 d=true
      ·rw [T1 h3] at g4
       rw [T1 ((dy _ _ _ _ _ h2).2 h3)]
       exact .inl ⟨ins e.b (y::r),hne,hup,by simp only [Tb] at g3 hil ⊢;omega,.inl ⟨rfl,g4⟩⟩
      ·rw [T5 h3] at g4
       rw [T5 fun h=>h3 ((dy _ _ _ _ _ h2).1 h)]
       have:=ih (m,ins e.b (y::r)) ⟨by simp only;omega,hup,by simp only [Tb] at g3 hil ⊢;omega,g4⟩ (by simp only;omega)
       revert this
       generalize ins e.b (y::r)=q at hne
       cases q with
       | nil=>exact absurd rfl hne
       | cons z zs=>intro this;exact this
     ·rw [lj _ _ _ _ _ h2,T5 (by simp),T5 (by simp)]
      rw [T5 fun h=>h2 h.2] at g4
      exact ih (m,y::r) ⟨by simp only;omega,g2,by simp only at g3 ⊢;omega,g4⟩ (by simp only;omega)
    ·rw [T1 (by simp [h1])]
     rw [T5 fun h=>h1 h.1] at g4
     exact ih (m,y::r) ⟨by simp only;omega,g2,by simp only at g3 ⊢;omega,g4⟩ (by simp only;omega)
theorem De (d who:Int) (l:List E9):Up (cM d who l):=nO _ _ (by simp)
theorem s165 (n:Nat) (a:Option (List E9)) (b c o:D) (d who:Int) (hl:(a.getD []).length≤1000000):FN (n+5) 165 [b,c,d9 a,o,il who,il d]=some (0,[.d (dI (some (cM d who (a.getD []))))]):=by
 rw [FS,Ib]
 simp only [G165,cS,ae,br]
 rw [aE (by omega) (by omega),aD]
 have h:=l165 n a b c o d who hl
 unfold N7 at h
 rw [show cM d who (a.getD [])=cg fm [] (aG d who (below (a.getD []) (a.getD []).length)) from rfl]
 rcases h with ⟨acc,hne,hup,hle,(⟨hr,hT⟩ | ⟨hr,hT⟩)⟩ | ⟨hr,hT⟩
 ·rw [hr,← hT];simp
 ·rw [hr,← hT]
  have hput:=Fq (n+3) (some acc) (-1) (by simp only [T7];omega) hup
  simp only [T7] at hput
  simp [hput]
 ·rw [hr,← hT]
  simp [mV,ins]
end
section
def dJ (d who:Int) (l:List E5):Bool:=l.any fun e=>decide (e.a=who∧e.day=d - 1)
theorem G6 (n:Nat) (x y z:D) (o:Option (List E5)) (d who:Int) (hd:0≤d∧d≤4166) (hl:(o.getD []).length≤4611686018427387904):FN (n+1) 164 [x,y,z,d5 o,il who,il d]=some (0,[.d (bl (dJ d who (o.getD [])))]):=by
 rw [FS,Ic]
 simp only [G164,yD,ae,aD]
 have:=be (β:=Unit) (o.getD []) hl (uC (RP n)) (fun i _=>[.d (il who),.d (il d),.d (d5 o),.d (il (o.getD []).length),.d (il i)]) (fun _ _=>True)
  (fun _ r _=>if dJ d who r=true then some (0,[.d (bl true)]) else some (1,[]))
  (fun _ k _=>by simp [uC,dJ]) ?_ M0 () trivial (cj hl)
 ·simp only [V9] at this
  rw [this]
  by_cases h:dJ d who (o.getD [])=true<;>simp [h]
 ·intro i e r _ k hi hd' hlt hw _ ih
  have ih':=ih () trivial
  have hlt':(i:Int) < ((o.getD []).length:Int):=by omega
  have hwd:IntKind.i64.wrap (d - 1)=d - 1:=aE (by omega) (by omega)
  simp only [uC,ac,ag,aC,aa,hlt',T8,T6,vz hi,r5,ak,ar,aV,ae,br,hwd,ay,hw,aK,ao,T4]
  have hb:dJ d who (e::r)=(decide (e.a=who∧e.day=d - 1)||dJ d who r):=rfl
  rw [hb]
  by_cases h1:e.a=who
  ·rw [T1 h1]
   by_cases h2:e.day=d - 1
   ·rw [T1 h2];simp [h1,h2]
   ·rw [T5 h2]
    simp only [h2,W5,Tk,W8]
    exact ih'
  ·rw [T5 h1]
   simp only [h1,Xn,Tk,W8]
   exact ih'
theorem s218 (n:Nat) (e:E5) (d who:Int) (hd:0≤d∧d≤4166):FN (n+1) 218 (r5 e++[il who,il d])=some (0,[.d (bl (decide (e.a=who∧e.day=d - 1)))]):=by
 rw [r5]
 simp only [Tr,V5]
 rw [FS,Hx]
 have hwd:IntKind.i64.wrap (d - 1)=d - 1:=aE (by omega) (by omega)
 simp only [G218,aV,aa,ae,br,hwd,ao,aK]
 by_cases h:e.a=who<;>simp [h]
theorem d218 (n:Nat) (e:E5) (d who:Int) (hd:0≤d∧d≤4166):FD (n+1) (.fn 218 [.dp [il who] 0,.dp [il d] 0]) [.agg 5] (r5 e)=some (0,[.d (bl (decide (e.a=who∧e.day=d - 1)))]) :=
 fj [.agg 5,.ptr 1,.ptr 1] [.agg (r5 e)] (by decide) rfl (by kernel_rfl) rfl (by kernel_rfl) (s218 n e d who hd)
theorem s214 (n:Nat) (x y z:D) (o:Option (List E5)) (d who:Int) (hd:0≤d∧d≤4166) (hl:(o.getD []).length≤4611686018427387904):FN (n+5) 214 [x,y,z,d5 o,il who,il d]=some (0,[.d (bl (dJ d who (o.getD [])))]):=by
 rw [FS,Hz]
 simp only [G214,ah,gp,gO,s125 (n+1) o hl (.fn 218 [.dp [il who] 0,.dp [il d] 0]) _ (fun e _=>d218 n e d who hd),ab,ac,ao]
 rfl
end
section
theorem lY (f:Option Int→Int):∀ (os:List (Option Int)) (acc:List Int),(cg f acc os).length≤acc.length+os.length
 | [],acc=>by simp [cg]
 | o::os,acc=>by
  have h1:=lY f os (ins (f o) acc)
  have h2:=fJ (f o) acc
  show (cg f (ins (f o) acc) os).length≤_
  simp only [Tb];omega
theorem qi (d who:Int):∀ l:List E9,(aG d who l).length≤l.length+1
 | []=>by simp [aG]
 | e::r=>by
  have:=qi d who r
  simp only [aG]
  split
  ·split<;>simp<;>omega
  ·simp;omega
theorem sC (l:List E9) (m:Nat):(below l m).length≤l.length:=by simp [below];omega
theorem o7 (d who:Int) (l:List E9):(aY d who l).length≤l.length+1:=by
 have h1:=lY f0 (aG d who (below l l.length)) []
 have h2:=qi d who (below l l.length)
 have h3:=sC l l.length
 unfold aY;simp only [Td] at h1;omega
theorem sD (d who:Int) (l:List E9):(cM d who l).length≤l.length+1:=by
 have h1:=lY fm (aG d who (below l l.length)) []
 have h2:=qi d who (below l l.length)
 have h3:=sC l l.length
 unfold cM;simp only [Td] at h1;omega
def v9 (b:Bool) (q r:List Int):Int:=if (b||decide (q=[0])||!decide (-1∈r))=true then 0 else if 0∈q∨1 < r.length then 2 else 1
theorem s166 (n:Nat) (a c:Option (List E9)) (o:Option (List E5)) (b:D) (d who:Int) (hd:0≤d∧d≤4166) (ha:(a.getD []).length≤1000) (hc:(c.getD []).length≤1000) (ho:(o.getD []).length≤1000) :
  FN (n+6) 166 [d9 a,b,d9 c,d5 o,il who,il d]=some (0,[.d (il (v9 (dJ d who (o.getD [])) (aY d who (a.getD [])) (cM d who (c.getD []))))]):=by
 rw [FS,Ia]
 have l1:=o7 d who (a.getD [])
 have l2:=sD d who (c.getD [])
 simp only [G166,ah,s78 n a b (d9 c) (d5 o) d who (by omega),s165 n c (d9 a) b (d5 o) d who (by omega),G6 (n+4) (d9 a) b (d9 c) o d who hd (by omega),ab,ac,aa,ae,ao,cA,T7,aV,aK]
 generalize aY d who (a.getD [])=q at l1 ⊢
 generalize cM d who (c.getD [])=r at l2 ⊢
 have h41a:=s41 (n+4) (some r) (-1) (by simp only [T7];omega)
 have h41b:=s41 (n+4) (some q) 0 (by simp only [T7];omega)
 simp only [T7] at h41a h41b
 unfold v9
 cases dJ d who (o.getD []) with
 | true=>simp
 | false =>
  simp only [T0,T9,W8]
  have row0:∀ (v:Int) (t:List Int) (k:List D→aq),(RP (n+5)).rowD 1 (dI (some (v::t))) (il 0) k=k (rI v):=fun v t k=>by
   have:=cQ (Fn:=FN (n+5)) (FnD:=c6 Tryz.prog (di tb Tryz.prog) (FN (n+5))) (m:=M0) (o:=some (v::t)) (i:=0) (c:=v) rfl k
   exact this
  have rest:∀ z:Bool,z=decide (q=[0])→(RP (n+5)).bnd (some (0,[.d (dI (some q)),.d (dI (some r)),.d (bl z)])) [fun y5=>(RP (n+5)).cond ((RP (n+5)).ld y5 2) ((RP (n+5)).out 0 [il 0]) ((RP (n+5)).bnd (FN (n+5) 41 [(RP (n+5)).ld y5 1,il (-1)]) [fun y6=>(RP (n+5)).un .not ((RP (n+5)).ld y6 0) fun x7=>(RP (n+5)).cond x7 ((RP (n+5)).out 0 [il 0]) ((RP (n+5)).bnd (FN (n+5) 41 [(RP (n+5)).ld y5 0,il 0]) [fun y8=>(RP (n+5)).cond ((RP (n+5)).ld y8 0) ((RP (n+5)).out 0 [il 2]) ((RP (n+5)).lenD ((RP (n+5)).ld y5 1) fun x9=>(RP (n+5)).bin .gtr false x9 (il 1) fun bn=>(RP (n+5)).cond bn ((RP (n+5)).out 0 [il 2]) ((RP (n+5)).out 0 [il 1]))])])]=some (0,[.d (il (if (decide (q=[0])||!decide (-1∈r))=true then 0 else if 0∈q∨1 < r.length then 2 else 1))]):=by
   rintro z rfl
   simp only [ab,ac,ag,aa,ao,h41a,h41b,aP,cA,T7,ck,T4]
   by_cases e1:q=[0]
   ·simp [e1]
   ·by_cases e2:(-1:Int)∈r
    ·by_cases e3:(0:Int)∈q
     ·simp [e1,e2,e3]
     ·by_cases e4:1 < r.length
      ·have:(1:Int) < (r.length:Int):=by omega
       simp [e1,e2,e3,e4,this]
      ·have:¬ (1:Int) < (r.length:Int):=by omega
       simp [e1,e2,e3,e4,this]
    ·simp [e1,e2]
  cases q with
  | nil =>
   simp only [Td]
   rw [T5 (by simp)]
   exact rest false (by simp)
  | cons v t =>
   cases t with
   | nil =>
    rw [T1 (by simp),row0]
    simp only [rI,ak,aV]
    exact rest (decide (v=0)) (by simp)
   | cons w t =>
    rw [T5 (by simp;omega)]
    exact rest false (by simp)
end
section
def lO (a c:List E9) (o:List E5) (d p:Int):Int:=v9 (dJ d p o) (aY d p a) (cM d p c)
def pC (a c:List E9) (o:List E5) (d z:Int):Int:=if 0 < z then lO a c o d z else if z=0 then 0 else 1
theorem l85 (n:Nat) (a c:Option (List E9)) (o:Option (List E5)) (b:D) (d:Int) (hd:0≤d∧d≤4166) (ha:(a.getD []).length≤1000) (hc:(c.getD []).length≤1000) (ho:(o.getD []).length≤1000) (r:List Int) (hr:r.length≤100000) (m0:Bool) :
  ax [xc (RP (n+6))] M0 0 [il d,d9 a,b,d9 c,d5 o,bl false,bl m0,dI (some r),il r.length,il 0] =
   some (0,[.d (bl (r.any fun z=>decide (pC (a.getD []) (c.getD []) (o.getD []) d z≠0))),.d (bl (m0||r.any fun z=>decide (pC (a.getD []) (c.getD []) (o.getD []) d z≠1)))]):=by
 have:=be (β:=Bool×Bool) r (by omega) (xc (RP (n+6))) (fun i s=>[.d (il d),.d (d9 a),.d b,.d (d9 c),.d (d5 o),.d (bl s.1),.d (bl s.2),.d (dI (some r)),.d (il r.length),.d (il i)]) (fun _ _=>True)
  (fun _ q s=>some (0,[.d (bl (s.1||q.any fun z=>decide (pC (a.getD []) (c.getD []) (o.getD []) d z≠0))),.d (bl (s.2||q.any fun z=>decide (pC (a.getD []) (c.getD []) (o.getD []) d z≠1)))]))
  (fun s k _=>by simp [xc]) ?_ M0 (false,m0) trivial (cj (by omega))
 ·simpa using this
 ·rintro i z q ⟨y,m⟩ k hi hd' hlt hw _ ih
  have hlt':(i:Int) < (r.length:Int):=by omega
  have hi':((some r).getD [])[i]?=some z:=hi
  have hb0:∀ x:Int,pC (a.getD []) (c.getD []) (o.getD []) d z=x→(some (0,[.d (bl (y||(z::q).any fun z=>decide (pC (a.getD []) (c.getD []) (o.getD []) d z≠0))),.d (bl (m||(z::q).any fun z=>decide (pC (a.getD []) (c.getD []) (o.getD []) d z≠1)))]):aq)=some (0,[.d (bl ((y||decide (x≠0))||q.any fun z=>decide (pC (a.getD []) (c.getD []) (o.getD []) d z≠0))),.d (bl ((m||decide (x≠1))||q.any fun z=>decide (pC (a.getD []) (c.getD []) (o.getD []) d z≠1)))]):=by
   intro x hx
   simp only [W2,hx,Y4]
  simp only [xc,ac,ag,aC,aa,hlt',T8,T6,cQ hi',rI,ak,aV,ae,ao,eJ,ab,ck,T4,ah,s166 n a c o b d z hd ha hc ho,aK,aL,ay,hw]
  by_cases h0:z=0
  ·have hx:pC (a.getD []) (c.getD []) (o.getD []) d z=0:=by simp [pC,h0]
   rw [hb0 0 hx,← ih ((y||decide ((0:Int)≠0)),(m||decide ((0:Int)≠1))) trivial]
   subst h0
   cases y<;>cases m<;>simp
  ·by_cases h1:0 < z
   ·have hx:pC (a.getD []) (c.getD []) (o.getD []) d z=lO (a.getD []) (c.getD []) (o.getD []) d z:=by simp [pC,h1]
    rw [hb0 _ hx,← ih ((y||decide (lO (a.getD []) (c.getD []) (o.getD []) d z≠0)),(m||decide (lO (a.getD []) (c.getD []) (o.getD []) d z≠1))) trivial]
    unfold lO
    generalize v9 (dJ d z (o.getD [])) (aY d z (a.getD [])) (cM d z (c.getD []))=w
    cases y<;>cases m<;>simp [h0,h1]
   ·have hx:pC (a.getD []) (c.getD []) (o.getD []) d z=1:=by simp [pC,h0,h1]
    rw [hb0 1 hx,← ih ((y||decide ((1:Int)≠0)),(m||decide ((1:Int)≠1))) trivial]
    cases y<;>cases m<;>simp [h0,h1]
end
section
def dN (a c:List E9) (o:List E5) (d who:Int):Int :=
 if (dJ d who o||decide (aY d who a=[0]))=true then 0 else g9 ((cM d who c).any fun z=>decide (pC a c o d z≠0)) (decide (0∈aY d who a)||(cM d who c).any fun z=>decide (pC a c o d z≠1))
theorem s85 (n:Nat) (a c:Option (List E9)) (o:Option (List E5)) (b:D) (d who:Int) (hd:0≤d∧d≤4166) (ha:(a.getD []).length≤1000) (hc:(c.getD []).length≤1000) (ho:(o.getD []).length≤1000) :
  FN (n+7) 85 [d9 a,b,d9 c,d5 o,il who,il d]=some (0,[.d (il (dN (a.getD []) (c.getD []) (o.getD []) d who))]):=by
 rw [FS,Nv]
 have l1:=o7 d who (a.getD [])
 have l2:=sD d who (c.getD [])
 have h165:=s165 (n+1) c (d9 a) b (d5 o) d who (by omega)
 have h85:=l85 n a c o b d hd ha hc ho (cM d who (c.getD [])) (by omega)
 simp only [G85,ah,s78 (n+1) a b (d9 c) (d5 o) d who (by omega),G6 (n+5) (d9 a) b (d9 c) o d who hd (by omega),ab,ac,aa,ae,ao,cA,T7,aV,aK]
 unfold dN
 generalize aY d who (a.getD [])=q at l1 ⊢
 generalize cM d who (c.getD [])=r at l2 h165 h85 ⊢
 have h41b:=s41 (n+5) (some q) 0 (by simp only [T7];omega)
 simp only [T7] at h41b
 cases dJ d who (o.getD []) with
 | true=>simp
 | false =>
  have row0:∀ (v:Int) (t:List Int) (k:List D→aq),(RP (n+6)).rowD 1 (dI (some (v::t))) (il 0) k=k (rI v):=fun v t k=>by
   have:=cQ (Fn:=FN (n+6)) (FnD:=c6 Tryz.prog (di tb Tryz.prog) (FN (n+6))) (m:=M0) (o:=some (v::t)) (i:=0) (c:=v) rfl k
   exact this
  simp only [T0,T9,W8]
  cases q with
  | nil =>
   simp only [Td]
   rw [T5 (by simp)]
   simp only [ab,ac,ag,aa,T0,T9,h41b,h165,cA,T7,aD,h85,Lx]
   simp
  | cons v t =>
   cases t with
   | nil =>
    rw [T1 (by simp),row0]
    simp only [rI,ak,aV,ab,ac,ag,aa,T4]
    by_cases hv:v=0
    ·subst hv;simp
    ·rw [T5 hv]
     simp only [h41b,ab,ac,ag,h165,cA,T7,aD,h85,Lx]
     simp [hv]
   | cons w t =>
    rw [T5 (by simp;omega)]
    simp only [ab,ac,ag,aa,T0,T9,h41b,h165,cA,T7,aD,h85,Lx]
    simp
end
section
theorem c5 {ok ps fs:Bool} {p f d k:Int} (h:aQ ok ps fs p f [d,k]=0):(0≤d∧d≤4166)∧0≤k∧k≤4166:=by
 unfold aQ at h
 split at h
 ·simp at h
 ·split at h
  ·simp at h
  ·split at h
   ·simp at h
   ·split at h
    ·simp at h
    ·rename_i hh
     simp only [W2,List.any_nil,Bool.or_false,Vl,Wl,W4,not_or,Decidable.not_not] at hh
     exact hh
end
section
def aW (acc l:List Int):List Int:=l.foldl (fun acc x=>ins x acc) acc
theorem kE (acc:List Int) (x:Int) (l:List Int):aW acc (x::l)=aW (ins x acc) l:=rfl
theorem dz:∀ (l:List Int) {acc:List Int},Up acc→Up (aW acc l)
 | [],_,h=>h
 | x::l,_,h=>dz l (gc x h)
theorem ch (z:Int):∀ (l acc:List Int),z∈aW acc l↔z∈acc∨z∈l
 | [],acc=>by simp [aW]
 | x::l,acc=>by
  rw [kE,ch z l,fI,Ti]
  constructor
  ·rintro ((h | h) | h)
   ·exact .inr (.inl h)
   ·exact .inl h
   ·exact .inr (.inr h)
  ·rintro (h | h | h)
   ·exact .inl (.inr h)
   ·exact .inl (.inl h)
   ·exact .inr h
theorem lZ:∀ (l acc:List Int),(aW acc l).length≤acc.length+l.length
 | [],acc=>by simp [aW]
 | x::l,acc=>by
  have h1:=lZ l (ins x acc)
  have h2:=fJ x acc
  rw [kE];simp only [Tb];omega
def eh (L:Int→List Int) (f:Int):List (Option Int)→List Int→List Int
 | [],acc=>acc
 | none::os,acc=>eh L f os (ins f acc)
 | some w::os,acc=>eh L f os (aW acc (L w))
theorem iu {L M:Int→List Int} (f:Int):∀ {os:List (Option Int)} (acc:List Int),(∀ w,some w∈os→L w=M w)→eh L f os acc=eh M f os acc
 | [],_,_=>rfl
 | none::os,acc,h=>iu f (os:=os) _ fun w hw=>h w (Ts _ hw)
 | some w::os,acc,h=>by
  rw [eh,eh,h w (by simp)]
  exact iu f (os:=os) _ fun w hw=>h w (Ts _ hw)
theorem pL (L:Int→List Int) (f:Int):∀ (os:List (Option Int)) {acc:List Int},Up acc→Up (eh L f os acc)
 | [],_,h=>h
 | none::os,_,h=>pL L f os (gc f h)
 | some _::os,_,h=>pL L f os (dz _ h)
theorem nY (L:Int→List Int) (f z:Int):∀ (os:List (Option Int)) (acc:List Int),z∈eh L f os acc↔z∈acc∨(none∈os∧z=f)∨∃ w,some w∈os∧z∈L w
 | [],acc=>by simp [eh]
 | none::os,acc=>by
  rw [eh,nY L f z os,fI]
  constructor
  ·rintro ((h | h) | ⟨h1,h2⟩ | ⟨w,hw,h⟩)
   ·exact .inr (.inl ⟨by simp,h⟩)
   ·exact .inl h
   ·exact .inr (.inl ⟨by simp,h2⟩)
   ·exact .inr (.inr ⟨w,by simp [hw],h⟩)
  ·rintro (h | ⟨_,h⟩ | ⟨w,hw,h⟩)
   ·exact .inl (.inr h)
   ·exact .inl (.inl h)
   ·exact .inr (.inr ⟨w,by simpa using hw,h⟩)
 | some v::os,acc=>by
  rw [eh,nY L f z os,ch]
  constructor
  ·rintro ((h | h) | ⟨h1,h2⟩ | ⟨w,hw,h⟩)
   ·exact .inl h
   ·exact .inr (.inr ⟨v,by simp,h⟩)
   ·exact .inr (.inl ⟨by simp [h1],h2⟩)
   ·exact .inr (.inr ⟨w,by simp [hw],h⟩)
  ·rintro (h | ⟨h1,h⟩ | ⟨w,hw,h⟩)
   ·exact .inl (.inl h)
   ·exact .inr (.inl ⟨by simpa using h1,h⟩)
   ·rcases Ti.1 hw with e | hw
    ·cases e;exact .inl (.inr h)
    ·exact .inr (.inr ⟨w,hw,h⟩)
def qj (d:Int) (l:List E9):Nat→Int→List Int
 | 0,_=>[]
 | n+1,f=>eh (qj d l n) f (aG d f (below l l.length)) []
def aj (d:Int) (l:List E9) (f:Int):List Int:=qj d l f.toNat f
def dh (l:List E9):Prop:=∀ e∈l,1≤e.b∧e.b < e.a∧e.a≤99
theorem iW (d who:Int):∀ (l:List E9) (w:Int),some w∈aG d who l→∃ e∈l,e.a=who∧e.b=w∧bh e.f1 e.t2 d=true
 | [],w,h=>by simp [aG] at h
 | e::r,w,h=>by
  simp only [aG] at h
  split at h
  ·rename_i h1
   rcases Ti.1 h with h | h
   ·cases h;exact ⟨e,by simp,h1.1,rfl,h1.2⟩
   ·split at h
    ·simp at h
    ·obtain ⟨e',h2,h3⟩:=iW d who r w h
     exact ⟨e',by simp [h2],h3⟩
  ·obtain ⟨e',h2,h3⟩:=iW d who r w h
   exact ⟨e',by simp [h2],h3⟩
theorem mR (d who:Int):∀ l:List E9,aG d who l≠[]
 | []=>by simp [aG]
 | e::r=>by
  simp only [aG]
  split
  ·simp
  ·exact mR d who r
theorem e8 {l:List E9} {m:Nat} {e:E9} (h:e∈below l m):e∈l:=by
 unfold below at h
 exact Wx (List.mem_reverse.1 h)
theorem co {d f:Int} {l:List E9} {m:Nat} (hl:dh l) {w:Int} (h:some w∈aG d f (below l m)):1≤w∧w < f∧f≤99:=by
 obtain ⟨e,he,h1,h2,_⟩:=iW _ _ _ _ h
 have:=hl e (e8 he)
 omega
theorem Ed {d:Int} {l:List E9} (hl:dh l):∀ (n:Nat) (f:Int),1≤f→f.toNat≤n→qj d l n f=aj d l f:=by
 intro n
 induction n using Nat.strongRecOn with
 | _ n ih =>
  intro f h1 h2
  cases n with
  | zero=>omega
  | succ n =>
   unfold aj
   obtain ⟨m,hm⟩:∃ m,f.toNat=m+1:=⟨f.toNat - 1,by omega⟩
   rw [hm,qj,qj]
   refine iu f _ fun w hw=>?_
   have:=co hl hw
   rw [ih n (by omega) w this.1 (by omega),ih m (by omega) w this.1 (by omega)]
theorem lg {d:Int} {l:List E9} (hl:dh l) {f:Int} (h1:1≤f):aj d l f=eh (aj d l) f (aG d f (below l l.length)) []:=by
 obtain ⟨m,hm⟩:∃ m,f.toNat=m+1:=⟨f.toNat - 1,by omega⟩
 unfold aj
 rw [hm,qj]
 refine iu f _ fun w hw=>?_
 have:=co hl hw
 exact Ed hl m w this.1 (by omega)
theorem gE (d:Int) (l:List E9) (f:Int):Up (aj d l f):=by
 unfold aj
 cases f.toNat with
 | zero=>simp [qj]
 | succ m=>exact pL _ _ _ (by simp)
theorem cv {d:Int} {l:List E9} (hl:dh l) {f z:Int} (h1:1≤f):z∈aj d l f↔(none∈aG d f (below l l.length)∧z=f)∨∃ w,some w∈aG d f (below l l.length)∧z∈aj d l w:=by
 rw [lg hl h1,nY];simp
theorem bK {d:Int} {l:List E9} (hl:dh l):∀ (n:Nat) (f z:Int),f.toNat≤n→1≤f→z∈aj d l f→1≤z∧z≤f:=by
 intro n
 induction n with
 | zero=>intro f z h1 h2;omega
 | succ n ih =>
  intro f z h1 h2 h
  rcases (cv hl h2).1 h with ⟨_,rfl⟩ | ⟨w,hw,h⟩
  ·exact ⟨h2,Xz _⟩
  ·have:=co hl hw
   have:=ih w z (by omega) this.1 h
   omega
theorem eK {d:Int} {l:List E9} (hl:dh l):∀ (n:Nat) (f:Int),f.toNat≤n→1≤f→∃ z,z∈aj d l f:=by
 intro n
 induction n with
 | zero=>intro f h1 h2;omega
 | succ n ih =>
  intro f h1 h2
  have hne:=mR d f (below l l.length)
  revert hne
  generalize hq:aG d f (below l l.length)=q
  intro hne
  cases q with
  | nil=>exact absurd rfl hne
  | cons o os =>
   cases o with
   | none=>exact ⟨f,(cv hl h2).2 (.inl ⟨by rw [hq];simp,rfl⟩)⟩
   | some w =>
    have hw:some w∈aG d f (below l l.length):=by rw [hq];simp
    have:=co hl hw
    obtain ⟨z,hz⟩:=ih w (by omega) this.1
    exact ⟨z,(cv hl h2).2 (.inr ⟨w,hw,hz⟩)⟩
theorem tq:∀ (l:List Int) (a b:Int),Up l→(∀ z∈l,a≤z∧z≤b)→(l.length:Int)≤max 0 (b - a+1)
 | [],a,b,_,_=>by simp;omega
 | x::l,a,b,hu,h=>by
  rw [Up,Vy] at hu
  have hx:=h x (by simp)
  have:=tq l (x+1) b hu.2 fun z hz=>⟨by have:=hu.1 z hz;omega,(h z (by simp [hz])).2⟩
  simp only [Tb,Int.natCast_add,Int.natCast_one]
  omega
theorem gU {d:Int} {l:List E9} (hl:dh l) {f:Int} (h1:1≤f):((aj d l f).length:Int)≤f:=by
 have:=tq _ 1 f (gE d l f) fun z hz=>bK hl _ f z (Tf _) h1 hz
 omega
end
section
def bm (a c:List E9) (o:List E5) (d p:Int):Bool×Bool:=if dJ d p o=true then (false,true) else
 (((aG d p (below a a.length)).any fun x=>decide (f0 x≠0))&&(aG d p (below c c.length)).any Option.isNone,((aG d p (below a a.length)).any fun x=>decide (f0 x=0))||(aG d p (below c c.length)).any Option.isSome)
def ba (W:Int→Bool×Bool):Option Int→Bool×Bool
 | none=>(true,false)
 | some z=>if z=0 then (false,true) else W z
def fy (a c:List E9) (o:List E5) (d p:Int):Bool×Bool:=if dJ d p o=true then (false,true) else
 ((aG d p (below c c.length)).any fun x=>(ba (bm a c o d) x).1,(aG d p (below c c.length)).any fun x=>(ba (bm a c o d) x).2)
def bz (L:Int→List Int) (yes no:Bool) (x:Option Int) (acc:List Int):List Int :=
 if f0 x=0∨yes=false then (if f0 x=0∨no=true then ins 0 acc else acc) else aW (if f0 x=0∨no=true then ins 0 acc else acc) (L (f0 x))
def mo (L:Int→List Int) (yes no:Bool):List (Option Int)→List Int→List Int
 | [],acc=>acc
 | x::os,acc=>mo L yes no os (bz L yes no x acc)
def bC (a b c:List E9) (o:List E5) (d p:Int):List Int:=mo (aj d b) (fy a c o d p).1 (fy a c o d p).2 (aG d p (below a a.length)) []
def lH (L:Int→List Int):List Int→List Int→List Int
 | [],acc=>acc
 | h::r,acc=>lH L r (if h=0 then acc else aW acc (L h))
def yW (a b c:List E9) (o:List E5) (d p:Int):List Int :=
 if dN a c o d p=0 then ins 0 [] else lH (aj d b) (aY d p a) (if dN a c o d p=1 then [] else ins 0 [])
theorem pM (L:Int→List Int) (yes no:Bool) (x:Option Int) {acc:List Int} (h:Up acc):Up (bz L yes no x acc):=by
 unfold bz
 have h1:Up (if f0 x=0∨no=true then ins 0 acc else acc):=by split;exact gc 0 h;exact h
 split
 ·exact h1
 ·exact dz _ h1
theorem zZ (L:Int→List Int) (yes no:Bool):∀ (os:List (Option Int)) {acc:List Int},Up acc→Up (mo L yes no os acc)
 | [],_,h=>h
 | x::os,_,h=>zZ L yes no os (pM L yes no x h)
theorem dK (a b c:List E9) (o:List E5) (d p:Int):Up (bC a b c o d p):=zZ _ _ _ _ (by simp)
theorem oO (L:Int→List Int) (yes no:Bool) (x:Option Int) (acc:List Int) (z:Int):z∈bz L yes no x acc↔z∈acc∨(z=0∧(f0 x=0∨no=true))∨(yes=true∧f0 x≠0∧z∈L (f0 x)):=by
 unfold bz
 by_cases h0:f0 x=0
 ·simp only [h0,true_or,T6,fI,Wm,X5,Tx,Xn,W5,Y2]
  exact Or.comm
 ·cases yes with
  | false =>
   cases no with
   | false=>simp [h0]
   | true=>simp [h0,fI];exact Or.comm
  | true =>
   cases no with
   | false=>simp [h0,ch]
   | true =>
    simp only [h0,false_or,Vq,T9,T6,ch,fI,Wm,Xx,X5,Xf]
    constructor
    ·rintro ((h | h) | h)
     ·exact .inr (.inl h)
     ·exact .inl h
     ·exact .inr (.inr h)
    ·rintro (h | h | h)
     ·exact .inl (.inr h)
     ·exact .inl (.inl h)
     ·exact .inr h
theorem vV (L:Int→List Int) (yes no:Bool) (z:Int):∀ (os:List (Option Int)) (acc:List Int),z∈mo L yes no os acc↔z∈acc∨(z=0∧∃ x∈os,f0 x=0∨no=true)∨(yes=true∧∃ x∈os,f0 x≠0∧z∈L (f0 x))
 | [],acc=>by simp [mo]
 | x::os,acc=>by
  rw [mo,vV L yes no z os,oO]
  constructor
  ·rintro ((h | ⟨h1,h2⟩ | ⟨h1,h2,h3⟩) | ⟨h1,y,hy,h2⟩ | ⟨h1,y,hy,h2⟩)
   ·exact .inl h
   ·exact .inr (.inl ⟨h1,x,by simp,h2⟩)
   ·exact .inr (.inr ⟨h1,x,by simp,h2,h3⟩)
   ·exact .inr (.inl ⟨h1,y,by simp [hy],h2⟩)
   ·exact .inr (.inr ⟨h1,y,by simp [hy],h2⟩)
  ·rintro (h | ⟨h1,y,hy,h2⟩ | ⟨h1,y,hy,h2⟩)
   ·exact .inl (.inl h)
   ·rcases Ti.1 hy with rfl | hy
    ·exact .inl (.inr (.inl ⟨h1,h2⟩))
    ·exact .inr (.inl ⟨h1,y,hy,h2⟩)
   ·rcases Ti.1 hy with rfl | hy
    ·exact .inl (.inr (.inr ⟨h1,h2⟩))
    ·exact .inr (.inr ⟨h1,y,hy,h2⟩)
theorem vf (L:Int→List Int):∀ (r:List Int) {acc:List Int},Up acc→Up (lH L r acc)
 | [],_,h=>h
 | x::r,acc,h=>vf L r (by split;exact h;exact dz _ h)
theorem sA (L:Int→List Int) (z:Int):∀ (r acc:List Int),z∈lH L r acc↔z∈acc∨∃ h∈r,h≠0∧z∈L h
 | [],acc=>by simp [lH]
 | x::r,acc=>by
  rw [lH,sA L z r]
  have e:z∈(if x=0 then acc else aW acc (L x))↔z∈acc∨(x≠0∧z∈L x):=by
   by_cases h:x=0
   ·simp [h]
   ·simp [h,ch]
  rw [e]
  constructor
  ·rintro ((h | ⟨h1,h2⟩) | ⟨y,hy,h⟩)
   ·exact .inl h
   ·exact .inr ⟨x,by simp,h1,h2⟩
   ·exact .inr ⟨y,by simp [hy],h⟩
  ·rintro (h | ⟨y,hy,h⟩)
   ·exact .inl (.inl h)
   ·rcases Ti.1 hy with rfl | hy
    ·exact .inl (.inr h)
    ·exact .inr ⟨y,hy,h⟩
theorem FV (a b c:List E9) (o:List E5) (d p:Int):Up (yW a b c o d p):=by
 unfold yW
 split
 ·simp [ins]
 ·exact vf _ _ (by split<;>simp [ins])
theorem bb (d p z:Int) (a:List E9):z∈aY d p a↔∃ x∈aG d p (below a a.length),z=f0 x:=by
 unfold aY;rw [lW];simp
theorem eD (d p z:Int) (c:List E9):z∈cM d p c↔∃ x∈aG d p (below c c.length),z=fm x:=by
 unfold cM;rw [lW];simp
theorem cN {α:Type} (p:α→Bool) (l:List α):l.any p=true↔∃ x∈l,p x=true:=List.any_eq_true
def Fx (c:List E9):Prop:=∀ e∈c,0≤e.b
theorem pD {d p:Int} {c:List E9} (hc:Fx c) {m:Nat} {w:Int} (h:some w∈aG d p (below c m)):0≤w:=by
 obtain ⟨e,he,_,h2,_⟩:=iW _ _ _ _ h
 have:=hc e (e8 he)
 omega
theorem FX {l:List Int} {x:Int} (hx:x∈l) (hu:Up l):1 < l.length↔∃ z∈l,z≠x:=by
 cases l with
 | nil=>simp at hx
 | cons u r =>
  cases r with
  | nil =>
   simp at hx;subst hx
   constructor
   ·intro h;simp at h
   ·rintro ⟨z,hz,h⟩;simp at hz;exact absurd hz h
  | cons v r =>
   refine ⟨fun _=>?_,fun _=>by simp⟩
   rw [Up,Vy] at hu
   have:=hu.1 v (by simp)
   by_cases h:u=x
   ·exact ⟨v,by simp,by omega⟩
   ·exact ⟨u,by simp,h⟩
theorem tQ {l:List Int} {x:Int} (hu:Up l) (hne:∃ z,z∈l):l=[x]↔∀ z∈l,z=x:=by
 constructor
 ·rintro rfl z hz;simpa using hz
 ·intro h
  refine tt hu (by simp) fun z=>?_
  obtain ⟨y,hy⟩:=hne
  have:=h y hy;subst this
  constructor
  ·intro hz;simp [h z hz]
  ·intro hz;simp at hz;subst hz;exact hy
theorem nf (d p:Int) (a:List E9):∃ z,z∈aY d p a:=by
 have:=mR d p (below a a.length)
 cases hq:aG d p (below a a.length) with
 | nil=>exact absurd hq this
 | cons x q=>exact ⟨f0 x,(bb ..).2 ⟨x,by rw [hq];simp,rfl⟩⟩
theorem zo {d p:Int} {c:List E9} (hc:Fx c):-1∈cM d p c↔none∈aG d p (below c c.length):=by
 rw [eD]
 constructor
 ·rintro ⟨x,hx,h⟩
  cases x with
  | none=>exact hx
  | some w=>have:=pD hc hx;simp [fm] at h;omega
 ·intro h;exact ⟨none,h,rfl⟩
theorem zm {d p:Int} {c:List E9} (hc:Fx c):(∃ z∈cM d p c,z≠-1)↔∃ w,some w∈aG d p (below c c.length):=by
 constructor
 ·rintro ⟨z,hz,h⟩
  obtain ⟨x,hx,rfl⟩:=(eD ..).1 hz
  cases x with
  | none=>simp [fm] at h
  | some w=>exact ⟨w,hx⟩
 ·rintro ⟨w,hw⟩
  have:=pD hc hw
  exact ⟨w,(eD ..).2 ⟨some w,hw,rfl⟩,by omega⟩
theorem mb (l:List (Option Int)):l.any Option.isSome=true↔∃ w,some w∈l:=by
 rw [cN]
 constructor
 ·rintro ⟨x,hx,h⟩;cases x with
  | none=>simp at h
  | some w=>exact ⟨w,hx⟩
 ·rintro ⟨w,h⟩;exact ⟨_,h,rfl⟩
theorem mc (l:List (Option Int)):l.any Option.isNone=true↔none∈l:=by
 rw [cN]
 constructor
 ·rintro ⟨x,hx,h⟩;cases x with
  | none=>exact hx
  | some w=>simp at h
 ·intro h;exact ⟨_,h,rfl⟩
theorem v8 (a c:List E9) (o:List E5) (d p:Int) (h:(bm a c o d p).1=false):(bm a c o d p).2=true:=by
 revert h
 unfold bm
 split
 ·intro _;rfl
 ·simp only
  intro h
  rw [Bool.and_eq_false_iff] at h
  rw [Vl]
  rcases h with h | h
  ·left
   obtain ⟨z,hz⟩:=nf d p a
   obtain ⟨x,hx,rfl⟩:=(bb ..).1 hz
   have h3:=(List.any_eq_false.1 h) x hx
   exact (cN _ _).2 ⟨x,hx,by simpa using h3⟩
  ·right
   have:=mR d p (below c c.length)
   rw [mb]
   cases hq:aG d p (below c c.length) with
   | nil=>exact absurd hq this
   | cons x q =>
    rw [hq] at h
    cases x with
    | none=>simp at h
    | some w=>exact ⟨w,by simp⟩
theorem FQ (a c:List E9) (o:List E5) (d p:Int) (hc:Fx c):lO a c o d p=g9 (bm a c o d p).1 (bm a c o d p).2:=by
 unfold lO v9 bm
 cases hb:dJ d p o with
 | true=>simp [g9]
 | false =>
  simp only [W8,T0,T9]
  have e1:aY d p a=[0]↔((aG d p (below a a.length)).any fun x=>decide (f0 x≠0))=false:=by
   rw [tQ (ve ..) (nf ..),List.any_eq_false]
   constructor
   ·intro h x hx;have:=h _ ((bb ..).2 ⟨x,hx,rfl⟩);simp [this]
   ·intro h z hz
    obtain ⟨x,hx,rfl⟩:=(bb ..).1 hz
    have:=h x hx;simpa using this
  have e2:0∈aY d p a↔((aG d p (below a a.length)).any fun x=>decide (f0 x=0))=true:=by
   rw [bb,cN]
   constructor
   ·rintro ⟨x,hx,h⟩;exact ⟨x,hx,by simp [←h]⟩
   ·rintro ⟨x,hx,h⟩;exact ⟨x,hx,by simpa using (Vw h).symm⟩
  have e3:-1∈cM d p c↔(aG d p (below c c.length)).any Option.isNone=true:=by rw [zo hc,mc]
  have e4:-1∈cM d p c→(1 < (cM d p c).length↔(aG d p (below c c.length)).any Option.isSome=true):=fun h=>by
   rw [FX h (De ..),zm hc,mb]
  revert e1 e2 e3 e4
  generalize (aG d p (below a a.length)).any (fun x=>decide (f0 x≠0))=q1
  generalize (aG d p (below a a.length)).any (fun x=>decide (f0 x=0))=q2
  generalize (aG d p (below c c.length)).any Option.isNone=q3
  generalize (aG d p (below c c.length)).any Option.isSome=q4
  intro e1 e2 e3 e4
  cases q1 with
  | false=>simp [e1.2 rfl,g9]
  | true =>
   have n1:¬ aY d p a=[0]:=fun h=>by have:=e1.1 h;cases this
   cases q3 with
   | false =>
    have n3:¬ -1∈cM d p c:=fun h=>by have:=e3.1 h;cases this
    simp [n1,n3,g9]
   | true =>
    have n3:=e3.2 rfl
    have e4:=e4 n3
    rw [T5 (by simp [n1,n3])]
    by_cases h2:0∈aY d p a
    ·have:=e2.1 h2;subst this
     rw [T1 (.inl h2)];simp [g9]
    ·have:q2=false:=by cases q2;rfl;exact absurd (e2.2 rfl) h2
     subst this
     cases q4 with
     | true=>rw [T1 (.inr (e4.2 rfl))];simp [g9]
     | false =>
      rw [T5]
      ·simp [g9]
      ·rintro (h | h)
       ·exact h2 h
       ·have:=e4.1 h;cases this
theorem Hl (y n:Bool):g9 y n≠0↔y=true:=by cases y<;>cases n<;>simp [g9]
theorem F9 (y n:Bool):g9 y n≠1↔(y=false∨n=true):=by cases y<;>cases n<;>simp [g9]
theorem nr (a c:List E9) (o:List E5) (d:Int) (hc:Fx c) (x:Option Int) (hx:∀ w,x=some w→0≤w):(pC a c o d (fm x)≠0↔(ba (bm a c o d) x).1=true)∧(pC a c o d (fm x)≠1↔(ba (bm a c o d) x).2=true):=by
 cases x with
 | none=>simp [pC,fm,ba]
 | some w =>
  have:=hx w rfl
  by_cases h:w=0
  ·subst h;simp [pC,fm,ba]
  ·have h2:0 < w:=by omega
   simp only [pC,fm,T7,h2,T6,ba,h,T9]
   rw [FQ a c o d w hc,Hl,F9]
   refine ⟨Iff.rfl,⟨fun h=>?_,fun h=>.inr h⟩⟩
   rcases h with h | h
   ·exact v8 _ _ _ _ _ h
   ·exact h
theorem F8 (a c:List E9) (o:List E5) (d p:Int) (hc:Fx c):((cM d p c).any fun z=>decide (pC a c o d z≠0))=((aG d p (below c c.length)).any fun x=>(ba (bm a c o d) x).1)∧((cM d p c).any fun z=>decide (pC a c o d z≠1))=((aG d p (below c c.length)).any fun x=>(ba (bm a c o d) x).2):=by
 have key:∀ x∈aG d p (below c c.length),∀ w,x=some w→0≤w:=fun x hx w h=>by subst h;exact pD hc hx
 constructor
 ·rw [X2,cN,cN]
  constructor
  ·rintro ⟨z,hz,h⟩
   obtain ⟨x,hx,rfl⟩:=(eD ..).1 hz
   exact ⟨x,hx,(nr a c o d hc x (key x hx)).1.1 (by simpa using h)⟩
  ·rintro ⟨x,hx,h⟩
   exact ⟨fm x,(eD ..).2 ⟨x,hx,rfl⟩,by simpa using (nr a c o d hc x (key x hx)).1.2 h⟩
 ·rw [X2,cN,cN]
  constructor
  ·rintro ⟨z,hz,h⟩
   obtain ⟨x,hx,rfl⟩:=(eD ..).1 hz
   exact ⟨x,hx,(nr a c o d hc x (key x hx)).2.1 (by simpa using h)⟩
  ·rintro ⟨x,hx,h⟩
   exact ⟨fm x,(eD ..).2 ⟨x,hx,rfl⟩,by simpa using (nr a c o d hc x (key x hx)).2.2 h⟩
theorem yQ (a c:List E9) (o:List E5) (d p:Int) (h:(fy a c o d p).1=false):(fy a c o d p).2=true:=by
 revert h
 unfold fy
 split
 ·intro _;rfl
 ·simp only
  intro h
  have:=mR d p (below c c.length)
  cases hq:aG d p (below c c.length) with
  | nil=>exact absurd hq this
  | cons x q =>
   rw [hq] at h
   have h1:=List.any_eq_false.1 h x (by simp)
   have h2:(ba (bm a c o d) x).2=true:=by
    cases x with
    | none=>simp [ba] at h1
    | some w =>
     simp only [ba] at h1 ⊢
     split
     ·rfl
     ·rename_i hw
      rw [T5 hw] at h1
      exact v8 _ _ _ _ _ (by simpa using h1)
   exact (cN _ _).2 ⟨x,by simp,h2⟩
theorem sJ (a c:List E9) (o:List E5) (d p:Int) (hc:Fx c):dN a c o d p=g9 ((fy a c o d p).1&&!decide (aY d p a=[0])) ((fy a c o d p).2||decide (0∈aY d p a)):=by
 unfold dN fy
 cases hb:dJ d p o with
 | true=>simp [g9]
 | false =>
  simp only [W8,T0,T9]
  rw [(F8 a c o d p hc).1,(F8 a c o d p hc).2]
  by_cases h:aY d p a=[0]
  ·simp [h,g9]
  ·simp [h,Bool.or_comm]
theorem cz {a b c:List E9} {o:List E5} {d p z:Int}:z∈bC a b c o d p↔(z=0∧(0∈aY d p a∨(fy a c o d p).2=true))∨((fy a c o d p).1=true∧∃ h∈aY d p a,h≠0∧z∈aj d b h):=by
 unfold bC
 rw [vV]
 simp only [W9,false_or]
 constructor
 ·rintro (⟨h1,x,hx,h2⟩ | ⟨h1,x,hx,h2,h3⟩)
  ·refine .inl ⟨h1,?_⟩
   rcases h2 with h2 | h2
   ·exact .inl ((bb ..).2 ⟨x,hx,h2.symm⟩)
   ·exact .inr h2
  ·exact .inr ⟨h1,f0 x,(bb ..).2 ⟨x,hx,rfl⟩,h2,h3⟩
 ·rintro (⟨h1,h2⟩ | ⟨h1,h,hh,h2,h3⟩)
  ·refine .inl ⟨h1,?_⟩
   rcases h2 with h2 | h2
   ·obtain ⟨x,hx,h2⟩:=(bb ..).1 h2
    exact ⟨x,hx,.inl h2.symm⟩
   ·obtain ⟨z,hz⟩:=nf d p a
    obtain ⟨x,hx,_⟩:=(bb ..).1 hz
    exact ⟨x,hx,.inr h2⟩
  ·obtain ⟨x,hx,rfl⟩:=(bb ..).1 hh
   exact .inr ⟨h1,x,hx,h2,h3⟩
theorem Ey {d p:Int} {a:List E9}:aY d p a=[0]↔∀ h∈aY d p a,h=0:=tQ (ve ..) (nf ..)
theorem MR (a b c:List E9) (o:List E5) (d p:Int) (hc:Fx c):bC a b c o d p=yW a b c o d p:=by
 refine tt (dK ..) (FV ..) fun z=>?_
 rw [cz]
 unfold yW
 have hg:=sJ a c o d p hc
 have hno:=yQ a c o d p
 by_cases h0:dN a c o d p=0
 ·rw [T1 h0]
  have h1:((fy a c o d p).1&&!decide (aY d p a=[0]))=false:=by
   cases hq:((fy a c o d p).1&&!decide (aY d p a=[0]))
   ·rfl
   ·rw [hq] at hg;rw [h0] at hg;exfalso;revert hg;cases ((fy a c o d p).2||decide (0∈aY d p a))<;>simp [g9]
  simp only [ins,Tw]
  rw [Bool.and_eq_false_iff] at h1
  rcases h1 with h1 | h1
  ·simp [h1,hno h1]
  ·have h2:aY d p a=[0]:=by simpa using h1
   simp [h2]
 ·rw [T5 h0,sA]
  have h1:(fy a c o d p).1=true∧¬ aY d p a=[0]:=by
   cases hq:((fy a c o d p).1&&!decide (aY d p a=[0]))
   ·rw [hq] at hg;exact absurd (by rw [hg];simp [g9]) h0
   ·simpa using hq
  have h2:dN a c o d p=1↔¬ (0∈aY d p a∨(fy a c o d p).2=true):=by
   rw [hg]
   simp only [h1.1,h1.2,Tk,V1,Wj]
   cases hq:((fy a c o d p).2||decide (0∈aY d p a)) with
   | false =>
    rw [Bool.or_eq_false_iff] at hq
    simp [g9,hq.1];simpa using hq.2
   | true =>
    rw [Vl] at hq
    simp only [g9,T6]
    constructor
    ·intro h;simp at h
    ·intro h;exfalso;apply h;rcases hq with hq | hq
     ·exact .inr hq
     ·exact .inl (Vw hq)
  by_cases h3:0∈aY d p a∨(fy a c o d p).2=true
  ·rw [T5 (fun h=>h2.1 h h3)]
   simp only [h3,Wm,h1.1,Xx,ins,Tw]
  ·rw [T1 (h2.2 h3)]
   simp only [h3,W5,h1.1,Xx,W9,false_or]
end
section
def my (a:List E9):Prop:=∀ e∈a,1≤e.b∧e.b≤99
theorem cl {d p:Int} {a:List E9} (ha:my a) {h:Int} (hh:h∈aY d p a):0≤h∧h≤99:=by
 obtain ⟨x,hx,rfl⟩:=(bb ..).1 hh
 cases x with
 | none=>simp [f0]
 | some w =>
  obtain ⟨e,he,_,h2,_⟩:=iW _ _ _ _ hx
  have:=ha e (e8 he)
  simp only [f0,T7];omega
theorem dB {a b c:List E9} {o:List E5} {d p z:Int} (ha:my a) (hb:dh b) (hz:z∈bC a b c o d p):0≤z∧z≤99:=by
 rcases cz.1 hz with ⟨rfl,_⟩ | ⟨_,h,hh,h0,hl⟩
 ·omega
 ·have:=cl ha hh
  have:=bK hb _ h z (Tf _) (by omega) hl
  omega
theorem wB {a b c:List E9} {o:List E5} {d p:Int} (ha:my a) (hb:dh b):0∈bC a b c o d p↔(0∈aY d p a∨(fy a c o d p).2=true):=by
 rw [cz]
 constructor
 ·rintro (⟨_,h⟩ | ⟨_,h,hh,h0,hl⟩)
  ·exact h
  ·have:=cl ha hh
   have:=bK hb _ h 0 (Tf _) (by omega) hl
   omega
 ·intro h;exact .inl ⟨rfl,h⟩
theorem AU {a b c:List E9} {o:List E5} {d p:Int} (ha:my a) (hb:dh b):(∃ z∈bC a b c o d p,z≠0)↔((fy a c o d p).1=true∧aY d p a≠[0]):=by
 constructor
 ·rintro ⟨z,hz,h0⟩
  rcases cz.1 hz with ⟨rfl,_⟩ | ⟨h1,h,hh,h2,_⟩
  ·exact absurd rfl h0
  ·exact ⟨h1,fun e=>h2 (Ey.1 e h hh)⟩
 ·rintro ⟨h1,h2⟩
  rw [Ne,Ey] at h2
  have:∃ h∈aY d p a,h≠0:=by
   apply Classical.byContradiction;intro hn
   exact h2 fun h hh=>Classical.byContradiction fun h0=>hn ⟨h,hh,h0⟩
  obtain ⟨h,hh,h0⟩:=this
  have:=cl ha hh
  obtain ⟨z,hz⟩:=eK hb _ h (Tf _) (by omega)
  have:=bK hb _ h z (Tf _) (by omega) hz
  exact ⟨z,cz.2 (.inr ⟨h1,h,hh,h0,hz⟩),by omega⟩
theorem mn {a b c:List E9} {o:List E5} {d p:Int} (ha:my a) (hb:dh b):∃ z,z∈bC a b c o d p:=by
 by_cases h:0∈bC a b c o d p
 ·exact ⟨0,h⟩
 ·rw [wB ha hb,not_or] at h
  have h1:(fy a c o d p).1=true:=by
   cases hq:(fy a c o d p).1
   ·exact absurd (yQ _ _ _ _ _ hq) h.2
   ·rfl
  have h2:aY d p a≠[0]:=fun e=>h.1 (by rw [e];simp)
  obtain ⟨z,hz,_⟩:=(AU (c:=c) (o:=o) ha hb).2 ⟨h1,h2⟩
  exact ⟨z,hz⟩
theorem tr {l:List Int} (hu:Up l) (hr:∀ z∈l,0≤z) (hne:∃ z,z∈l):∃ x r,l=x::r∧(x=0↔0∈l):=by
 cases l with
 | nil=>obtain ⟨z,hz⟩:=hne;simp at hz
 | cons x r =>
  refine ⟨x,r,rfl,fun h=>by simp [h],fun h=>?_⟩
  rw [Up,Vy] at hu
  rcases Ti.1 h with h | h
  ·exact h.symm
  ·have:=hu.1 0 h
   have:=hr x (by simp)
   omega
theorem zY:∀ {l:List Int},Up l→(∀ z∈l,0≤z)→∀ {y:Int},l[l.length - 1]?=some y→(y≠0↔∃ z∈l,z≠0)
 | [],_,_,y,h=>by simp at h
 | [x],_,_,y,h=>by simp at h;subst h;simp
 | x::w::r,hu,hr,y,h=>by
  rw [Up,Vy] at hu
  have h':(w::r)[(w::r).length - 1]?=some y:=by simpa using h
  have ih:=zY (l:=w::r) hu.2 (fun z hz=>hr z (Ts _ hz)) h'
  have hm:y∈w::r:=Vb h'
  have h1:=hu.1 y hm
  have h2:=hr x (by simp)
  exact ⟨fun _=>⟨y,Ts _ hm,by omega⟩,fun _=>by omega⟩
theorem GS {a b c:List E9} {o:List E5} {d p:Int} (ha:my a) (hb:dh b) (hc:Fx c) {x y:Int} {r:List Int} (hx:bC a b c o d p=x::r) (hy:(bC a b c o d p)[(bC a b c o d p).length - 1]?=some y):g9 (decide (y≠0)) (decide (x=0))=dN a c o d p:=by
 have hr:∀ z∈bC a b c o d p,0≤z:=fun z hz=>(dB ha hb hz).1
 have h1:=zY (dK a b c o d p) hr hy
 obtain ⟨x',r',e,h2⟩:=tr (dK a b c o d p) hr (mn ha hb)
 rw [hx] at e;cases e
 rw [AU ha hb] at h1
 rw [wB ha hb] at h2
 rw [sJ a c o d p hc]
 have e1:decide (y≠0)=((fy a c o d p).1&&!decide (aY d p a=[0])):=by
  rw [X2,Wv,h1];simp
 have e2:decide (x=0)=((fy a c o d p).2||decide (0∈aY d p a)):=by
  rw [X2,Wv,h2];simp [or_comm]
 rw [e1,e2]
def d0 (l:List Int) (f:Int):Int:=if f∈l then (if 1 < l.length then 2 else 1) else 0
theorem forP (l:List Int) (f x:Int) (r:List Int) (h:l=x::r):g9 (decide (f∈l)) (decide (1 < l.length)||decide (x≠f))=d0 l f:=by
 unfold d0 g9
 subst h
 by_cases h1:f∈x::r
 ·simp only [h1,T8,T6]
  by_cases h2:1 < (x::r).length
  ·simp only [h2,T8,Bool.true_or,T6]
  ·have:r=[]:=by cases r;rfl;simp at h2
   subst this
   have:f=x:=by simpa using h1
   subst this
   simp
 ·simp [h1]
end
section
def rS {σ:Type} (step:σ→Int→σ) (stopO noneO:σ→aq):σ→List (Option Int)→aq
 | s,[]=>stopO s
 | s,none::_=>noneO s
 | s,some w::os=>rS step stopO noneO (step s w) os
def wZ:List (Option Int)→Prop
 | []=>True
 | none::r=>r=[]
 | some _::r=>wZ r
theorem gH (d who:Int):∀ l:List E9,wZ (aG d who l)
 | []=>rfl
 | e::r=>by
  simp only [aG]
  split
  ·split
   ·trivial
   ·exact gH d who r
  ·exact gH d who r
theorem ki {σ:Type} (l:List E9) (hl:l.length≤1000000) (d who:Int) (bs:List ((Nat→List Yr→aq)→List Yr→aq)) (en:Nat→σ→Nat×List Yr) (I:Nat→σ→Prop) (step:σ→Int→σ) (stopO noneO:σ→aq)
  (h0:∀ s k,I 0 s→∃ b,bs[(en 0 s).1]?=some b∧b k (en 0 s).2=noneO s)
  (h1:∀ (m:Nat) e s (k:Nat→List Yr→aq),l[m]?=some e→m < l.length→IntKind.i64.wrap (((m:Nat):Int) - 1)=((m:Nat):Int) - 1→(((m+1:Nat):Int) - 1)=((m:Nat):Int)→I (m+1) s →
   I m s∧(e.a=who→bh e.f1 e.t2 d=true→I m (step s e.b))∧∃ b,bs[(en (m+1) s).1]?=some b∧b k (en (m+1) s).2=if e.a=who∧bh e.f1 e.t2 d=true then (if bq e.f2 e.t1 d=true then stopO (step s e.b) else k (en m (step s e.b)).1 (en m (step s e.b)).2) else k (en m s).1 (en m s).2)
  (s:σ) (hs:I l.length s):ax bs M0 (en l.length s).1 (en l.length s).2=rS step stopO noneO s (aG d who (below l l.length)):=by
 refine e9 (σ:=Nat×σ) bs (fun s=>en s.1 s.2) (fun s=>s.1) (fun s=>s.1≤l.length∧I s.1 s.2) (fun s=>rS step stopO noneO s.2 (aG d who (below l s.1))) ?_ M0 (l.length,s) ⟨Tf _,hs⟩ (by unfold M0;simp only;omega)
 rintro ⟨m,s⟩ k ⟨g1,g2⟩ ih
 simp only at g1 g2 ih ⊢
 cases m with
 | zero=>exact h0 s k g2
 | succ m =>
  obtain ⟨e,he⟩:∃ e,l[m]?=some e:=⟨_,Tc (by omega)⟩
  obtain ⟨i1,i2,b,hb,hr⟩:=h1 m e s k he (by omega) (aE (by omega) (by omega)) (by omega) g2
  refine ⟨b,hb,?_⟩
  rw [hr,fF he,aG]
  split
  ·rename_i hc
   split
   ·rfl
   ·exact ih (m,step s e.b) ⟨by simp only;omega,i2 hc.1 hc.2⟩ (by simp only;omega)
  ·exact ih (m,s) ⟨by simp only;omega,i1⟩ (by simp only;omega)
theorem jt {σ:Type} {step:σ→Int→σ} {stopO noneO:σ→aq} (R:σ→List (Option Int)→aq) (h0:∀ s,stopO s=R s []) (h1:∀ s,noneO s=R s [none]) (h2:∀ s w os,R (step s w) os=R s (some w::os)):∀ (os:List (Option Int)) (s:σ),wZ os→rS step stopO noneO s os=R s os
 | [],s,_=>h0 s
 | none::r,s,h=>by have:r=[]:=h;subst this;exact h1 s
 | some w::os,s,h=>by
  have:=jt R h0 h1 h2 os (step s w) h
  rw [rS,this,h2]
section
variable {Fn:Nat→List D→aq} {FnD:D→List Sh→List D→aq} {m:Nat}
end
end
section
def hB:Option Int→Bool
 | some w=>decide (w≠0)
 | none=>false
def zB:Option Int→Bool
 | some w=>decide (w=0)
 | none=>false
def CO (x0 x1:D) (s:Bool×Bool) (os:List (Option Int)):aq:=some (if os.any Option.isNone=true then 0 else 1,[.d (bl false),.d (bl (s.1||os.any hB)),.d (bl (s.2||os.any zB)),.d x0,.d x1])
theorem Ma (n:Nat) (a b c:Option (List E9)) (o:Option (List E5)) (d who:Int) (hl:(a.getD []).length≤1000000) (s:Bool×Bool) :
  ax [qZ (RP (n+4))] M0 0 [il d,il (((a.getD []).length:Int) - 1),bl false,bl s.1,bl s.2,an a b c o,il who]=CO (an a b c o) (il who) s (aG d who (below (a.getD []) (a.getD []).length)):=by
 have:=ki (σ:=Bool×Bool) (a.getD []) hl d who [qZ (RP (n+4))] (fun m s=>(0,[.d (il d),.d (il ((m:Int) - 1)),.d (bl false),.d (bl s.1),.d (bl s.2),.d (an a b c o),.d (il who)])) (fun _ _=>True) (fun s w=>(s.1||decide (w≠0),s.2||decide (w=0)))
  (fun s=>some (1,[.d (bl false),.d (bl s.1),.d (bl s.2),.d (an a b c o),.d (il who)])) (fun s=>some (0,[.d (bl false),.d (bl s.1),.d (bl s.2),.d (an a b c o),.d (il who)])) ?_ ?_ s trivial
 ·refine Eq.trans this (jt (CO (an a b c o) (il who)) ?_ ?_ ?_ _ s (gH _ _ _))
  ·intro s;simp [CO]
  ·intro s;simp [CO,hB,zB]
  ·intro s w os;simp only [CO,W2,hB,zB,Option.isNone_some,W8,Y4]
 ·intro s k _
  exact ⟨_,rfl,by simp [qZ]⟩
 ·intro m e s k he hm hw hm1 _
  refine ⟨trivial,fun _ _=>trivial,_,rfl,?_⟩
  have h157:=vm (n+3) a b c o m e who he
  simp only [hm1,qZ,ac,ag,ae,bQ,aa]
  rw [T1 (by simp)]
  simp only [ah,h157,ab,ac,ag,aP,aa,br,hw,jN,aK,ao,aL]
  obtain ⟨s1,s2⟩:=s
  by_cases h1:e.a=who
  ·by_cases h2:bh e.f1 e.t2 d=true
   ·rw [T1 (⟨h1,h2⟩:e.a=who∧bh e.f1 e.t2 d=true)]
    cases s1<;>cases s2<;>cases hq:bq e.f2 e.t1 d<;>simp [h1,h2,dV,hq]
   ·rw [T5 (fun h=>h2 h.2:¬ (e.a=who∧bh e.f1 e.t2 d=true))]
    simp [h1,h2]
  ·rw [T5 (fun h=>h1 h.1:¬ (e.a=who∧bh e.f1 e.t2 d=true))]
   simp [h1]
def p4 (x0 x1 x2 x3:D) (h:Bool) (s:Bool) (os:List (Option Int)):aq:=some (if os.any Option.isNone=true then 0 else 1,[.d (bl false),.d (bl h),.d (bl (s||os.any Option.isSome)),.d x0,.d x1,.d x2,.d x3])
theorem M9 (n:Nat) (a b c:Option (List E9)) (o:Option (List E5)) (d who:Int) (x0 x1:D) (hl:(c.getD []).length≤1000000) (h s:Bool) :
  ax [mr (RP (n+4))] M0 0 [il d,il (((c.getD []).length:Int) - 1),bl false,bl h,bl s,x0,x1,an a b c o,il who]=p4 x0 x1 (an a b c o) (il who) h s (aG d who (below (c.getD []) (c.getD []).length)):=by
 have:=ki (σ:=Bool) (c.getD []) hl d who [mr (RP (n+4))] (fun m s=>(0,[.d (il d),.d (il ((m:Int) - 1)),.d (bl false),.d (bl h),.d (bl s),.d x0,.d x1,.d (an a b c o),.d (il who)])) (fun _ _=>True) (fun _ _=>true)
  (fun s=>some (1,[.d (bl false),.d (bl h),.d (bl s),.d x0,.d x1,.d (an a b c o),.d (il who)])) (fun s=>some (0,[.d (bl false),.d (bl h),.d (bl s),.d x0,.d x1,.d (an a b c o),.d (il who)])) ?_ ?_ s trivial
 ·refine Eq.trans this (jt (p4 x0 x1 (an a b c o) (il who) h) ?_ ?_ ?_ _ s (gH _ _ _))
  ·intro s;simp [p4]
  ·intro s;simp [p4]
  ·intro s w os;simp [p4]
 ·intro s k _
  exact ⟨_,rfl,by simp [mr]⟩
 ·intro m e s k he hm hw hm1 _
  refine ⟨trivial,fun _ _=>trivial,_,rfl,?_⟩
  have h195:=G2 (n+3) a b c o m e who he
  have hnn:¬ ((m:Nat):Int) < 0:=by omega
  simp only [hm1,mr,ac,ag,ae,bQ,aa]
  rw [T1 (by simp)]
  simp only [ah,h195,ab,ac,ag,aP,aa,br,hw,jN,aK,ao,aC]
  by_cases h1:e.a=who
  ·by_cases h2:bh e.f1 e.t2 d=true
   ·rw [T1 (⟨h1,h2⟩:e.a=who∧bh e.f1 e.t2 d=true)]
    cases s<;>cases hq:bq e.f2 e.t1 d<;>simp [h1,h2,hnn,dV,hq]
   ·rw [T5 (fun h=>h2 h.2:¬ (e.a=who∧bh e.f1 e.t2 d=true))]
    simp [h1,h2]
  ·rw [T5 (fun h=>h1 h.1:¬ (e.a=who∧bh e.f1 e.t2 d=true))]
   simp [h1]
theorem Hs (n:Nat):Fi (RP n)=mr (RP n):=rfl
theorem Hr (n:Nat):Fh (RP n)=mr (RP n):=rfl
theorem MF (os:List (Option Int)):(os.any fun x=>decide (f0 x≠0))=os.any hB:=by
 congr 1;funext x;cases x<;>rfl
theorem L0 (os:List (Option Int)):(os.any fun x=>decide (f0 x=0))=(os.any zB||os.any Option.isNone):=by
 induction os with
 | nil=>rfl
 | cons x os ih =>
  rw [W2,ih,W2,W2]
  cases x with
  | none=>simp [f0,zB]
  | some w=>simp only [zB,Option.isNone_some,W8,Y4];rfl
theorem Ls (n:Nat) (a b c:Option (List E9)) (o:Option (List E5)) (d who:Int) (hd:0≤d∧d≤4166) (ha:(a.getD []).length≤1000000) (hc:(c.getD []).length≤1000000) (ho:(o.getD []).length≤1000000) :
  FN (n+6) 196 [d9 a,d9 b,d9 c,d5 o,il who,il d]=some (0,[.d (bl (bm (a.getD []) (c.getD []) (o.getD []) d who).1),.d (bl (bm (a.getD []) (c.getD []) (o.getD []) d who).2)]):=by
 rw [FS,HN]
 have h0:=Ma (n+1) a b c o d who ha (false,false)
 have h1:=fun h s=>M9 (n+1) a b c o d who (an a b c o) (il who) hc h s
 simp only [an] at h0 h1
 simp only [G196,ah,s214 n (d9 a) (d9 b) (d9 c) o d who hd (by omega),ab,ac,aa,aK,ao,gO,cW]
 unfold bm
 cases dJ d who (o.getD []) with
 | true=>simp
 | false =>
  simp only [T0,T9]
  have hp:∀ k:List D→aq,(RP (n+5)).ptrW 4 (.dp [d9 a,d9 b,d9 c,d5 o] 0) k=k [d9 a,d9 b,d9 c,d5 o]:=fun k=>bP _ 4 k rfl
  have w1:IntKind.i64.wrap (((a.getD []).length:Int) - 1)=((a.getD []).length:Int) - 1:=aE (by omega) (by omega)
  have w2:IntKind.i64.wrap (((c.getD []).length:Int) - 1)=((c.getD []).length:Int) - 1:=aE (by omega) (by omega)
  simp only [hp,ak,ar,cS,ae,br,w1,w2,aD]
  rw [show (RP (n+5))=RP (n+1+4) from rfl] at *
  rw [h0,MF,L0]
  simp only [CO,W8]
  generalize aG d who (below (a.getD []) (a.getD []).length)=q at *
  cases hn:q.any Option.isNone with
  | true =>
   simp only [T6,ab,ac,ag,aa,aL,X5,Tx,Tk]
   cases hh:q.any hB<;>cases hz:q.any zB<;>simp only [T0,T6,T9,ab,ac,ag,aa,Hs,h1,p4] <;>
    (cases hn2:(aG d who (below (c.getD []) (c.getD []).length)).any Option.isNone<;>cases hn3:(aG d who (below (c.getD []) (c.getD []).length)).any Option.isSome<;>simp [h1,p4,hn2,hn3])
  | false =>
   simp only [T0,T9,cI,ab,ac,ag,Hr,h1,p4]
   cases hh:q.any hB<;>cases hz:q.any zB <;>
    (cases hn2:(aG d who (below (c.getD []) (c.getD []).length)).any Option.isNone<;>cases hn3:(aG d who (below (c.getD []) (c.getD []).length)).any Option.isSome<;>simp [])
end
section
def iz (W:Int→Bool×Bool):Option Int→Bool×Bool
 | none=>(false,false)
 | some z=>ba W (some z)
def CP (x0 x1:D) (W:Int→Bool×Bool) (s:Bool×Bool) (os:List (Option Int)):aq:=some (if os.any Option.isNone=true then 1 else 0,[.d (bl (s.1||os.any fun x=>(iz W x).2)),.d (bl (s.2||os.any fun x=>(iz W x).1)),.d x0,.d x1])
theorem l163 (n:Nat) (a b c:Option (List E9)) (o:Option (List E5)) (d who:Int) (hd:0≤d∧d≤4166) (ha:(a.getD []).length≤1000000) (hc:(c.getD []).length≤1000000) (ho:(o.getD []).length≤1000000) (s:Bool×Bool) :
  ax [r3 (RP (n+6)) (d9 a) (d9 b) (d9 c) (d5 o) (il d)] M0 0 [il d,il (((c.getD []).length:Int) - 1),bl s.1,bl s.2,an a b c o,il who]=CP (an a b c o) (il who) (bm (a.getD []) (c.getD []) (o.getD []) d) s (aG d who (below (c.getD []) (c.getD []).length)):=by
 have:=ki (σ:=Bool×Bool) (c.getD []) hc d who [r3 (RP (n+6)) (d9 a) (d9 b) (d9 c) (d5 o) (il d)] (fun m s=>(0,[.d (il d),.d (il ((m:Int) - 1)),.d (bl s.1),.d (bl s.2),.d (an a b c o),.d (il who)])) (fun _ _=>True) (fun s w=>(s.1||(ba (bm (a.getD []) (c.getD []) (o.getD []) d) (some w)).2,s.2||(ba (bm (a.getD []) (c.getD []) (o.getD []) d) (some w)).1))
  (fun s=>some (0,[.d (bl s.1),.d (bl s.2),.d (an a b c o),.d (il who)])) (fun s=>some (1,[.d (bl s.1),.d (bl s.2),.d (an a b c o),.d (il who)])) ?_ ?_ s trivial
 ·refine Eq.trans this (jt (CP (an a b c o) (il who) (bm (a.getD []) (c.getD []) (o.getD []) d)) ?_ ?_ ?_ _ s (gH _ _ _))
  ·intro s;simp [CP]
  ·intro s;simp [CP,iz]
  ·intro s w os;simp only [CP,W2,iz,Option.isNone_some,W8,Y4]
 ·intro s k _
  exact ⟨_,rfl,by simp [r3]⟩
 ·intro m e s k he hm hw hm1 _
  refine ⟨trivial,fun _ _=>trivial,_,rfl,?_⟩
  have h195:=G2 (n+5) a b c o m e who he
  have h196:=Ls n a b c o d e.b hd ha hc ho
  have hnn:¬ ((m:Nat):Int) < 0:=by omega
  have hp:∀ k:List D→aq,(RP (n+6)).ptrW 4 (.dp [d9 a,d9 b,d9 c,d5 o] 0) k=k [d9 a,d9 b,d9 c,d5 o]:=fun k=>bP _ 4 k rfl
  simp only [hm1,r3,ac,ag,ae,bQ,aa]
  rw [T1 (by simp)]
  simp only [ah,h195,ab,ac,ag,aP,aa,br,hw,jN,dV,aK,ao,aV,aC,hnn,Tk,T0,T9,gO,hp,ak,ar,h196,ba]
  obtain ⟨s1,s2⟩:=s
  by_cases h1:e.a=who
  ·by_cases h2:bh e.f1 e.t2 d=true
   ·rw [T1 (⟨h1,h2⟩:e.a=who∧bh e.f1 e.t2 d=true)]
    by_cases h3:e.b=0
    ·cases s1<;>cases s2<;>cases hq:bq e.f2 e.t1 d<;>simp [h1,h2,h3]
    ·cases s1<;>cases s2<;>cases hq:bq e.f2 e.t1 d<;>simp [h1,h2,h3]
   ·rw [T5 (fun h=>h2 h.2:¬ (e.a=who∧bh e.f1 e.t2 d=true))]
    simp [h1,h2]
  ·rw [T5 (fun h=>h1 h.1:¬ (e.a=who∧bh e.f1 e.t2 d=true))]
   simp [h1]
theorem GR (W:Int→Bool×Bool) (os:List (Option Int)):(os.any fun x=>(ba W x).1)=((os.any fun x=>(iz W x).1)||os.any Option.isNone):=by
 induction os with
 | nil=>rfl
 | cons x os ih =>
  rw [W2,ih,W2,W2]
  cases x with
  | none=>simp [ba,iz]
  | some w=>simp [iz,Y4]
theorem GQ (W:Int→Bool×Bool) (os:List (Option Int)):(os.any fun x=>(ba W x).2)=os.any fun x=>(iz W x).2:=by
 congr 1;funext x;cases x<;>rfl
theorem s163 (n:Nat) (a b c:Option (List E9)) (o:Option (List E5)) (d who:Int) (hd:0≤d∧d≤4166) (ha:(a.getD []).length≤1000000) (hc:(c.getD []).length≤1000000) (ho:(o.getD []).length≤1000000) :
  FN (n+7) 163 [d9 a,d9 b,d9 c,d5 o,il who,il d]=some (0,[.d (bl (fy (a.getD []) (c.getD []) (o.getD []) d who).1),.d (bl (fy (a.getD []) (c.getD []) (o.getD []) d who).2)]):=by
 rw [FS,Id]
 have h0:=l163 n a b c o d who hd ha hc ho (false,false)
 simp only [an] at h0
 have hp:∀ k:List D→aq,(RP (n+6)).ptrW 4 (.dp [d9 a,d9 b,d9 c,d5 o] 0) k=k [d9 a,d9 b,d9 c,d5 o]:=fun k=>bP _ 4 k rfl
 have w2:IntKind.i64.wrap (((c.getD []).length:Int) - 1)=((c.getD []).length:Int) - 1:=aE (by omega) (by omega)
 simp only [G163,ah,gO,hp,ak,ar,s214 (n+1) (d9 a) (d9 b) (d9 c) o d who hd (by omega),ab,ac,aa,aK,ao,cW]
 unfold fy
 cases dJ d who (o.getD []) with
 | true=>simp
 | false =>
  simp only [T0,T9,cS,ae,br,w2,aD,h0,GR,GQ,CP,W8]
  generalize aG d who (below (c.getD []) (c.getD []).length)=q
  cases hn:q.any Option.isNone with
  | true =>
   simp []
  | false =>
   simp
end
end Go.VE
