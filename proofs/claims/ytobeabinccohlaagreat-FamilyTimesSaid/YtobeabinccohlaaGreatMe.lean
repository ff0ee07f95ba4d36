/- Calls over abstract data. -/
import Derived.Test.YtobeabinccohlaaGreatMd
import Derived.Test.YtobeabinccohlaaGreatMc
namespace Go.VE
open Go.RowKit
section
variable {P:Program} {Fn:Nat→List D→aq} {FnD:D→List Sh→List D→aq} {m:Nat} {r:Nat×List Yr} {ob:Ur}
def eW:List Sh→List D→Option (List VD)
 | [],[]=>some []
 | .one::r,x::xs=>(eW r xs).map (.one x::·)
 | .agg n::r,xs=>if (xs.take n).length=n then (eW r (xs.drop n)).map (.agg (xs.take n)::·) else none
 | .ptr n::r,xs=>if (xs.take n).length=n then (eW r (xs.drop n)).map (.one (.dp (xs.take n) 0)::·) else none
 | _,_=>none
def cK:List Sh→List VD→Option (List D)
 | [],[]=>some []
 | .one::r,.one x::vs=>(cK r vs).map (x::·)
 | .agg n::r,.agg xs::vs=>if xs.length=n then (cK r vs).map (xs++·) else none
 | .ptr n::r,.one (.dp xs o)::vs=>if xs.length=n∧o=0 then (cK r vs).map (xs++·) else none
 | _,_=>none
theorem jU:∀ {sh:List Sh} {vs:List VD} {xs:List D},cK sh vs=some xs→eW sh xs=some vs
 | [],[],xs,h=>by simp only [cK,T3] at h;subst h;rfl
 | [],_::_,xs,h=>by simp [cK] at h
 | .one::r,[],xs,h=>by simp [cK] at h
 | .agg n::r,[],xs,h=>by simp [cK] at h
 | .ptr n::r,[],xs,h=>by simp [cK] at h
 | .one::r,.one x::vs,xs,h=>by
  simp only [cK,Ta] at h
  obtain ⟨ys,h1,rfl⟩:=h
  simp [eW,jU h1]
 | .one::r,.agg x::vs,xs,h=>by simp [cK] at h
 | .agg n::r,.one x::vs,xs,h=>by simp [cK] at h
 | .agg n::r,.agg ys::vs,xs,h=>by
  simp only [cK] at h
  split at h
  ·rename_i hn
   simp only [Ta] at h
   obtain ⟨zs,h1,rfl⟩:=h
   subst hn
   simp [eW,jU h1]
  ·cases h
 | .ptr n::r,.agg ys::vs,xs,h=>by simp [cK] at h
 | .ptr n::r,.one x::vs,xs,h=>by
  cases x with
  | dp row o =>
   simp only [cK] at h
   split at h
   ·rename_i hn
    simp only [Ta] at h
    obtain ⟨zs,h1,rfl⟩:=h
    obtain ⟨hn1,hn2⟩:=hn
    subst hn1 hn2
    simp [eW,jU h1]
   ·cases h
  | _=>simp [cK] at h
theorem oP {α β:Type} {f:α→Q β} {o:Ob}:∀ {xs ys:List α} {zs:List β},(Q.mapM f (xs++ys)).run o=some zs→∃ as bs,(Q.mapM f xs).run o=some as∧(Q.mapM f ys).run o=some bs∧zs=as++bs∧(Q.mapM f (xs++ys)).reads o=(Q.mapM f xs).reads o++(Q.mapM f ys).reads o
 | [],ys,zs,h=>⟨[],zs,by simp [Q.mapM,Q.run],h,rfl,by simp [Q.mapM,Q.reads]⟩
 | x::xs,ys,zs,h=>by
  simp only [Tr,Q.mapM,Q.run_bind] at h
  cases hx:(f x).run o with
  | none=>rw [hx] at h;simp at h
  | some a =>
   rw [hx] at h
   simp only [Va] at h
   cases hr:(Q.mapM f (xs++ys)).run o with
   | none=>rw [hr] at h;simp at h
   | some rs =>
    rw [hr] at h
    simp only [Va,Q.run,T3] at h
    obtain ⟨as,bs,h1,h2,h3,h4⟩:=oP hr
    refine ⟨a::as,bs,?_,h2,?_,?_⟩
    ·simp [Q.mapM,Q.run_bind,hx,h1,Q.run]
    ·rw [←h,h3];rfl
    ·simp only [Tr,Q.mapM,Q.reads_bind,hx,hr,h1,Q.reads,h4,Tt,To]
theorem sB {o:Ob}:∀ {cs:List L} {zs:List VD},(Q.mapM cC (cs.map .one)).run o=some zs→∃ ds,(Q.mapM (cP 4) cs).run o=some ds∧zs=ds.map .one∧(Q.mapM cC (cs.map .one)).reads o=(Q.mapM (cP 4) cs).reads o
 | [],zs,h=>by simp only [Xd,Q.mapM,Q.run,T3] at h;subst h;exact ⟨[],by simp [Q.mapM,Q.run],rfl,by simp [Q.mapM,Q.reads]⟩
 | c::cs,zs,h=>by
  simp only [Tl,Q.mapM,cC,Q.run_bind] at h
  cases hx:(cP 4 c).run o with
  | none=>rw [hx] at h;simp at h
  | some a =>
   rw [hx] at h
   simp only [Va,Q.run] at h
   cases hr:(Q.mapM cC (cs.map .one)).run o with
   | none=>rw [hr] at h;simp at h
   | some rs =>
    rw [hr] at h
    simp only [Va,T3] at h
    obtain ⟨ds,h1,h2,h3⟩:=sB hr
    refine ⟨a::ds,?_,?_,?_⟩
    ·simp [Q.mapM,Q.run_bind,hx,h1,Q.run]
    ·rw [←h,h2];rfl
    ·simp only [Tl,Q.mapM,cC,Q.reads_bind,Q.run_bind,hx,hr,h1,Q.reads,Q.run,h3,Tt,Va]
theorem wV:∀ {sh:List Sh} {vs:List cw} {k:List D→List Nat→aq},ic (af Fn FnD m) ob sh vs k=some r →
  ∃ xs rd vds,(Q.mapM cC (cL vs)).run (ai (av ob))=some vds∧(∀ q∈(Q.mapM cC (cL vs)).reads (ai (av ob)),q∈rd)∧cK sh vds=some xs∧k xs rd=some r:=by
 intro sh
 have more:∀ {v:cw} {vs:List cw} {vd:VD} {vds:List VD} {rd rd':List Nat},(cC (eV v)).run (ai (av ob))=some vd→(∀ q∈(cC (eV v)).reads (ai (av ob)),q∈rd) →
   (Q.mapM cC (cL vs)).run (ai (av ob))=some vds→(∀ q∈(Q.mapM cC (cL vs)).reads (ai (av ob)),q∈rd') →
   (Q.mapM cC (cL (v::vs))).run (ai (av ob))=some (vd::vds)∧(∀ q∈(Q.mapM cC (cL (v::vs))).reads (ai (av ob)),q∈rd++rd'):=by
  intro v vs vd vds rd rd' h1 h2 h3 h4
  refine ⟨by simp [cL,Q.mapM,Q.run_bind,h1,h3,Q.run],fun q hq=>?_⟩
  simp only [cL,Q.mapM,Q.reads_bind,h1,h3,Q.reads,Tt,V6] at hq
  rcases hq with hq | hq
  ·exact Vm _ (h2 q hq)
  ·exact Vh _ (h4 q hq)
 induction sh with
 | nil =>
  intro vs k h
  cases vs with
  | nil=>exact ⟨[],[],[],by simp [cL,Q.mapM,Q.run],by simp [cL,Q.mapM,Q.reads],rfl,h⟩
  | cons v vs=>cases h
 | cons s sh ih =>
  intro vs k h
  cases vs with
  | nil=>cases s<;>cases h
  | cons v vs =>
   cases s with
   | met nm n=>cases v<;>cases h
   | one =>
    cases v with
    | one x =>
     simp only [ic] at h
     obtain ⟨d,rd,h1,h2,h⟩:=mH _ _ _ h
     obtain ⟨xs,rd',vds,h3,h4,h5,h⟩:=ih h
     have:=more (v:=.one x) (vd:=.one d) (by simp [eV,cC,Q.run_bind,h1,Q.run]) (rd:=rd) (fun q hq=>h2 q (by simpa [eV,cC,Q.reads_bind,h1,Q.reads] using hq)) h3 h4
     exact ⟨_,_,_,this.1,this.2,by simp [cK,h5],h⟩
    | agg xs=>cases h
    | tup xs=>cases h
   | agg n =>
    cases v with
    | one x=>cases h
    | agg ls =>
     simp only [ic] at h
     split at h
     ·rename_i hn
      obtain ⟨ds,rd,h1,h2,hl,h⟩:=iN (f:=cP 4) (fun x k=>mH 4 x k) h
      obtain ⟨xs,rd',vds,h3,h4,h5,h⟩:=ih h
      have:=more (v:=.agg ls) (vd:=.agg ds) (by simp [eV,cC,Q.run_bind,h1,Q.run]) (rd:=rd) (fun q hq=>h2 q (by simpa [eV,cC,Q.reads_bind,h1,Q.reads] using hq)) h3 h4
      exact ⟨_,_,_,this.1,this.2,by simp [cK,h5,hl,hn],h⟩
     ·cases h
    | tup xs=>cases h
   | ptr n =>
    cases v with
    | agg xs=>cases h
    | tup xs=>cases h
    | one x =>
     cases x with
     | dp row o =>
      simp only [ic] at h
      split at h
      ·rename_i hn
       obtain ⟨xs,rd',vds,h3,h4,h5,h⟩:=ih h
       have:=more (v:=.one (.dp row o)) (vd:=.one (.dp row o)) (rd:=[]) (by simp [eV,eL,cC,cP,Q.run_bind,Q.run]) (fun q hq=>by simp [eV,eL,cC,cP,Q.reads_bind,Q.reads,Q.run] at hq) h3 h4
       exact ⟨row++xs,rd',_,this.1,by simpa using this.2,by simp [cK,h5,hn],h⟩
      ·cases h
     | d x =>
      simp only [ic] at h
      obtain ⟨row,rfl,hn,h⟩:=sb h
      rw [ed hn] at h
      obtain ⟨xs,rd',vds,h3,h4,h5,h⟩:=ih h
      have:=more (v:=.one (.d (.dp row 0))) (vd:=.one (.dp row 0)) (rd:=[]) (by simp [eV,eL,cC,cP,Q.run_bind,Q.run]) (fun q hq=>by simp [eV,eL,cC,cP,Q.reads_bind,Q.reads,Q.run] at hq) h3 h4
      exact ⟨row++xs,rd',_,this.1,by simpa using this.2,by simp [cK,h5,hn],h⟩
     | ptr key o =>
      simp only [ic] at h
      split at h
      ·rename_i cells elem hk
       split at h
       ·rename_i hn
        obtain ⟨ds,rd,h1,h2,hl,h⟩:=iN (f:=cP 3) (fun x k=>mH 3 x k) h
        obtain ⟨xs,rd',vds,h3,h4,h5,h⟩:=ih h
        have:=more (v:=.one (.ptr key o)) (vd:=.one (.dp ds o)) (rd:=key::rd) (by simp [eV,eL,cC,cP,Q.run_bind,Q.run,az,hk,eO,h1]) (fun q hq=>by
         simp only [eV,eL,cC,cP,Q.reads_bind,Q.reads,Q.run,Q.run_bind,az,hk,Th,eO,h1,Tt,Va,Ti] at hq
         rcases hq with rfl | hq
         ·simp
         ·exact Ts _ (h2 q hq)) h3 h4
        exact ⟨_,_,_,this.1,this.2,by simp [cK,h5,hl,hn],h⟩
       ·cases h
      ·cases h
     | pa key i o c =>
      simp only [ic] at h
      split at h
      ·rename_i rows size elem own hk
       split at h
       ·rename_i hn
        obtain ⟨hn1,hn2⟩:=hn
        subst hn1 hn2
        obtain ⟨hc,h⟩:=bI h
        have hc':c=rows.length:=hc
        obtain ⟨w,h1,h2,h⟩:=gL h
        obtain ⟨xs,rd',vds,h3,h4,h5,h⟩:=ih h
        rw [ed h2] at h
        have:=more (v:=.one (.pa key i 0 c)) (vd:=.one (.dp w 0)) (rd:=[key]) (by simp [eV,eL,cC,cP,Q.run,az,hk,eO,h1,hc',Q.guard,Q.opt,Q.bind]) (fun q hq=>by
         simpa [eV,eL,cC,cP,Q.reads_bind,Q.reads,Q.run,Q.run_bind,az,hk,eO,h1,hc',Q.guard,Q.opt,Q.bind] using hq) h3 h4
        exact ⟨_,_,_,this.1,by simpa using this.2,by simp [cK,h5,h2],h⟩
       ·cases h
      ·cases h
     | _=>cases h
def vJ (e:List Yr):RK→Nat→RC
 | .d,j=>.d ((af (fun _ _=>none) (fun _ _ _=>none) 0).ld e j)
 | .own size elem,j=>.own ((af (fun _ _=>none) (fun _ _ _=>none) 0).lr e j) size elem
 | .om agg,j=>.om agg ((af (fun _ _=>none) (fun _ _ _=>none) 0).lm e j).1 ((af (fun _ _=>none) (fun _ _ _=>none) 0).lm e j).2
def dW (e:List Yr):List RK→Nat→List RC
 | [],_=>[]
 | x::xs,j=>vJ e x j::dW e xs (j+1)
def tB (e:List Yr) (g:Bool) (cs:List RK) (j:Nat):RV:=match g,dW e cs j with
 | false,[x]=>.one x
 | _,xs=>.agg xs
def de (e:List Yr):RS→Nat→List RV
 | [],_=>[]
 | (g,cs)::r,j=>tB e g cs j::de e r (j+cs.length)
theorem Ee (e:List Yr) (base:Nat) (x:RK) (j n:Nat):ge base (vJ e x j) n=(eL (mZ (af Fn FnD m) e base x j n).1,av (mZ (af Fn FnD m) e base x j n).2.1,(mZ (af Fn FnD m) e base x j n).2.2):=by
 cases x<;>simp [ge,vJ,mZ,eL,aT,bw,eO,af]
theorem tW (e:List Yr) (base:Nat):∀ (xs:List RK) (j n:Nat),iG base (dW e xs j) n=(cn (dm (af Fn FnD m) e base xs j n).1,av (dm (af Fn FnD m) e base xs j n).2.1,(dm (af Fn FnD m) e base xs j n).2.2)
 | [],j,n=>by simp [iG,dW,dm,cn,aT]
 | x::xs,j,n=>by simp only [dW,iG,Ee (Fn:=Fn) (FnD:=FnD) (m:=m),tW e base xs,dm,cn,i7]
theorem Az (e:List Yr) (base:Nat):∀ (rs:RS) (j n:Nat),ei base (de e rs j) n=(cL (c8 (af Fn FnD m) e base rs j n).1,av (c8 (af Fn FnD m) e base rs j n).2.1,(c8 (af Fn FnD m) e base rs j n).2.2)
 | [],j,n=>by simp [ei,de,c8,cL,aT]
 | (g,cs)::r,j,n=>by
  have hv:f6 base (tB e g cs j) n=(eV (Ch g (dm (af Fn FnD m) e base cs j n).1),av (dm (af Fn FnD m) e base cs j n).2.1,(dm (af Fn FnD m) e base cs j n).2.2):=by
   unfold tB
   match g,cs with
   | true,cs=>simp only [f6,tW (Fn:=Fn) (FnD:=FnD) (m:=m),eV,Ch]
   | false,[]=>simp [dW,f6,iG,dm,eV,cn,aT,Ch]
   | false,[x]=>simp only [dW,f6,Ee (Fn:=Fn) (FnD:=FnD) (m:=m),dm,eV,Tt,Ch]
   | false,x::y::z =>
    have:=tW (Fn:=Fn) (FnD:=FnD) (m:=m) e base (x::y::z) j n
    simp only [dW] at this
    simp only [dW,f6,this]
    simp only [dm,eV,cn,Ch]
  simp only [de,ei,hv,Az e base r,c8,cL,i7]
theorem DP (e:List Yr) (base:Nat) (rs:RS):f6 base (iU (de e rs 0)) 0=(eV (em (c8 (af Fn FnD m) e base rs 0 0).1),av (c8 (af Fn FnD m) e base rs 0 0).2.1,(c8 (af Fn FnD m) e base rs 0 0).2.2):=by
 have h:=Az (Fn:=Fn) (FnD:=FnD) (m:=m) e base rs 0 0
 match rs with
 | []=>simp [de,iU,f6,ei,c8,em,eV,cL,aT]
 | [(g,cs)] =>
  simp only [de,ei,Tt,c8,cL,Ty,List.cons.injEq,Wm] at h
  simp only [de,iU,c8,em,Tt]
  rw [←h.1,← h.2.1,← h.2.2]
 | a::b::c =>
  simp only [de,iU] at h ⊢
  simp only [f6,h,c8,em,eV]
theorem fw:∀ {l:List Nat},gS l=true→l.Nodup
 | [],_=>by simp
 | x::xs,h=>by
  simp only [gS,Te,Wl,List.contains_eq_mem,W4] at h
  exact Wf.2 ⟨h.1,fw h.2⟩
theorem kT {α:Type} {q:Q α}:∀ {us:Ur},nB ob us=true→(fi (av us) q).run (ai (av ob))=q.run (ai (av ob))∧(fi (av us) q).reads (ai (av ob))=us.map (·.1)++q.reads (ai (av ob))
 | [],_=>⟨rfl,rfl⟩
 | (k,o)::us,h=>by
  simp only [nB,Te] at h
  obtain ⟨h1,h2⟩:=h
  split at h1
  ·rename_i hk
   obtain ⟨h3,h4⟩:=kT (q:=q) h2
   simp only [bw,fi,Q.run,Q.reads,az,hk,Wr]
   exact ⟨h3,by rw [h4];rfl⟩
  ·cases h1
theorem j6 (us:Ur):(av us).map Prod.fst=us.map (·.1):=by simp [av,W0]
theorem En (x:iD) (h:x.isD=true):(eL x).isD=true:=by cases x<;>simp [L3.isD] at h<;>simp [eL,L.isD]
theorem isF_e (x:iD) (h:x.isF=true):(eL x).isF=true:=by
 cases x with
 | fn f cs =>
  have h':cs.all L3.isD=true:=h
  show (cn cs).all L.isD=true
  simp only [bN,List.all_map,V4,Function.comp] at h' ⊢
  exact fun x hx=>En x (h' x hx)
 | d _=>rfl
 | b _=>rfl
 | i _ _=>rfl
 | nil=>rfl
 | dp _ _=>rfl
 | _=>cases h
theorem Eo (v:cw) (h:v.isD=true):(eV v).isD=true:=by
 cases v with
 | one x=>exact isF_e x h
 | agg xs =>
  simp only [V3.isD,V4] at h
  simp only [eV,V.isD,bN,List.all_map,V4,Function.comp]
  exact fun x hx=>En x (h x hx)
 | tup xs=>cases h
theorem uZ {e:List Yr}:∀ {cs:List RK} {j:Nat},((cs.zipIdx j).map (yE (af Fn FnD m) e)).all oF=true→(dW e cs j).all RC.lits=true
 | [],j,_=>rfl
 | x::xs,j,h=>by
  simp only [Xt,Tl,Vi,Te] at h
  simp only [dW,Vi,Te]
  refine ⟨?_,uZ h.2⟩
  have h1:=h.1
  cases x<;>simpa [vJ,RC.lits,oF,yE,af] using h1
theorem mM {e:List Yr}:∀ {a b:List RK} {j:Nat},dW e (a++b) j=dW e a j++dW e b (j+a.length)
 | [],b,j=>by simp [dW]
 | x::a,b,j=>by
  simp only [Tr,dW,mM (a:=a),Tb]
  rw [show j+1+a.length=j+(a.length+1) by omega]
theorem Ar {e:List Yr}:∀ {rs:RS} {j:Nat},(dW e (rs.flatMap (·.2)) j).all RC.lits=true→RV.litsF (de e rs j)=true
 | [],j,_=>rfl
 | (g,cs)::r,j,h=>by
  simp only [List.flatMap_cons,mM,List.all_append,Te] at h
  simp only [de,RV.litsF,Te]
  refine ⟨?_,Ar h.2⟩
  unfold tB
  split
  ·rename_i heq;rw [heq] at h;simpa [RV.lits] using h.1
  ·simpa [RV.lits] using h.1
theorem litsP {rs:List RV} (h:RV.litsF rs=true):(iU rs).lits=true:=by
 unfold iU
 split
 ·simpa [RV.litsF] using h
 ·simpa [RV.lits] using h
def iJ (cfg:Cf3) (Fn:Nat→List D→aq):Cs:=fun f ds=>match cfg.ash f with
 | none=>none
 | some sh=>match cK sh ds with
  | none=>none
  | some xs=>match Fn f xs with
   | none=>none
   | some (j,ys)=>match (cfg.rsk f)[j]? with
    | none=>none
    | some rs=>some (iU (de ys rs 0))
def tZ:List RS→Bool
 | [[(false,[.d])]]=>true
 | _=>false
def sW:Nat→RS→Bool
 | 0,[]=>true
 | n+1,(false,[.d])::r=>sW n r
 | _,_=>false
theorem wX:∀ {n:Nat} {rs:RS},sW n rs=true→rs=List.replicate n (false,[.d])
 | 0,[],_=>rfl
 | n+1,(false,[.d])::r,h=>by simp only [sW] at h;rw [wX h];rfl
 | 0,_::_,h=>by simp [sW] at h
 | n+1,[],h=>by simp [sW] at h
def MD:Bool→List D→Option VD
 | true,row=>some (.agg row)
 | false,[x]=>some (.one x)
 | false,_=>none
def xy (P:Program) (cfg:Cf3) (Fn:Nat→List D→aq) (t:Nat) (g:Bool) (row:List D):List Sh→aq
 | [.met name n]=>match yB P t name,MD g row with
  | some f,some v=>match cfg.ash f,cfg.rsk f with
   | some sh,[rs]=>if sW n rs=true then (match cK sh [v] with
    | some xs=>match Fn f xs with
     | some (0,ys)=>some (0,ys)
     | _=>none
    | none=>none) else none
   | _,_=>none
  | _,_=>none
 | _=>none
def Fl (cfg:Cf3) (Fn:Nat→List D→aq) (f:Nat) (vs:List VD):aq:=match cfg.ash f with
 | none=>none
 | some sh'=>match cK sh' vs with
  | none=>none
  | some xs=>if tZ (cfg.rsk f)=true then (match Fn f xs with
   | some (0,[.d z])=>some (0,[.d z])
   | _=>none) else none
def c6 (P:Program) (cfg:Cf3) (Fn:Nat→List D→aq):D→List Sh→List D→aq:=fun x sh ds=>match x,eW sh ds with
 | .fn f caps,some vs=>if f < 2000000 then Fl cfg Fn f (vs++caps.map .one) else Fl cfg Fn (f - 2000000) (caps.map .one++vs)
 | .ifc t g row,_=>xy P cfg Fn t g row sh
 | _,_=>none
def nG (P:Program) (cfg:Cf3) (Fn:Nat→List D→aq):Prop:=∀ f sh xs vs j ys rs,cfg.ash f=some sh→eW sh xs=some vs→Fn f xs=some (j,ys)→(cfg.rsk f)[j]?=some rs→SC P f vs (iU (de ys rs 0))
theorem BF {cfg:Cf3} (h:nG P cfg Fn):∀ f ds r,iJ cfg Fn f ds=some r→SC P f ds r:=by
 intro f ds r hc
 unfold iJ at hc
 split at hc
 ·cases hc
 ·rename_i sh hsh
  split at hc
  ·cases hc
  ·rename_i xs hxs
   split at hc
   ·cases hc
   ·rename_i j ys hf
    split at hc
    ·cases hc
    ·rename_i rs hrs
     cases hc
     exact h f sh xs ds j ys rs hsh (jU hxs) hf hrs
theorem wQ {cfg:Cf3} {dst:Option Nat} {f:Nat} {args:List cw} {caps:List iD} {k:K3 D Nat Rr Mr aq} (h:B4 (af Fn FnD m) cfg ob dst f args caps k=some r):OKQ ob (fg (iJ cfg Fn) dst f (cL args) (cn caps)) k r:=by
 unfold B4 at h
 split at h
 ·cases h
 ·rename_i sh hsh
  obtain ⟨xs,rd,vds,h1,h2,h3,h⟩:=wV h
  obtain ⟨j,ys,kont,h4,h5,h⟩:=fO h
  have h4':Fn f xs=some (j,ys):=h4
  rw [Tm] at h5
  obtain ⟨rs,h6,rfl⟩:=Ta.1 h5
  simp only at h
  split at h
  ·rename_i hc
   obtain ⟨hnd,hab⟩:=hc
   have e1:cL (args++caps.map .one)=cL args++(cn caps).map .one:=by simp [db,bN,eV,W0]
   rw [e1] at h1 h2
   obtain ⟨ds,cs,g1,g2,g3,g4⟩:=oP h1
   obtain ⟨ds',g5,g6,g7⟩:=sB g2
   have hC:iJ cfg Fn f (ds++ds'.map .one)=some (iU (de ys rs 0)):=by
    rw [←g6,← g3]
    simp only [iJ,hsh,h3,h4',h6]
   have lay:=DP (Fn:=Fn) (FnD:=FnD) (m:=m) ys (dt dst) rs
   have main:∀ b,b=true→k (em (c8 (af Fn FnD m) ys (dt dst) rs 0 0).1) (c8 (af Fn FnD m) ys (dt dst) rs 0 0).2.1 (rd++(c8 (af Fn FnD m) ys (dt dst) rs 0 0).2.1.map (·.1))=some r→(b=((iU (de ys rs 0)).lits||((cL args).all V.isD&&(cn caps).all L.isD)))→OKQ ob (fg (iJ cfg Fn) dst f (cL args) (cn caps)) k r:=by
    intro b hb hk hbe
    have habs:=kT (ob:=ob) (q:=Q.ret (eV (em (c8 (af Fn FnD m) ys (dt dst) rs 0 0).1),av (c8 (af Fn FnD m) ys (dt dst) rs 0 0).2.1)) hab
    have hnd':decide (((av (c8 (af Fn FnD m) ys (dt dst) rs 0 0).2.1).map Prod.fst).Nodup)=true:=by rw [j6];exact Xa (fw hnd)
    refine OKQ.mk ?_ ?_ hk
    ·simp only [fg,Q.run_bind,g1,g5,Va,hC,Q.opt,← hbe,hb,Q.guard,ql,lay,hnd',habs.1,Q.run]
    ·intro q hq
     simp only [fg,Q.reads_bind,g1,g5,hC,Q.opt,Q.bind,← hbe,hb,Q.guard,ql,lay,hnd',habs.2,Q.reads,Tt,V6] at hq
     rw [g4,g7] at h2
     rcases hq with hq | hq | hq
     ·exact Vm _ (h2 q (Vm _ hq))
     ·exact Vm _ (h2 q (Vh _ hq))
     ·exact Vh _ hq
   split at h
   ·rename_i hall
    refine main _ rfl h ?_
    rw [eq_comm,Vl]
    right
    simp only [Te,V4] at hall ⊢
    refine ⟨?_,?_⟩
    ·intro v hv
     rw [db] at hv
     obtain ⟨u,hu,rfl⟩:=V8.1 hv
     exact Eo u (hall.1 u hu)
    ·intro l hl
     rw [bN] at hl
     obtain ⟨u,hu,rfl⟩:=V8.1 hl
     exact En u (hall.2 u hu)
   ·obtain ⟨hl,h⟩:=sd h
    refine main _ rfl h ?_
    rw [eq_comm,Vl]
    left
    refine litsP (Ar (uZ (Fn:=Fn) (FnD:=FnD) (m:=m) ?_))
    exact hl
  ·cases h
theorem Fk {cfg:Cf3} {Fn:Nat→List D→aq} {f:Nat} {vs:List VD} {j:Nat} {ys:List Yr} (h:Fl cfg Fn f vs=some (j,ys)):∃ z,j=0∧ys=[.d z]∧iJ cfg Fn f vs=some (.one (.d z)):=by
 unfold Fl at h
 split at h
 ·cases h
 ·rename_i sh' hsh'
  split at h
  ·cases h
  ·rename_i xs' hxs'
   split at h
   ·rename_i h1d
    split at h
    ·rename_i z hz
     cases h
     have hrs:cfg.rsk f=[[(false,[.d])]]:=by
      revert h1d;unfold tZ;split
      ·rename_i he;intro _;exact he
      ·intro hh;cases hh
     refine ⟨z,rfl,rfl,?_⟩
     simp only [iJ,hsh',hxs',hz,hrs,Vj]
     rfl
    ·cases h
   ·cases h
theorem lx {ob:Ur}:∀ cs:List D,(Q.mapM (cP 4) (cs.map L.d)).run (ai (av ob))=some cs∧(Q.mapM (cP 4) (cs.map L.d)).reads (ai (av ob))=[]
 | []=>⟨rfl,rfl⟩
 | c::cs=>by
  obtain ⟨h1,h2⟩:=lx (ob:=ob) cs
  simp [Q.mapM,cP,Q.run_bind,Q.reads_bind,Q.run,Q.reads,h1,h2]
theorem qh {α β:Type} {f:α→Q β} {o:Ob}:∀ {xs ys:List α} {as bs:List β},(Q.mapM f xs).run o=some as→(Q.mapM f ys).run o=some bs→(Q.mapM f (xs++ys)).run o=some (as++bs)∧(Q.mapM f (xs++ys)).reads o=(Q.mapM f xs).reads o++(Q.mapM f ys).reads o
 | [],ys,as,bs,h,h2=>by
  simp only [Q.mapM,Q.run,T3] at h
  subst h
  exact ⟨h2,by simp [Q.mapM,Q.reads]⟩
 | x::xs,ys,as,bs,h,h2=>by
  simp only [Q.mapM,Q.run_bind] at h
  cases hx:(f x).run o with
  | none=>rw [hx] at h;simp at h
  | some a =>
   rw [hx] at h
   simp only [Va] at h
   cases hr:(Q.mapM f xs).run o with
   | none=>rw [hr] at h;simp at h
   | some rs =>
    rw [hr] at h
    simp only [Va,Q.run,T3] at h
    subst h
    obtain ⟨h3,h4⟩:=qh hr h2
    refine ⟨?_,?_⟩
    ·simp [Q.mapM,Q.run_bind,hx,h3,Q.run]
    ·simp only [Tr,Q.mapM,Q.reads_bind,hx,hr,h3,Q.reads,h4,Tt,To]
theorem lw {ob:Ur}:∀ cs:List D,(Q.mapM cC ((cs.map L.d).map V.one)).run (ai (av ob))=some (cs.map .one)∧(Q.mapM cC ((cs.map L.d).map V.one)).reads (ai (av ob))=[]
 | []=>⟨rfl,rfl⟩
 | c::cs=>by
  obtain ⟨h1,h2⟩:=lw (ob:=ob) cs
  have h3:(cC (V.one (L.d c))).run (ai (av ob))=some (.one c):=rfl
  have h4:(cC (V.one (L.d c))).reads (ai (av ob))=[]:=rfl
  simp only [Tl,Q.mapM,Q.run_bind,Q.reads_bind,h3,h4,h1,h2,Q.run,Q.reads,Va,Tt,Vr]
theorem CN (vs:List cw) (h:vs.all V3.isD=true):(cL vs).all V.isD=true:=by
 rw [db,List.all_map,V4]
 exact fun x hx=>Eo x (V4.1 h x hx)
theorem CG:∀ cs:List D,(cs.map L.d).all L.isD=true
 | []=>rfl
 | c::cs=>by simp [L.isD]
theorem CF:∀ cs:List D,((cs.map L.d).map V.one).all V.isD=true
 | []=>rfl
 | c::cs=>by simp [V.isD,L.isF,L.isD]
theorem Aj {cfg:Cf3} {dst:Option Nat} {ρ:Operand→cw} {op:Op} {k:K3 D Nat Rr Mr aq} (h:Gn (af Fn (c6 P cfg Fn) m) cfg P ob dst ρ op k=some r):OKQ ob (qc (iJ cfg Fn) P dst (fun x=>eV (ρ x)) op) k r:=by
 unfold Gn at h
 unfold qc
 split at h
 ·rename_i fo args hc
  simp only [hc]
  split at h
  ·rename_i f caps hf
   split at h
   ·rename_i hlt
    have:=wQ h
    rw [db,Vv] at this
    simp only [hf,eV,eL,mf,T1 hlt]
    exact this
   ·rename_i hlt
    have:=wQ h
    have e0:cL (caps.map .one++args.map ρ)=(cn caps).map .one++args.map fun x=>eV (ρ x):=by simp [db,bN,eV,W0]
    rw [e0] at this
    simp only [hf,eV,eL,mf,sL,T5 hlt]
    exact this
  ·rename_i x hf
   split at h
   ·rename_i sh hsh
    obtain ⟨xs,rd,vds,h1,h2,h3,h⟩:=wV h
    obtain ⟨j,ys,kont,h4,h5,h⟩:=fO h
    have h4':c6 P cfg Fn x sh xs=some (j,ys):=h4
    have e1:cL (args.map ρ)=args.map fun x=>eV (ρ x):=by rw [db,Vv];rfl
    cases x with
    | fn f caps =>
     simp only [c6,jU h3] at h4'
     have ni:∀ z,j=0→ys=[.d z]→∃ b,b=true∧(b=(z.isLit||(args.map fun x=>eV (ρ x)).all V.isD))∧k (.one (.d z)) [] rd=some r:=by
      rintro z rfl rfl
      simp only [Vj,T3] at h5
      subst h5
      simp only at h
      split at h
      ·rename_i hall
       refine ⟨true,rfl,?_,h⟩
       rw [←e1,CN _ hall,Bool.or_true]
      ·obtain ⟨hl,h⟩:=sd h
       refine ⟨true,rfl,?_,h⟩
       have:z.isLit=true:=by simpa [oF,af] using hl
       rw [this];rfl
     rw [e1] at h1 h2
     split at h4'
     ·rename_i hlt
      obtain ⟨z,hj,hy,hC⟩:=Fk h4'
      obtain ⟨b,hb,hbe,hk⟩:=ni z hj hy
      simp only [hf,eV,eL,mf,T1 hlt]
      have hg:(z.isLit||(args.map fun x=>eV (ρ x)).all V.isD&&(caps.map L.d).all L.isD)=true:=by rw [CG,Vx,← hbe,hb]
      refine OKQ.mk (v:=.one (.d z)) (us:=[]) (rd:=rd) ?_ ?_ hk
      ·simp only [fg,Q.run_bind,h1,(lx caps).1,hC,Q.opt,RV.lits,RC.lits,Va,hg,Q.guard,ql,f6,ge,fi,Q.run,eV,eL,aT,Xd,Y3,T8]
      ·intro q hq
       simp only [fg,Q.reads_bind,h1,(lx caps).1,(lx caps).2,hC,Q.opt,Q.bind,RV.lits,RC.lits,hg,Q.guard,ql,f6,ge,fi,Xd,Y3,T8,Q.reads,Tt] at hq
       exact h2 q hq
     ·rename_i hlt
      obtain ⟨z,hj,hy,hC⟩:=Fk h4'
      obtain ⟨b,hb,hbe,hk⟩:=ni z hj hy
      simp only [hf,eV,eL,mf,sL,T5 hlt]
      have hrun:(Q.mapM cC ((caps.map L.d).map V.one++args.map fun x=>eV (ρ x))).run (ai (av ob))=some (caps.map .one++vds):=(qh (lw caps).1 h1).1
      have hreads:(Q.mapM cC ((caps.map L.d).map V.one++args.map fun x=>eV (ρ x))).reads (ai (av ob))=(Q.mapM cC (args.map fun x=>eV (ρ x))).reads (ai (av ob)):=by
       rw [(qh (lw caps).1 h1).2,(lw caps).2,V5]
      have hg:(z.isLit||((caps.map L.d).map V.one++args.map fun x=>eV (ρ x)).all V.isD&&([]:List L).all L.isD)=true:=by rw [List.all_append,CF,V7,Wg,Vx,← hbe,hb]
      have hC':iJ cfg Fn (f - 2000000) (caps.map .one++vds++[])=some (.one (.d z)):=by simpa using hC
      refine OKQ.mk (v:=.one (.d z)) (us:=[]) (rd:=rd) ?_ ?_ hk
      ·simp only [fg,Q.run_bind,hrun,Q.mapM,Xd,Va,hC',Q.opt,Q.bind,RV.lits,RC.lits,Va,hg,Q.guard,ql,f6,ge,fi,Q.run,eV,eL,aT,Xd,Y3,T8]
      ·intro q hq
       simp only [fg,Q.reads_bind,hrun,hreads,Q.mapM,hC,Q.opt,Q.bind,RV.lits,RC.lits,hg,Q.guard,ql,f6,ge,fi,Xd,Y3,T8,Q.reads,Tt] at hq
       exact h2 q hq
    | ifc t g row =>
     exfalso
     simp only [c6] at h4'
     unfold xy at h4'
     split at h4'
     ·cases vds<;>simp [cK] at h3
     ·cases h4'
    | _=>cases h4'
   ·cases h
  ·cases h
 ·rename_i hc
  simp only [hc]
  split at h
  ·rename_i recv name hi
   simp only [hi]
   split at h
   ·rename_i x hx
    obtain ⟨j,ys,kont,h4,h5,h⟩:=fO h
    have h4':c6 P cfg Fn x [.met name (cfg.iv name)] []=some (j,ys):=h4
    cases x with
    | ifc t g row =>
     simp only [c6,xy] at h4'
     split at h4'
     ·rename_i f v hf hv
      split at h4'
      ·rename_i sh rs hsh hrs
       split at h4'
       ·rename_i hall
        split at h4'
        ·rename_i xs hxs
         split at h4'
         ·rename_i ys' hfn
          cases h4'
          have ers:=wX hall
          subst ers
          simp only [Vj,T3] at h5
          subst h5
          simp only at h
          split at h
          ·rename_i hcc
           obtain ⟨hnd,hab⟩:=hcc
           have hC:iJ cfg Fn f [v]=some (iU (de ys (List.replicate (cfg.iv name) (false,[.d])) 0)):=by
            simp only [iJ,hsh,hxs,hfn,hrs,Vj]
           have lay:=DP (Fn:=Fn) (FnD:=c6 P cfg Fn) (m:=m) ys (dt dst) (List.replicate (cfg.iv name) (false,[.d]))
           have hcaps:∀ cs:List D,(Q.mapM (cP 4) (cs.map L.d)).run (ai (av ob))=some cs∧(Q.mapM (cP 4) (cs.map L.d)).reads (ai (av ob))=[]:=by
            intro cs
            induction cs with
            | nil=>exact ⟨rfl,rfl⟩
            | cons c cs ih=>simp [Q.mapM,cP,Q.run_bind,Q.reads_bind,Q.run,Q.reads,ih.1,ih.2]
           have hrv:∃ u,qu P name (eV (ρ recv))=some (f,u)∧(cC u).run (ai (av ob))=some v∧(cC u).reads (ai (av ob))=[]∧u.isD=true:=by
            rw [hx]
            unfold MD at hv
            split at hv
            ·cases hv
             refine ⟨.agg (row.map L.d),by simp [eV,eL,qu,hf],?_,?_,?_⟩
             ·simp [cC,Q.run_bind,(hcaps _).1,Q.run]
             ·simp [cC,Q.reads_bind,(hcaps _).1,(hcaps _).2,Q.reads]
             ·simp [V.isD,L.isD]
            ·rename_i z
             cases hv
             refine ⟨.one (.d z),by simp [eV,eL,qu,hf],?_,?_,?_⟩
             ·simp [cC,cP,Q.bind,Q.run]
             ·simp [cC,cP,Q.bind,Q.reads]
             ·simp [V.isD,L.isD,L.isF]
            ·cases hv
           obtain ⟨u,hu,hu1,hu2,hu3⟩:=hrv
           simp only [hu]
           have habs:=kT (ob:=ob) (q:=Q.ret (eV (em (c8 (af Fn (c6 P cfg Fn) m) ys (dt dst) (List.replicate (cfg.iv name) (false,[.d])) 0 0).1),av (c8 (af Fn (c6 P cfg Fn) m) ys (dt dst) (List.replicate (cfg.iv name) (false,[.d])) 0 0).2.1)) hab
           have hnd':decide (((av (c8 (af Fn (c6 P cfg Fn) m) ys (dt dst) (List.replicate (cfg.iv name) (false,[.d])) 0 0).2.1).map Prod.fst).Nodup)=true:=by rw [j6];exact Xa (fw hnd)
           have hm1:(Q.mapM cC [u]).run (ai (av ob))=some [v]:=by simp [Q.mapM,Q.run_bind,hu1,Q.run]
           have hm2:(Q.mapM cC [u]).reads (ai (av ob))=[]:=by simp [Q.mapM,Q.reads_bind,hu1,hu2,Q.run,Q.reads]
           have hb:((iU (de ys (List.replicate (cfg.iv name) (false,[RK.d])) 0)).lits||([u].all V.isD&&([]:List L).all L.isD))=true:=by simp [hu3]
           have hz1:(Q.mapM (cP 4) ([]:List L)).run (ai (av ob))=some []:=rfl
           have hz2:(Q.mapM (cP 4) ([]:List L)).reads (ai (av ob))=[]:=rfl
           refine OKQ.mk ?_ ?_ h
           ·simp only [fg,Q.run_bind,hm1,hz1,Va,Q.run,Xd,Tt,hC,Q.opt,hb,Q.guard,ql,lay,hnd',habs.1]
           ·intro q hq
            simp only [fg,Q.reads_bind,hm1,hm2,hz1,hz2,Xd,Tt,V5,hC,Q.opt,Q.bind,hb,Q.guard,ql,lay,hnd',habs.2,Q.reads] at hq
            exact hq
          ·cases h
         ·cases h4'
        ·cases h4'
       ·cases h4'
      ·cases h4'
     ·cases h4'
    | _=>cases h4'
   ·cases h
  ·rename_i hi
   simp only [hi]
   exact LX h
end
section
variable {P:Program} {Fn:Nat→List D→aq} {FnD:D→List Sh→List D→aq} {m:Nat}
def At (e:List Yr) (j:Nat) (ys:List Yr):Prop:=∀ i y,ys[i]?=some y→e[j+i]?=some y
theorem At.nil (e:List Yr) (j:Nat):At e j []:=fun i y h=>by simp at h
theorem At.self (e:List Yr):At e 0 e:=fun i y h=>by simpa using h
theorem At.append {e:List Yr} {j:Nat} {a b:List Yr} (h:At e j (a++b)):At e j a∧At e (j+a.length) b:=by
 refine ⟨fun i y hi=>h i y ?_,fun i y hi=>?_⟩
 ·rw [V2 (Tn.1 hi).1];exact hi
 ·have:=h (a.length+i) y (by rw [Vd (by omega)];simpa using hi)
  rwa [←Ww] at this
theorem At.d {e:List Yr} {j i:Nat} {ys:List Yr} {x:D} (h:At e j ys) (hi:ys[i]?=some (.d x)):(af Fn FnD m).ld e (j+i)=x:=by simp [af,h i _ hi]
theorem At.n {e:List Yr} {j i:Nat} {ys:List Yr} {x:Nat} (h:At e j ys) (hi:ys[i]?=some (.n x)):(af Fn FnD m).ln e (j+i)=x:=by simp [af,h i _ hi]
theorem At.r {e:List Yr} {j i:Nat} {ys:List Yr} {x:Rr} (h:At e j ys) (hi:ys[i]?=some (.r x)):(af Fn FnD m).lr e (j+i)=x:=by simp [af,h i _ hi]
theorem At.mm {e:List Yr} {j i:Nat} {ys:List Yr} {x:Mr} (h:At e j ys) (hi:ys[i]?=some (.m x)):(af Fn FnD m).lm e (j+i)=x:=by simp [af,h i _ hi]
theorem EK (k:Nat) (o:Option Unit) (n c:Unit) (x:iD) (ys:List Yr) (h:jB (af Fn FnD m) (.slk k o n c) x=some ys) (e:List Yr) (j:Nat) (ha:At e j ys):eL (bS (af Fn FnD m) e (.slk k o n c) j).1=eL x∧(bS (af Fn FnD m) e (.slk k o n c) j).2=j+ys.length:=by
 cases x with
 | slk k' o' n' c' =>
  cases o with
  | none =>
   cases o' with
   | none =>
    simp only [jB] at h
    split at h
    ·rename_i hk
     cases h
     subst hk
     refine ⟨?_,rfl⟩
     simp only [bS,eL,L.slk.injEq,Xx]
     exact ⟨ha.n (i:=0) rfl,ha.n (i:=1) rfl⟩
    ·cases h
   | some o'=>simp [jB] at h
  | some o =>
   cases o' with
   | none =>
    simp only [jB] at h
    split at h
    ·rename_i hk
     cases h
     subst hk
     refine ⟨?_,rfl⟩
     simp only [bS,eL,L.slk.injEq,Xx,T7,Vu]
     exact ⟨ha.n (i:=0) rfl,ha.n (i:=1) rfl,ha.n (i:=2) rfl⟩
    ·cases h
   | some o' =>
    simp only [jB] at h
    split at h
    ·rename_i hk
     cases h
     subst hk
     refine ⟨?_,rfl⟩
     simp only [bS,eL,L.slk.injEq,Xx,T7]
     exact ⟨ha.n (i:=0) rfl,ha.n (i:=1) rfl,ha.n (i:=2) rfl⟩
    ·cases h
 | _=>cases o<;>simp [jB] at h
mutual
theorem AR:∀ (s:L3 Unit Unit) (x:iD) (ys:List Yr),jB (af Fn FnD m) s x=some ys→∀ (e:List Yr) (j:Nat),At e j ys→eL (bS (af Fn FnD m) e s j).1=eL x∧(bS (af Fn FnD m) e s j).2=j+ys.length
 | .d _,x,ys,h,e,j,ha=>by
  simp only [jB] at h
  split at h
  ·rename_i y hy
   cases h
   refine ⟨?_,rfl⟩
   have:=ha.d (Fn:=Fn) (FnD:=FnD) (m:=m) (i:=0) rfl
   simp only [bS,eL,dc hy]
   rw [←this];rfl
  ·cases h
 | .b v,x,ys,h,e,j,ha=>by
  cases x<;>simp [jB] at h
  obtain ⟨rfl,rfl⟩:=h
  exact ⟨rfl,rfl⟩
 | .i k n,x,ys,h,e,j,ha=>by
  cases x<;>simp [jB] at h
  obtain ⟨⟨rfl,rfl⟩,rfl⟩:=h
  exact ⟨rfl,rfl⟩
 | .nil,x,ys,h,e,j,ha=>by
  cases x<;>simp [jB] at h
  subst h
  exact ⟨rfl,rfl⟩
 | .dp r o,x,ys,h,e,j,ha=>by
  cases x<;>simp [jB] at h
  rename_i r' o'
  obtain ⟨⟨h1,rfl⟩,rfl⟩:=h
  refine ⟨?_,by simp [bS,h1]⟩
  simp only [bS,eL,L.d.injEq,D.dp.injEq,Wm]
  apply Wz
  intro i
  simp only [Tm]
  by_cases hi:i < r.length
  ·rw [X3 hi]
   have hr:r'[i]?=some (r'[i]'(by omega)):=Tc (by omega)
   rw [hr,Th]
   congr 1
   exact ha.d (by rw [Tm,hr];rfl)
  ·rw [Ve (by simpa using hi),Ve (by omega)];rfl
 | .fn f cs,x,ys,h,e,j,ha=>by
  cases x<;>simp only [jB] at h<;>try (cases h)
  split at h
  ·rename_i hf
   subst hf
   obtain ⟨h1,h2⟩:=nh cs _ ys h e j ha
   exact ⟨by simp only [bS,eL,h1],by simp only [bS,h2]⟩
  ·cases h
 | .slk k o n c,x,ys,h,e,j,ha=>EK k o n c x ys h e j ha
 | .pa k i o c,x,ys,h,e,j,ha=>by
  cases x<;>simp only [jB] at h<;>try (cases h)
  split at h
  ·rename_i hk
   cases h
   obtain ⟨rfl,rfl⟩:=hk
   refine ⟨?_,rfl⟩
   simp only [bS,eL,L.pa.injEq,Xx]
   exact ⟨ha.n (i:=0) rfl,ha.n (i:=1) rfl⟩
  ·cases h
 | .ptr k o,x,ys,h,e,j,ha=>by
  cases x<;>simp [jB] at h
  obtain ⟨⟨rfl,rfl⟩,rfl⟩:=h
  exact ⟨rfl,rfl⟩
 | .mk k,x,ys,h,e,j,ha=>by
  cases x<;>simp [jB] at h
  obtain ⟨rfl,rfl⟩:=h
  exact ⟨rfl,rfl⟩
 | .undef,x,ys,h,e,j,ha=>by
  cases x<;>simp [jB] at h
  subst h
  exact ⟨rfl,rfl⟩
theorem nh:∀ (ss:List (L3 Unit Unit)) (xs:List iD) (ys:List Yr),oW (af Fn FnD m) ss xs=some ys→∀ (e:List Yr) (j:Nat),At e j ys→cn (dO (af Fn FnD m) e ss j).1=cn xs∧(dO (af Fn FnD m) e ss j).2=j+ys.length
 | [],xs,ys,h,e,j,ha=>by
  cases xs<;>simp [oW] at h
  subst h
  exact ⟨rfl,rfl⟩
 | s::ss,xs,ys,h,e,j,ha=>by
  cases xs with
  | nil=>simp [oW] at h
  | cons x xs =>
   simp only [oW] at h
   split at h
   ·rename_i a b h1 h2
    cases h
    obtain ⟨a1,a2⟩:=ha.append
    obtain ⟨h3,h4⟩:=AR s x a h1 e j a1
    obtain ⟨h5,h6⟩:=nh ss xs b h2 e (j+a.length) a2
    refine ⟨?_,?_⟩
    ·simp only [dO,cn,h3,h4,h5]
    ·simp only [dO,h4,h6,Tp,Ww]
   ·cases h
end
mutual
theorem uc:∀ (s:V3 Unit Unit) (x:cw) (ys:List Yr),pi (af Fn FnD m) s x=some ys→∀ (e:List Yr) (j:Nat),At e j ys→eV (d6 (af Fn FnD m) e s j).1=eV x∧(d6 (af Fn FnD m) e s j).2=j+ys.length
 | .one s,x,ys,h,e,j,ha=>by
  cases x with
  | one x =>
   simp only [pi] at h
   obtain ⟨h1,h2⟩:=AR s x ys h e j ha
   exact ⟨by simp only [d6,eV,h1],by simp only [d6,h2]⟩
  | agg xs=>simp [pi] at h
  | tup xs=>simp [pi] at h
 | .agg ss,x,ys,h,e,j,ha=>by
  cases x with
  | agg xs =>
   simp only [pi] at h
   obtain ⟨h1,h2⟩:=nh ss xs ys h e j ha
   exact ⟨by simp only [d6,eV,h1],by simp only [d6,h2]⟩
  | one x=>simp [pi] at h
  | tup xs=>simp [pi] at h
 | .tup ss,x,ys,h,e,j,ha=>by
  cases x with
  | tup xs =>
   simp only [pi] at h
   obtain ⟨h1,h2⟩:=wx ss xs ys h e j ha
   exact ⟨by simp only [d6,eV,h1],by simp only [d6,h2]⟩
  | one x=>simp [pi] at h
  | agg xs=>simp [pi] at h
theorem wx:∀ (ss:List (V3 Unit Unit)) (xs:List cw) (ys:List Yr),sN (af Fn FnD m) ss xs=some ys→∀ (e:List Yr) (j:Nat),At e j ys→cL (fL (af Fn FnD m) e ss j).1=cL xs∧(fL (af Fn FnD m) e ss j).2=j+ys.length
 | [],xs,ys,h,e,j,ha=>by
  cases xs<;>simp [sN] at h
  subst h
  exact ⟨rfl,rfl⟩
 | s::ss,xs,ys,h,e,j,ha=>by
  cases xs with
  | nil=>simp [sN] at h
  | cons x xs =>
   simp only [sN] at h
   split at h
   ·rename_i a b h1 h2
    cases h
    obtain ⟨a1,a2⟩:=ha.append
    obtain ⟨h3,h4⟩:=uc s x a h1 e j a1
    obtain ⟨h5,h6⟩:=wx ss xs b h2 e (j+a.length) a2
    refine ⟨?_,?_⟩
    ·simp only [fL,cL,h3,h4,h5]
    ·simp only [fL,h4,h6,Tp,Ww]
   ·cases h
end
theorem GZ (s:V3 Unit Unit) (x:cw) (ys:List Yr) (h:MM (af Fn FnD m) s x=some ys) (e:List Yr) (j:Nat) (ha:At e j ys):(eV (d6 (af Fn FnD m) e s j).1=eV x∨eV (d6 (af Fn FnD m) e s j).1=.one .undef)∧(d6 (af Fn FnD m) e s j).2=j+ys.length:=by
 unfold MM at h
 split at h
 ·cases h;exact ⟨.inr rfl,rfl⟩
 ·exact ⟨.inl (uc _ _ _ h e j ha).1,(uc _ _ _ h e j ha).2⟩
theorem H0 (s:O3 Unit Unit Unit Unit) (x:Ki) (ys:List Yr) (h:MN (af Fn FnD m) s x=some ys) (e:List Yr) (j:Nat) (ha:At e j ys):eO (i6 (af Fn FnD m) e s j).1=eO x∧(i6 (af Fn FnD m) e s j).2=j+ys.length:=by
 cases s<;>cases x<;>simp only [MN] at h<;>try (cases h)
 ·split at h
  ·rename_i he
   subst he
   obtain ⟨h1,h2⟩:=nh _ _ _ h e j ha
   exact ⟨by simp only [i6,eO,h1],by simp only [i6,h2]⟩
  ·cases h
 ·split at h
  ·rename_i he
   obtain ⟨rfl,rfl,rfl⟩:=he
   cases h
   refine ⟨?_,rfl⟩
   simp only [i6,eO,O.arr.injEq,Vr,Wm]
   exact ha.r (i:=0) rfl
  ·cases h
 ·split at h
  ·rename_i he
   obtain ⟨rfl,rfl⟩:=he
   cases h
   refine ⟨?_,rfl⟩
   have:=ha.mm (Fn:=Fn) (FnD:=FnD) (m:=m) (i:=0) rfl
   simp only [i6,eO,O.mp.injEq,Xx,Wm]
   rw [Wk] at this
   rw [this]
   exact ⟨rfl,rfl⟩
  ·cases h
theorem sP {env:List (Nat×cw)}:∀ (l:List (Nat×V3 Unit Unit)) (ys:List Yr),qC (af Fn FnD m) env l=some ys→∀ (e:List Yr) (j:Nat),At e j ys →
  (∀ t,bg (bD (dP (af Fn FnD m) e l j).1) t=bg (bD env) t∨bg (bD (dP (af Fn FnD m) e l j).1) t=.one .undef)∧(dP (af Fn FnD m) e l j).2=j+ys.length
 | [],ys,h,e,j,ha=>by
  simp only [qC,T3] at h
  subst h
  exact ⟨fun t=>.inr rfl,rfl⟩
 | (t0,v)::l,ys,h,e,j,ha=>by
  simp only [qC] at h
  split at h
  ·rename_i a b h1 h2
   cases h
   obtain ⟨a1,a2⟩:=ha.append
   obtain ⟨h3,h4⟩:=GZ v _ a h1 e j a1
   obtain ⟨h5,h6⟩:=sP l b h2 e (j+a.length) a2
   refine ⟨fun t=>?_,by simp only [dP,h4,h6,Tp,Ww]⟩
   simp only [dP,bD,Tl,bg]
   by_cases ht:t=t0
   ·subst ht
    rw [T1 rfl]
    rcases h3 with h3 | h3
    ·left;rw [h3];exact (f9 t env).symm
    ·right;exact h3
   ·rw [T5 ht,h4]
    exact h5 t
  ·cases h
theorem wy {ob:Ur}:∀ (l:dv Unit Unit Unit Unit) (ys:List Yr),AQ (af Fn FnD m) ob l=some ys→∀ (e:List Yr) (j:Nat),At e j ys →
  (∀ k,(k∈l.map (·.1)→ai (av (i5 (af Fn FnD m) e l j).1) k=ai (av ob) k)∧(k∉l.map (·.1)→ai (av (i5 (af Fn FnD m) e l j).1) k=none))
 | [],ys,h,e,j,ha=>fun k=>⟨fun hk=>by simp at hk,fun _=>rfl⟩
 | (k0,o)::l,ys,h,e,j,ha=>by
  simp only [AQ] at h
  split at h
  ·rename_i o' hk0
   split at h
   ·rename_i a b h1 h2
    cases h
    obtain ⟨a1,a2⟩:=ha.append
    obtain ⟨h3,h4⟩:=H0 o o' a h1 e j a1
    have h5:=wy l b h2 e (j+a.length) a2
    intro k
    simp only [i5,av,Tl,ai,Ti]
    by_cases hk:k=k0
    ·subst hk
     refine ⟨fun _=>?_,fun hn=>absurd (.inl rfl) hn⟩
     rw [T1 rfl,h3]
     have:=az k ob
     rw [hk0] at this
     exact this.symm
    ·rw [T5 hk,h4]
     exact ⟨fun hm=>(h5 k).1 (hm.resolve_left hk),fun hn=>(h5 k).2 fun hm=>hn (.inr hm)⟩
   ·cases h
  ·cases h
mutual
theorem qp (e:List Yr):∀ (s:L3 Unit Unit) (j:Nat),(eL (bS (af Fn FnD m) e s j).1).keysOf=s.keysOf
 | .d _,j=>by simp [bS,eL,L.keysOf,L3.keysOf]
 | .b _,j=>by simp [bS,eL,L.keysOf,L3.keysOf]
 | .i _ _,j=>by simp [bS,eL,L.keysOf,L3.keysOf]
 | .nil,j=>by simp [bS,eL,L.keysOf,L3.keysOf]
 | .dp _ _,j=>by simp [bS,eL,L.keysOf,L3.keysOf]
 | .fn f cs,j=>by simp only [bS,eL,L.keysOf,L3.keysOf];exact iw e cs j
 | .slk k none _ _,j=>by simp [bS,eL,L.keysOf,L3.keysOf]
 | .slk k (some _) _ _,j=>by simp [bS,eL,L.keysOf,L3.keysOf]
 | .pa _ _ _ _,j=>by simp [bS,eL,L.keysOf,L3.keysOf]
 | .ptr _ _,j=>by simp [bS,eL,L.keysOf,L3.keysOf]
 | .mk _,j=>by simp [bS,eL,L.keysOf,L3.keysOf]
 | .undef,j=>by simp [bS,eL,L.keysOf,L3.keysOf]
theorem iw (e:List Yr):∀ (ss:List (L3 Unit Unit)) (j:Nat),L.keysF (cn (dO (af Fn FnD m) e ss j).1)=L3.keysF ss
 | [],j=>rfl
 | s::ss,j=>by simp only [dO,cn,L.keysF,L3.keysF,qp e s,iw e ss]
end
mutual
theorem qn (e:List Yr):∀ (s:V3 Unit Unit) (j:Nat),(eV (d6 (af Fn FnD m) e s j).1).keysOf=s.keysOf
 | .one s,j=>by simp only [d6,eV,V.keysOf,V3.keysOf,qp]
 | .agg ss,j=>by simp only [d6,eV,V.keysOf,V3.keysOf,iw]
 | .tup ss,j=>by simp only [d6,eV,V.keysOf,V3.keysOf,oQ e ss]
theorem oQ (e:List Yr):∀ (ss:List (V3 Unit Unit)) (j:Nat),V.keysF (cL (fL (af Fn FnD m) e ss j).1)=V3.keysF ss
 | [],j=>rfl
 | s::ss,j=>by simp only [fL,cL,V.keysF,V3.keysF,qn e s,oQ e ss]
end
theorem yI (e:List Yr) (s:O3 Unit Unit Unit Unit) (j:Nat):(eO (i6 (af Fn FnD m) e s j).1).keysOf=s.keysOf:=by
 cases s with
 | box cs el=>simp only [i6,eO,O.keysOf,O3.keysOf,iw]
 | arr _ _ _ _=>rfl
 | mp _ _ _=>rfl
theorem ne (e:List Yr):∀ (l:List (Nat×V3 Unit Unit)) (j t k:Nat),k∈(bg (bD (dP (af Fn FnD m) e l j).1) t).keysOf→∃ p∈l,k∈p.2.keysOf
 | [],j,t,k,h=>by simp [dP,bD,bg,V.keysOf,L.keysOf] at h
 | (t0,v)::l,j,t,k,h=>by
  simp only [dP,bD,Tl,bg] at h
  split at h
  ·rw [qn] at h;exact ⟨_,Xl ..,h⟩
  ·obtain ⟨p,hp,hk⟩:=ne e l _ t k h;exact ⟨p,Ts _ hp,hk⟩
theorem oR (e:List Yr):∀ (l:dv Unit Unit Unit Unit) (j q k:Nat) (o:O),ai (av (i5 (af Fn FnD m) e l j).1) q=some o→k∈o.keysOf→∃ p∈l,k∈p.2.keysOf
 | [],j,q,k,o,h,hk=>by simp [i5,av,ai] at h
 | (k0,s)::l,j,q,k,o,h,hk=>by
  simp only [i5,av,Tl,ai] at h
  split at h
  ·simp only [T3] at h
   rw [←h,yI] at hk
   exact ⟨_,Xl ..,hk⟩
  ·obtain ⟨p,hp,hk⟩:=oR e l _ q k o h hk;exact ⟨p,Ts _ hp,hk⟩
theorem AV {a b:Ex} (h:H7 a b=true):a=b:=by
 cases a<;>cases b<;>simp [H7] at h<;>first | rfl | (rw [h])
theorem Cd {a b:Option Ex} (h:yp a b=true):a=b:=by
 cases a<;>cases b<;>simp [yp] at h<;>first | rfl | (rw [AV h])
theorem pQ {B:Base} {zs:List (Nat×Obj)} {nt:Nat} {rng:Bool} {yv:Value} {w:World} {pk:List Nat} {sk:Sk} {st:iM} {ys:List Yr} {a:Act} (hpr:∀ k,B.ob k≠none→k∈pk) (h:ud (af Fn FnD m) pk sk st=some ys)
  (hs:Sim2 B zs nt rng yv (bg (eS st).env) (ai (eS st).ob) (eS st).ys a w) :
  Sim2 B zs nt rng yv (bg (eS (ej (af Fn FnD m) ys sk)).env) (ai (eS (ej (af Fn FnD m) ys sk)).ob) (eS (ej (af Fn FnD m) ys sk)).ys a w∧(ej (af Fn FnD m) ys sk).pend=st.pend:=by
 unfold ud at h
 split at h
 ·rename_i hc
  simp only [Te] at hc
  obtain ⟨⟨⟨h1,h2⟩,h3⟩,h4⟩:=hc
  split at h
  ·rename_i xs zs' hx hz
   cases h
   obtain ⟨a1,a2⟩:=(At.self (xs++zs')).append
   obtain ⟨e1,e2⟩:=sP sk.env xs hx (xs++zs') 0 a1
   have e3:=wy sk.ob zs' hz (xs++zs') (0+xs.length) a2
   simp only [Do,Te,V4,Ws] at h1
   obtain ⟨s1,s2⟩:=h1
   rw [V4] at h2
   have hob:(eS (ej (af Fn FnD m) (xs++zs') sk)).ob=av (i5 (af Fn FnD m) (xs++zs') sk.ob (0+xs.length)).1:=by
    show av (i5 (af Fn FnD m) (xs++zs') sk.ob (dP (af Fn FnD m) (xs++zs') sk.env 0).2).1=_
    rw [e2]
   have henv:(eS (ej (af Fn FnD m) (xs++zs') sk)).env=bD (dP (af Fn FnD m) (xs++zs') sk.env 0).1:=rfl
   obtain ⟨U,ι,ds,hm,he0,hzs,hdf,hnd,hds,hrg,hsz,hv,hy⟩:=hs
   have g1:∀ k,ai (eS (ej (af Fn FnD m) (xs++zs') sk)).ob k=ai (eS st).ob k∨ai (eS (ej (af Fn FnD m) (xs++zs') sk)).ob k=none:=by
    intro k
    rw [hob]
    by_cases hk:k∈sk.ob.map (·.1)
    ·left;exact (e3 k).1 hk
    ·right;exact (e3 k).2 hk
   have gk:∀ k,k∈sk.ob.map (·.1)→ai (eS (ej (af Fn FnD m) (xs++zs') sk)).ob k=ai (eS st).ob k:=by
    intro k hk;rw [hob];exact (e3 k).1 hk
   have g2:∀ k∈pk,ai (eS (ej (af Fn FnD m) (xs++zs') sk)).ob k=ai (eS st).ob k:=fun k hk=>gk k (by simpa using h2 k hk)
   have g4:∀ k o,ai (eS (ej (af Fn FnD m) (xs++zs') sk)).ob k=some o→∀ j∈o.keysOf,ai (eS (ej (af Fn FnD m) (xs++zs') sk)).ob j=ai (eS st).ob j:=by
    intro k o hk j hj
    rw [hob] at hk
    obtain ⟨p,hp,hjp⟩:=oR _ _ _ _ _ _ hk hj
    exact gk j (s2 p hp j hjp)
   refine ⟨⟨U,ι,ds,hm.sub g1 g4,he0.subO g1 (fun k hk=>g2 k (hpr k hk)),hzs.sub g1,hdf,hnd,hds,hrg,hsz,fun t=>?_,fun t ht=>hy t ?_⟩,(Cd h3)⟩
   ·rw [henv]
    rcases e1 t with h5 | h5
    ·rw [h5]
     refine VR.keys _ _ (fun j hj=>?_) (hv t)
     refine gk j ?_
     replace hj:j∈(bg (bD st.env) t).keysOf:=hj
     rw [←h5] at hj
     obtain ⟨p,hp,hjp⟩:=ne _ _ _ _ _ hj
     exact s1 p hp j hjp
    ·rw [h5];simp [VR,LR]
   ·have:=V4.1 h4 t ht
    show t∈st.ys
    simpa using this
  ·cases h
 ·cases h
end
section
variable {P:Program} {Fn:Nat→List D→aq} {m0:Nat} {cfg:Cf3}
abbrev Hdr:=Hd3 D Nat Rr Mr aq
abbrev N6:=Kh D Nat Rr Mr aq
abbrev dC (P:Program) (cfg:Cf3) (Fn:Nat→List D→aq) (m0:Nat):Pr D Nat Rr (List D) Mr (List Yr) aq:=af Fn (c6 P cfg Fn) m0
def tcf (cfg:Cf3):Cf:=⟨fun _ _=>none,cfg.inl,fun _ _=>none,cfg.draw,fun _ _=>none⟩
def HdOK3 (P:Program) (hd:Option Hdr) (B:Base) (zsOf:Option Ex→List (Nat×Obj)) (yv:Value):Prop :=
 ∀ h,hd=some h→∃ l,yv=.func (.yield l) #[] #[]∧∀ (vals:List cw) (ob:Ur) (k:Option Ex→Ur→aq) (r:Nat×List Yr),h vals ob k=some r →
  ∀ (m:Nat) (w:World) (U:Nat→Prop) (ι:Pl) (as:Array Value),Mem w U ι (ai (av ob))→Evo B.w B.U B.ι B.ob w U ι (ai (av ob))→Zs w U ι (ai (av ob)) (zsOf none)→VF w U ι (ai (av ob)) (cL vals) as.toList →
   YieldAt (FW none) m P l as w fun e w'=>∃ p ob' U' ι',e=.returned (.bool p.isNone)∧k p ob'=some r∧Mem w' U' ι' (ai (av ob'))∧Keep w U ι (ai (av ob)) w' U' ι' (ai (av ob'))∧Evo B.w B.U B.ι B.ob w' U' ι' (ai (av ob'))∧Zs w' U' ι' (ai (av ob')) (zsOf p)
def qS (P:Program) (rn:N6):Prop :=
 ∀ (f:Nat) (args:List cw) (b:Nat) (ob:Ur) (kk:cw→Ur→aq) (r:Nat×List Yr),rn f args b ob kk=some r →
  (∀ (as:Array Value) (w:World),(callFunc f as).run P w=.ok (.enter f as) w) ∧
  ∀ (m:Nat) (w:World) (U:Nat→Prop) (ι:Pl) (as:Array Value),Mem w U ι (ai (av ob))→VF w U ι (ai (av ob)) (cL args) as.toList →
   CallsIn (FW none) m P f as w fun e w'=>∃ v vv ob' U' ι',e=.returned vv∧kk v ob'=some r∧Mem w' U' ι' (ai (av ob'))∧Evo w U ι (ai (av ob)) w' U' ι' (ai (av ob'))∧VR w' U' ι' (ai (av ob')) (eV v) vv
abbrev d8 (B:Base) (zsOf:Option Ex→List (Nat×Obj)) (fr:Fr) (yv:Value) (st:iM) (a:Act) (w:World):Prop:=SimT B zsOf fr yv (eS st) a w
theorem yH {ys:List Nat} {ρ:Operand→cw} {o:Oper} {d:Nat} (h:gB cfg ys ρ o=.copy d):∃ u,u∈ys∧o.dst=some d∧(o.op=.move (.tmp u)∨o.op=.assign (.tmp u)):=by
 unfold gB at h
 split at h
 ·rename_i x hop
  split at h
  ·rename_i hy hd
   cases h
   obtain ⟨u,rfl,hu⟩:=pJ hy
   exact ⟨u,hu,hd,.inl hop⟩
  ·cases h
 ·rename_i x hop
  split at h
  ·rename_i hy hd
   cases h
   obtain ⟨u,rfl,hu⟩:=pJ hy
   exact ⟨u,hu,hd,.inr hop⟩
  ·cases h
 ·split at h
  ·cases h
  ·split at h
   ·cases h
   ·split at h
    ·split at h
     ·cases h
     ·split at h
      ·cases h
      ·split at h<;>cases h
    ·cases h
theorem Cr {ys:List Nat} {ρ:Operand→cw} {o:Oper} {args:List Operand} (h:gB cfg ys ρ o=.yld args):∃ u as ts,u∈ys∧o.op=.call ⟨.value (.tmp u),as,ts⟩∧args=as.toList:=by
 unfold gB at h
 split at h
 ·split at h<;>cases h
 ·split at h<;>cases h
 ·split at h
  ·cases h
  ·rename_i fo args' hc
   split at h
   ·rename_i hy
    cases h
    obtain ⟨u,rfl,hu⟩:=pJ hy
    obtain ⟨as,ts,hop,rfl⟩:=fM hc
    exact ⟨u,as,ts,hu,hop,rfl⟩
   ·split at h
    ·split at h
     ·cases h
     ·split at h
      ·cases h
      ·split at h<;>cases h
    ·cases h
theorem o8 {ys:List Nat} {ρ:Operand→cw} {o:Oper} {f:Nat} {args:List cw} (h:gB cfg ys ρ o=.inl f args):∃ fo as ts caps,o.op=.call ⟨.value fo,as,ts⟩∧(ρ fo=.one (.fn f caps)∧f < 2000000)∧args=as.toList.map ρ++caps.map .one:=by
 unfold gB at h
 split at h
 ·split at h<;>cases h
 ·split at h<;>cases h
 ·split at h
  ·cases h
  ·rename_i fo args' hc
   split at h
   ·cases h
   ·split at h
    ·rename_i f' caps hf
     have main:f'=f→args'.map ρ++caps.map .one=args→∃ fo as ts caps,o.op=.call ⟨.value fo,as,ts⟩∧(ρ fo=.one (.fn f caps)∧f < 2000000)∧args=as.toList.map ρ++caps.map .one:=by
      rintro rfl rfl
      obtain ⟨as,ts,hop,rfl⟩:=fM hc
      refine ⟨fo,as,ts,caps,hop,?_,rfl⟩
      unfold fn3 at hf
      split at hf
      ·split at hf
       ·rename_i hρ hlt;cases hf;exact ⟨hρ,hlt⟩
       ·cases hf
      ·cases hf
     split at h
     ·cases h;exact main rfl rfl
     ·split at h
      ·cases h;exact main rfl rfl
      ·split at h
       ·cases h;exact main rfl rfl
       ·cases h
    ·cases h
theorem iR {st:iM} {dst:Option Nat} {v:cw} {ob:Ur}:bg (bD (gd dst v ob st).env)=jr dst (eV v) (bg (bD st.env)):=by
 funext t
 cases dst with
 | none=>simp [gd,jr]
 | some d =>
  simp only [gd,bD,Tl,bg,jr,T3]
  by_cases h:t=d
  ·simp [h]
  ·simp [h,Ne.symm h]
theorem gK (hF:nG P cfg Fn) {fr:Fr} {hd:Option Hdr} {rn:N6} {B:Base} {zsOf:Option Ex→List (Nat×Obj)} {yv:Value} (hrn:qS P rn) (hhd:HdOK3 P hd B zsOf yv) {ro:Option Nat} (hro:hd.isSome=true→fr.rng=false∧ro=none)
  {o:Oper} {st:iM} {k:iM→aq} {r:Nat×List Yr} {a:Act} {w:World} (h:yk (dC P cfg Fn m0) cfg P fr hd rn o st k=some r) (hs:d8 B zsOf fr yv st a w) {m:Nat} {K:Act→World→Prop} {R:Exit→Act→World→Prop}
  (hK:∀ st' a' w',k st'=some r→d8 B zsOf fr yv st' a' w'→K a' w'):o.wpIn (FW ro) m P a w K R:=by
 have hev:∀ x,ev (bg (bD st.env)) x=eV (wD (dC P cfg Fn m0) st.env x):=fun x=>(yY st.env x).symm
 unfold yk at h
 split at h
 case isFalse=>cases h
 rename_i hd'
 split at h
 ·rename_i d hk
  obtain ⟨u,hu,hdst,hop⟩:=yH hk
  obtain ⟨U,ι,ds,hm,he0,hz,hdf,hnd,hds,hrg,hsz,hv,hy⟩:=hs
  have hnd':∀ c,o.op≠.defer c:=by rintro c hc;rcases hop with e | e<;>rw [e] at hc<;>cases hc
  have hrun:(execOp a.eval o).run P w=.ok (.value yv) w:=by
   have:a.eval (.tmp u)=yv:=hy u hu
   rcases hop with e | e<;>(unfold execOp;rw [e];simp only [this];rfl)
  unfold Oper.wpIn
  refine ⟨fun f _=>lL ro f,?_⟩
  rw [Oper.semAt_eq _ _ _ hnd',hrun]
  refine hK _ _ _ h ?_
  rw [hdst] at hd'
  have hlt:∀ d',some d=some d'→d' < a.tmps.size:=fun d' e=>by cases e;rw [hsz];simpa [i8] using hd'
  rw [hdst]
  refine ⟨U,ι,ds,hm,he0,hz,by rw [jo,hdf],hnd,hds,hrg,by rw [mP,hsz],fun t=>?_,fun t ht=>?_⟩
  ·rw [l5 a (some d) yv t hlt]
   simp only [eS,bD,Tl,bg]
   by_cases ht:t=d
   ·simp [ht,VR,LR,eV,eL]
   ·rw [T5 ht,T5 (by simpa using Ne.symm ht)];exact hv t
  ·rw [l5 a (some d) yv t hlt]
   by_cases e:d=t
   ·simp [e]
   ·rw [T5 (by simpa using e)]
    rcases Ti.1 ht with rfl | ht
    ·exact absurd rfl e
    ·exact hy t ht
 ·rename_i args hk
  obtain ⟨u,as,ts,hu,hop,rfl⟩:=Cr hk
  split at h
  ·rename_i hh hp
   obtain ⟨hrng,hro⟩:=hro rfl
   obtain ⟨l,hyv,hY⟩:=hhd hh rfl
   obtain ⟨U,ι,ds,hm,he0,hz,hdf,hnd,hds,hrg,hsz,hv,hy⟩:=hs
   have hds0:=hrg hrng
   subst hds0
   have hz':Zs w U ι (ai (av st.ob)) (zsOf none):=by
    have hp':(eS st).pend=none:=hp
    rw [hp'] at hz;exact hz
   have hvals:VF w U ι (ai (av st.ob)) (cL (as.toList.map (wD (dC P cfg Fn m0) st.env))) (as.map a.eval).toList:=by
    rw [db,Vv,X7]
    have:=ku (qG hv) as.toList
    rwa [show (ev (bg (eS st).env))=eV ∘ wD (dC P cfg Fn m0) st.env from funext hev] at this
   have hYw:=hY _ _ _ _ h (m - 1) w U ι (as.map a.eval) hm he0 hz' hvals
   obtain ⟨fn,tmps,assign,body,h1,h2⟩:=hYw
   have hnd':∀ c,o.op≠.defer c:=by rintro c hc;rw [hop] at hc;cases hc
   have hev':a.eval (.tmp u)=.func (.yield l) #[] #[]:=(hy u hu).trans hyv
   have hrun:(execOp a.eval o).run P w=.ok (.round l fn tmps assign body) w:=by
    unfold execOp;rw [hop];simp [resolve,hev',Deferred.ofValue,invoke,h1]
   unfold Oper.wpIn
   refine ⟨fun f _=>lL ro f,?_⟩
   rw [Oper.semAt_eq _ _ _ hnd',hrun]
   subst hro
   refine ⟨fun hc=>(by cases hc),RoundIn.mono h2 fun e w' ⟨p,ob',U',ι',h3,h4,h5,h6,h7,h8⟩=>?_⟩
   subst h3
   refine hK _ _ _ h4 ?_
   have hlt:∀ d,o.dst=some d→d < a.tmps.size:=fun d hdd=>by rw [hdd] at hd';rw [hsz];simpa [i8] using hd'
   refine ⟨U',ι',[],h5,h7,h8,by rw [jo,hdf],hnd,hds,hrg,by rw [mP,hsz],fun t=>?_,fun t ht=>?_⟩
   ·show VR w' U' ι' (ai (av ob')) (bg (bD (gd o.dst (.one (.b p.isNone)) ob' st).env) t) _
    rw [l5 a o.dst _ t hlt,iR]
    simp only [jr]
    split
    ·exact bW rfl
    ·exact VR.keep h6 _ _ (hv t)
   ·obtain ⟨h9,h10⟩:=sw ht
    rw [l5 a o.dst _ t hlt,T5 h10]
    exact hy t h9
  ·cases h
 ·rename_i f args hk
  obtain ⟨fo,as,ts,caps,hop,⟨hf,hlt2⟩,rfl⟩:=o8 hk
  obtain ⟨hcall,hrun⟩:=hrn f _ _ _ _ _ h
  obtain ⟨U,ι,ds,hm,he0,hz,hdf,hnd,hds,hrg,hsz,hv,hy⟩:=hs
  have hfe:mf (ev (bg (bD st.env)) fo)=some (f,cn caps):=by rw [hev,hf];simp only [eV,eL,mf,T1 hlt2]
  obtain ⟨cs,hcv,hcl⟩:=pA (qG hv fo) hfe
  have hnd':∀ c,o.op≠.defer c:=by rintro c hc;rw [hop] at hc;cases hc
  have hex:(execOp a.eval o).run P w=.ok (.enter f (as.map a.eval++cs)) w:=by
   unfold execOp;rw [hop];simp [resolve,hcv,Deferred.ofValue,invoke,hcall]
  have hvals:VF w U ι (ai (av st.ob)) (cL (as.toList.map (wD (dC P cfg Fn m0) st.env)++caps.map .one)) (as.map a.eval++cs).toList:=by
   rw [X4,X7,db,X0,Vv]
   have e1:=ku (qG hv) as.toList
   rw [show (ev (bg (eS st).env))=eV ∘ wD (dC P cfg Fn m0) st.env from funext hev] at e1
   have e2:=Bb hcl
   rw [show (cn caps).map V.one=(caps.map .one).map eV by simp [bN,eV,W0]] at e2
   exact oz e1 e2
  unfold Oper.wpIn
  refine ⟨fun f _=>lL ro f,?_⟩
  rw [Oper.semAt_eq _ _ _ hnd',hex]
  refine ⟨fun hc=>(by cases hc),CallsIn.mono (hrun (m - 1) w U ι _ hm hvals:CallsIn (FW ro) (m - 1) P f _ w _) fun e w' ⟨v,vv,ob',U',ι',h1,h2,h3,h4,h5⟩=>?_⟩
  subst h1
  refine hK _ _ _ h2 ?_
  have:=fN (yv:=yv) he0 hz hdf hnd hds hrg hsz hv hy hd' h3 h4 h5
  show Sim2 B (zsOf st.pend) fr.nt fr.rng yv (bg (bD (gd o.dst v ob' st).env)) (ai (av ob')) (lD st.ys o.dst) _ w'
  rw [iR]
  exact this
 ·obtain ⟨v,us,rd,h1,h2,h3⟩:=Aj (P:=P) h
  rw [EN] at h1
  refine vR (C:=iJ cfg Fn) (BF hF) hs h1 hd' fun a' w' hs'=>hK _ _ _ h3 ?_
  show Sim2 B (zsOf st.pend) fr.nt fr.rng yv (bg (bD (gd o.dst v (cR us st.ob) st).env)) (ai (av (cR us st.ob))) (lD st.ys o.dst) _ w'
  rw [iR,gi,cV]
  exact hs'
theorem fB {v:cw} {b:Bool} {x:Option D} (h:oT v=(some (some b),x)):eV v=.one (.d (.lit (.bool b))):=by
 unfold oT at h;split at h<;>simp at h
 obtain ⟨rfl,_⟩:=h;simp [eV,eL]
theorem sK {v:cw} {x:Option D} (h:oT v=(some none,x)):eV v=.tup []:=by
 unfold oT at h;split at h<;>simp at h
 simp [eV,cL]
theorem fU {v:cw} {x:D} {y:Option (Option Bool)} (h:oT v=(y,some x)) (_:y=none):eV v=.one (.d x):=by
 unfold oT at h;split at h<;>simp at h
 ·rw [←h.2];simp [eV,eL]
theorem oH (hF:nG P cfg Fn) {fr:Fr} {hd:Option Hdr} {rn:N6} {B:Base} {zsOf:Option Ex→List (Nat×Obj)} {yv:Value} (hrn:qS P rn) (hhd:HdOK3 P hd B zsOf yv) {ro:Option Nat} (hro:hd.isSome=true→fr.rng=false∧ro=none)
  {ops:Array Oper} {o:Oper} {rest:List Oper} {st:iM} {k:iM→aq} {r:Nat×List Yr} {a:Act} {w:World} (h:A2 (dC P cfg Fn m0) cfg P fr hd rn ops o st k=some r) (hs:d8 B zsOf fr yv st a w) {m:Nat} {Q:Exit→Act→World→Prop}
  (hK:∀ st' a' w',k st'=some r→d8 B zsOf fr yv st' a' w'→wpListIn (FW ro) m P ops Q rest a' w'):wpListIn (FW ro) m P ops Q (o::rest) a w:=by
 have skip:∀ (st0:iM),d8 B zsOf fr yv st0 a w→(if i8 fr.nt o.dst=true then k (gd o.dst (.tup []) st0.ob st0) else none)=some r→wpListIn (FW ro) m P ops Q rest (a.put o.dst undef) w:=by
  intro st0 hs h
  split at h
  ·rename_i hd'
   refine hK _ _ _ h ?_
   show Sim2 B (zsOf st0.pend) fr.nt fr.rng yv (bg (bD (gd o.dst (.tup []) st0.ob st0).env)) (ai (av st0.ob)) (lD st0.ys o.dst) _ w
   rw [iR]
   exact BZ hs hd'
  ·cases h
 have push:∀ (gt:Nat) (b:Bool),eV (dk st.env gt)=.one (.d (.lit (.bool b)))→d8 B zsOf fr yv { st with env:=(gt,.one (.b b))::st.env } a w:=by
  intro gt b hb
  show Sim2 B (zsOf st.pend) fr.nt fr.rng yv (bg ((gt,cO (.bool b))::bD st.env)) (ai (av st.ob)) st.ys a w
  rw [od (b:=b) (by rw [f9];exact hb) rfl]
  exact hs
 unfold A2 at h
 unfold wpListIn
 cases hg:o.guard with
 | none =>
  rw [hg] at h
  rw [T1 (by simp [Region.wanted,hg])]
  exact gK hF hrn hhd hro h hs hK
 | some jw =>
  obtain ⟨j,want⟩:=jw
  rw [hg] at h
  simp only at h
  split at h
  ·cases h
  ·rename_i gt hgt
   obtain ⟨U,ι,ds,hm,he0,hz,hdf,hnd,hds,hrg,hsz,hv,hy⟩:=id hs
   have bool:∀ b,eV (dk st.env gt)=.one (.d (.lit (.bool b)))→yielded ops a.tmps j=some b:=fun b hb=>je hv hgt (show bg (bD st.env) gt=_ by rw [f9];exact hb)
   split at h
   ·rename_i hgv
    have hy:yielded ops a.tmps j=none:=mF hv hgt (show bg (bD st.env) gt=_ by rw [f9];exact sK hgv)
    rw [T5 (by simp [Region.wanted,hg,hy])]
    exact ⟨fun f _=>lL ro f,skip st hs h⟩
   ·rename_i hgv
    rw [T1 (by simp [Region.wanted,hg,bool _ (fB hgv)])]
    exact gK hF hrn hhd hro h hs hK
   ·rename_i hgv
    rw [T1 (by simp [Region.wanted,hg,bool _ (fB hgv)])]
    exact gK hF hrn hhd hro h hs hK
   ·rename_i hgv hn1 hn2
    have hb:=bool _ (fB hgv)
    rw [T5 ?_]
    ·exact ⟨fun f _=>lL ro f,skip st hs h⟩
    ·simp only [Region.wanted,hg,hb]
     intro hc
     have hc':=eq_of_beq hc
     simp only [T3] at hc'
     rw [hc'] at hn1 hn2
     exact (Bool.eq_false_or_eq_true _).elim (fun h5=>hn1 h5 h5) (fun h5=>hn2 h5 h5)
   ·rename_i x hgv
    rcases gF h with ⟨rfl,h⟩ | ⟨rfl,h⟩
    ·have hx:=fU hgv rfl
     rw [T1 (by simp [Region.wanted,hg,bool _ hx])]
     exact gK hF hrn hhd hro h (push _ _ hx) hK
    ·have hx:=fU hgv rfl
     rw [T5 (by simp [Region.wanted,hg,bool _ hx])]
     exact ⟨fun f _=>lL ro f,skip _ (push _ _ hx) h⟩
   ·rename_i x hgv
    rcases gF h with ⟨rfl,h⟩ | ⟨rfl,h⟩
    ·have hx:=fU hgv rfl
     rw [T5 (by simp [Region.wanted,hg,bool _ hx])]
     exact ⟨fun f _=>lL ro f,skip _ (push _ _ hx) h⟩
    ·have hx:=fU hgv rfl
     rw [T1 (by simp [Region.wanted,hg,bool _ hx])]
     exact gK hF hrn hhd hro h (push _ _ hx) hK
   ·cases h
theorem wz {pk:List Nat} {e:Ex} {st:iM} {j:Nat} {ys:List Yr}:∀ {js:List (Ex×Sk)} {n:Nat},sO (dC P cfg Fn m0) pk e st js n=some (j,ys)→∃ i x,j=n+i∧js[i]?=some x∧x.1=e∧ud (dC P cfg Fn m0) pk x.2 st=some ys
 | [],n,h=>by cases h
 | (x,sk)::js,n,h=>by
  have next:sO (dC P cfg Fn m0) pk e st js (n+1)=some (j,ys)→∃ i x_1,j=n+i∧((x,sk)::js)[i]?=some x_1∧x_1.1=e∧ud (dC P cfg Fn m0) pk x_1.2 st=some ys:=by
   intro h
   obtain ⟨i,y,h1,h2,h3,h4⟩:=wz h
   exact ⟨i+1,y,by omega,by simpa using h2,h3,h4⟩
  simp only [sO] at h
  split at h
  ·rename_i he
   split at h
   ·rename_i ys' hf
    cases h
    exact ⟨0,(x,sk),rfl,rfl,AV he,hf⟩
   ·exact next h
  ·exact next h
theorem Af {kind f b p:Nat} {pk:List Nat} {js:List (Ex×Sk)} {e:Ex} {st:iM} {j:Nat} {ys:List Yr} (h:rQ (dC P cfg Fn m0) kind f b p pk js e st=some (j,ys)):∃ x,js[j]?=some x∧x.1=e∧ud (dC P cfg Fn m0) pk x.2 st=some ys:=by
 unfold rQ at h
 split at h
 ·rename_i j' ys' hf
  obtain ⟨i,x,h1,h2,h3,h4⟩:=wz hf
  simp only [af,T3,Ty] at h
  obtain ⟨rfl,rfl⟩:=h
  exact ⟨x,by rw [h1];simpa using h2,h3,h4⟩
 ·cases h
theorem s8 {pk:List Nat} {js:List (Ex×Sk)} {k:Ex→iM→aq} {j:Nat} {kont:List Yr→aq} {ys:List Yr} {r:Nat×List Yr} (h:(lR (dC P cfg Fn m0) pk js k)[j]?=some kont) (hk:kont ys=some r):∃ x,js[j]?=some x∧k x.1 (ej (dC P cfg Fn m0) ys x.2)=some r:=by
 unfold lR at h
 rw [Tm,Ta] at h
 obtain ⟨x,hx,rfl⟩:=h
 refine ⟨x,hx,?_⟩
 cases hb:LY pk x.2 with
 | true=>simp only [hb] at hk;exact hk
 | false=>simp only [hb] at hk;cases hk
theorem py {kind f b p:Nat} {pk:List Nat} {js:List (Ex×Sk)} {e:Ex} {st:iM} {j:Nat} {ys:List Yr} {k:Ex→iM→aq} {kont:List Yr→aq} {r:Nat×List Yr} {B:Base} {zsOf:Option Ex→List (Nat×Obj)} {fr:Fr} {yv:Value} {a:Act} {w:World} (hpr:∀ k,B.ob k≠none→k∈pk)
  (h1:rQ (dC P cfg Fn m0) kind f b p pk js e st=some (j,ys)) (h2:(lR (dC P cfg Fn m0) pk js k)[j]?=some kont) (h3:kont ys=some r) (hs:d8 B zsOf fr yv st a w):∃ st',k e st'=some r∧d8 B zsOf fr yv st' a w:=by
 obtain ⟨x,g1,g2,g3⟩:=Af h1
 obtain ⟨y,g4,g5⟩:=s8 h2 h3
 rw [g1] at g4
 cases g4
 obtain ⟨g6,g7⟩:=pQ hpr g3 hs
 rw [g2] at g5
 refine ⟨_,g5,?_⟩
 show Sim2 B (zsOf (ej (dC P cfg Fn m0) ys x.2).pend) _ _ _ _ _ _ _ _
 rw [g7]
 exact g6
theorem yr (hF:nG P cfg Fn) {fr:Fr} {hd:Option Hdr} {rn:N6} {B:Base} {zsOf:Option Ex→List (Nat×Obj)} {yv:Value} (hpr:∀ k,B.ob k≠none→k∈fr.pr) (hrn:qS P rn) (hhd:HdOK3 P hd B zsOf yv) {ro:Option Nat} (hro:hd.isSome=true→fr.rng=false∧ro=none)
  {ops:Array Oper} {id:Nat} {m:Nat} {Q:Exit→Act→World→Prop}:∀ (n i:Nat) (l l2:List Oper) (st:iM) (k:iM→aq) (r:Nat×List Yr) (a:Act) (w:World),tO (dC P cfg Fn m0) cfg P fr hd rn ops id n i l st k=some r→d8 B zsOf fr yv st a w →
   (∀ st' a' w',k st'=some r→d8 B zsOf fr yv st' a' w'→wpListIn (FW ro) m P ops Q l2 a' w')→wpListIn (FW ro) m P ops Q (l++l2) a w:=by
 intro n
 induction n with
 | zero =>
  intro i l l2 st k r a w h hs hQ
  cases l with
  | nil=>simp only [tO] at h;exact hQ _ _ _ h hs
  | cons o l=>simp [tO,af] at h
 | succ n ih =>
  intro i l l2 st k r a w h hs hQ
  cases l with
  | nil=>simp only [tO] at h;exact hQ _ _ _ h hs
  | cons o rest =>
   simp only [tO] at h
   split at h
   ·exact oH hF hrn hhd hro h hs fun st' a' w' hk hs'=>ih _ _ _ _ _ _ _ _ hk hs' hQ
   ·rename_i len cs _
    split at h
    ·cases h
    ·rename_i c js _
     obtain ⟨j,ys,kont,h1,h2,h3⟩:=fO h
     refine oH hF hrn hhd hro h1 hs fun st' a' w' hk hs'=>?_
     have:=ih (i+1) (rest.take len) (rest.drop len++l2) st' _ (j,ys) a' w' hk hs' fun st2 a2 w2 hk2 hs2=>by
      obtain ⟨st3,g1,g2⟩:=py hpr hk2 h2 h3 hs2
      exact ih _ _ _ _ _ _ _ _ g1 g2 hQ
     rwa [←To,Xb] at this
end
section
mutual
def L.ren (σ:Nat→Nat):L→L
 | .d x=>.d x
 | .slk k off n c=>.slk (σ k) off n c
 | .pa k i off c=>.pa (σ k) i off c
 | .ptr k off=>.ptr (σ k) off
 | .fn f caps=>.fn f (L.renF σ caps)
 | .mk k=>.mk (σ k)
 | .undef=>.undef
def L.renF (σ:Nat→Nat):List L→List L
 | []=>[]
 | x::xs=>x.ren σ::L.renF σ xs
end
def O.ren (σ:Nat→Nat):O→O
 | .box cells elem=>.box (L.renF σ cells) elem
 | .arr rows size elem own=>.arr rows size elem own
 | .mp agg keys vals own=>.mp agg keys vals own
theorem O.ren_owned (σ:Nat→Nat) (o:O):(o.ren σ).owned=o.owned:=by cases o<;>rfl
def qR (σ:Nat→Nat) (K:Nat→Prop) (ι1:Pl) (ob1:Ob) (ι2:Pl) (ob2:Ob):Prop:=∀ k,K k→ι2 (σ k)=ι1 k∧ob2 (σ k)=(ob1 k).map (O.ren σ)
section
variable {w:World} {U:Nat→Prop} {ι1 ι2:Pl} {ob1 ob2:Ob} {σ:Nat→Nat} {K:Nat→Prop}
mutual
theorem LR.told (h:qR σ K ι1 ob1 ι2 ob2):∀ (x:L) (v:Value),(∀ k∈x.keysOf,K k)→LR w U ι1 ob1 x v→LR w U ι2 ob2 (x.ren σ) v
 | .d x,v,_,hx=>by simpa only [LR,L.ren] using hx
 | .slk k off n c,v,hk,hx=>by
  obtain ⟨h1,h2⟩:=h k (hk k (by simp [L.keysOf]))
  simp only [LR,L.ren] at hx ⊢
  obtain ⟨rows,size,elem,own,g1,g2⟩:=hx
  rw [h1]
  exact ⟨rows,size,elem,own,by rw [h2,g1];rfl,g2⟩
 | .pa k i off c,v,hk,hx=>by
  obtain ⟨h1,h2⟩:=h k (hk k (by simp [L.keysOf]))
  simp only [LR,L.ren] at hx ⊢
  obtain ⟨rows,size,elem,own,g1,g2⟩:=hx
  rw [h1]
  exact ⟨rows,size,elem,own,by rw [h2,g1];rfl,g2⟩
 | .ptr k off,v,hk,hx=>by
  obtain ⟨h1,h2⟩:=h k (hk k (by simp [L.keysOf]))
  simp only [LR,L.ren] at hx ⊢
  obtain ⟨cells,elem,g1,g2⟩:=hx
  rw [h1]
  exact ⟨_,elem,by rw [h2,g1];rfl,g2⟩
 | .fn f caps,v,hk,hx=>by
  simp only [LR,L.ren] at hx ⊢
  obtain ⟨cs,g1,g2⟩:=hx
  exact ⟨cs,g1,LF.told h caps cs.toList (fun k hkk=>hk k (by simpa [L.keysOf] using hkk)) g2⟩
 | .mk k,v,hk,hx=>by
  obtain ⟨h1,h2⟩:=h k (hk k (by simp [L.keysOf]))
  simp only [LR,L.ren] at hx ⊢
  obtain ⟨agg,keys,vals,own,g1,g2⟩:=hx
  rw [h1]
  exact ⟨agg,keys,vals,own,by rw [h2,g1];rfl,g2⟩
 | .undef,v,_,_=>by simp [LR,L.ren]
theorem LF.told (h:qR σ K ι1 ob1 ι2 ob2):∀ (xs:List L) (vs:List Value),(∀ k∈L.keysF xs,K k)→LF w U ι1 ob1 xs vs→LF w U ι2 ob2 (L.renF σ xs) vs
 | [],vs,_,hx=>by simpa [LF,L.renF] using hx
 | x::xs,vs,hk,hx=>by
  simp only [LF,L.renF] at hx ⊢
  obtain ⟨v,vs',g1,g2,g3⟩:=hx
  exact ⟨v,vs',g1,LR.told h x v (fun k hkk=>hk k (by simp [L.keysF,hkk])) g2,LF.told h xs vs' (fun k hkk=>hk k (by simp [L.keysF,hkk])) g3⟩
end
theorem OR.told (h:qR σ K ι1 ob1 ι2 ob2) {k:Nat} {o:O} (hk:ι2 (σ k)=ι1 k) (hc:∀ j∈o.keysOf,K j) (ho:OR w U ι1 ob1 k o):OR w U ι2 ob2 (σ k) (o.ren σ):=by
 cases o with
 | box cells elem =>
  obtain ⟨cur,g1,g2,g3⟩:=ho
  simp only [OR,O.ren,hk]
  exact ⟨cur,g1,LF.told h _ _ (fun j hj=>hc j (by simpa [O.keysOf] using hj)) g2,g3⟩
 | arr rows size elem own=>simpa only [OR,O.ren,hk] using ho
 | mp agg keys vals own=>simpa only [OR,O.ren,hk] using ho
end
structure Given (ρ σ:Nat→Nat) (C K:Nat→Prop) (ι:Pl) (ob:Ob) (ιc:Pl) (obc:Ob):Prop where
 back:∀ k,K k→C (σ k)∧ρ (σ k)=k
 forth:∀ c,C c→K (ρ c)∧σ (ρ c)=c
 told:qR σ K ι ob ιc obc
 dom:∀ c o,obc c=some o→C c
 owned:∀ k,K k→∃ o,ob k=some o∧o.owned=true
 shut:∀ k o,K k→ob k=some o→∀ j∈o.keysOf,K j
section
variable {w:World} {U:Nat→Prop} {ι ιc:Pl} {ob obc:Ob} {ρ σ:Nat→Nat} {C K:Nat→Prop}
theorem Given.at_ (g:Given ρ σ C K ι ob ιc obc) {c:Nat} {o:O} (h:obc c=some o):∃ o1,ob (ρ c)=some o1∧o=o1.ren σ∧K (ρ c)∧(ιc c)=ι (ρ c)∧o1.owned=true:=by
 have hc:=g.dom c o h
 obtain ⟨hk,hs⟩:=g.forth c hc
 obtain ⟨h1,h2⟩:=g.told _ hk
 obtain ⟨o1,h3,h4⟩:=g.owned _ hk
 rw [hs] at h1 h2
 rw [h,h3] at h2
 simp only [Th,T3] at h2
 exact ⟨o1,h3,h2,hk,h1,h4⟩
theorem Given.mem (g:Given ρ σ C K ι ob ιc obc) (hm:Mem w U ι ob):Mem w U ιc obc:=by
 refine ⟨hm.lt,fun c o hc=>?_,fun c c' o o' hc hc' h1 h2 hne=>?_⟩
 ·obtain ⟨o1,h1,rfl,h3,h4,_⟩:=g.at_ hc
  have hs:=(g.forth c (g.dom c _ hc)).2
  have:=OR.told (k:=ρ c) g.told (by rw [hs];exact h4) (g.shut _ _ h3 h1) (hm.obj _ _ h1)
  rwa [hs] at this
 ·obtain ⟨o1,g1,rfl,g3,g4,g5⟩:=g.at_ hc
  obtain ⟨o1',g1',rfl,g3',g4',g5'⟩:=g.at_ hc'
  rw [g4,g4']
  refine hm.inj _ _ _ _ g1 g1' g5 g5' fun e=>hne ?_
  have:=(g.forth c (g.dom c _ hc)).2
  rw [e,(g.forth c' (g.dom c' _ hc')).2] at this
  exact this.symm
theorem Given.back_ (g:Given ρ σ C K ι ob ιc obc) (hm:Mem w U ι ob) {w':World} {U':Nat→Prop} {ιc' ι':Pl} {obc' ob':Ob} (hm':Mem w' U' ιc' obc') (he:Evo w U ιc obc w' U' ιc' obc')
  (hin:∀ k,K k→ι' k=ιc' (σ k)∧ob' k=(obc' (σ k)).map (O.ren ρ)) (hout:∀ k,¬ K k→ι' k=ι k∧ob' k=ob k)
  (hdom:∀ c o,obc' c=some o→C c∧∀ j∈o.keysOf,C j):Mem w' U' ι' ob'∧Evo w U ι ob w' U' ι' ob':=by
 have htold:qR ρ C ιc' obc' ι' ob':=fun c hc=>by
  obtain ⟨hk,hs⟩:=g.forth c hc
  obtain ⟨h1,h2⟩:=hin _ hk
  rw [hs] at h1 h2
  exact ⟨h1,h2⟩
 have hsrc:∀ c o,obc c=some o→o.owned=true→∃ o1,ob (ρ c)=some o1∧o1.owned=true∧(ιc c).1=(ι (ρ c)).1:=fun c o hc _=>by
  obtain ⟨o1,h1,_,_,h4,h5⟩:=g.at_ hc
  exact ⟨o1,h1,h5,by rw [h4]⟩
 have hev:Evo w U ι ob w' U' ι' ob':=by
  refine ⟨he.os,he.tape,he.output,he.size,he.kept,he.sub,?_,?_,?_,?_,?_,?_⟩
  ·intro k cells elem hk
   by_cases hK:K k
   ·obtain ⟨t1,t2⟩:=g.told k hK
    rw [hk] at t2
    obtain ⟨cells',h1,h2⟩:=he.box (σ k) _ elem t2
    obtain ⟨i1,i2⟩:=hin k hK
    exact ⟨_,by rw [i2,h1];rfl,by rw [i1,h2,t1]⟩
   ·obtain ⟨i1,i2⟩:=hout k hK
    exact ⟨cells,by rw [i2,hk],by rw [i1]⟩
  ·intro k rows size elem own hk
   by_cases hK:K k
   ·obtain ⟨t1,t2⟩:=g.told k hK
    rw [hk] at t2
    obtain ⟨rows',own',h1,h2,h3⟩:=he.arr (σ k) rows size elem own t2
    obtain ⟨i1,i2⟩:=hin k hK
    exact ⟨rows',own',by rw [i2,h1];rfl,h2,fun e=>by rw [i1,h3 e,t1]⟩
   ·obtain ⟨i1,i2⟩:=hout k hK
    exact ⟨rows,own,by rw [i2,hk],Tf _,fun _=>i1⟩
  ·intro k agg keys vals own hk
   by_cases hK:K k
   ·obtain ⟨t1,t2⟩:=g.told k hK
    rw [hk] at t2
    obtain ⟨keys',vals',own',h1,h2⟩:=he.mp (σ k) agg keys vals own t2
    obtain ⟨i1,i2⟩:=hin k hK
    exact ⟨keys',vals',own',by rw [i2,h1];rfl,by rw [i1,h2,t1]⟩
   ·obtain ⟨i1,i2⟩:=hout k hK
    exact ⟨keys,vals,own,by rw [i2,hk],by rw [i1]⟩
  ·intro b hb hno
   refine he.same b hb fun c o hc ho heq=>?_
   obtain ⟨o1,h1,h2,h3⟩:=hsrc c o hc ho
   exact hno _ _ h1 h2 (h3.symm.trans heq)
  ·intro k o hk ho
   by_cases hK:K k
   ·obtain ⟨i1,i2⟩:=hin k hK
    rw [i2] at hk
    obtain ⟨oc,hoc,rfl⟩:=Ta.1 hk
    rw [O.ren_owned] at ho
    rw [i1]
    rcases he.ownd (σ k) oc hoc ho with h | ⟨c0,o0,h1,h2,h3⟩
    ·exact .inl h
    ·obtain ⟨o1,g1,g2,g3⟩:=hsrc c0 o0 h1 h2
     exact .inr ⟨_,o1,g1,g2,h3.trans g3⟩
   ·obtain ⟨i1,i2⟩:=hout k hK
    rw [i2] at hk
    exact .inr ⟨k,o,hk,ho,by rw [i1]⟩
  ·intro b hb
   rcases he.orig b hb with h | h | ⟨c,o,h1,h2,h3⟩
   ·exact .inl h
   ·exact .inr (.inl h)
   ·obtain ⟨o1,g1,g2,g3⟩:=hsrc c o h1 h2
    exact .inr (.inr ⟨_,o1,g1,g2,g3.symm.trans h3⟩)
 refine ⟨⟨hm'.lt,?_,?_⟩,hev⟩
 ·intro k o hk
  by_cases hK:K k
  ·obtain ⟨i1,i2⟩:=hin k hK
   rw [i2] at hk
   obtain ⟨oc,hoc,rfl⟩:=Ta.1 hk
   have hb:=(g.back k hK).2
   have:=OR.told (k:=σ k) htold (by rw [hb];exact i1) (hdom _ _ hoc).2 (hm'.obj _ _ hoc)
   rwa [hb] at this
  ·obtain ⟨i1,i2⟩:=hout k hK
   rw [i2] at hk
   have h0:=hm.obj k o hk
   have hlt:=hm.block hk
   have hblk:o.owned=true→w'.heap[(ι k).1]?=w.heap[(ι k).1]?∧¬ U' (ι k).1:=fun ho=>by
    have hne:∀ c oc,obc c=some oc→oc.owned=true→(ιc c).1≠(ι k).1:=fun c oc hc hoc heq=>by
     obtain ⟨o1,g1,_,g3,g4,g5⟩:=g.at_ hc
     rw [g4] at heq
     exact hm.inj _ _ _ _ g1 hk g5 ho (fun e=>hK (e ▸ g3)) heq
    refine ⟨he.same _ hlt hne,fun hU=>?_⟩
    rcases he.orig _ hU with h | h | ⟨c,oc,h1,h2,h3⟩
    ·exact hm.notU hk ho h
    ·omega
    ·exact hne c oc h1 h2 h3
   have hU:o.owned=false→w'.heap[(ι k).1]?=w.heap[(ι k).1]?∧U' (ι k).1:=fun ho=>by
    have:=h0.blk ho
    exact ⟨he.kept _ this,he.sub _ this⟩
   have hιk:(ι' k).1=(ι k).1:=by rw [i1]
   cases o with
   | box cells elem =>
    obtain ⟨cur,a,b,c⟩:=h0
    obtain ⟨h1,h2⟩:=hblk rfl
    exact ⟨cur,by rw [hιk,h1];exact a,LF.evo hev _ _ b,by rw [hιk];exact h2⟩
   | arr rows size elem own =>
    obtain ⟨cur,a,b,c,d,e,f⟩:=h0
    have hh:w'.heap[(ι k).1]?=w.heap[(ι k).1]?∧(if own then ¬ U' (ι k).1 else U' (ι k).1):=by
     cases own with
     | true=>have:=hblk rfl;simpa using this
     | false=>have:=hU rfl;simpa using this
    refine ⟨cur,by rw [hιk,hh.1];exact a,by rw [i1];exact b,by rw [i1];exact c,by rw [i1];exact d,?_,by rw [hιk];exact hh.2⟩
    rw [hιk]
    exact RR.mono he.kept he.sub _ hh.1 _ _ _ e
   | mp agg keys vals own =>
    obtain ⟨es,clock,a,b,c⟩:=h0
    have hh:w'.heap[(ι k).1]?=w.heap[(ι k).1]?∧(if own then ¬ U' (ι k).1 else U' (ι k).1):=by
     cases own with
     | true=>have:=hblk rfl;simpa using this
     | false=>have:=hU rfl;simpa using this
    exact ⟨es,clock,by rw [hιk,hh.1];exact a,KR.mono he.kept he.sub _ _ _ _ b,by rw [hιk];exact hh.2⟩
 ·intro k k' o o' hk hk' ho ho' hne
  have side:∀ {k k':Nat} {o o':O},K k→¬ K k'→ob' k=some o→ob' k'=some o'→o.owned=true→o'.owned=true→(ι' k).1≠(ι' k').1:=by
   intro k k' o o' hK hK' hk hk' ho ho' heq
   obtain ⟨i1,i2⟩:=hin k hK
   obtain ⟨j1,j2⟩:=hout k' hK'
   rw [i2] at hk
   obtain ⟨oc,hoc,rfl⟩:=Ta.1 hk
   rw [O.ren_owned] at ho
   rw [j2] at hk'
   rw [i1,j1] at heq
   have hlt:=hm.block hk'
   rcases he.ownd _ oc hoc ho with h | ⟨c0,o0,h1,h2,h3⟩
   ·omega
   ·obtain ⟨o1,g1,_,g3,g4,g5⟩:=g.at_ h1
    rw [h3,g4] at heq
    exact hm.inj _ _ _ _ g1 hk' g5 ho' (fun e=>hK' (e ▸ g3)) heq
  by_cases hK:K k
  ·by_cases hK':K k'
   ·obtain ⟨i1,i2⟩:=hin k hK
    obtain ⟨j1,j2⟩:=hin k' hK'
    rw [i2] at hk
    rw [j2] at hk'
    obtain ⟨oc,hoc,rfl⟩:=Ta.1 hk
    obtain ⟨oc',hoc',rfl⟩:=Ta.1 hk'
    rw [O.ren_owned] at ho ho'
    rw [i1,j1]
    refine hm'.inj _ _ _ _ hoc hoc' ho ho' fun e=>hne ?_
    rw [←(g.back k hK).2,e,(g.back k' hK').2]
   ·exact side hK hK' hk hk' ho ho'
  ·by_cases hK':K k'
   ·exact fun e=>side hK' hK hk' hk ho' ho e.symm
   ·obtain ⟨i1,i2⟩:=hout k hK
    obtain ⟨j1,j2⟩:=hout k' hK'
    rw [i2] at hk
    rw [j2] at hk'
    rw [i1,j1]
    exact hm.inj _ _ _ _ hk hk' ho ho' hne
end
end
section
variable {P:Program} {Fn:Nat→List D→aq} {FnD:D→List Sh→List D→aq} {m:Nat} {r:Nat×List Yr} {ob:Ur} {cfg:Cf3}
mutual
theorem L.ren_id:∀ x:L,x.ren id=x
 | .d _=>rfl
 | .slk ..=>rfl
 | .pa ..=>rfl
 | .ptr ..=>rfl
 | .fn f caps=>by simp only [L.ren,L.renF_id caps]
 | .mk _=>rfl
 | .undef=>rfl
theorem L.renF_id:∀ xs:List L,L.renF id xs=xs
 | []=>rfl
 | x::xs=>by simp only [L.renF,L.ren_id x,L.renF_id xs]
end
theorem O.ren_id (o:O):o.ren id=o:=by cases o<;>simp [O.ren,L.renF_id]
mutual
theorem wd {ρ τ σ:Nat→Nat}:∀ (s:L3 Unit Unit) (x:iD) (ys:List D),cZ (af Fn FnD m) ρ s x=some ys→(∀ c∈s.keysOf,σ (ρ c)=τ c)→∀ zs,∃ y:iD,gu τ s (ys++zs)=some (y,zs)∧eL y=(eL x).ren σ∧∀ k∈(eL x).keysOf,∃ c∈s.keysOf,ρ c=k
 | .d _,x,ys,h,_,zs=>by
  simp only [cZ] at h
  split at h
  ·rename_i y hy
   cases h
   refine ⟨.d y,rfl,?_,?_⟩
   ·rw [dc hy];rfl
   ·rw [dc hy];intro k hk;simp [L.keysOf] at hk
  ·cases h
 | .fn f cs,.fn f' cs',ys,h,hc,zs=>by
  simp only [cZ] at h
  split at h
  ·rename_i e
   subst e
   obtain ⟨y,h1,h2,h3⟩:=lf cs cs' ys h (fun c hcc=>hc c (by simpa [L3.keysOf] using hcc)) zs
   refine ⟨.fn f y,by simp [gu,h1],by simp [eL,L.ren,h2],fun k hk=>?_⟩
   obtain ⟨c,hc1,hc2⟩:=h3 k (by simpa [eL,L.keysOf] using hk)
   exact ⟨c,by simpa [L3.keysOf] using hc1,hc2⟩
  ·cases h
 | .mk c,.mk k,ys,h,hc,zs=>by
  simp only [cZ] at h
  split at h
  ·rename_i e
   cases h
   refine ⟨.mk (τ c),rfl,?_,?_⟩
   ·simp only [eL,L.ren];rw [←e,hc c (by simp [L3.keysOf])]
   ·intro j hj;simp only [eL,L.keysOf,Tw] at hj;exact ⟨c,by simp [L3.keysOf],e.trans hj.symm⟩
  ·cases h
 | .ptr c o,.ptr k o',ys,h,hc,zs=>by
  simp only [cZ] at h
  split at h
  ·rename_i e
   cases h
   obtain ⟨e,rfl⟩:=e
   refine ⟨.ptr (τ c) o,rfl,?_,?_⟩
   ·simp only [eL,L.ren];rw [←e,hc c (by simp [L3.keysOf])]
   ·intro j hj;simp only [eL,L.keysOf,Tw] at hj;exact ⟨c,by simp [L3.keysOf],e.trans hj.symm⟩
  ·cases h
 | .dp q o,.dp row o',ys,h,hc,zs=>by
  simp only [cZ] at h
  split at h
  ·rename_i e
   cases h
   obtain ⟨e,rfl⟩:=e
   refine ⟨.dp row o,?_,rfl,fun j hj=>by simp [eL,L.keysOf] at hj⟩
   simp [gu,e]
  ·cases h
 | .dp _ _,.d _,_,h,_,_ | .dp _ _,.b _,_,h,_,_ | .dp _ _,.i _ _,_,h,_,_ | .dp _ _,.nil,_,h,_,_ | .dp _ _,.fn _ _,_,h,_,_ | .dp _ _,.slk ..,_,h,_,_ | .dp _ _,.pa ..,_,h,_,_ | .dp _ _,.ptr ..,_,h,_,_ | .dp _ _,.mk _,_,h,_,_ | .dp _ _,.undef,_,h,_,_=>by simp [cZ] at h
 | .fn _ _,.d _,_,h,_,_ | .fn _ _,.b _,_,h,_,_ | .fn _ _,.i _ _,_,h,_,_ | .fn _ _,.nil,_,h,_,_ | .fn _ _,.dp _ _,_,h,_,_ | .fn _ _,.slk ..,_,h,_,_ | .fn _ _,.pa ..,_,h,_,_ | .fn _ _,.ptr ..,_,h,_,_ | .fn _ _,.mk _,_,h,_,_ | .fn _ _,.undef,_,h,_,_=>by simp [cZ] at h
 | .mk _,.d _,_,h,_,_ | .mk _,.b _,_,h,_,_ | .mk _,.i _ _,_,h,_,_ | .mk _,.nil,_,h,_,_ | .mk _,.dp _ _,_,h,_,_ | .mk _,.slk ..,_,h,_,_ | .mk _,.pa ..,_,h,_,_ | .mk _,.ptr ..,_,h,_,_ | .mk _,.fn _ _,_,h,_,_ | .mk _,.undef,_,h,_,_=>by simp [cZ] at h
 | .ptr _ _,.d _,_,h,_,_ | .ptr _ _,.b _,_,h,_,_ | .ptr _ _,.i _ _,_,h,_,_ | .ptr _ _,.nil,_,h,_,_ | .ptr _ _,.dp _ _,_,h,_,_ | .ptr _ _,.slk ..,_,h,_,_ | .ptr _ _,.pa ..,_,h,_,_ | .ptr _ _,.mk _,_,h,_,_ | .ptr _ _,.fn _ _,_,h,_,_ | .ptr _ _,.undef,_,h,_,_=>by simp [cZ] at h
 | .b _,_,_,h,_,_ | .i _ _,_,_,h,_,_ | .nil,_,_,h,_,_ | .slk ..,_,_,h,_,_ | .pa ..,_,_,h,_,_ | .undef,_,_,h,_,_=>by simp [cZ] at h
theorem lf {ρ τ σ:Nat→Nat}:∀ (ss:List (L3 Unit Unit)) (xs:List iD) (ys:List D),f5 (af Fn FnD m) ρ ss xs=some ys→(∀ c∈L3.keysF ss,σ (ρ c)=τ c)→∀ zs,∃ y:List iD,gh τ ss (ys++zs)=some (y,zs)∧cn y=L.renF σ (cn xs)∧∀ k∈L.keysF (cn xs),∃ c∈L3.keysF ss,ρ c=k
 | [],[],ys,h,_,zs=>by
  simp only [f5,T3] at h
  subst h
  exact ⟨[],rfl,rfl,fun k hk=>by simp [cn,L.keysF] at hk⟩
 | s::ss,x::xs,ys,h,hc,zs=>by
  simp only [f5] at h
  split at h
  ·rename_i a b ha hb
   cases h
   obtain ⟨y,h1,h2,h3⟩:=wd s x a ha (fun c hcc=>hc c (by simp [L3.keysF,hcc])) (b++zs)
   obtain ⟨ys,h4,h5,h6⟩:=lf ss xs b hb (fun c hcc=>hc c (by simp [L3.keysF,hcc])) zs
   refine ⟨y::ys,?_,by simp [cn,L.renF,h2,h5],fun k hk=>?_⟩
   ·rw [To];simp [gh,h1,h4]
   ·simp only [cn,L.keysF,V6] at hk
    rcases hk with hk | hk
    ·obtain ⟨c,g1,g2⟩:=h3 k hk;exact ⟨c,by simp [L3.keysF,g1],g2⟩
    ·obtain ⟨c,g1,g2⟩:=h6 k hk;exact ⟨c,by simp [L3.keysF,g1],g2⟩
  ·cases h
 | [],_::_,_,h,_,_=>by simp [f5] at h
 | _::_,[],_,h,_,_=>by simp [f5] at h
end
def V.ren (σ:Nat→Nat):V→V
 | .one x=>.one (x.ren σ)
 | .agg xs=>.agg (L.renF σ xs)
 | .tup xs=>.tup xs
theorem Eb {ρ τ σ:Nat→Nat} {us:Ur} {s:V3 Unit Unit} {x:cw} {ys:List D} (h:jJ (af Fn FnD m) ρ s x=some ys) (hc:∀ c∈s.keysOf,σ (ρ c)=τ c)
  (hsl:∀ c n c' k a b,s=.one (.slk c none a b)→x=.one (.slk k none n c')→∃ rows size elem own,bv us (τ c)=some (.arr rows size elem own)∧n=rows.length∧c'=rows.length) (zs:List D) :
  ∃ y:cw,iI (af Fn FnD m) τ us s (ys++zs)=some (y,zs)∧eV y=(eV x).ren σ∧(∀ k∈(eV x).keysOf,∃ c∈s.keysOf,ρ c=k)∧∀ vs,eV x≠.tup vs:=by
 have one:∀ (s:L3 Unit Unit) (x:iD),cZ (af Fn FnD m) ρ s x=some ys→(∀ c∈s.keysOf,σ (ρ c)=τ c)→(∀ c a b,s≠.slk c none a b) →
   ∃ y:cw,iI (af Fn FnD m) τ us (.one s) (ys++zs)=some (y,zs)∧eV y=(eV (.one x)).ren σ∧(∀ k∈(eV (.one x)).keysOf,∃ c∈s.keysOf,ρ c=k)∧∀ vs,eV (.one x)≠.tup vs:=by
  intro s x h hc hne
  obtain ⟨y,h1,h2,h3⟩:=wd s x ys h hc zs
  refine ⟨.one y,?_,by simp [eV,V.ren,h2],fun k hk=>by
    obtain ⟨c,g1,g2⟩:=h3 k (by simpa [eV,V.keysOf] using hk);exact ⟨c,g1,g2⟩,fun vs=>by simp [eV]⟩
  cases s with
  | slk k off n c =>
   cases off with
   | none=>exact absurd rfl (hne k n c)
   | some o=>simp [cZ] at h
  | _=>simp [iI,h1]
 cases s with
 | one s =>
  cases x with
  | one x =>
   by_cases hs:∃ c a b,s=.slk c none a b
   ·obtain ⟨c,a,b,rfl⟩:=hs
    cases x with
    | slk k off n c' =>
     cases off with
     | none =>
      simp only [jJ] at h
      split at h
      ·rename_i e
       cases h
       obtain ⟨rows,size,elem,own,h1,rfl,rfl⟩:=hsl c n c' k a b rfl rfl
       refine ⟨.one (.slk (τ c) none rows.length rows.length),by simp [iI,h1,af],?_,?_,fun vs=>by simp [eV]⟩
       ·simp only [eV,eL,V.ren,L.ren];rw [←e,hc c (by simp [V3.keysOf,L3.keysOf])]
       ·intro j hj;simp only [eV,eL,V.keysOf,L.keysOf,Tw] at hj;exact ⟨c,by simp [V3.keysOf,L3.keysOf],e.trans hj.symm⟩
      ·cases h
     | some o=>simp [jJ,cZ] at h
    | _=>simp [jJ,cZ] at h
   ·have h':cZ (af Fn FnD m) ρ s x=some ys:=by
     cases s with
     | slk c off a b=>cases off with
      | none=>exact absurd ⟨c,a,b,rfl⟩ hs
      | some o=>simpa [jJ] using h
     | _=>simpa [jJ] using h
    have:=one s x h' (fun c hcc=>hc c (by simpa [V3.keysOf] using hcc)) (fun c a b e=>hs ⟨c,a,b,e⟩)
    simpa [V3.keysOf] using this
  | _=>simp [jJ] at h
 | agg s =>
  cases x with
  | agg x =>
   obtain ⟨y,h1,h2,h3⟩:=lf s x ys h (fun c hcc=>hc c (by simpa [V3.keysOf] using hcc)) zs
   exact ⟨.agg y,by simp [iI,h1],by simp [eV,V.ren,h2],fun k hk=>by
    obtain ⟨c,g1,g2⟩:=h3 k (by simpa [eV,V.keysOf] using hk);exact ⟨c,by simpa [V3.keysOf] using g1,g2⟩,fun vs=>by simp [eV]⟩
  | _=>simp [jJ] at h
 | tup s=>cases x<;>simp [jJ] at h
theorem VR.told {w:World} {U:Nat→Prop} {ι1 ι2:Pl} {ob1 ob2:Ob} {σ:Nat→Nat} {K:Nat→Prop} (h:qR σ K ι1 ob1 ι2 ob2) {x:V} {v:Value} (hn:∀ vs,x≠.tup vs) (hk:∀ k∈x.keysOf,K k) (hx:VR w U ι1 ob1 x v):VR w U ι2 ob2 (x.ren σ) v:=by
 cases x with
 | one x=>simp only [VR,V.ren] at hx ⊢;exact LR.told h x v (fun k hkk=>hk k (by simpa [V.keysOf] using hkk)) hx
 | agg xs=>simp only [VR,V.ren] at hx ⊢;obtain ⟨cs,g1,g2⟩:=hx;exact ⟨cs,g1,LF.told h xs _ (fun k hkk=>hk k (by simpa [V.keysOf] using hkk)) g2⟩
 | tup xs=>exact absurd rfl (hn xs)
theorem sE {ρ τ σ:Nat→Nat} {us:Ur}:∀ {ss:List (V3 Unit Unit)} {xs:List cw} {ys:List D},iF (af Fn FnD m) ρ ss xs=some ys→(∀ c∈V3.keysF ss,σ (ρ c)=τ c) →
  (∀ p∈kK ss xs,∃ rows size elem own,bv us (σ p.1)=some (.arr rows size elem own)∧p.2.1=rows.length∧p.2.2=rows.length) →
  ∀ zs,∃ y:List cw,iC (af Fn FnD m) τ us ss (ys++zs)=some (y,zs) ∧
  ∀ {w:World} {U:Nat→Prop} {ι1 ι2:Pl} {ob1 ob2:Ob} {K:Nat→Prop},qR σ K ι1 ob1 ι2 ob2→(∀ c∈V3.keysF ss,K (ρ c))→∀ vs,VF w U ι1 ob1 (cL xs) vs→VF w U ι2 ob2 (cL y) vs
 | [],[],ys,h,_,_,zs=>by
  simp only [iF,T3] at h
  subst h
  exact ⟨[],rfl,fun _ _ vs hv=>hv⟩
 | s::ss,x::xs,ys,h,hc,hk,zs=>by
  simp only [iF] at h
  split at h
  ·rename_i a b ha hb
   cases h
   have hsl:∀ c n c' k a b,s=.one (.slk c none a b)→x=.one (.slk k none n c')→∃ rows size elem own,bv us (τ c)=some (.arr rows size elem own)∧n=rows.length∧c'=rows.length:=by
    rintro c n c' k a b rfl rfl
    have e:ρ c=k:=by
     simp only [jJ] at ha
     split at ha
     ·assumption
     ·cases ha
    have:=hk (k,n,c') (by simp [kK])
    rw [←e,hc c (by simp [V3.keysF,V3.keysOf,L3.keysOf])] at this
    exact this
   have hk':∀ p∈kK ss xs,∃ rows size elem own,bv us (σ p.1)=some (.arr rows size elem own)∧p.2.1=rows.length∧p.2.2=rows.length:=fun p hp=>hk p (by
    unfold kK
    split
    ·rename_i e1 e2;cases e1;cases e2;exact Ts _ hp
    ·rename_i e1 e2;cases e1;cases e2;exact hp
    ·rename_i e1;exact absurd rfl (e1 _ _ _ _ rfl))
   obtain ⟨y,h1,h2,h3,h4⟩:=Eb (us:=us) ha (fun c hcc=>hc c (by simp [V3.keysF,hcc])) hsl (b++zs)
   obtain ⟨ys,h5,h6⟩:=sE hb (fun c hcc=>hc c (by simp [V3.keysF,hcc])) hk' zs
   refine ⟨y::ys,?_,fun ht hK vs hv=>?_⟩
   ·rw [To];simp [iC,h1,h5]
   ·simp only [cL,VF] at hv ⊢
    obtain ⟨v,vs',rfl,g1,g2⟩:=hv
    refine ⟨v,vs',rfl,?_,h6 ht (fun c hcc=>hK c (by simp [V3.keysF,hcc])) vs' g2⟩
    rw [h2]
    refine VR.told ht h4 (fun k hk=>?_) g1
    obtain ⟨c,e1,e2⟩:=h3 k hk
    rw [←e2]
    exact hK c (by simp [V3.keysF,e1])
  ·cases h
 | [],_::_,_,h,_,_,_=>by simp [iF] at h
 | _::_,[],_,h,_,_,_=>by simp [iF] at h
theorem B1 {k:aq}:∀ {l:List (Nat×Nat×Nat)},Hf (af Fn FnD m) ob l k=some r→k=some r∧∀ p∈l,∃ rows size elem own,bv ob p.1=some (.arr rows size elem own)∧p.2.1=rows.length∧p.2.2=rows.length
 | [],h=>⟨h,by simp⟩
 | (key,n,c)::l,h=>by
  simp only [Hf] at h
  split at h
  ·rename_i rows size elem own hk
   obtain ⟨h1,h⟩:=bI h
   obtain ⟨h2,h⟩:=bI h
   obtain ⟨h3,h4⟩:=B1 h
   refine ⟨h3,fun p hp=>?_⟩
   rcases Ti.1 hp with rfl | hp
   ·exact ⟨rows,size,elem,own,hk,h1,h2⟩
   ·exact h4 p hp
  ·cases h
def bZ (ρ:Nat→Nat) (wn:Bool):List (Nat×O3 Unit Unit Unit Unit)→List D→Option (Ur×List D)
 | [],xs=>some ([],xs)
 | (c,.box cells e)::r,xs=>match gh ρ cells xs with
  | some (ys,xs')=>match bZ ρ wn r xs' with
   | some (us,zs)=>some ((ρ c,.box ys e)::us,zs)
   | none=>none
  | none=>none
 | (c,.mp g _ true)::r,x::xs=>match zp g x with
  | some mm=>match bZ ρ wn r xs with
   | some (us,zs)=>some ((ρ c,.mp g mm true)::us,zs)
   | none=>none
  | none=>none
 | (c,.arr _ size elem _)::r,x::xs=>match jj size x with
  | some rows=>match bZ ρ wn r xs with
   | some (us,zs)=>some ((ρ c,.arr rows size elem wn)::us,zs)
   | none=>none
  | none=>none
 | _,_=>none
theorem sR {ρ:Nat→Nat} {wn:Bool}:∀ {os:List (Nat×O3 Unit Unit Unit Unit)} {xs:List D} {k:Ur→List D→aq},jC (af Fn FnD m) ρ wn os xs k=some r→∃ us zs,bZ ρ wn os xs=some (us,zs)∧k us zs=some r:=by
 intro os
 induction os with
 | nil=>intro xs k h;exact ⟨[],xs,rfl,h⟩
 | cons p os ih =>
  intro xs k h
  obtain ⟨c,o⟩:=p
  cases o with
  | box cells e =>
   simp only [jC] at h
   split at h
   ·rename_i ys xs' hf
    obtain ⟨us,zs,h1,h2⟩:=ih h
    exact ⟨_,zs,by simp [bZ,hf,h1],h2⟩
   ·cases h
  | arr rows s e o =>
   cases xs with
   | nil=>cases h
   | cons x xs =>
    simp only [jC] at h
    obtain ⟨rows',h1,h⟩:=pT h
    obtain ⟨us,zs,h2,h3⟩:=ih h
    exact ⟨_,zs,by simp [bZ,h1,h2],h3⟩
  | mp g mm o =>
   cases o with
   | false=>cases xs<;>cases h
   | true =>
    cases xs with
    | nil=>cases h
    | cons x xs =>
     simp only [jC] at h
     obtain ⟨mm',h1,h⟩:=vF h
     obtain ⟨us,zs,h2,h3⟩:=ih h
     exact ⟨_,zs,by simp [bZ,h1,h2],h3⟩
theorem gZ {ρ:Nat→Nat} {wn:Bool}:∀ {os:List (Nat×O3 Unit Unit Unit Unit)} {xs:List D} {us:Ur} {zs:List D},bZ ρ wn os xs=some (us,zs)→us.map (·.1)=(os.map (·.1)).map ρ:=by
 intro os
 induction os with
 | nil=>intro xs us zs h;simp only [bZ,T3,Ty] at h;obtain ⟨rfl,rfl⟩:=h;rfl
 | cons p os ih =>
  intro xs us zs h
  obtain ⟨c,o⟩:=p
  cases o with
  | box cells e =>
   simp only [bZ] at h
   split at h
   ·split at h
    ·rename_i us' zs' h2;cases h;simp [ih h2]
    ·cases h
   ·cases h
  | arr rows s e o =>
   cases xs with
   | nil=>cases h
   | cons x xs =>
    simp only [bZ] at h
    split at h
    ·split at h
     ·rename_i us' zs' h2;cases h;simp [ih h2]
     ·cases h
    ·cases h
  | mp g mm o =>
   cases o with
   | false=>cases xs<;>cases h
   | true =>
    cases xs with
    | nil=>cases h
    | cons x xs =>
     simp only [bZ] at h
     split at h
     ·split at h
      ·rename_i us' zs' h2;cases h;simp [ih h2]
      ·cases h
     ·cases h
structure Mate (τ:Nat→Nat) (ρ:Nat→Nat) (s:O3 Unit Unit Unit Unit) (o1 o2:O):Prop where
 eq:o2=o1.ren τ
 keys:∀ k∈o1.keysOf,∃ c∈s.keysOf,ρ c=k
theorem sF {ρ τ σ:Nat→Nat} {wn:Bool}:∀ {os:List (Nat×O3 Unit Unit Unit Unit)} {ys:List D},e6 (af Fn FnD m) ρ ob wn os=some ys→(∀ p∈os,σ (ρ p.1)=τ p.1∧∀ c∈p.2.keysOf,σ (ρ c)=τ c)→((os.map (·.1)).map τ).Nodup→∀ zs,
  ∃ us,bZ τ wn os (ys++zs)=some (us,zs)∧∀ p∈os,∃ o1 o2,ai (av ob) (ρ p.1)=some o1∧ai (av us) (τ p.1)=some o2∧Mate σ ρ p.2 o1 o2∧(wn=true→o1.owned=true):=by
 intro os
 induction os with
 | nil=>intro ys h _ _ zs;simp only [e6,T3] at h;subst h;exact ⟨[],rfl,by simp⟩
 | cons p os ih =>
  intro ys h hc hn zs
  obtain ⟨c,o⟩:=p
  simp only [Tl,Wf] at hn
  have skip:∀ {us:Ur} {o0:Ki} {q:Nat×O3 Unit Unit Unit Unit},q∈os→ai (av ((τ c,o0)::us)) (τ q.1)=ai (av us) (τ q.1):=by
   intro us o0 q hq
   rw [bw]
   simp only [ai]
   rw [T5]
   intro e
   exact hn.1 (by rw [←e];exact V8.2 ⟨q.1,V8.2 ⟨q,hq,rfl⟩,rfl⟩)
  cases o with
  | box cells e =>
   simp only [e6] at h
   split at h
   ·rename_i cells' e' hk
    split at h
    ·rename_i he
     subst he
     split at h
     ·rename_i a b ha hb
      cases h
      obtain ⟨us,h1,h2⟩:=ih hb (fun p hp=>hc p (by simp [hp])) hn.2 zs
      obtain ⟨y,g1,g2,g3⟩:=lf (τ:=τ) (σ:=σ) cells cells' a ha (fun d hd=>(hc (c,.box cells e) (by simp)).2 d (by simpa [O3.keysOf] using hd)) (b++zs)
      refine ⟨(τ c,.box y e)::us,by rw [To];simp [bZ,g1,h1],fun q hq=>?_⟩
      rcases Ti.1 hq with rfl | hq
      ·refine ⟨eO (.box cells' e),eO (.box y e),by rw [az,hk];rfl,by rw [bw];simp [ai],⟨by simp [eO,O.ren,g2],fun k hkk=>?_⟩,fun _=>rfl⟩
       obtain ⟨d,e1,e2⟩:=g3 k (by simpa [eO,O.keysOf] using hkk)
       exact ⟨d,by simpa [O3.keysOf] using e1,e2⟩
      ·obtain ⟨o1,o2,e1,e2,e3⟩:=h2 q hq
       exact ⟨o1,o2,e1,by rw [skip hq];exact e2,e3⟩
     ·cases h
    ·cases h
   ·cases h
  | arr rows s e o =>
   simp only [e6] at h
   split at h
   ·rename_i rows' s' e' own hk
    split at h
    ·rename_i he
     obtain ⟨rfl,rfl,rfl⟩:=he
     split at h
     ·rename_i b hb
      cases h
      obtain ⟨us,h1,h2⟩:=ih hb (fun p hp=>hc p (by simp [hp])) hn.2 zs
      have ha:jj s ((af Fn FnD m).slD s rows')=some rows':=by simp [af,jj]
      refine ⟨(τ c,.arr rows' s e own)::us,by simp [bZ,ha,h1],fun q hq=>?_⟩
      rcases Ti.1 hq with rfl | hq
      ·exact ⟨eO (.arr rows' s e own),eO (.arr rows' s e own),by rw [az,hk];rfl,by rw [bw];simp [ai],⟨rfl,fun k hkk=>by simp [eO,O.keysOf] at hkk⟩,fun e=>by rw [e];rfl⟩
      ·obtain ⟨o1,o2,e1,e2,e3⟩:=h2 q hq
       exact ⟨o1,o2,e1,by rw [skip hq];exact e2,e3⟩
     ·cases h
    ·cases h
   ·cases h
  | mp g mm o =>
   cases o with
   | false=>simp [e6] at h
   | true =>
    simp only [e6] at h
    split at h
    ·rename_i g' m' hk
     split at h
     ·rename_i hg
      subst hg
      split at h
      ·rename_i b hb
       cases h
       obtain ⟨us,h1,h2⟩:=ih hb (fun p hp=>hc p (by simp [hp])) hn.2 zs
       have ha:zp g ((af Fn FnD m).mpD g m')=some m':=by simp [af,zp]
       refine ⟨(τ c,.mp g m' true)::us,by simp [bZ,ha,h1],fun q hq=>?_⟩
       rcases Ti.1 hq with rfl | hq
       ·exact ⟨eO (.mp g m' true),eO (.mp g m' true),by rw [az,hk];rfl,by rw [bw];simp [ai],⟨rfl,fun k hkk=>by simp [eO,O.keysOf] at hkk⟩,fun _=>rfl⟩
       ·obtain ⟨o1,o2,e1,e2,e3⟩:=h2 q hq
        exact ⟨o1,o2,e1,by rw [skip hq];exact e2,e3⟩
      ·cases h
     ·cases h
    ·cases h
mutual
theorem Cz {τ1 τ2 σ:Nat→Nat}:∀ (s:L3 Unit Unit) (xs:List D) (y:iD) (zs:List D),gu τ1 s xs=some (y,zs)→(∀ c∈s.keysOf,σ (τ1 c)=τ2 c)→∃ y2:iD,gu τ2 s xs=some (y2,zs)∧eL y2=(eL y).ren σ∧∀ k∈(eL y).keysOf,∃ c∈s.keysOf,τ1 c=k
 | .d _,[],y,zs,h,_=>by simp [gu] at h
 | .d _,x::xs,y,zs,h,_=>by
  simp only [gu,T3,Ty] at h
  obtain ⟨rfl,rfl⟩:=h
  exact ⟨.d x,rfl,rfl,fun k hk=>by simp [eL,L.keysOf] at hk⟩
 | .fn f cs,xs,y,zs,h,hc=>by
  simp only [gu] at h
  split at h
  ·rename_i ys r' hf
   cases h
   obtain ⟨y2,h1,h2,h3⟩:=mi cs xs ys zs hf (fun c hcc=>hc c (by simpa [L3.keysOf] using hcc))
   refine ⟨.fn f y2,by simp [gu,h1],by simp [eL,L.ren,h2],fun k hk=>?_⟩
   obtain ⟨c,e1,e2⟩:=h3 k (by simpa [eL,L.keysOf] using hk)
   exact ⟨c,by simpa [L3.keysOf] using e1,e2⟩
  ·cases h
 | .mk c,xs,y,zs,h,hc=>by
  simp only [gu,T3,Ty] at h
  obtain ⟨rfl,rfl⟩:=h
  exact ⟨.mk (τ2 c),rfl,by simp [eL,L.ren,hc c (by simp [L3.keysOf])],fun k hk=>⟨c,by simp [L3.keysOf],by simpa [eL,L.keysOf,eq_comm] using hk⟩⟩
 | .ptr c o,xs,y,zs,h,hc=>by
  simp only [gu,T3,Ty] at h
  obtain ⟨rfl,rfl⟩:=h
  exact ⟨.ptr (τ2 c) o,rfl,by simp [eL,L.ren,hc c (by simp [L3.keysOf])],fun k hk=>⟨c,by simp [L3.keysOf],by simpa [eL,L.keysOf,eq_comm] using hk⟩⟩
 | .dp q o,xs,y,zs,h,hc=>by
  simp only [gu] at h
  split at h
  ·rename_i e
   simp only [T3,Ty] at h
   obtain ⟨rfl,rfl⟩:=h
   exact ⟨.dp (xs.take q.length) o,by simp only [gu,T1 e],rfl,fun k hk=>by simp [eL,L.keysOf] at hk⟩
  ·cases h
 | .b _,xs,y,zs,h,_ | .i _ _,xs,y,zs,h,_ | .nil,xs,y,zs,h,_ | .slk ..,xs,y,zs,h,_ | .pa ..,xs,y,zs,h,_ | .undef,xs,y,zs,h,_=>by simp [gu] at h
theorem mi {τ1 τ2 σ:Nat→Nat}:∀ (ss:List (L3 Unit Unit)) (xs:List D) (y:List iD) (zs:List D),gh τ1 ss xs=some (y,zs)→(∀ c∈L3.keysF ss,σ (τ1 c)=τ2 c)→∃ y2:List iD,gh τ2 ss xs=some (y2,zs)∧cn y2=L.renF σ (cn y)∧∀ k∈L.keysF (cn y),∃ c∈L3.keysF ss,τ1 c=k
 | [],xs,y,zs,h,_=>by
  simp only [gh,T3,Ty] at h
  obtain ⟨rfl,rfl⟩:=h
  exact ⟨[],rfl,rfl,fun k hk=>by simp [cn,L.keysF] at hk⟩
 | s::ss,xs,y,zs,h,hc=>by
  simp only [gh] at h
  split at h
  ·rename_i y1 r1 h1
   split at h
   ·rename_i ys r2 h2
    cases h
    obtain ⟨y2,g1,g2,g3⟩:=Cz s xs y1 r1 h1 (fun c hcc=>hc c (by simp [L3.keysF,hcc]))
    obtain ⟨ys2,g4,g5,g6⟩:=mi ss r1 ys zs h2 (fun c hcc=>hc c (by simp [L3.keysF,hcc]))
    refine ⟨y2::ys2,by simp [gh,g1,g4],by simp [cn,L.renF,g2,g5],fun k hk=>?_⟩
    simp only [cn,L.keysF,V6] at hk
    rcases hk with hk | hk
    ·obtain ⟨c,e1,e2⟩:=g3 k hk;exact ⟨c,by simp [L3.keysF,e1],e2⟩
    ·obtain ⟨c,e1,e2⟩:=g6 k hk;exact ⟨c,by simp [L3.keysF,e1],e2⟩
   ·cases h
  ·cases h
end
theorem yU {τ1 τ2 σ:Nat→Nat} {wn:Bool}:∀ {os:List (Nat×O3 Unit Unit Unit Unit)} {xs:List D} {us:Ur} {zs:List D},bZ τ1 wn os xs=some (us,zs)→(∀ p∈os,σ (τ1 p.1)=τ2 p.1∧∀ c∈p.2.keysOf,σ (τ1 c)=τ2 c)→((os.map (·.1)).map τ1).Nodup→((os.map (·.1)).map τ2).Nodup →
  ∃ us2,bZ τ2 wn os xs=some (us2,zs)∧∀ p∈os,∃ o1 o2,ai (av us) (τ1 p.1)=some o1∧ai (av us2) (τ2 p.1)=some o2∧Mate σ τ1 p.2 o1 o2:=by
 intro os
 induction os with
 | nil=>intro xs us zs h _ _ _;simp only [bZ,T3,Ty] at h;obtain ⟨rfl,rfl⟩:=h;exact ⟨[],rfl,by simp⟩
 | cons p os ih =>
  intro xs us zs h hc hn hn2
  obtain ⟨c,o⟩:=p
  simp only [Tl,Wf] at hn hn2
  have skip:∀ {τ:Nat→Nat} {us:Ur} {o0:Ki} {q:Nat×O3 Unit Unit Unit Unit},τ c∉(os.map (·.1)).map τ→q∈os→ai (av ((τ c,o0)::us)) (τ q.1)=ai (av us) (τ q.1):=by
   intro τ us o0 q hn hq
   rw [bw]
   simp only [ai]
   rw [T5]
   intro e
   exact hn (by rw [←e];exact V8.2 ⟨q.1,V8.2 ⟨q,hq,rfl⟩,rfl⟩)
  cases o with
  | box cells e =>
   simp only [bZ] at h
   split at h
   ·rename_i ys xs' hf
    split at h
    ·rename_i us' zs' hr
     cases h
     obtain ⟨y2,g1,g2,g3⟩:=mi (τ2:=τ2) (σ:=σ) cells xs ys xs' hf (fun d hd=>(hc (c,.box cells e) (by simp)).2 d (by simpa [O3.keysOf] using hd))
     obtain ⟨us2,h1,h2⟩:=ih hr (fun p hp=>hc p (by simp [hp])) hn.2 hn2.2
     refine ⟨(τ2 c,.box y2 e)::us2,by simp [bZ,g1,h1],fun q hq=>?_⟩
     rcases Ti.1 hq with rfl | hq
     ·refine ⟨eO (.box ys e),eO (.box y2 e),by rw [bw];simp [ai],by rw [bw];simp [ai],⟨by simp [eO,O.ren,g2],fun k hkk=>?_⟩⟩
      obtain ⟨d,e1,e2⟩:=g3 k (by simpa [eO,O.keysOf] using hkk)
      exact ⟨d,by simpa [O3.keysOf] using e1,e2⟩
     ·obtain ⟨o1,o2,e1,e2,e3⟩:=h2 q hq
      exact ⟨o1,o2,by rw [skip hn.1 hq];exact e1,by rw [skip hn2.1 hq];exact e2,e3⟩
    ·cases h
   ·cases h
  | arr rows s e o =>
   cases xs with
   | nil=>cases h
   | cons x xs =>
    simp only [bZ] at h
    split at h
    ·rename_i rows' ha
     split at h
     ·rename_i us' zs' hr
      cases h
      obtain ⟨us2,h1,h2⟩:=ih hr (fun p hp=>hc p (by simp [hp])) hn.2 hn2.2
      refine ⟨(τ2 c,.arr rows' s e wn)::us2,by simp [bZ,ha,h1],fun q hq=>?_⟩
      rcases Ti.1 hq with rfl | hq
      ·exact ⟨eO (.arr rows' s e wn),eO (.arr rows' s e wn),by rw [bw];simp [ai],by rw [bw];simp [ai],⟨rfl,fun k hkk=>by simp [eO,O.keysOf] at hkk⟩⟩
      ·obtain ⟨o1,o2,e1,e2,e3⟩:=h2 q hq
       exact ⟨o1,o2,by rw [skip hn.1 hq];exact e1,by rw [skip hn2.1 hq];exact e2,e3⟩
     ·cases h
    ·cases h
  | mp g mm o =>
   cases o with
   | false=>cases xs<;>cases h
   | true =>
    cases xs with
    | nil=>cases h
    | cons x xs =>
     simp only [bZ] at h
     split at h
     ·rename_i mm' ha
      split at h
      ·rename_i us' zs' hr
       cases h
       obtain ⟨us2,h1,h2⟩:=ih hr (fun p hp=>hc p (by simp [hp])) hn.2 hn2.2
       refine ⟨(τ2 c,.mp g mm' true)::us2,by simp [bZ,ha,h1],fun q hq=>?_⟩
       rcases Ti.1 hq with rfl | hq
       ·exact ⟨eO (.mp g mm' true),eO (.mp g mm' true),by rw [bw];simp [ai],by rw [bw];simp [ai],⟨rfl,fun k hkk=>by simp [eO,O.keysOf] at hkk⟩⟩
       ·obtain ⟨o1,o2,e1,e2,e3⟩:=h2 q hq
        exact ⟨o1,o2,by rw [skip hn.1 hq];exact e1,by rw [skip hn2.1 hq];exact e2,e3⟩
      ·cases h
     ·cases h
def GA (zs:List Yr) (j:Nat):D:=match zs[j]? with | some (.d x)=>x | _=>default
def rM:Pr D Nat Rr (List D) Mr (List Yr) aq:=af (fun _ _=>none) (fun _ _ _=>none) 0
theorem mj {ρ:Nat→Nat} {us:Ur}:∀ {ss:List (V3 Unit Unit)} {xs:List D},iC (af Fn FnD m) ρ us ss xs=iC rM ρ us ss xs
 | [],xs=>rfl
 | s::ss,xs=>by
  have h1:iI (af Fn FnD m) ρ us s xs=iI rM ρ us s xs:=by
   unfold iI
   split<;>rfl
  simp only [iC,h1]
  cases iI rM ρ us s xs with
  | none=>rfl
  | some p=>simp only [mj (ss:=ss)]
def s9 (ms:Ms) (zs:List Yr) (ρ:Nat→Nat) (o:Ur):cw:=match ms.ref with
 | none=>jY (GA zs) ms.res
 | some c=>match bv o (ρ c) with
  | some (.arr rows _ _ _)=>.one (.slk (ρ c) none rows.length rows.length)
  | _=>.one .undef
def MC (P:Program) (f:Nat) (ms:Ms) (xs:List D) (zs:List Yr):Prop :=
 (∀ (as:Array Value) (w:World),(callFunc f as).run P w=.ok (.enter f as) w) ∧
 ∀ (vs:List cw) (ys rest:List D) (o1:Ur),bZ id true ms.obs xs=some (o1,ys)→iC rM id o1 ms.args ys=some (vs,rest) →
  ∀ (m:Nat) (w:World) (U:Nat→Prop) (ι:Pl) (as:Array Value),Mem w U ι (ai (av o1))→VF w U ι (ai (av o1)) (cL vs) as.toList →
   CallsIn (FW none) m P f as w fun e w'=>∃ vv o2 rest2 U' ι',e=.returned vv∧bZ id ms.res.isNone ms.obs ((List.range (ow ms.obs)).map fun i=>GA zs (yl ms.res+i))=some (o2,rest2)∧Mem w' U' ι' (ai (av o2))∧Evo w U ι (ai (av o1)) w' U' ι' (ai (av o2))∧VR w' U' ι' (ai (av o2)) (eV (s9 ms zs id o2)) vv
def pj (P:Program) (cfg:Cf3) (Fn:Nat→List D→aq):Prop:=∀ f ms xs zs,cfg.ms f=some ms→Fn (f+1000000) xs=some (0,zs)→MC P f ms xs zs
theorem mW {ob:Ur} {k:Nat} {o:O} (h:ai (av ob) k=some o):k∈ob.map (·.1):=by
 induction ob with
 | nil=>simp [av,ai] at h
 | cons p ob ih =>
  obtain ⟨j,q⟩:=p
  rw [bw] at h
  simp only [ai] at h
  split at h
  ·rename_i e;simp [e]
  ·simp [ih h]
theorem l6:∀ {us:List (Nat×O)} {b:Ob} {k:Nat},(us.map (·.1)).Nodup→k∈us.map (·.1)→bk b us k=ai us k
 | (j,o)::r,b,k,hn,hk=>by
  simp only [Tl,Wf,Ti] at hn hk
  simp only [bk,ai]
  by_cases e:k∈r.map (·.1)
  ·rw [l6 hn.2 e,T5]
   rintro rfl
   exact hn.1 e
  ·rcases hk with rfl | hk
   ·rw [jq e];simp [cx]
   ·exact absurd hk e
theorem Dv {w:World} {U:Nat→Prop} {ι ι2:Pl} {ob ob2:Ob} {e:Nat→D} {res:Option (Bool×Nat)} {v:Value} (h:VR w U ι ob (eV (jY (N:=Nat) e res)) v):VR w U ι2 ob2 (eV (jY (N:=Nat) e res)) v:=by
 match res with
 | none=>simpa only [jY,eV,cL,VR,VF] using h
 | some (false,n)=>simpa only [jY,eV,eL,VR,LR] using h
 | some (true,n) =>
  simp only [jY,eV,VR] at h ⊢
  obtain ⟨cs,h1,h2⟩:=h
  refine ⟨cs,h1,?_⟩
  have e1:cn ((List.range n).map fun i=>L3.d (e i))=((List.range n).map e).map L.d:=by rw [bN,Vv,Vv];rfl
  rw [e1] at h2 ⊢
  exact jX (qT h2)
def ME (ρ:Nat→Nat) (C:List Nat) (k:Nat):Nat:=match C.find? fun c=>ρ c==k with
 | some c=>c
 | none=>k
theorem GN {ρ:Nat→Nat} {C:List Nat} (hn:(C.map ρ).Nodup) {c:Nat} (hc:c∈C):ME ρ C (ρ c)=c:=by
 unfold ME
 cases h:C.find? fun d=>ρ d==ρ c with
 | none=>rw [List.find?_eq_none] at h;exact absurd (Xu (ρ c)) (by simpa using h c hc)
 | some d =>
  have h1:=List.find?_some h
  have h2:=List.mem_of_find?_eq_some h
  simp only [X9] at h1
  simp only
  by_cases e:d=c
  ·exact e
  ·exfalso
   have key:∀ {l:List Nat},(l.map ρ).Nodup→∀ {a b:Nat},a∈l→b∈l→ρ a=ρ b→a=b:=by
    intro l
    induction l with
    | nil=>intro _ a b ha;cases ha
    | cons x l ih =>
     intro hn a b ha hb hab
     simp only [Tl,Wf] at hn
     rcases Ti.1 ha with e1 | ha'<;>rcases Ti.1 hb with e2 | hb'
     ·rw [e1,e2]
     ·exact absurd (V8.2 ⟨b,hb',by rw [←hab,e1]⟩) hn.1
     ·exact absurd (V8.2 ⟨a,ha',by rw [hab,e2]⟩) hn.1
     ·exact ih hn.2 ha' hb' hab
   exact e (key hn h2 hc h1)
theorem B0 {ρ:Nat→Nat}:∀ {ss:List (V3 Unit Unit)} {xs:List cw} {ys:List D},iF (af Fn FnD m) ρ ss xs=some ys→∀ p∈kK ss xs,∃ c∈V3.keysF ss,ρ c=p.1
 | [],xs,_,_,p,hp=>by cases xs<;>simp [kK] at hp
 | s::ss,[],_,h,_,_=>by simp [iF] at h
 | s::ss,x::xs,ys,h,p,hp=>by
  simp only [iF] at h
  split at h
  ·rename_i a b ha hb
   have ih:=B0 hb
   unfold kK at hp
   split at hp
   ·rename_i e1 e2
    cases e1;cases e2
    rcases Ti.1 hp with rfl | hp
    ·simp only [jJ] at ha
     split at ha
     ·rename_i e
      exact ⟨_,by simp [V3.keysF,V3.keysOf,L3.keysOf],e⟩
     ·cases ha
    ·obtain ⟨c,h1,h2⟩:=ih p hp;exact ⟨c,by simp [V3.keysF,h1],h2⟩
   ·rename_i e1 e2
    cases e1;cases e2
    obtain ⟨c,h1,h2⟩:=ih p hp;exact ⟨c,by simp [V3.keysF,h1],h2⟩
   ·cases hp
  ·cases h
theorem DS {ms:Ms} (h:Ci ms=true) {c:Nat} (hr:ms.ref=some c):c∈ms.obs.map (·.1):=by
 unfold Ci at h
 simp only [Te] at h
 have:=h.2
 rw [hr] at this
 simpa using this
theorem Ak {ms:Ms} (h:Ci ms=true):(ms.obs.map (·.1)).Nodup∧(∀ c∈V3.keysF ms.args,c∈ms.obs.map (·.1))∧∀ p∈ms.obs,∀ c∈p.2.keysOf,c∈ms.obs.map (·.1):=by
 unfold Ci at h
 simp only [Te,V4,Ws] at h
 exact ⟨fw h.1.1.1,h.1.1.2,h.1.2⟩
theorem Ac {w:World} {U:Nat→Prop} {ι:Pl} {o:Ob}:∀ {ss:List (V3 Unit Unit)} {xs:List cw} {vs:List Value},VF w U ι o (cL xs) vs→VF w U ι o (cL (tM (af Fn FnD m) ss xs)) vs
 | [],xs,vs,h=>by cases xs<;>simpa [tM] using h
 | s::ss,[],vs,h=>by cases s<;>simpa [tM] using h
 | s::ss,x::xs,vs,h=>by
  simp only [cL,VF] at h
  obtain ⟨v,vs',rfl,h1,h2⟩:=h
  have ih:=Ac (ss:=ss) h2
  have other:VF w U ι o (cL (x::tM (af Fn FnD m) ss xs)) (v::vs'):=by
   simp only [cL,VF];exact ⟨v,vs',rfl,h1,ih⟩
  cases s with
  | one l =>
   cases l with
   | d u =>
    cases x with
    | one y =>
     cases y with
     | fn f cs =>
      simp only [tM]
      split
      ·rename_i ds hds
       simp only [cL,VF]
       refine ⟨v,vs',rfl,?_,ih⟩
       simp only [eV,eL,VR,LR] at h1 ⊢
       obtain ⟨cs',rfl,hc⟩:=h1
       rw [dU hds] at hc
       show DR w U (.fn f ds) (iB f cs')
       simp only [DR];exact ⟨cs',rfl,qT hc⟩
      ·exact other
     | _=>exact other
    | _=>exact other
   | _=>exact other
  | _=>exact other
theorem sU (hM:pj P cfg Fn) {f:Nat} {args:List cw} {kk:cw→Ur→List Nat→aq} (h:uj (af Fn FnD m) cfg f args ob kk=some r) :
  (∀ (as:Array Value) (w:World),(callFunc f as).run P w=.ok (.enter f as) w)∧∃ v us rd,kk v us rd=some r ∧
  ∀ (obf:Ob),(∀ k∈rd,obf k=ai (av ob) k)→∀ (m:Nat) (w:World) (U:Nat→Prop) (ι:Pl) (as:Array Value),Mem w U ι obf→VF w U ι obf (cL args) as.toList →
   CallsIn (FW none) m P f as w fun e w'=>∃ vv U' ι',e=.returned vv∧Mem w' U' ι' (bk obf (av us))∧Evo w U ι obf w' U' ι' (bk obf (av us))∧VR w' U' ι' (bk obf (av us)) (eV v) vv:=by
 unfold uj at h
 split at h
 ·cases h
 rename_i ms hms
 simp only at h
 generalize hal:tC _=ρ at h
 generalize hpre:tM (af Fn FnD m) ms.args args=args' at h
 split at h
 case isFalse=>cases h
 rename_i hok
 simp only [Te] at hok
 obtain ⟨hok,hnd⟩:=hok
 have hndρ:=fw hnd
 obtain ⟨hC,hCa,hCo⟩:=Ak hok
 split at h
 case h_2=>cases h
 rename_i xs ys hxs hys
 obtain ⟨h,hchk⟩:=B1 h
 obtain ⟨j,zs,kont,h4,h5,h⟩:=fO h
 have h4':Fn (f+1000000) (ys++xs)=some (j,zs):=h4
 have hj:j=0:=by
  cases j with
  | zero=>rfl
  | succ j=>simp at h5
 subst hj
 obtain ⟨hcall,hmc⟩:=hM f ms _ zs hms h4'
 simp only [Vj,T3] at h5
 subst h5
 obtain ⟨us,usr,hus,hk0⟩:=sR h
 have hk:kk (s9 ms zs ρ us) us ((ll ms.args args'++u7 ob (ll ms.args args') ms.obs).map (·.2)++ms.obs.map fun p=>ρ p.1)=some r:=by
  unfold s9
  cases href:ms.ref with
  | none=>rw [href] at hk0;exact hk0
  | some c =>
   rw [href] at hk0
   simp only at hk0 ⊢
   split at hk0
   ·rename_i rows _ _ _ hr;rw [hr];exact hk0
   ·cases hk0
 refine ⟨hcall,_,us,_,hk,fun obf hob m1 w U ι as hm hv0=>?_⟩
 have hv:=Ac (Fn:=Fn) (FnD:=FnD) (m:=m) (ss:=ms.args) hv0
 rw [hpre] at hv
 let C:=ms.obs.map (·.1)
 let σ:=ME ρ C
 have hσ:∀ c∈C,σ (ρ c)=c:=fun c hc=>GN hndρ hc
 let K:Nat→Prop:=fun k=>∃ c∈C,ρ c=k
 have hρ:∀ c∈C,obf (ρ c)=ai (av ob) (ρ c):=fun c hc=>by
  obtain ⟨p,hp,rfl⟩:=V8.1 hc
  exact hob _ (Vh _ (V8.2 ⟨p,hp,rfl⟩))
 obtain ⟨o1,ho1,hmate⟩:=sF (τ:=id) (σ:=σ) hys (fun p hp=>⟨hσ _ (V8.2 ⟨p,hp,rfl⟩),fun c hc=>hσ c (hCo p hp c hc)⟩) (by simpa using hC) xs
 have mate:∀ c∈C,∃ oa ob',ai (av ob) (ρ c)=some oa∧ai (av o1) c=some ob'∧ob'=oa.ren σ∧oa.owned=true∧∀ k∈oa.keysOf,K k:=fun c hc=>by
  obtain ⟨p,hp,rfl⟩:=V8.1 hc
  obtain ⟨oa,ob',e1,e2,e3,e4⟩:=hmate p hp
  refine ⟨oa,ob',e1,e2,e3.eq,e4 rfl,fun k hk=>?_⟩
  obtain ⟨d,d1,d2⟩:=e3.keys k hk
  exact ⟨d,hCo p hp d d1,d2⟩
 have hg:Given ρ σ (·∈C) K ι obf (fun c=>ι (ρ c)) (ai (av o1)):=by
  refine ⟨?_,?_,?_,?_,?_,?_⟩
  ·rintro k ⟨c,hc,rfl⟩;rw [hσ c hc];exact ⟨hc,rfl⟩
  ·intro c hc;exact ⟨⟨c,hc,rfl⟩,hσ c hc⟩
  ·rintro k ⟨c,hc,rfl⟩
   obtain ⟨oa,ob',e1,e2,e3,_⟩:=mate c hc
   simp only [hσ c hc,hρ c hc,e1,e2,e3,Th,Vr]
  ·intro c o hc
   have:=mW hc
   rw [gZ ho1,List.map_id] at this
   exact this
  ·rintro k ⟨c,hc,rfl⟩
   obtain ⟨oa,ob',e1,_,_,e4,_⟩:=mate c hc
   exact ⟨oa,(hρ c hc).trans e1,e4⟩
  ·rintro k o ⟨c,hc,rfl⟩ hko
   obtain ⟨oa,ob',e1,_,_,_,e5⟩:=mate c hc
   rw [hρ c hc,e1] at hko;cases hko
   exact e5
 have hkarg:∀ c∈V3.keysF ms.args,K (ρ c):=fun c hc=>⟨c,hCa c hc,rfl⟩
 have hchk':∀ p∈kK ms.args args',∃ rows size elem own,bv o1 (σ p.1)=some (.arr rows size elem own)∧p.2.1=rows.length∧p.2.2=rows.length:=fun p hp=>by
  obtain ⟨rows,size,elem,own,k1,k2,k3⟩:=hchk p hp
  have hkey:∃ c∈V3.keysF ms.args,ρ c=p.1:=B0 hxs p hp
  obtain ⟨c,hc,hcp⟩:=hkey
  obtain ⟨oa,ob',e1,e2,e3,_⟩:=mate c (hCa c hc)
  rw [hcp] at e1
  rw [az,k1] at e1
  cases e1
  rw [←hcp,hσ c (hCa c hc)]
  rw [az] at e2
  obtain ⟨o3,e4,e5⟩:=Ta.1 e2
  rw [e3] at e5
  have:o3=.arr rows size elem own:=by
   cases o3<;>simp [eO,O.ren] at e5
   obtain ⟨rfl,rfl,rfl,rfl⟩:=e5
   rfl
  exact ⟨rows,size,elem,own,by rw [e4,this],k2,k3⟩
 obtain ⟨vs,hvs,hvf⟩:=sE (us:=o1) (τ:=id) (σ:=σ) hxs (fun c hc=>hσ c (hCa c hc)) hchk' []
 rw [Tt,mj] at hvs
 refine CallsIn.mono (hmc vs xs [] o1 ho1 hvs m1 w U (fun c=>ι (ρ c)) as (hg.mem hm) (hvf hg.told hkarg _ hv)) ?_
 rintro e w' ⟨vv,o2,rest2,U',ιc,he,hf2,n1,n2,n3⟩
 obtain ⟨us',g1,g2⟩:=yU (τ1:=id) (τ2:=ρ) (σ:=ρ) hf2 (fun p hp=>⟨rfl,fun c hc=>rfl⟩) (by simpa using hC) hndρ
 have hus':us'=us:=by
  have:bZ ρ ms.res.isNone ms.obs ((List.range (ow ms.obs)).map fun i=>GA zs (yl ms.res+i))=some (us,usr):=hus
  rw [this] at g1;cases g1;rfl
 subst hus'
 have mate2:∀ c∈C,∃ oa ob',ai (av o2) c=some oa∧ai (av us') (ρ c)=some ob'∧ob'=oa.ren ρ∧∀ j∈oa.keysOf,j∈C:=fun c hc=>by
  obtain ⟨p,hp,rfl⟩:=V8.1 hc
  obtain ⟨oa,ob',e1,e2,e3⟩:=g2 p hp
  refine ⟨oa,ob',e1,e2,e3.eq,fun k hk=>?_⟩
  obtain ⟨d,d1,rfl⟩:=e3.keys k hk
  exact hCo p hp d d1
 have hdus:us'.map (·.1)=C.map ρ:=gZ hus
 have hdus':(av us').map (·.1)=C.map ρ:=by rw [j6];exact hdus
 classical
 have:=hg.back_ hm n1 n2 (ι':=fun k=>if K k then ιc (σ k) else ι k) (ob':=bk obf (av us')) ?_ ?_ ?_
 ·refine ⟨vv,U',_,he,this.1,this.2,?_⟩
  have n3':=n3
  unfold s9 at n3' ⊢
  cases href:ms.ref with
  | none=>rw [href] at n3';exact Dv n3'
  | some c =>
   rw [href] at n3'
   simp only at n3' ⊢
   cases hus2:bv us' (ρ c) with
   | none=>simp [eV,eL,VR,LR]
   | some ou =>
    cases ou with
    | arr rows size elem own =>
     simp only
     have hcC:c∈C:=by
      exact DS hok href
     obtain ⟨oa,ob',e1,e2,e3,_⟩:=mate2 c hcC
     rw [az,hus2] at e2
     cases e2
     rw [az] at e1
     obtain ⟨o3,e4,e5⟩:=Ta.1 e1
     have ho3:o3=.arr rows size elem own:=by
      rw [←e5] at e3
      cases o3<;>simp [eO,O.ren] at e3
      obtain ⟨rfl,rfl,rfl,rfl⟩:=e3
      rfl
     rw [show (id c)=c from rfl,e4,ho3] at n3'
     simp only [eV,eL,VR,LR] at n3' ⊢
     obtain ⟨rows2,size2,elem2,own2,q1,q2,q3,q4⟩:=n3'
     rw [az,e4,ho3] at q1
     cases q1
     refine ⟨rows,size,elem,own,?_,q2,?_,q4⟩
     ·rw [l6 (by rw [hdus'];exact hndρ) (by rw [hdus'];exact V8.2 ⟨c,hcC,rfl⟩),az,hus2];rfl
     ·rw [T1 ⟨c,hcC,rfl⟩,hσ c hcC];exact q3
    | _=>simp [eV,eL,VR,LR]
 ·rintro k hK
  refine ⟨by simp only [T1 hK],?_⟩
  obtain ⟨c,hc,rfl⟩:=hK
  rw [hσ c hc,l6 (by rw [hdus'];exact hndρ) (by rw [hdus'];exact V8.2 ⟨c,hc,rfl⟩)]
  obtain ⟨oa,ob',e1,e2,e3,_⟩:=mate2 c hc
  rw [e2,e1,e3];rfl
 ·intro k hK
  refine ⟨by simp only [T5 hK],?_⟩
  rw [jq]
  rw [hdus']
  intro hmem
  obtain ⟨c,hc,rfl⟩:=V8.1 hmem
  exact hK ⟨c,hc,rfl⟩
 ·intro c o hco
  have hc:c∈C:=by
   have:=mW hco
   rw [gZ hf2,List.map_id] at this
   exact this
  obtain ⟨oa,ob',e1,_,_,e4⟩:=mate2 c hc
  rw [e1] at hco;cases hco
  exact ⟨hc,e4⟩
theorem wP (hM:pj P cfg Fn) {f:Nat} {args:List cw} {kk:cw→Ur→aq} (h:F2 (af Fn FnD m) cfg f args ob kk=some r) :
  (∀ (as:Array Value) (w:World),(callFunc f as).run P w=.ok (.enter f as) w) ∧
  ∀ (m:Nat) (w:World) (U:Nat→Prop) (ι:Pl) (as:Array Value),Mem w U ι (ai (av ob))→VF w U ι (ai (av ob)) (cL args) as.toList →
   CallsIn (FW none) m P f as w fun e w'=>∃ v vv ob' U' ι',e=.returned vv∧kk v ob'=some r∧Mem w' U' ι' (ai (av ob'))∧Evo w U ι (ai (av ob)) w' U' ι' (ai (av ob'))∧VR w' U' ι' (ai (av ob')) (eV v) vv:=by
 obtain ⟨h1,v,us,rd,h2,h3⟩:=sU hM h
 refine ⟨h1,fun m w U ι as hm hv=>CallsIn.mono (h3 _ (fun _ _=>rfl) m w U ι as hm hv) ?_⟩
 rintro e w' ⟨vv,U',ι',he,g1,g2,g3⟩
 have e1:ai (av (cR us ob))=bk (ai (av ob)) (av us):=by rw [gi,cV]
 exact ⟨v,vv,cR us ob,U',ι',he,h2,by rw [e1];exact g1,by rw [e1];exact g2,by rw [e1];exact g3⟩
end
section
variable {P:Program} {Fn:Nat→List D→aq} {m0:Nat} {cfg:Cf3}
mutual
theorem AB:∀ x:iD,(eL x).keysOf=x.keysOf
 | .d _=>by simp [eL,L.keysOf,L3.keysOf]
 | .b _=>by simp [eL,L.keysOf,L3.keysOf]
 | .i _ _=>by simp [eL,L.keysOf,L3.keysOf]
 | .nil=>by simp [eL,L.keysOf,L3.keysOf]
 | .dp _ _=>by simp [eL,L.keysOf,L3.keysOf]
 | .fn f cs=>by simp only [eL,L.keysOf,L3.keysOf];exact nd cs
 | .slk _ _ _ _=>by simp [eL,L.keysOf,L3.keysOf]
 | .pa _ _ _ _=>by simp [eL,L.keysOf,L3.keysOf]
 | .ptr _ _=>by simp [eL,L.keysOf,L3.keysOf]
 | .mk _=>by simp [eL,L.keysOf,L3.keysOf]
 | .undef=>by simp [eL,L.keysOf,L3.keysOf]
theorem nd:∀ xs:List iD,L.keysF (cn xs)=L3.keysF xs
 | []=>rfl
 | x::xs=>by simp only [cn,L.keysF,L3.keysF,AB x,nd xs]
end
mutual
theorem tX:∀ x:cw,(eV x).keysOf=x.keysOf
 | .one x=>by simp only [eV,V.keysOf,V3.keysOf,AB]
 | .agg xs=>by simp only [eV,V.keysOf,V3.keysOf,nd]
 | .tup xs=>by simp only [eV,V.keysOf,V3.keysOf,n4 xs]
theorem n4:∀ xs:List cw,V.keysF (cL xs)=V3.keysF xs
 | []=>rfl
 | x::xs=>by simp only [cL,V.keysF,V3.keysF,tX x,n4 xs]
end
theorem px (o:Ki):(eO o).keysOf=o.keysOf:=by cases o<;>simp [eO,O.keysOf,O3.keysOf,nd]
theorem sr (ob:Ur):∀ ks:List Nat,mU (av ob) ks=km ob ks
 | []=>rfl
 | k::ks=>by
  simp only [mU,km,az,sr ob ks]
  cases bv ob k<;>simp [px]
theorem A6 (ob:Ur):∀ (n:Nat) (ks:List Nat),pV (av ob) n ks=tE ob n ks
 | 0,ks=>rfl
 | n+1,ks=>by simp only [pV,tE,sr,A6 ob n]
theorem AC (ob:Ur):∀ ks:List Nat,kD (av ob) ks=av (qr ob ks)
 | []=>rfl
 | k::ks=>by
  simp only [kD,qr,az,AC ob ks]
  cases bv ob k<;>simp [bw]
theorem GU {pk:List Nat} {vs:List cw} {ob ob':Ur} (h:ub pk vs ob=some ob'):gcO pk (cL vs) (av ob)=some (av ob'):=by
 unfold ub at h
 unfold gcO
 simp only [n4,A6,AC] at h ⊢
 split at h
 ·rename_i hc
  cases h
  rw [T1]
  simp only [db,List.all_map,av,W0,tX,px]
  exact hc
 ·cases h
theorem o4:∀ {l acc:List Nat} {k:Nat},k∈l∨k∈acc→k∈fX l acc
 | [],acc,k,h=>by simpa [fX] using h
 | x::xs,acc,k,h=>by
  simp only [fX]
  split
  ·rename_i hc
   refine o4 ?_
   rcases h with h | h
   ·rcases Ti.1 h with rfl | h
    ·exact .inr (by simpa using hc)
    ·exact .inl h
   ·exact .inr h
  ·refine o4 ?_
   rcases h with h | h
   ·rcases Ti.1 h with rfl | h
    ·exact .inr (Xl ..)
    ·exact .inl h
   ·exact .inr (Ts _ h)
theorem d4 {ob:Ur} {k:Nat} (h:ai (av ob) k≠none):k∈dH ob:=by
 have:=sy h
 rw [keysO,show (av ob).map (·.1)=ob.map (·.1) from j6 ob] at this
 exact o4 (.inl this)
def LogSub (a b:N9):Prop:=a.length=b.length∧∀ (j:Nat) (x y:List Nat×List Nat),a[j]?=some x→b[j]?=some y→(∀ k∈x.1,k∈y.1)∧∀ k∈x.2,k∈y.2
theorem LogSub.snoc {a b:N9} (h:LogSub a b) {x y:List Nat×List Nat} (h1:∀ k∈x.1,k∈y.1) (h2:∀ k∈x.2,k∈y.2):LogSub (a++[x]) (b++[y]):=by
 refine ⟨by simp [h.1],fun j u v hu hv=>?_⟩
 by_cases hj:j < a.length
 ·rw [V2 hj] at hu
  rw [V2 (by rw [←h.1];exact hj)] at hv
  exact h.2 j u v hu hv
 ·rw [Vd (by omega)] at hu
  rw [Vd (by rw [←h.1];omega),← h.1] at hv
  have hj0:j - a.length=0:=by
   rcases Nat.eq_zero_or_pos (j - a.length) with h0 | h0
   ·exact h0
   ·rw [Ve (by simp;omega)] at hu;cases hu
  rw [hj0] at hu hv
  simp only [Vj,T3] at hu hv
  subst hu hv
  exact ⟨h1,h2⟩
theorem H2 {pairs:List (Nat×Nat)} {i:Nat} {log log2:N9} {rd wr rd2:List Nat} (h:oX pairs i log rd wr=true) (hl:LogSub log2 log) (hr:∀ k∈rd2,k∈rd):oX pairs i log2 rd2 wr=true:=by
 unfold oX at h ⊢
 rw [V4] at h ⊢
 intro p hp
 have:=h p hp
 split at this
 ·rename_i hi
  rw [T1 hi]
  cases hb:log[p.1]? with
  | none=>rw [hb] at this;cases this
  | some y =>
   rw [hb] at this
   have hlen:p.1 < log2.length:=by rw [hl.1];exact (Tn.1 hb).1
   obtain ⟨s1,s2⟩:=hl.2 p.1 _ y (Tc hlen) hb
   rw [Tc hlen]
   generalize log2[p.1]'hlen=x at s1 s2
   simp only [Te,V4,Wl,List.contains_eq_mem,W4] at this ⊢
   refine ⟨fun k hk=>⟨fun hm=>(this.1 k (s2 k hk)).1 (hr k hm),(this.1 k (s2 k hk)).2⟩,fun k hk=>this.2 k (s1 k hk)⟩
 ·rename_i hi
  rw [T5 hi]
def Z3 (P:Program) (cfg:Cf3) (Fn:Nat→List D→aq) (κ:Oper→Option Nat) (nt:Nat):Zo:=fun o x q R=>i8 nt o.dst=true ∧
 (((qc (iJ cfg Fn) P (κ o) (ev x.1) o.op).run x.2=some q∧(qc (iJ cfg Fn) P (κ o) (ev x.1) o.op).reads x.2=R) ∨
 ∃ (fo:Operand) (as:Array Operand) (ts:Array TypeId) (f:Nat) (caps:List L),o.op=.call ⟨.value fo,as,ts⟩∧mf (ev x.1 fo)=some (f,caps) ∧
  (∀ (vs:Array Value) (w:World),(callFunc f vs).run P w=.ok (.enter f vs) w) ∧
  ∀ (obf:Ob),(∀ k∈R,obf k=x.2 k)→∀ (m:Nat) (w:World) (U:Nat→Prop) (ι:Pl) (vs:Array Value),Mem w U ι obf→VF w U ι obf (as.toList.map (ev x.1)++caps.map .one) vs.toList →
   CallsIn (FW none) m P f vs w fun e w'=>∃ vv U' ι',e=.returned vv∧Mem w' U' ι' (bk obf q.2)∧Evo w U ι obf w' U' ι' (bk obf q.2)∧VR w' U' ι' (bk obf q.2) q.1 vv)
theorem wO {fo:Operand} {as:Array Operand} {ts:Array TypeId}:j8 (.call ⟨.value fo,as,ts⟩)=2:=rfl
theorem Z3_ok (hF:nG P cfg Fn) (κ:Oper→Option Nat) (nt:Nat) (ops:Array Oper):ZOK P nt ops (fun _=>True) (Z3 P cfg Fn κ nt) where
 agree:=by
  rintro o x y q R ⟨hd,h⟩ h1 h2
  refine ⟨hd,?_⟩
  have hev:=wC h1
  rcases h with ⟨a,b⟩ | ⟨fo,as,ts,f,caps,hop,hf,hc,hr⟩
  ·left
   have e:qc (iJ cfg Fn) P (κ o) (ev y.1) o.op=qc (iJ cfg Fn) P (κ o) (ev x.1) o.op:=sq _ hev
   rw [e]
   have:=Q.run_agree (qc (iJ cfg Fn) P (κ o) (ev x.1) o.op) (ob:=x.2) (ob':=y.2) (fun k hk=>h2 k (by rw [b] at hk;exact hk))
   exact ⟨this.1.trans a,this.2.trans b⟩
  ·right
   rw [hop] at hev
   have e1:ev y.1 fo=ev x.1 fo:=hev fo (by simp [Op.operands,Call.operands])
   have e2:as.toList.map (ev y.1)=as.toList.map (ev x.1):=Wb fun z hz=>hev z (by simp only [Op.operands,Call.operands];simp at hz;simp [hz])
   exact ⟨fo,as,ts,f,caps,hop,by rw [e1];exact hf,hc,fun obf hob=>by rw [e2];exact hr obf fun k hk=>(hob k hk).trans (h2 k hk)⟩
 ng:=by
  rintro o x q R ⟨hd,h⟩ hc
  rcases h with ⟨a,b⟩ | ⟨fo,as,ts,f,caps,hop,_⟩
  ·have hn:=LW (P:=P) (C:=iJ cfg Fn) (dst:=κ o) (ρ:=ev x.1) hc
   exact ⟨hn.upd a,by rw [←b,hn.reads]⟩
  ·rw [hop,wO] at hc;cases hc
 nu:=by
  rintro o x q R ⟨hd,h⟩ hc
  rcases h with ⟨a,b⟩ | ⟨fo,as,ts,f,caps,hop,_⟩
  ·exact LV (P:=P) (C:=iJ cfg Fn) (dst:=κ o) (ρ:=ev x.1) hc _ _ a
  ·rw [hop,wO] at hc;cases hc
 rep:=fun _ _=>trivial
 sound:=by
  rintro o x q R B zs rng yv a w ro m K RR ⟨hd,h⟩ _ hs hK
  rcases h with ⟨h1,_⟩ | ⟨fo,as,ts,f,caps,hop,hf,hcall,hr⟩
  ·exact vR (C:=iJ cfg Fn) (BF hF) hs h1 hd fun a' w' hs'=>hK _ _ (by rw [kX] at hs';exact hs')
  ·obtain ⟨U,ι,ds,hm,he0,hz,hdf,hnd,hds,hrg,hsz,hv,hy⟩:=hs
   obtain ⟨cs,hcv,hcl⟩:=pA (qG hv fo) hf
   have hnd':∀ c,o.op≠.defer c:=by rintro c hc;rw [hop] at hc;cases hc
   have hex:(execOp a.eval o).run P w=.ok (.enter f (as.map a.eval++cs)) w:=by
    unfold execOp;rw [hop];simp [resolve,hcv,Deferred.ofValue,invoke,hcall]
   have hvals:VF w U ι x.2 (as.toList.map (ev x.1)++caps.map .one) (as.map a.eval++cs).toList:=by
    rw [X4,X7]
    exact oz (ku (qG hv) as.toList) (Bb hcl)
   unfold Oper.wpIn
   refine ⟨fun f _=>lL ro f,?_⟩
   rw [Oper.semAt_eq _ _ _ hnd',hex]
   refine ⟨fun hc=>(by cases hc),CallsIn.mono (hr x.2 (fun _ _=>rfl) (m - 1) w U ι _ hm hvals:CallsIn (FW ro) (m - 1) P f _ w _) fun e w' ⟨vv,U',ι',h1,h3,h4,h5⟩=>?_⟩
   subst h1
   refine hK _ _ ?_
   have:=fN (yv:=yv) he0 hz hdf hnd hds hrg hsz hv hy hd h3 h4 h5
   rw [kX] at this
   exact this
theorem AN {f:Nat} {caps:List L} (h:f < 2000000):mf (.one (.fn f caps))=some (f,caps):=by simp only [mf,T1 h]
theorem EM {pairs:List (Nat×Nat)} {i:Nat} {log:N9} {rd wr:List Nat} (h:oX pairs i log rd wr=true):∀ p∈pairs,p.2=i→∃ a,log[p.1]?=some a∧MT a (rd,wr):=by
 unfold oX at h
 rw [V4] at h
 intro p hp hpi
 have:=h p hp
 rw [T1 hpi] at this
 split at this
 ·rename_i rj wj hlog
  refine ⟨(rj,wj),hlog,?_⟩
  simp only [Te,V4,Wl,List.contains_eq_mem,W4] at this
  exact ⟨fun k hk=>this.1 k hk,fun k hk=>this.2 k hk⟩
 ·cases this
theorem vT {ρ:Operand→cw} {o:Oper} {f:Nat} {args:List cw} (h:yy cfg ρ o=some (f,args)):∃ fo as ts caps,o.op=.call ⟨.value fo,as,ts⟩∧(ρ fo=.one (.fn f caps)∧f < 2000000)∧args=as.toList.map ρ++caps.map .one:=by
 unfold yy at h
 split at h
 ·rename_i f' args' hk
  split at h
  ·cases h;exact o8 hk
  ·cases h
 ·cases h
mutual
theorem VR.told_id {K:Nat→Prop} {w:World} {U:Nat→Prop} {ι1 ι2:Pl} {ob1 ob2:Ob} (h:qR id K ι1 ob1 ι2 ob2):∀ (x:V) (v:Value),(∀ k∈x.keysOf,K k)→VR w U ι1 ob1 x v→VR w U ι2 ob2 x v
 | .one l,v,hk,hx=>by
  simp only [VR] at hx ⊢
  have:=LR.told h l v (by simpa [V.keysOf] using hk) hx
  rwa [L.ren_id] at this
 | .agg xs,v,hk,hx=>by
  simp only [VR] at hx ⊢
  obtain ⟨cs,e1,e2⟩:=hx
  have:=LF.told h xs cs.toList (by simpa [V.keysOf] using hk) e2
  rw [L.renF_id] at this
  exact ⟨cs,e1,this⟩
 | .tup xs,v,hk,hx=>by
  simp only [VR] at hx ⊢
  obtain ⟨vs,e1,e2⟩:=hx
  exact ⟨vs,e1,VF.told_id h xs vs.toList (by simpa [V.keysOf] using hk) e2⟩
theorem VF.told_id {K:Nat→Prop} {w:World} {U:Nat→Prop} {ι1 ι2:Pl} {ob1 ob2:Ob} (h:qR id K ι1 ob1 ι2 ob2):∀ (xs:List V) (vs:List Value),(∀ k∈V.keysF xs,K k)→VF w U ι1 ob1 xs vs→VF w U ι2 ob2 xs vs
 | [],vs,_,hv=>by simpa [VF] using hv
 | x::xs,vs,hk,hv=>by
  simp only [VF] at hv ⊢
  obtain ⟨v,vs',e,h1,h2⟩:=hv
  exact ⟨v,vs',e,VR.told_id h x v (fun k hk'=>hk k (by simp [V.keysF,hk'])) h1,VF.told_id h xs vs' (fun k hk'=>hk k (by simp [V.keysF,hk'])) h2⟩
end
theorem Ct {xs:List cw} {k:Nat} (h:k∈V3.keysF xs):∃ x∈xs,k∈x.keysOf:=by
 induction xs with
 | nil=>simp [V3.keysF] at h
 | cons x xs ih =>
  simp only [V3.keysF,V6] at h
  rcases h with h | h
  ·exact ⟨x,by simp,h⟩
  ·obtain ⟨y,hy,h⟩:=ih h
   exact ⟨y,by simp [hy],h⟩
theorem LU (o:Ki):(eO o).owned=K1 o:=by cases o<;>rfl
theorem qL {l:List Nat} {ks:List Nat} (h:l.all ks.contains=true):∀ k∈l,k∈ks:=fun k hk=>by
 have:=V4.1 h k hk
 simpa using this
theorem ua {ob:Ur} {k:Nat} (h:k∈ob.map (·.1)):∃ o,ai (av ob) k=some o:=by
 induction ob with
 | nil=>simp at h
 | cons p ob ih =>
  obtain ⟨j,o⟩:=p
  rw [bw]
  simp only [ai]
  by_cases e:k=j
  ·rw [T1 e];exact ⟨_,rfl⟩
  ·rw [T5 e];exact ih (by simpa [e] using h)
theorem qy {ob:Ur} {k:Nat} {o:O} (h:ai (av ob) k=some o):∃ p∈ob,p.1=k∧eO p.2=o:=by
 induction ob with
 | nil=>simp [av,ai] at h
 | cons p ob ih =>
  obtain ⟨j,q⟩:=p
  rw [bw] at h
  simp only [ai] at h
  by_cases e:k=j
  ·rw [T1 e] at h;cases h;exact ⟨_,Xl ..,e.symm,rfl⟩
  ·rw [T5 e] at h
   obtain ⟨p,hp,h1,h2⟩:=ih h
   exact ⟨p,Ts _ hp,h1,h2⟩
theorem u3 {ρ:Operand→cw} {o:Oper} {f:Nat} {args:List cw} (h:u4 cfg ρ o=some (f,args)):∃ fo as ts caps,o.op=.call ⟨.value fo,as,ts⟩∧(ρ fo=.one (.fn f caps)∧f < 2000000)∧args=as.toList.map ρ++caps.map .one:=by
 unfold u4 at h
 split at h
 ·rename_i f' args' hk
  split at h
  ·cases h;exact o8 hk
  ·cases h
 ·cases h
theorem yS {w:World} {U:Nat→Prop} {ι ιc:Pl} {ob obc:Ob} {K J:Nat→Prop} (g:Given id id K K ι ob ιc obc) (hm:Mem w U ι ob) {w':World} {U':Nat→Prop} {ιc' ι':Pl} {obc' ob':Ob} (hm':Mem w' U' ιc' obc') (he:Evo w U ιc obc w' U' ιc' obc')
  (hKJ:∀ k,K k→J k) (hnew:∀ k,J k→¬ K k→ob k=none) (hin:∀ k,J k→ι' k=ιc' k∧ob' k=obc' k) (hout:∀ k,¬ J k→ι' k=ι k∧ob' k=ob k)
  (hdom:∀ c o,obc' c=some o→J c∧∀ j∈o.keysOf,J j):Mem w' U' ι' ob'∧Evo w U ι ob w' U' ι' ob':=by
 have htold:qR id J ιc' obc' ι' ob':=fun c hc=>by
  obtain ⟨h1,h2⟩:=hin c hc
  refine ⟨h1,?_⟩
  rw [id,h2]
  cases obc' c with
  | none=>rfl
  | some o=>rw [Th,O.ren_id]
 have hco:∀ k o,K k→ob k=some o→obc k=some o∧ιc k=ι k:=fun k o hK hk=>by
  obtain ⟨t1,t2⟩:=g.told k hK
  rw [hk,Th,O.ren_id] at t2
  exact ⟨t2,t1⟩
 have hsrc:∀ c o,obc c=some o→o.owned=true→ob c=some o∧(ιc c).1=(ι c).1:=fun c o hc _=>by
  obtain ⟨o1,h1,h2,_,h4,h5⟩:=g.at_ hc
  rw [O.ren_id] at h2
  exact ⟨by rw [h2];exact h1,by rw [h4];rfl⟩
 have hev:Evo w U ι ob w' U' ι' ob':=by
  refine ⟨he.os,he.tape,he.output,he.size,he.kept,he.sub,?_,?_,?_,?_,?_,?_⟩
  ·intro k cells elem hk
   by_cases hK:K k
   ·obtain ⟨t2,t1⟩:=hco k _ hK hk
    obtain ⟨cells',h1,h2⟩:=he.box k _ elem t2
    obtain ⟨i1,i2⟩:=hin k (hKJ k hK)
    exact ⟨_,by rw [i2,h1],by rw [i1,h2,t1]⟩
   ·by_cases hJ:J k
    ·rw [hnew k hJ hK] at hk;cases hk
    ·obtain ⟨i1,i2⟩:=hout k hJ
     exact ⟨cells,by rw [i2,hk],by rw [i1]⟩
  ·intro k rows size elem own hk
   by_cases hK:K k
   ·obtain ⟨t2,t1⟩:=hco k _ hK hk
    obtain ⟨rows',own',h1,h2,h3⟩:=he.arr k rows size elem own t2
    obtain ⟨i1,i2⟩:=hin k (hKJ k hK)
    exact ⟨rows',own',by rw [i2,h1],h2,fun e=>by rw [i1,h3 e,t1]⟩
   ·by_cases hJ:J k
    ·rw [hnew k hJ hK] at hk;cases hk
    ·obtain ⟨i1,i2⟩:=hout k hJ
     exact ⟨rows,own,by rw [i2,hk],Tf _,fun _=>i1⟩
  ·intro k agg keys vals own hk
   by_cases hK:K k
   ·obtain ⟨t2,t1⟩:=hco k _ hK hk
    obtain ⟨keys',vals',own',h1,h2⟩:=he.mp k agg keys vals own t2
    obtain ⟨i1,i2⟩:=hin k (hKJ k hK)
    exact ⟨keys',vals',own',by rw [i2,h1],by rw [i1,h2,t1]⟩
   ·by_cases hJ:J k
    ·rw [hnew k hJ hK] at hk;cases hk
    ·obtain ⟨i1,i2⟩:=hout k hJ
     exact ⟨keys,vals,own,by rw [i2,hk],by rw [i1]⟩
  ·intro b hb hno
   refine he.same b hb fun c o hc ho heq=>?_
   obtain ⟨h1,h3⟩:=hsrc c o hc ho
   exact hno _ _ h1 ho (h3.symm.trans heq)
  ·intro k o hk ho
   by_cases hJ:J k
   ·obtain ⟨i1,i2⟩:=hin k hJ
    rw [i2] at hk
    rw [i1]
    rcases he.ownd k o hk ho with h | ⟨c0,o0,h1,h2,h3⟩
    ·exact .inl h
    ·obtain ⟨g1,g3⟩:=hsrc c0 o0 h1 h2
     exact .inr ⟨_,o0,g1,h2,h3.trans g3⟩
   ·obtain ⟨i1,i2⟩:=hout k hJ
    rw [i2] at hk
    exact .inr ⟨k,o,hk,ho,by rw [i1]⟩
  ·intro b hb
   rcases he.orig b hb with h | h | ⟨c,o,h1,h2,h3⟩
   ·exact .inl h
   ·exact .inr (.inl h)
   ·obtain ⟨g1,g3⟩:=hsrc c o h1 h2
    exact .inr (.inr ⟨_,o,g1,h2,g3.symm.trans h3⟩)
 refine ⟨⟨hm'.lt,?_,?_⟩,hev⟩
 ·intro k o hk
  by_cases hJ:J k
  ·obtain ⟨i1,i2⟩:=hin k hJ
   rw [i2] at hk
   have:=OR.told (k:=k) htold i1 (hdom _ _ hk).2 (hm'.obj _ _ hk)
   rwa [O.ren_id] at this
  ·obtain ⟨i1,i2⟩:=hout k hJ
   rw [i2] at hk
   have h0:=hm.obj k o hk
   have hlt:=hm.block hk
   have hblk:o.owned=true→w'.heap[(ι k).1]?=w.heap[(ι k).1]?∧¬ U' (ι k).1:=fun ho=>by
    have hne:∀ c oc,obc c=some oc→oc.owned=true→(ιc c).1≠(ι k).1:=fun c oc hc hoc heq=>by
     obtain ⟨o1,g1,_,g3,g4,g5⟩:=g.at_ hc
     rw [g4] at heq
     exact hm.inj _ _ _ _ g1 hk g5 ho (fun e=>hJ (hKJ _ (e ▸ g3))) heq
    refine ⟨he.same _ hlt hne,fun hU=>?_⟩
    rcases he.orig _ hU with h | h | ⟨c,oc,h1,h2,h3⟩
    ·exact hm.notU hk ho h
    ·omega
    ·exact hne c oc h1 h2 h3
   have hU:o.owned=false→w'.heap[(ι k).1]?=w.heap[(ι k).1]?∧U' (ι k).1:=fun ho=>by
    have:=h0.blk ho
    exact ⟨he.kept _ this,he.sub _ this⟩
   have hιk:(ι' k).1=(ι k).1:=by rw [i1]
   cases o with
   | box cells elem =>
    obtain ⟨cur,a,b,c⟩:=h0
    obtain ⟨h1,h2⟩:=hblk rfl
    exact ⟨cur,by rw [hιk,h1];exact a,LF.evo hev _ _ b,by rw [hιk];exact h2⟩
   | arr rows size elem own =>
    obtain ⟨cur,a,b,c,d,e,f⟩:=h0
    have hh:w'.heap[(ι k).1]?=w.heap[(ι k).1]?∧(if own then ¬ U' (ι k).1 else U' (ι k).1):=by
     cases own with
     | true=>have:=hblk rfl;simpa using this
     | false=>have:=hU rfl;simpa using this
    refine ⟨cur,by rw [hιk,hh.1];exact a,by rw [i1];exact b,by rw [i1];exact c,by rw [i1];exact d,?_,by rw [hιk];exact hh.2⟩
    rw [hιk]
    exact RR.mono he.kept he.sub _ hh.1 _ _ _ e
   | mp agg keys vals own =>
    obtain ⟨es,clock,a,b,c⟩:=h0
    have hh:w'.heap[(ι k).1]?=w.heap[(ι k).1]?∧(if own then ¬ U' (ι k).1 else U' (ι k).1):=by
     cases own with
     | true=>have:=hblk rfl;simpa using this
     | false=>have:=hU rfl;simpa using this
    exact ⟨es,clock,by rw [hιk,hh.1];exact a,KR.mono he.kept he.sub _ _ _ _ b,by rw [hιk];exact hh.2⟩
 ·intro k k' o o' hk hk' ho ho' hne
  have side:∀ {k k':Nat} {o o':O},J k→¬ J k'→ob' k=some o→ob' k'=some o'→o.owned=true→o'.owned=true→(ι' k).1≠(ι' k').1:=by
   intro k k' o o' hK hK' hk hk' ho ho' heq
   obtain ⟨i1,i2⟩:=hin k hK
   obtain ⟨j1,j2⟩:=hout k' hK'
   rw [i2] at hk
   rw [j2] at hk'
   rw [i1,j1] at heq
   have hlt:=hm.block hk'
   rcases he.ownd _ o hk ho with h | ⟨c0,o0,h1,h2,h3⟩
   ·omega
   ·obtain ⟨o1,g1,_,g3,g4,g5⟩:=g.at_ h1
    rw [h3,g4] at heq
    exact hm.inj _ _ _ _ g1 hk' g5 ho' (fun e=>hK' (hKJ _ (e ▸ g3))) heq
  by_cases hK:J k
  ·by_cases hK':J k'
   ·obtain ⟨i1,i2⟩:=hin k hK
    obtain ⟨j1,j2⟩:=hin k' hK'
    rw [i2] at hk
    rw [j2] at hk'
    rw [i1,j1]
    exact hm'.inj _ _ _ _ hk hk' ho ho' hne
   ·exact side hK hK' hk hk' ho ho'
  ·by_cases hK':J k'
   ·exact fun e=>side hK' hK hk' hk ho' ho e.symm
   ·obtain ⟨i1,i2⟩:=hout k hK
    obtain ⟨j1,j2⟩:=hout k' hK'
    rw [i2] at hk
    rw [j2] at hk'
    rw [i1,j1]
    exact hm.inj _ _ _ _ hk hk' ho ho' hne
theorem Eu {rn:N6} (hrn:qS P rn) {fr:Fr} {q:Nat} {o:Oper} {f:Nat} {args:List cw} {ob:Ur} {k:cw→Ur→List Nat→aq} {r:Nat×List Yr} (h:Ev (dC P cfg Fn m0) cfg fr rn q o f args ob k=some r) :
  (∀ (as:Array Value) (w:World),(callFunc f as).run P w=.ok (.enter f as) w)∧∃ v us rd,k v us rd=some r ∧
  ∀ (obf:Ob),(∀ k∈rd,obf k=ai (av ob) k)→∀ (m:Nat) (w:World) (U:Nat→Prop) (ι:Pl) (as:Array Value),Mem w U ι obf→VF w U ι obf (cL args) as.toList →
   CallsIn (FW none) m P f as w fun e w'=>∃ vv U' ι',e=.returned vv∧Mem w' U' ι' (bk obf (av us))∧Evo w U ι obf w' U' ι' (bk obf (av us))∧VR w' U' ι' (bk obf (av us)) (eV v) vv:=by
 unfold Ev at h
 split at h
 ·cases h
 rename_i kept hgc
 simp only at h
 split at h
 case isFalse=>cases h
 rename_i hc
 simp only [Te,V4] at hc
 obtain ⟨⟨_,hc⟩,hca⟩:=hc
 split at h
 ·cases h
 split at h
 ·cases h
 rename_i c js hctx
 obtain ⟨j,ys,kont,h1,h2,h3⟩:=fO h
 obtain ⟨x,g1,g2⟩:=s8 h2 h3
 split at g2
 case isFalse=>cases g2
 rename_i hk
 simp only [Te] at hk
 obtain ⟨⟨⟨⟨k1,k2⟩,k3⟩,k4⟩,k5⟩:=hk
 have hndu:=fw k1
 have k3:=qL k3
 have k5:=qL k5
 generalize hus:(ej (dC P cfg Fn m0) ys x.2).ob=us at g2 hndu k1 k2 k3 k4 k5
 generalize hv:dk (ej (dC P cfg Fn m0) ys x.2).env 0=v at g2 k5
 obtain ⟨hcall,hrun⟩:=hrn f _ _ _ _ _ h1
 refine ⟨hcall,v,us,_,g2,fun obf hob0 m w U ι as hm hvf=>?_⟩
 have hob:∀ q∈kept.map (·.1),obf q=ai (av ob) q:=fun q hq=>hob0 q (Vm _ hq)
 have hnew:∀ q,q∈us.map (·.1)→q∉kept.map (·.1)→obf q=none:=fun q hq hn=>by
  have hq2:q∈(us.map (·.1)).filter fun q=>!(kept.map (·.1)).contains q:=Xc.2 ⟨hq,by simpa using hn⟩
  rw [hob0 q (Vh _ hq2),az]
  have:=V4.1 k2 q hq2
  cases ho:bv ob q with
  | none=>rfl
  | some o=>rw [ho] at this;cases this
 obtain ⟨c1,_,c3,c4⟩:=AJ (GU hgc)
 have kin:∀ q o,ai (av kept) q=some o→q∈kept.map (·.1)∧obf q=some o∧o.owned=true:=fun q o hq=>by
  obtain ⟨p,hp,e1,e2⟩:=qy hq
  have hq2:q∈kept.map (·.1):=V8.2 ⟨p,hp,e1⟩
  refine ⟨hq2,?_,?_⟩
  ·rw [hob q hq2]
   rcases c1 q with e | e
   ·rw [←e];exact hq
   ·rw [e] at hq;cases hq
  ·rw [←e2,LU]
   exact (hc p hp).1
 let K:Nat→Prop:=fun q=>q∈kept.map (·.1)
 have htold:qR id K ι obf ι (ai (av kept)):=fun q hq=>by
  obtain ⟨o,ho⟩:=ua hq
  refine ⟨rfl,?_⟩
  rw [(kin q o ho).2.1,id,ho,Th,O.ren_id]
 have hg:Given id id K K ι obf ι (ai (av kept)):=by
  refine ⟨fun q hq=>⟨hq,rfl⟩,fun q hq=>⟨hq,rfl⟩,htold,fun q o hq=>(kin q o hq).1,fun q hq=>?_,fun q o hq ho j hj=>?_⟩
  ·obtain ⟨o,ho⟩:=ua hq
   exact ⟨o,(kin q o ho).2⟩
  ·obtain ⟨o',ho'⟩:=ua hq
   have e:=(kin q o' ho').2.1
   rw [ho] at e;cases e
   obtain ⟨p,hp,e1,e2⟩:=qy ho'
   rw [←e2,px] at hj
   exact Ws.1 ((hc p hp).2 j hj)
 have hm2:=hg.mem hm
 have hvf2:VF w U ι (ai (av kept)) (cL args) as.toList:=VF.told_id htold _ _ (fun q hq=>by
  rw [n4] at hq
  obtain ⟨v0,hv0,hq⟩:=Ct hq
  exact Ws.1 (hca v0 hv0 q hq)) hvf
 refine CallsIn.mono (hrun m w U ι as hm2 hvf2) ?_
 rintro e w' ⟨v0,vv,ob0,U',ι',he,hk0,n1,n2,n3⟩
 obtain ⟨y,y1,y2,y3⟩:=Af hk0
 rw [g1] at y1;cases y1
 have hs:Sim2 ⟨w,U,ι,ai (av kept)⟩ [] 1 false undef (bg (eS (⟨[(0,v0)],ob0,[],none⟩:iM)).env) (ai (eS (⟨[(0,v0)],ob0,[],none⟩:iM)).ob) (eS (⟨[(0,v0)],ob0,[],none⟩:iM)).ys { tmps:=#[vv],defers:=[] } w':=by
  refine ⟨U',ι',[],n1,n2,fun p hp=>(by cases hp),rfl,Y3,fun d hd=>(by cases hd),fun _=>rfl,rfl,fun t=>?_,fun t ht=>by cases ht⟩
  show VR w' U' ι' (ai (av ob0)) (bg [(0,eV v0)] t) (#[vv].getD t undef)
  cases t with
  | zero=>exact n3
  | succ t=>simp [bg,VR,LR]
 obtain ⟨hs2,_⟩:=pQ (pk:=kept.map (·.1)) (fun q hq=>by
  cases ho:ai (av kept) q with
  | none=>exact absurd ho hq
  | some o=>exact (kin q o ho).1) y3 hs
 obtain ⟨U2,ι2,ds,p1,p2,_,_,_,_,_,_,p3,_⟩:=hs2
 have p1:Mem w' U2 ι2 (ai (av us)):=by rw [←hus];exact p1
 have p2:Evo w U ι (ai (av kept)) w' U2 ι2 (ai (av us)):=by rw [←hus];exact p2
 have p3:VR w' U2 ι2 (ai (av us)) (eV v) vv:=by
  have:=p3 0
  rw [←hus,← hv,← f9]
  exact this
 have ukeys:(av us).map (·.1)=us.map (·.1):=j6 us
 classical
 let J:Nat→Prop:=fun q=>q∈us.map (·.1)
 have hin:∀ q,J q→bk obf (av us) q=ai (av us) q:=fun q hq=>l6 (by rw [ukeys];exact hndu) (by rw [ukeys];exact hq)
 have:=yS (J:=J) hg hm p1 p2 (ι':=fun q=>if J q then ι2 q else ι q) (ob':=bk obf (av us)) k3 hnew ?_ ?_ ?_
 ·refine ⟨vv,U2,_,he,this.1,this.2,?_⟩
  refine VR.told_id (K:=J) (fun q hq=>⟨by simp only [T1 hq,id],?_⟩) (eV v) vv (fun q hq=>k5 q (by rw [←tX];exact hq)) p3
  rw [id,hin q hq]
  cases ai (av us) q with
  | none=>rfl
  | some o=>rw [Th,O.ren_id]
 ·intro q hq
  exact ⟨by simp only [T1 hq],hin q hq⟩
 ·intro q hq
  refine ⟨by simp only [T5 hq],jq fun hmem=>hq ?_⟩
  rw [ukeys] at hmem
  exact hmem
 ·intro q o hqo
  obtain ⟨p,hp,e1,e2⟩:=qy hqo
  refine ⟨V8.2 ⟨p,hp,e1⟩,fun j hj=>?_⟩
  rw [←e2,px] at hj
  have:=V4.1 k4 p hp
  exact qL this j hj
theorem z7 (hF:nG P cfg Fn) (hM:pj P cfg Fn) {rn:N6} (hrn:qS P rn) {id:Nat} {fr:Fr} {ops:Array Oper} {pairs:List (Nat×Nat)} {r:Nat×List Yr}:∀ {l:List Oper} {i:Nat} {log log2:N9} {st:iM} {k:iM→aq},Fw (dC P cfg Fn m0) cfg P fr rn id ops pairs l i log st k=some r→LogSub log2 log→st.ys=[] →
  ∃ st',k st'=some r∧st'.ys=[]∧st'.pend=st.pend∧jF (Z3 P cfg Fn (qq cfg fr.f) fr.nt) ops pairs l i log2 (bg (bD st.env),ai (av st.ob)) (bg (bD st'.env),ai (av st'.ob))
 | [],i,log,log2,st,k,h,hl,hy=>by
  simp only [Fw] at h
  exact ⟨st,h,hy,rfl,[],rfl,fun _ _ m q R hm=>by simp at hm⟩
 | o::rest,i,log,log2,st,k,h,hl,hy=>by
  have after:∀ (st1:iM) (v:cw) (us:Ur),bg (bD st1.env)=bg (bD st.env)→st1.ob=st.ob→((bg (bD (gd o.dst v (cR us st1.ob) st1).env),ai (av (gd o.dst v (cR us st1.ob) st1).ob)):X)=app o (some (eV v,av us)) (bg (bD st.env),ai (av st.ob)):=fun st1 v us he ho=>by
   refine Prod.ext ?_ ?_
   ·simp only [app];rw [iR,he]
   ·simp only [app,gd];rw [gi,cV,ho]
  have go:∀ (st1:iM),bg (bD st1.env)=bg (bD st.env)→st1.ob=st.ob→st1.ys=[]→st1.pend=st.pend→gg ops o (bg (bD st.env)) true →
    (MI (dC P cfg Fn m0) cfg P fr rn (id*1000+i) o st1 fun v us rd=>if (i8 fr.nt o.dst&&oX pairs i log rd (us.map (·.1)))=true then Fw (dC P cfg Fn m0) cfg P fr rn id ops pairs rest (i+1) (log++[(rd,us.map (·.1))]) (gd o.dst v (cR us st1.ob) st1) k else none)=some r →
    ∃ st',k st'=some r∧st'.ys=[]∧st'.pend=st.pend∧jF (Z3 P cfg Fn (qq cfg fr.f) fr.nt) ops pairs (o::rest) i log2 (bg (bD st.env),ai (av st.ob)) (bg (bD st'.env),ai (av st'.ob)):=by
   intro st1 he1 ho1 hy1 hp1 hgate h1
   have ni:∀ {v:cw} {us:Ur} {rd rd2:List Nat},(∀ k∈rd2,k∈rd)→(i8 fr.nt o.dst=true→Z3 P cfg Fn (qq cfg fr.f) fr.nt o (bg (bD st.env),ai (av st.ob)) (eV v,av us) rd2) →
     (if (i8 fr.nt o.dst&&oX pairs i log rd (us.map (·.1)))=true then Fw (dC P cfg Fn m0) cfg P fr rn id ops pairs rest (i+1) (log++[(rd,us.map (·.1))]) (gd o.dst v (cR us st1.ob) st1) k else none)=some r →
     ∃ st',k st'=some r∧st'.ys=[]∧st'.pend=st.pend∧jF (Z3 P cfg Fn (qq cfg fr.f) fr.nt) ops pairs (o::rest) i log2 (bg (bD st.env),ai (av st.ob)) (bg (bD st'.env),ai (av st'.ob)):=by
    intro v us rd rd2 hsub hz h2
    split at h2
    ·rename_i hc
     simp only [Te] at hc
     have hk:wr (some (eV v,av us))=us.map (·.1):=j6 us
     obtain ⟨st',f1,f2,f3,f4⟩:=z7 hF hM hrn (log2:=log2++[(rd2,wr (some (eV v,av us)))]) h2 (hl.snoc hsub (by rw [hk];exact fun _ h=>h)) (by simp only [gd,hy1];exact kX _)
     refine ⟨st',f1,f2,f3.trans hp1,?_⟩
     rw [after st1 v us he1 ho1] at f4
     refine yx (res:=(eV v,av us)) ⟨hgate,fun q hq=>by cases hq;exact hz hc.1,fun hq=>by cases hq⟩ ?_ f4
     have:=H2 hc.2 hl hsub
     rw [←hk] at this
     exact EM this
    ·cases h2
   unfold MI at h1
   split at h1
   ·rename_i p hms
    obtain ⟨f,args⟩:=p
    obtain ⟨fo,as,ts,caps,hop,⟨hf,hlt⟩,rfl⟩:=vT hms
    obtain ⟨g0,v,us,rd,g1,g2⟩:=sU hM h1
    refine ni (fun _ h=>h) (fun hd=>⟨hd,.inr ⟨fo,as,ts,f,cn caps,hop,?_,g0,?_⟩⟩) g1
    ·have:ev (bg (bD st.env)) fo=.one (.fn f (cn caps)):=by rw [←he1,← yY st1.env fo,hf];simp only [eV,eL]
     rw [this]
     exact AN hlt
    ·intro obf hob m w U ι vs hm hv
     refine g2 obf (fun k hk=>by rw [ho1];exact hob k hk) m w U ι vs hm ?_
     have e:cL (as.toList.map (wD (dC P cfg Fn m0) st1.env)++caps.map .one)=as.toList.map (ev (bg (bD st.env)))++(cn caps).map .one:=by
      rw [db,X0,Vv,← he1]
      congr 1
      ·exact Wb fun z _=>yY st1.env z
      ·simp [bN,eV,W0]
     rw [e]
     exact hv
   ·split at h1
    ·rename_i p hms
     obtain ⟨f,args⟩:=p
     obtain ⟨fo,as,ts,caps,hop,⟨hf,hlt⟩,rfl⟩:=u3 hms
     obtain ⟨g0,v,us,rd,g1,g2⟩:=Eu hrn h1
     refine ni (fun _ h=>h) (fun hd=>⟨hd,.inr ⟨fo,as,ts,f,cn caps,hop,?_,g0,?_⟩⟩) g1
     ·have:ev (bg (bD st.env)) fo=.one (.fn f (cn caps)):=by rw [←he1,← yY st1.env fo,hf];simp only [eV,eL]
      rw [this]
      exact AN hlt
     ·intro obf hob m w U ι vs hm hv
      refine g2 obf (fun k hk=>by rw [ho1];exact hob k hk) m w U ι vs hm ?_
      have e:cL (as.toList.map (wD (dC P cfg Fn m0) st1.env)++caps.map .one)=as.toList.map (ev (bg (bD st.env)))++(cn caps).map .one:=by
       rw [db,X0,Vv,← he1]
       congr 1
       ·exact Wb fun z _=>yY st1.env z
       ·simp [bN,eV,W0]
      rw [e]
      exact hv
    ·obtain ⟨v,us,rd,g1,g2,g3⟩:=Aj (P:=P) h1
     rw [EN,he1,ho1] at g1 g2
     exact ni g2 (fun hd=>⟨hd,.inl ⟨g1,rfl⟩⟩) g3
  have skip:∀ (st1:iM),bg (bD st1.env)=bg (bD st.env)→st1.ob=st.ob→st1.ys=[]→st1.pend=st.pend→gg ops o (bg (bD st.env)) false →
    Fw (dC P cfg Fn m0) cfg P fr rn id ops pairs rest (i+1) (log++[([],[])]) (gd o.dst (.tup []) st1.ob st1) k=some r →
    ∃ st',k st'=some r∧st'.ys=[]∧st'.pend=st.pend∧jF (Z3 P cfg Fn (qq cfg fr.f) fr.nt) ops pairs (o::rest) i log2 (bg (bD st.env),ai (av st.ob)) (bg (bD st'.env),ai (av st'.ob)):=by
   intro st1 he1 ho1 hy1 hp1 hgate h1
   obtain ⟨st',f1,f2,f3,f4⟩:=z7 hF hM hrn (log2:=log2++[([],[])]) h1 (hl.snoc (fun _ h=>h) (fun _ h=>h)) (by simp only [gd,hy1];exact kX _)
   refine ⟨st',f1,f2,f3.trans hp1,vS ⟨hgate,fun q hq=>(by cases hq),fun _=>rfl⟩ ?_⟩
   have e:((bg (bD (gd o.dst (.tup []) st1.ob st1).env),ai (av (gd o.dst (.tup []) st1.ob st1).ob)):X)=app o none (bg (bD st.env),ai (av st.ob)):=by
    refine Prod.ext ?_ ?_
    ·simp only [app];rw [iR,he1];simp only [eV,cL]
    ·simp only [app,gd];rw [ho1]
   rw [e] at f4
   exact f4
  unfold Fw at h
  simp only at h
  cases hg:o.guard with
  | none =>
   rw [hg] at h
   exact go st rfl rfl hy rfl (by simp [gg,hg]) h
  | some jw =>
   obtain ⟨j,want⟩:=jw
   rw [hg] at h
   simp only at h
   split at h
   ·cases h
   ·rename_i gt hgt
    have at_:∀ v,eV (dk st.env gt)=v→bg (bD st.env) gt=v:=fun v hv=>by rw [f9];exact hv
    have push3:∀ b,eV (dk st.env gt)=.one (.d (.lit (.bool b)))→bg (bD ((gt,.one (.b b))::st.env))=bg (bD st.env):=fun b hb=>by
     show bg ((gt,cO (.bool b))::bD st.env)=_
     exact od (b:=b) (at_ _ hb) rfl
    have gt_:∀ b,eV (dk st.env gt)=.one (.d (.lit (.bool b)))→∀ g,g=decide (b=want)→gg ops o (bg (bD st.env)) g:=fun b hb g hgb=>by
     simp only [gg,hg];exact ⟨gt,hgt,.inl ⟨b,at_ _ hb,hgb⟩⟩
    split at h
    ·rename_i hgv
     exact skip st rfl rfl hy rfl (by simp only [gg,hg];exact ⟨gt,hgt,.inr ⟨at_ _ (sK hgv),trivial⟩⟩) h
    ·rename_i hgv
     exact go st rfl rfl hy rfl (gt_ _ (fB hgv) _ rfl) h
    ·rename_i hgv
     exact go st rfl rfl hy rfl (gt_ _ (fB hgv) _ rfl) h
    ·rename_i want _ _ v0 _ hgv hn1 hn2
     refine skip st rfl rfl hy rfl (gt_ _ (fB hgv) _ ?_) h
     rename_i b0 _ _ _
     symm
     rw [W4]
     intro e
     rw [e] at hn1 hn2
     exact (Bool.eq_false_or_eq_true want).elim (fun h5=>hn1 h5 h5) (fun h5=>hn2 h5 h5)
    ·rename_i x hgv
     rcases gF h with ⟨rfl,h⟩ | ⟨rfl,h⟩
     ·have hb:=fU hgv rfl
      exact go { st with env:=(gt,.one (.b true))::st.env } (push3 _ hb) rfl hy rfl (gt_ _ hb _ rfl) h
     ·have hb:=fU hgv rfl
      exact skip { st with env:=(gt,.one (.b false))::st.env } (push3 _ hb) rfl hy rfl (gt_ _ hb _ rfl) h
    ·rename_i x hgv
     rcases gF h with ⟨rfl,h⟩ | ⟨rfl,h⟩
     ·have hb:=fU hgv rfl
      exact skip { st with env:=(gt,.one (.b true))::st.env } (push3 _ hb) rfl hy rfl (gt_ _ hb _ rfl) h
     ·have hb:=fU hgv rfl
      exact go { st with env:=(gt,.one (.b false))::st.env } (push3 _ hb) rfl hy rfl (gt_ _ hb _ rfl) h
    ·cases h
theorem CC (hF:nG P cfg Fn) (hM:pj P cfg Fn) {rn:N6} (hrn:qS P rn) {id:Nat} {fr:Fr} {ops:Array Oper} {pairs:List (Nat×Nat)} {B:Base} {zsOf:Option Ex→List (Nat×Obj)} {yv:Value} {ro:Option Nat} {m:Nat} {R:Exit→Act→World→Prop} {st:iM} {k:iM→aq} {r:Nat×List Yr} {a:Act} {w:World}
  (hok:tD ops pairs=true) (hy:st.ys=[]) (h:Fw (dC P cfg Fn m0) cfg P fr rn id ops pairs ops.toList 0 [] st k=some r) (hs:d8 B zsOf fr yv st a w) (hR:∀ st' a' w',k st'=some r→d8 B zsOf fr yv st' a' w'→R .normal a' w') :
  wpAnyIn (FW ro) m P .any ops R ops.size (Array.replicate ops.size false) a { w with drawn:=w.drawn+1 }:=by
 obtain ⟨st',f1,f2,f3,f4⟩:=z7 hF hM hrn (log2:=[]) h ⟨rfl,fun j x y hx=>by simp at hx⟩ hy
 have hs0:wY B (zsOf st.pend) fr.nt fr.rng yv (bg (bD st.env)) (ai (av st.ob)) a w:=by
  have:Sim2 B (zsOf st.pend) fr.nt fr.rng yv (bg (bD st.env)) (ai (av st.ob)) st.ys a w:=hs
  rw [hy] at this;exact this
 refine wJ (Z3_ok hF (qq cfg fr.f) fr.nt ops) hok f4 trivial hs0 fun a' w' hs2=>?_
 refine hR st' a' w' f1 ?_
 show Sim2 B (zsOf st'.pend) fr.nt fr.rng yv (bg (bD st'.env)) (ai (av st'.ob)) st'.ys a' w'
 rw [f2,f3]
 exact hs2
end
section
variable {P:Program} {Fn:Nat→List D→aq} {FnD:D→List Sh→List D→aq} {m:Nat} {r:Nat×List Yr} {ob:Ur} {cfg:Cf3}
def InsC (P:Program) (f size elem bs:Nat):Prop :=
 (∀ (as:Array Value) (w:World),(callFunc f as).run P w=.ok (.enter f as) w) ∧
 ∀ (w:World) (a:Option Nat) (n c i:Nat) (us vs:List Value) (cur:Array Value) (vb m vc:Nat) (vcur:Array Value) (vt:Nat),
  0 < m→i≤n→n≤c→c≤maxLen→(n+m)*bs≤140737488355328→n+m≤maxLen →
  us.length=n*size→vs.length=m*size→(∀ v∈us,v.oneCell'=true)→(∀ v∈vs,v.oneCell'=true) →
  (a=none→n=0∧c=0) →
  (∀ b,a=some b→w.heap[b]?=some (.cells cur elem (0,0))∧cur.size=c*size∧(∀ (j:Nat) (u:Value),us[j]?=some u→cur[j]?=some u)∧vb≠b) →
  w.heap[vb]?=some (.cells vcur vt (0,0))→(∀ (j:Nat) (u:Value),vs[j]?=some u→vcur[j]?=some u) →
  Calls P f #[.slice (a.map fun b=>⟨b,0,none⟩) n c,.int .i64 i,.slice (some ⟨vb,0,none⟩) m vc] w fun e w' =>
   ∃ (b' c':Nat) (cur':Array Value),e=.returned (.slice (some ⟨b',0,none⟩) (n+m) c')∧w'.heap[b']?=some (.cells cur' elem (0,0))∧n+m≤c'∧c'≤maxLen∧cur'.size=c'*size ∧
    (∀ (j:Nat) (u:Value),(us.take (i*size)++vs++us.drop (i*size))[j]?=some u→cur'[j]?=some u)∧Turn w w' (fun x=>a=some x)∧(w.heap.size≤b'∨a=some b')
def rY (P:Program) (cfg:Cf3):Prop:=∀ f p,cfg.sp f=some p→InsC P f p.1 p.2.1 p.2.2
theorem jf {rows:List (List D)} {size:Nat} (h:∀ r∈rows,r.length=size) (i:Nat):(rows.take i).flatten=rows.flatten.take (i*size)∧(rows.drop i).flatten=rows.flatten.drop (i*size):=by
 by_cases hi:i≤rows.length
 ·have e1:rows.flatten=(rows.take i).flatten++(rows.drop i).flatten:=by rw [←Wp,Xb]
  have e2:(rows.take i).flatten.length=i*size:=by
   rw [cF (size:=size) (fun r hr=>h r (Wx hr)),Vo,Nat.min_eq_left hi]
  rw [e1]
  constructor
  ·rw [Vk (by omega),← e2,Vf]
  ·rw [←e2,List.drop_left]
 ·have hl:rows.length≤i:=by omega
  have:rows.flatten.length≤i*size:=by rw [cF h];exact W7 _ hl
  rw [Vc hl,Xm hl,Vc this,Xm this]
  exact ⟨rfl,rfl⟩
theorem we {w w':World} {U:Nat→Prop} {ι:Pl} {ob:Ob} (hm:Mem w U ι ob) {k:Nat} {a:Option Nat} {rows new:List (List D)} {size elem i b' c':Nat} {cur':Array Value} {us vs:List Value}
  (hk:(a=none∧ob k=none∧rows=[])∨(ob k=some (.arr rows size elem true)∧a=some (ι k).1))
  (hrl:∀ r∈rows,r.length=size) (hnl:∀ r∈new,r.length=size) (hus:FR w U rows.flatten us) (hvs:FR w U new.flatten vs) (hne:0 < new.length)
  (h1:w'.heap[b']?=some (.cells cur' elem (0,0))) (h2:rows.length+new.length≤c') (h3:c'≤maxLen) (h4:cur'.size=c'*size)
  (h5:∀ (j:Nat) (u:Value),(us.take (i*size)++vs++us.drop (i*size))[j]?=some u→cur'[j]?=some u) (h6:Turn w w' (fun x=>a=some x)) (h7:w.heap.size≤b'∨a=some b') :
  Mem w' U (gb ι k (b',c')) (cx ob k (.arr (rows.take i++new++rows.drop i) size elem true))∧Evo w U ι ob w' U (gb ι k (b',c')) (cx ob k (.arr (rows.take i++new++rows.drop i) size elem true)):=by
 have hlen:(rows.take i++new++rows.drop i).length=rows.length+new.length:=by
  simp only [Tp,Vo,Xh];omega
 have hfl:(rows.take i++new++rows.drop i).flatten=rows.flatten.take (i*size)++new.flatten++rows.flatten.drop (i*size):=by
  rw [Wp,Wp,(jf hrl i).1,(jf hrl i).2]
 have hnotU:∀ b,a=some b→¬ U b:=fun b hb=>by
  rcases hk with ⟨h,_⟩ | ⟨hk,h⟩
  ·rw [h] at hb;cases hb
  ·rw [h] at hb;cases hb;exact hm.notU hk rfl
 refine eY (w':=w') hm k _ (b',c') h6.os h6.tape h6.output h6.size (fun b hb hne'=>h6.same b hb fun e=>?_) (fun o ho=>?_) ?_ rfl (fun e'=>?_)
 ·rcases hk with ⟨h,_⟩ | ⟨hk,h⟩
  ·rw [h] at e;cases e
  ·rw [h] at e;cases e
   rcases hne' with h' | h'
   ·rw [hk] at h';cases h'
   ·exact h' rfl
 ·rcases hk with ⟨_,h,_⟩ | ⟨hk,h⟩
  ·rw [h] at ho;cases ho
  ·rw [hk] at ho;cases ho
   exact ⟨rfl,rfl,rfl,by rw [hlen];omega,fun e=>by rw [hlen] at e;omega⟩
 ·rcases h7 with h | h
  ·exact .inl h
  ·rcases hk with ⟨h',_⟩ | ⟨hk,h'⟩
   ·rw [h'] at h;cases h
   ·rw [h'] at h;cases h
    exact .inr ⟨by rw [hk];simp,rfl⟩
 ·refine ⟨cur',by rw [ap];exact h1,by rw [ap,hlen];exact h2,by rw [ap];exact h3,by rw [ap];exact h4,?_,?_⟩
  ·rw [ap,eu]
   refine ⟨?_,us.take (i*size)++vs++us.drop (i*size),?_,fun j u hj=>?_⟩
   ·intro r hr
    simp only [V6] at hr
    rcases hr with (hr | hr) | hr
    ·exact hrl r (Wx hr)
    ·exact hnl r hr
    ·exact hrl r (List.mem_of_mem_drop hr)
   ·rw [hfl]
    have hu':=FR.mono e'.kept e'.sub _ _ hus
    have hv':=FR.mono e'.kept e'.sub _ _ hvs
    exact ((hu'.take _).append hv').append (hu'.drop _)
   ·rw [bG h1,Tz];exact h5 j u hj
  ·rw [ap]
   simp only [T6]
   rcases h7 with h | h
   ·intro hU;exact absurd (hm.lt _ hU) (by omega)
   ·exact hnotU _ h
theorem CI (hS:rY P cfg) {f:Nat} {args:List cw} {b:Nat} {kk:cw→Ur→aq} (h:zf (af Fn FnD m) cfg f args b ob kk=some r) :
  (∀ (as:Array Value) (w:World),(callFunc f as).run P w=.ok (.enter f as) w) ∧
  ∀ (m:Nat) (w:World) (U:Nat→Prop) (ι:Pl) (as:Array Value),Mem w U ι (ai (av ob))→VF w U ι (ai (av ob)) (cL args) as.toList →
   CallsIn (FW none) m P f as w fun e w'=>∃ v vv ob' U' ι',e=.returned vv∧kk v ob'=some r∧Mem w' U' ι' (ai (av ob'))∧Evo w U ι (ai (av ob)) w' U' ι' (ai (av ob'))∧VR w' U' ι' (ai (av ob')) (eV v) vv:=by
 unfold zf at h
 split at h
 ·cases h
 rename_i size elem bs hsp
 obtain ⟨hcall,hins⟩:=hS f _ hsp
 refine ⟨hcall,?_⟩
 split at h
 case h_2=>cases h
 rename_i s iv key2 n2 c2
 split at h
 case h_2=>cases h
 rename_i y rows2 size2 elem2 hy hk2
 split at h
 case isFalse=>cases h
 rename_i hsz2
 subst hsz2
 obtain ⟨hc2,h⟩:=bI h
 rcases pU h with ⟨_,h⟩ | ⟨hnn,h⟩
 ·cases h
 have hseg:(af Fn FnD m).seg rows2 none n2=rows2.take n2:=rfl
 rw [hseg] at hnn h
 have hlenE:(af Fn FnD m).len (rows2.take n2)=(rows2.take n2).length:=rfl
 have hob2:ai (av ob) key2=some (.arr rows2 size2 elem2 true):=by rw [az,hk2];rfl
 intro m' w U ι as hm hv
 simp only [cL,VF] at hv
 obtain ⟨v0,l0,hl0,hs,v1,l1,rfl,h1,v2,l2,rfl,h2,rfl⟩:=hv
 have has:as=#[v0,v1,v2]:=by
  cases as with | mk l=>simp only at hl0;rw [hl0]
 subst has
 simp only [eV,VR] at h1 h2
 simp only [eL,Vu,LR] at h2
 obtain ⟨rows',size',elem',own',hob2',hle2,hval2,_⟩:=h2
 rw [hob2] at hob2'
 cases hob2'
 have hc2':c2=rows2.length:=hc2
 obtain ⟨hn2,rfl⟩:=hval2 hc2'
 obtain ⟨vcur,g1,g2,g3,g4,g5,g6⟩:=hm.obj key2 _ hob2
 rw [eu] at g5
 obtain ⟨hrl2,ws,hws,hwc⟩:=g5
 have hvs:FR w U (rows2.take n2).flatten (ws.take (n2*size2)):=by
  rw [(jf hrl2 n2).1];exact hws.take _
 have hnl:∀ r∈rows2.take n2,r.length=size2:=fun r hr=>hrl2 r (Wx hr)
 have hnlen:(rows2.take n2).length=n2:=by rw [Vo];omega
 have hm0:0 < n2:=by rw [←hnlen];exact List.length_pos_iff.2 hnn
 have hvl:(ws.take (n2*size2)).length=n2*size2:=by
  rw [hvs.len,cF hnl,hnlen]
 have hvc:∀ (j:Nat) (u:Value),(ws.take (n2*size2))[j]?=some u→vcur[j]?=some u:=fun j u hj=>by
  rw [Vs] at hj
  split at hj
  ·have:=hwc j u hj
   rw [bG g1,Tz] at this
   exact this
  ·cases hj
 have nilc:eV s=.one (.d (.lit (.slice none 0 0))) →
   ((af Fn FnD m).fits bs ((af Fn FnD m).len (rows2.take n2)) ((af Fn FnD m).ins y ((af Fn FnD m).rows []) (rows2.take n2) fun r =>
      fb (af Fn FnD m) ob (some (oe ob 8 b)) (.arr r size2 elem true) (fun key=>.one (.slk key none ((af Fn FnD m).len (rows2.take n2)) ((af Fn FnD m).len (rows2.take n2)))) fun v us _=>kk v (cR us ob)))=some r →
   CallsIn (FW none) m' P f #[v0,v1,.slice (some ⟨(ι key2).1,0*size2,none⟩) n2 ((ι key2).2 - 0)] w fun e w'=>∃ v vv ob' U' ι',e=.returned vv∧kk v ob'=some r∧Mem w' U' ι' (ai (av ob'))∧Evo w U ι (ai (av ob)) w' U' ι' (ai (av ob'))∧VR w' U' ι' (ai (av ob')) (eV v) vv:=by
  intro hse h
  obtain ⟨hf1,hf2,h⟩:=kY h
  obtain ⟨z,rfl,⟨hz1,hz2⟩,h⟩:=vB h
  have hz0:z.toNat=0:=by
   have:z.toNat≤([]:Rr).length:=hz2
   simpa using this
  rw [hse] at hs
  simp only [VR,LR,DR] at hs
  obtain ⟨rfl,_⟩:=hs
  rw [dc hy] at h1
  simp only [LR,DR] at h1
  obtain ⟨rfl,_⟩:=h1
  unfold fb at h
  split at h
  ·rename_i key hkey
   cases hkey
   split at h
   ·rename_i hfree
    have hfree':ai (av ob) (oe ob 8 b)=none:=by rw [az,hfree];rfl
    have hz:z=((0:Nat):Int):=by omega
    rw [hz]
    have hcalls:=hins w none 0 0 0 [] (ws.take (n2*size2)) #[] (ι key2).1 n2 ((ι key2).2 - 0) vcur elem2 hm0 (Tf _) (Tf _) (Y5 _) (by rw [hlenE,hnlen] at hf1;simpa using hf1) (by rw [hlenE,hnlen] at hf2;simpa using hf2) (by simp) hvl (by simp) hvs.one (fun _=>⟨rfl,rfl⟩) (fun b hb=>by cases hb) g1 hvc
    rw [Nat.zero_mul]
    refine CallsIn.mono (i9 hcalls) ?_
    rintro e w' ⟨b',c',cur',he,k1,k2,k3,k4,k5,k6,k7⟩
    obtain ⟨m1,m2⟩:=we (i:=0) (rows:=[]) hm (.inl ⟨rfl,hfree',rfl⟩) (by simp) hnl (us:=[]) (by simp [FR]) hvs (by rw [hnlen];exact hm0) k1 (by simp only [Td,hnlen];omega) k3 k4 k5 k6 k7
    refine ⟨_,_,_,U,gb ι (oe ob 8 b) (b',c'),he,h,?_,?_,?_⟩
    ·rw [gi,cV]
     simpa [av,bk,eO,af,hz0] using m1
    ·rw [gi,cV]
     simpa [av,bk,eO,af,hz0] using m2
    ·rw [gi,cV]
     simp only [eV,eL,Vu,VR,LR,hlenE,hnlen]
     refine ⟨rows2.take n2,size2,elem,true,by simp [av,bk,eO,af,hz0,cx],by rw [hnlen];exact Tf _,fun _=>⟨by omega,?_⟩,?_⟩
     ·rw [ap];simp
     ·exact ⟨some ⟨b',0,none⟩,c',by rw [Tz],by omega,k3⟩
   ·cases h
  ·cases h
 cases s with
 | one x =>
  cases x with
  | nil=>exact nilc rfl h
  | d x =>
   simp only at h
   obtain ⟨rfl,h⟩:=iP h
   exact nilc rfl h
  | slk key off n c =>
   cases off with
   | none =>
    have hq:=h
    simp only at hq
    split at hq
    ·cases hq
    rename_i hkk
    split at hq
    ·rename_i rows size' elem' hk1
     split at hq
     ·rename_i hse
      obtain ⟨rfl,rfl⟩:=hse
      obtain ⟨hc,hq⟩:=bI hq
      obtain ⟨hn,hq⟩:=bI hq
      obtain ⟨hf1,hf2,hq⟩:=kY hq
      obtain ⟨z,rfl,⟨hz1,hz2⟩,hq⟩:=vB hq
      have hc':c=rows.length:=hc
      have hn':n=rows.length:=hn
      have hadd:(af Fn FnD m).addN n ((af Fn FnD m).len (rows2.take n2))=rows.length+n2:=by
       show n+(rows2.take n2).length=_
       rw [hn',hnlen]
      rw [hadd] at hf1 hf2 hq
      have hob1:ai (av ob) key=some (.arr rows size' elem' true):=by rw [az,hk1];rfl
      simp only [eV,eL,Vu,VR,LR] at hs
      obtain ⟨rows',size'',elem'',own'',hob1',hle1,hval1,_⟩:=hs
      rw [hob1] at hob1'
      cases hob1'
      obtain ⟨hn1,rfl⟩:=hval1 hc'
      rw [dc hy] at h1
      simp only [LR,DR] at h1
      obtain ⟨rfl,_⟩:=h1
      obtain ⟨cur,q1,q2,q3,q4,q5,q6⟩:=hm.obj key _ hob1
      rw [eu] at q5
      obtain ⟨hrl,us,hus,huc⟩:=q5
      have hul:us.length=rows.length*size':=by rw [hus.len,cF hrl]
      have hvb:(ι key2).1≠(ι key).1:=hm.inj _ _ _ _ hob2 hob1 rfl rfl (fun e=>hkk e.symm)
      have hz:z=((z.toNat:Nat):Int):=by omega
      rw [hz,hn',Nat.zero_mul]
      have hcalls:=hins w (some (ι key).1) rows.length ((ι key).2 - 0) z.toNat us (ws.take (n2*size')) cur (ι key2).1 n2 ((ι key2).2 - 0) vcur elem2 hm0 hz2 (by simpa using q2) (by simpa using q3) hf1 hf2 hul hvl hus.one hvs.one (fun e=>by cases e)
       (fun b hb=>by
        cases hb
        refine ⟨q1,by simpa using q4,fun j u hj=>?_,hvb⟩
        have:=huc j u hj
        rw [bG q1,Tz] at this
        exact this) g1 hvc
      refine CallsIn.mono (i9 hcalls) ?_
      rintro e w' ⟨b',c',cur',he,k1,k2,k3,k4,k5,k6,k7⟩
      obtain ⟨m1,m2⟩:=we (i:=z.toNat) (rows:=rows) hm (.inr ⟨hob1,rfl⟩) hrl hnl hus hvs (by rw [hnlen];exact hm0) k1 (by rw [hnlen];exact k2) k3 k4 k5 k6 k7
      have hlen':(rows.take z.toNat++rows2.take n2++rows.drop z.toNat).length=rows.length+n2:=by
       simp only [Tp,Vo,Xh];omega
      refine ⟨_,_,_,U,gb ι key (b',c'),he,hq,?_,?_,?_⟩
      ·rw [gi,cV]
       simpa [av,bk,eO] using m1
      ·rw [gi,cV]
       simpa [av,bk,eO] using m2
      ·rw [gi,cV]
       simp only [eV,eL,Vu,VR,LR]
       refine ⟨rows.take z.toNat++rows2.take n2++rows.drop z.toNat,size',elem',true,by simp [av,bk,eO,cx],by rw [hlen'];exact Tf _,fun _=>⟨by omega,?_⟩,?_⟩
       ·rw [ap];simp
       ·exact ⟨_,c',rfl,k2,k3⟩
     ·cases hq
    ·cases hq
   | some o=>simp only at h;cases h
  | _=>simp only at h;cases h
 | _=>simp only at h;cases h
end
section
variable {P:Program} {Fn:Nat→List D→aq} {m0:Nat} {cfg:Cf3}
def iK (B:Base) (zsOf:Option Ex→List (Nat×Obj)) (fr:Fr) (yv:Value) (k:Ex→iM→aq) (r:Nat×List Yr) (e:Exit) (a:Act) (w:World):Prop:=∃ x st,e=yX x∧k x st=some r∧d8 B zsOf fr yv st a w
def Hp (P:Program) (cfg:Cf3) (Fn:Nat→List D→aq) (m0 n:Nat):Prop :=
 ∀ (r:Nat×List Yr) (fr:Fr) (hd:Option Hdr) (cur p:Nat) (c:Code) (st:iM) (k:Ex→iM→aq) (a:Act) (w:World) (B:Base) (zsOf:Option Ex→List (Nat×Obj)) (yv:Value) (ro:Option Nat) (m:Nat),
  cf (cfg.draw fr.f) c=true→(∀ k,B.ob k≠none→k∈fr.pr)→(fr.rng=true→ro=none)→HdOK3 P hd B zsOf yv→(hd.isSome=true→fr.rng=false∧ro=none) →
  ce (dC P cfg Fn m0) cfg P n fr hd cur p c st k=some r→d8 B zsOf fr yv st a w→c.wpIn (FW ro) m P (iK B zsOf fr yv k r) a w
theorem HdOK3.none' {B:Base} {zsOf:Option Ex→List (Nat×Obj)} {yv:Value}:HdOK3 P none B zsOf yv:=fun h hh=>by cases hh
theorem mL {ob:Ur} {env:List (Nat×cw)} {r:Nat×List Yr}:∀ {rs:List ResultVar} {k:List cw→aq},oK (dC P cfg Fn m0) P ob env rs k=some r→∃ vs,(nT P (bg (bD env)) rs).run (ai (av ob))=some (cL vs)∧k vs=some r
 | [],k,h=>⟨[],by simp [nT,Q.run,cL],h⟩
 | .tmp t::rs,k,h=>by
  simp only [oK] at h
  obtain ⟨vs,h1,h2⟩:=mL h
  exact ⟨_,by simp [nT,Q.run_bind,h1,Q.run,cL,f9],h2⟩
 | .cell a T::rs,k,h=>by
  simp only [oK] at h
  split at h
  ·rename_i g s hg hs
   obtain ⟨v,us,rd,h1,_,h⟩:=vZ h
   obtain ⟨vs,h2,h3⟩:=mL h
   rw [←f9] at h1
   exact ⟨_,by simp [nT,hg,hs,Q.opt,Q.bind,Q.run_bind,h1,h2,Q.run,cL],h3⟩
  ·cases h
theorem CJ {fn:Func} {R:Ending→World→Prop} {B:Base} {fr:Fr} {yv:Value} {ro:Option Nat} {m:Nat} {r:Nat×List Yr} {rs:List ResultVar} {G:Ex→iM→aq} {kk:List cw→iM→aq} (hres:fn.results.toList=rs)
  (hG:∀ x st,G x st=some r→∃ vs,(nT P (bg (bD st.env)) rs).run (ai (av st.ob))=some (cL vs)∧kk vs st=some r∧∀ id,x≠.exit id)
  (hR:∀ vs st us U ι w',kk vs st=some r→Mem w' U ι (ai (av st.ob))→Evo B.w B.U B.ι B.ob w' U ι (ai (av st.ob))→VF w' U ι (ai (av st.ob)) (cL vs) us→R (.returned (gP us)) w') :
  ∀ e a w,iK B (fun _=>[]) fr yv G r e a w→bodyPostM (FW ro) m P fn R e a w:=by
 rintro e a w ⟨x,st,rfl,hk,U,ι,ds,hm,he0,hz,hdf,hnd,hds,hrg,hsz,hv,hy⟩
 obtain ⟨vs,h1,h2,h3⟩:=hG x st hk
 have main:LeavesInM (FW ro) m P fn a.tmps R a.defers .returning w:=by
  rw [hdf]
  refine jy ds w hm he0 (fun p hp=>hz p (by simp [hp])) hnd hds fun w' g1 g2 g3=>?_
  obtain ⟨us,h4,h5⟩:=pp (P:=P) g1 (fun t=>VR.keep g3 _ _ (hv t)) h1
  exact ⟨gP us,lS (by rw [hres];exact h4),hR vs st us U ι w' h2 g1 g2 h5⟩
 cases x with
 | normal=>exact main
 | ret=>exact main
 | exit id=>exact absurd rfl (h3 id)
theorem pB (vs:List cw):(cL vs).length=vs.length:=by rw [db,Tj]
theorem ue:∀ (vs:List cw) (i:Nat),bD (jL vs i)=rX (cL vs) i
 | [],i=>rfl
 | v::vs,i=>by simp only [jL,bD,Tl,cL,rX];rw [←ue vs (i+1)];rfl
theorem DQ (vs:List cw):eV (em vs)=pZ (cL vs):=by
 match vs with
 | []=>rfl
 | [x]=>rfl
 | x::y::r=>simp [em,pZ,cL,eV]
theorem AD {n:Nat} (ih:Hp P cfg Fn m0 n) {f:Nat} {bd:Bd} {fn:Func} (hin:InlOK P (tcf cfg) f bd fn) {args:List cw} {b:Nat} {ob:Ur} {kk:cw→Ur→aq} {r:Nat×List Yr}
  (h:(if args.length≤bd.nt then ce (dC P cfg Fn m0) cfg P n ⟨f,b,bd.nt,true,dH ob,false⟩ none 0 1 bd.code ⟨jL args 0,ob,[],none⟩ (fun e st=>match e with
   | .exit _=>(dC P cfg Fn m0).fail
   | .normal=>iy (dC P cfg Fn m0) P bd ob kk st
   | .ret=>iy (dC P cfg Fn m0) P bd ob kk st) else (dC P cfg Fn m0).fail)=some r) :
  (∀ (as:Array Value) (w:World),(callFunc f as).run P w=.ok (.enter f as) w) ∧
  ∀ (m:Nat) (w:World) (U:Nat→Prop) (ι:Pl) (as:Array Value),Mem w U ι (ai (av ob))→VF w U ι (ai (av ob)) (cL args) as.toList →
   CallsIn (FW none) m P f as w fun e w'=>∃ v vv ob' U' ι',e=.returned vv∧kk v ob'=some r∧Mem w' U' ι' (ai (av ob'))∧Evo w U ι (ai (av ob)) w' U' ι' (ai (av ob'))∧VR w' U' ι' (ai (av ob')) (eV v) vv:=by
 split at h
 ·rename_i hlen
  refine ⟨hin.call,fun m w U ι as hm hv=>?_⟩
  refine callsIn_of_wp_marks hin.hfn hin.body trivial (wpIn_mono (ih r ⟨f,b,bd.nt,true,dH ob,false⟩ none 0 1 bd.code _ _ _ w ⟨w,U,ι,ai (av ob)⟩ (fun _=>[]) undef none m hin.draws (fun k hk=>d4 hk) (fun _=>rfl) HdOK3.none' (fun h=>by cases h) h ?_) ?_)
  ·show Sim2 ⟨w,U,ι,ai (av ob)⟩ [] bd.nt true undef (bg (bD (jL args 0))) (ai (av ob)) [] { tmps:=as++Array.replicate (fn.ntmps - as.size) undef,defers:=[] } w
   rw [hin.nt,ue]
   exact s3 hm hv (by rw [pB];exact hlen) (fun p hp=>by cases hp) [] (fun t ht=>by cases ht) (Evo.refl _ _ _ _)
  ·refine CJ (kk:=fun vs st=>match ub (dH ob) vs st.ob with | some ob'=>kk (em vs) ob' | none=>(dC P cfg Fn m0).fail) hin.res ?_ ?_
   ·intro x st hx
    have key:iy (dC P cfg Fn m0) P bd ob kk st=some r→(∀ id,x≠.exit id)→∃ vs,(nT P (bg (bD st.env)) bd.res).run (ai (av st.ob))=some (cL vs)∧(match ub (dH ob) vs st.ob with | some ob'=>kk (em vs) ob' | none=>(dC P cfg Fn m0).fail)=some r∧∀ id,x≠.exit id:=by
     intro hx hne
     unfold iy at hx
     obtain ⟨vs,h1,h2⟩:=mL hx
     exact ⟨vs,h1,by revert h2;cases ub (dH ob) vs st.ob<;>exact id,hne⟩
    cases x with
    | exit id=>cases hx
    | normal=>exact key hx (by simp)
    | ret=>exact key hx (by simp)
   ·intro vs st us U' ι' w' hk h1 h2 h3
    split at hk
    ·rename_i ob' hg
     obtain ⟨g1,g2,g3,g4⟩:=AJ (GU hg)
     exact ⟨em vs,gP us,ob',U',ι',rfl,hk,h1.sub g1 g4,Evo.subO (B:=⟨w,U,ι,ai (av ob)⟩) h2 g1 (fun k hk=>g2 k (d4 hk)),by rw [DQ];exact Ce (VF.keysO g3 h3)⟩
    ·cases hk
 ·cases h
theorem Du (hM:pj P cfg Fn) (hS:rY P cfg) (hI:∀ f bd,cfg.inl f=some bd→∃ fn,InlOK P (tcf cfg) f bd fn) {n:Nat} (ih:Hp P cfg Fn m0 n):qS P (A4 (dC P cfg Fn m0) cfg P (ce (dC P cfg Fn m0) cfg P n)):=by
 intro f args b ob kk r h
 unfold A4 at h
 split at h
 ·exact wP hM h
 split at h
 ·split at h
  ·exact wP hM h
  ·exact CI hS h
 ·rename_i bd hbd
  obtain ⟨fn,hin⟩:=hI f bd hbd
  exact AD ih hin h
theorem qo {B:Base} {w:World} {U:Nat→Prop} {ι:Pl} {ob:Ur} (e:Evo B.w B.U B.ι B.ob w U ι (ai (av ob))) {k:Nat} (h:B.ob k≠none):k∈dH ob:=by
 cases ho:B.ob k with
 | none=>exact absurd ho h
 | some o =>
  cases o with
  | box cells elem=>obtain ⟨_,h1,_⟩:=e.box k cells elem ho;exact d4 (by rw [h1];simp)
  | arr rows size elem own=>obtain ⟨_,_,h1,_⟩:=e.arr k rows size elem own ho;exact d4 (by rw [h1];simp)
  | mp agg keys vals own=>obtain ⟨_,_,_,h1,_⟩:=e.mp k agg keys vals own ho;exact d4 (by rw [h1];simp)
theorem zip_e (ps:List Nat) (vals:List cw) (env:List (Nat×cw)):bD ((ps.zip vals).reverse++env)=(ps.zip (cL vals)).reverse++bD env:=by
 simp only [bD,X0,List.map_reverse,db]
 congr 2
 induction ps generalizing vals with
 | nil=>rfl
 | cons p ps ih=>cases vals with
  | nil=>rfl
  | cons v vs=>simp [ih]
theorem Ca (hI:∀ f bd,cfg.inl f=some bd→∃ fn,InlOK P (tcf cfg) f bd fn) {n:Nat} (ih:Hp P cfg Fn m0 n) {r:Nat×List Yr} {fr:Fr} {hd:Option Hdr} {cur p:Nat} {g:Operand} {ps:Array Tmp} {assign body:Code} {st:iM} {k:Ex→iM→aq} {a:Act} {w:World} {B:Base} {zsOf:Option Ex→List (Nat×Obj)} {yv:Value} {ro:Option Nat} {m:Nat}
  (hdr:cf (cfg.draw fr.f) (.rangeFunc g ps assign body)=true) (_:∀ k,B.ob k≠none→k∈fr.pr) (hrg:fr.rng=true→ro=none)
  (h:ce (dC P cfg Fn m0) cfg P (n+1) fr hd cur p (.rangeFunc g ps assign body) st k=some r) (hs:d8 B zsOf fr yv st a w):(Code.rangeFunc g ps assign body).wpIn (FW ro) m P (iK B zsOf fr yv k r) a w:=by
 simp only [ce] at h
 split at h
 case isFalse=>cases h
 rename_i hrng
 split at h
 case h_2=>cases h
 rename_i hys
 have hro:=hrg hrng
 subst hro
 split at h
 ·cases h
 rename_i f caps hf3
 have hf:mf (ev (bg (bD st.env)) g)=some (f,cn caps):=by
  rw [←yY (Fn:=Fn) (FnD:=c6 P cfg Fn) (m:=m0)]
  unfold fn3 at hf3
  split at hf3
  ·split at hf3
   ·rename_i hρ hlt;cases hf3;rw [hρ];simp only [eV,eL,mf,T1 hlt]
   ·cases hf3
  ·cases hf3
 split at h
 ·cases h
 rename_i bd hbd
 split at h
 case isFalse=>cases h
 rename_i hc
 obtain ⟨hcap,hres,hps⟩:=hc
 obtain ⟨fn,hin⟩:=hI f bd hbd
 simp only [cf,Te] at hdr
 obtain ⟨U,ι,ds,hm,he0,hz,hdf,hnd,hds,_,hsz,hv,hy⟩:=hs
 obtain ⟨cs,hcv,hcl⟩:=pA (qG hv g) hf
 refine wpIn_rangeFunc ?_
 intro gfn _
 obtain ⟨rec,hrec⟩:∃ rec:LoopState→Option Code→Loop,rec=fun s pe=>{ state:=s,pending:=pe,fn:=gfn,tmps:=a.tmps,params:=ps,assign,body,defers:=w.heap.size }:=⟨_,rfl⟩
 let l:=w.heap.size+1
 obtain ⟨W1,hW1⟩:∃ W1,(w.alloc (.deferred (some []))).alloc (.loop (rec .ready none))=W1:=⟨_,rfl⟩
 have hsz1:W1.heap.size=w.heap.size+2:=by rw [←hW1];simp
 have hL1:W1.heap[l]?=some (.loop (rec .ready none)):=by
  rw [←hW1];have:=World.alloc_heap_new (w.alloc (.deferred (some []))) (.loop (rec .ready none));rwa [World.size_alloc] at this
 have hD1:W1.heap[w.heap.size]?=some (.deferred (some [])):=by
  rw [←hW1];exact (Below.heap_alloc _ _ _ (by simp)).trans (World.alloc_heap_new w _)
 have t1:Turn w W1 (fun _=>False):=by rw [←hW1];exact (Turn.alloc w _ _).trans (Turn.alloc _ _ _)
 have nX:∀ {U:Nat→Prop} {ι:Pl} {ob:Ob} b,(fun _:Nat=>False) b→Off U ι ob b:=fun b h=>h.elim
 have hoff:∀ z,w.heap.size≤z→Off U ι (ai (av st.ob)) z:=fun z hz=>⟨fun hU=>by have:=hm.lt z hU;omega,fun k o hk _ e=>by have:=hm.block hk;omega⟩
 let B':Base:=⟨w,U,ι,ai (av st.ob)⟩
 have he1:Evo B'.w B'.U B'.ι B'.ob W1 U ι (ai (av st.ob)):=t1.evo (B:=B') hm (fun b h=>h.elim) (Evo.refl _ _ _ _)
 have hm1:Mem W1 U ι (ai (av st.ob)):=t1.mem hm nX
 let recO:Option Ex→Obj:=fun p=>.loop (match p with | none=>rec .ready none | some x=>rec .done (some (ov x)))
 let zs':Option Ex→List (Nat×Obj):=fun p=>[(l,recO p),(w.heap.size,.deferred (some []))]
 have hzs1:Zs W1 U ι (ai (av st.ob)) (zs' none):=by
  intro p hp
  simp only [zs',Ti,W9,Y2] at hp
  rcases hp with rfl | rfl
  ·exact ⟨hL1,hoff _ (by simp only [l];omega)⟩
  ·exact ⟨hD1,hoff _ (Tf _)⟩
 refine ⟨l,[{ target:=.collected w.heap.size,args:=#[] }],W1,{ target:=.fn (.func f) cs,args:=#[.func (.yield l) #[] #[]] },W1,f,#[.func (.yield l) #[] #[]]++cs,W1,?_,?_,fun f' _=>trivial,?_,fun hc=>(by cases hc),?_⟩
 ·rw [←hW1,hrec];exact run_enterLoop_outer _ _ _ _ _
 ·simp only [resolve,hcv]
  simp [go_sem]
 ·simp [invoke,hin.call]
 have hcapV:VF W1 U ι (ai (av st.ob)) (cL (.one .undef::caps.map .one)) ((#[.func (.yield l) #[] #[]]++cs:Array Value)).toList:=by
  rw [X4]
  show VF W1 U ι (ai (av st.ob)) (.one .undef::cL (caps.map .one)) (.func (.yield l) #[] #[]::cs.toList)
  simp only [VF]
  refine ⟨_,_,rfl,by simp [VR,LR],?_⟩
  have:=VF.keep (t1.keep hm nX) _ _ (Bb hcl)
  rwa [show (cn caps).map V.one=cL (caps.map .one) by simp [bN,db,eV,W0]] at this
 refine callsIn_of_wp hin.hfn hin.body trivial (wpIn_mono (ih r ⟨f,(fr.b+1)*1000,bd.nt,false,dH st.ob,false⟩ (some _) 0 1 bd.code _ _ _ W1 B' zs' (.func (.yield l) #[] #[]) none (m - 1) hin.draws (fun k hk=>d4 hk) (fun h=>by cases h) ?_ (fun _=>⟨rfl,rfl⟩) h ?_) ?_)
 ·
  intro hh hhh
  cases hhh
  refine ⟨l,rfl,fun vals ob kk r' hk m' Wy Uy ιy as hmy hey hzy hvy=>?_⟩
  unfold JW at hk
  split at hk
  case isFalse=>cases hk
  rename_i hvl
  obtain ⟨hly,hloff⟩:=hzy (l,recO none) (by simp [zs'])
  obtain ⟨hDy,hDoff⟩:=hzy (w.heap.size,.deferred (some [])) (by simp [zs'])
  have hly':Wy.heap[l]?=some (.loop (rec .ready none)):=hly
  have hasz:as.size=ps.size:=by have:=hvy.len;rw [pB] at this;simp only [Wo] at this;omega
  have hyr:=run_yield (P:=P) (args:=as) hly' (by rw [hrec];exact hasz)
  rw [hrec] at hyr
  refine ⟨gfn,_,assign,body,hyr,roundIn_of_wpIn trivial ?_⟩
  let B2:Base:=⟨Wy,Uy,ιy,ai (av ob)⟩
  have hpsz:∀ p∈ps.toList,p < a.tmps.size:=fun p hp=>by rw [hsz];simpa using V4.1 hps p hp
  have hfold:((ps.zip as).foldl (fun tmps (t,a)=>tmps.setIfInBounds t a) a.tmps)=((ps.toList.zip as.toList).foldl (fun t (p,v)=>t.setIfInBounds p v) a.tmps):=by
   rw [←Array.foldl_toList,Array.toList_zip]
  refine wpIn_mono (F:=FW (some l)) (ih r' ⟨fr.f,fr.b,fr.nt,false,dH ob,false⟩ none cur (2*p) assign _ _ _ Wy B2 (fun _=>[]) undef (some l) m' hdr.1 (fun k hk=>d4 hk) (fun h=>by cases h) HdOK3.none' (fun h=>by cases h) hk ?_) ?_
  ·refine ⟨Uy,ιy,[],hmy,Evo.refl _ _ _ _,fun p hp=>(by simp [z5] at hp),rfl,by simp,by simp,fun _=>rfl,?_,?_,fun t ht=>by cases ht⟩
   ·rw [hfold,vO];exact hsz
   ·intro t
    rw [hfold]
    show VR Wy Uy ιy (ai (av ob)) (bg (bD ((ps.toList.zip vals).reverse++st.env)) t) _
    rw [zip_e]
    exact DO hvy hpsz (fun t=>VR.keep hey.keep _ _ (hv t)) t
  ·rintro e1 a1 w1 ⟨x1,st1,rfl,hk1,U1,ι1,ds1,hm1',he1',_,hdf1,_,_,hrg1,hsz1',hv1,hy1⟩
   cases x1 with
   | exit id=>cases hk1
   | ret=>cases hk1
   | normal =>
    simp only at hk1
    have hlt:l < Wy.heap.size:=cU hly'
    have hoff1:Off U1 ι1 (ai (av st1.ob)) l:=hloff.evo hlt he1'
    have hl1:w1.heap[l]?=some (.loop (rec .ready none)):=(he1'.same l hlt fun k o hk ho=>hloff.2 k o hk ho).trans hly'
    refine ⟨_,run_beginRound hl1 (by rw [hrec]),?_⟩
    have t2:=Turn.put w1 l (.loop { rec .ready none with state:=.busy })
    have hX2:∀ b,b=l→Off U1 ι1 (ai (av st1.ob)) b:=fun b e=>e ▸ hoff1
    have hm2:=t2.mem hm1' hX2
    have hk2:=t2.keep hm1' hX2
    let B3:Base:=⟨w1.putObj l (.loop { rec .ready none with state:=.busy }),U1,ι1,ai (av st1.ob)⟩
    have hds1:ds1=[]:=hrg1 rfl
    subst hds1
    have hevY2:Evo B'.w B'.U B'.ι B'.ob (w1.putObj l (.loop { rec .ready none with state:=.busy })) U1 ι1 (ai (av st1.ob)) :=
     t2.evo (B:=B') hm1' (fun b e=>⟨hX2 b e,by subst e;show w.heap.size≤l;simp only [l];omega⟩) (hey.trans he1')
    have hl2:(w1.putObj l (.loop { rec .ready none with state:=.busy })).heap[l]?=some (.loop { rec .ready none with state:=.busy }):=World.putObj_heap_same (cU hl1)
    refine wpIn_mono (F:=FW (some l)) (ih r' ⟨fr.f,fr.b,fr.nt,false,dH st1.ob,false⟩ none cur (2*p+1) body st1 _ a1 _ B3 (fun _=>[]) undef (some l) m' hdr.2 (fun k hk=>d4 hk) (fun h=>by cases h) HdOK3.none' (fun h=>by cases h) hk1 ?_) ?_
    ·exact ⟨U1,ι1,[],hm2,Evo.refl _ _ _ _,fun p hp=>(by simp [z5] at hp),hdf1,by simp,by simp,fun _=>rfl,hsz1',fun t=>VR.keep hk2 _ _ (hv1 t),hy1⟩
    ·rintro e3 a3 w3 ⟨x3,st3,rfl,hk3,U3,ι3,ds3,hm3,he3,_,hdf3,_,_,hrg3,hsz3,hv3,_⟩
     unfold bdy3 at hk3
     split at hk3
     case h_2=>cases hk3
     rename_i ob' hg
     obtain ⟨g1,g2,g3,g4⟩:=AJ (GU hg)
     have hoff3:Off U3 ι3 (ai (av st3.ob)) l:=hoff1.evo (by have:=cU hl2;exact this) he3
     have hl3:w3.heap[l]?=some (.loop { rec .ready none with state:=.busy }):=(he3.same l (cU hl2) fun k o hk ho=>hoff1.2 k o hk ho).trans hl2
     have hDlt:w.heap.size < Wy.heap.size:=cU hDy
     have hDoff1:Off U1 ι1 (ai (av st1.ob)) w.heap.size:=hDoff.evo hDlt he1'
     have hDoff3:Off U3 ι3 (ai (av st3.ob)) w.heap.size:=hDoff1.evo (by show _ < (w1.putObj l _).heap.size;simp;exact Wh hDlt he1'.size) he3
     have hD1':w1.heap[w.heap.size]?=some (.deferred (some [])):=(he1'.same _ hDlt fun k o hk ho=>hDoff.2 k o hk ho).trans hDy
     have hD2':(w1.putObj l (.loop { rec .ready none with state:=.busy })).heap[w.heap.size]?=some (.deferred (some [])):=(World.putObj_heap_other (by simp only [l];omega)).trans hD1'
     have hD3:w3.heap[w.heap.size]?=some (.deferred (some [])):=(he3.same _ (cU hD2') fun k o hk ho=>hDoff1.2 k o hk ho).trans hD2'
     have ni:∀ (p:Option Ex) (jump:Option Code),jump=p.map ov→kk p ob'=some r'→∃ v w',(Instr.endRound l jump).run P w3=.ok v w' ∧
       ∃ p ob' U' ι',Ending.returned v=.returned (.bool p.isNone)∧kk p ob'=some r'∧Mem w' U' ι' (ai (av ob'))∧Keep Wy Uy ιy (ai (av ob)) w' U' ι' (ai (av ob'))∧Evo B'.w B'.U B'.ι B'.ob w' U' ι' (ai (av ob'))∧Zs w' U' ι' (ai (av ob')) (zs' p):=by
      intro p jump hj hkk
      subst hj
      have t4:=Turn.put w3 l (.loop { { rec .ready none with state:=.busy } with state:=if (p.map ov).isNone then .ready else .done,pending:=p.map ov })
      have hX4:∀ b,b=l→Off U3 ι3 (ai (av st3.ob)) b:=fun b e=>e ▸ hoff3
      have hm4:=t4.mem hm3 hX4
      have hk4:=t4.keep hm3 hX4
      have he4:Evo B'.w B'.U B'.ι B'.ob _ U3 ι3 (ai (av st3.ob)):=t4.evo (B:=B') hm3 (fun b e=>⟨hX4 b e,by subst e;show w.heap.size≤l;simp only [l];omega⟩) (hevY2.trans he3)
      have hkk4:Keep Wy Uy ιy (ai (av ob)) _ U3 ι3 (ai (av st3.ob)):=((he1'.keep.trans hk2).trans he3.keep).trans hk4
      refine ⟨_,_,run_endRound (P:=P) (p.map ov) hl3,p,ob',U3,ι3,by cases p<;>rfl,hkk,hm4.sub g1 g4,hkk4.subO (fun k hk=>g2 k (d4 hk)),he4.subO g1 (fun k hk=>g2 k (qo hey hk)),?_⟩
      refine Zs.sub (ob:=ai (av st3.ob)) ?_ g1
      intro q hq
      simp only [zs',Ti,W9,Y2] at hq
      rcases hq with rfl | rfl
      ·refine ⟨?_,hoff3⟩
       rw [World.putObj_heap_same (cU hl3)]
       simp only [recO,hrec]
       cases p<;>rfl
      ·exact ⟨(World.putObj_heap_other (by simp only [l];omega)).trans hD3,hDoff3⟩
     cases x3 with
     | normal=>exact ni none none rfl hk3
     | ret=>exact ni (some .ret) (some .ret) rfl hk3
     | exit id=>exact ni (some (.exit id)) (some (.exit id)) rfl hk3
 ·
  show Sim2 B' (zs' none) bd.nt false (.func (.yield l) #[] #[]) (bg (bD (jL (.one .undef::caps.map .one) 0))) (ai (av st.ob)) [0] { tmps:=(#[Value.func (.yield l) #[] #[]]++cs)++Array.replicate (fn.ntmps - (#[Value.func (.yield l) #[] #[]]++cs).size) undef,defers:=[] } W1
  rw [hin.nt,ue]
  refine s3 hm1 hcapV (by rw [pB];simpa using hcap) hzs1 [0] (fun t ht=>?_) he1
  simp only [Ti,W9,Y2] at ht
  subst ht
  simp
 ·
  rintro e2 a2 w2 ⟨x2,st2,rfl,hk2,U2,ι2,ds2,hm2,he2,hz2,hdf2,_,_,hrg2,_,_,_⟩
  have hds2:ds2=[]:=hrg2 rfl
  subst hds2
  have hres0:(results fn a2.tmps).run P w2=.ok (gP []) w2:=lS (by rw [hin.res,hres];simp)
  have main:tY (dC P cfg Fn m0) st k st2=some r→a2.defers=[]∧∃ v,(results fn a2.tmps).run P w2=.ok v w2∧rangePost (FW none) m P l (iK B zsOf fr yv k r) { a with defers:=[{ target:=.collected w.heap.size,args:=#[] }]++a.defers } (.returned v) w2:=by
   intro hk2
   unfold tY at hk2
   split at hk2
   case h_2=>cases hk2
   rename_i ob' hg
   refine ⟨hdf2,_,hres0,?_⟩
   obtain ⟨g1,g2,g3,g4⟩:=AJ (GU hg)
   obtain ⟨hl2,hloff2⟩:=hz2 (l,recO st2.pend) (by simp [zs',z5,eS])
   obtain ⟨hD2,hDoff2⟩:=hz2 (w.heap.size,.deferred (some [])) (by simp [zs',z5])
   have hl2':∃ rc,w2.heap[l]?=some (.loop rc)∧rc.state≠.busy∧rc.pending=st2.pend.map ov:=by
    cases hp:st2.pend with
    | none=>rw [hp] at hl2;exact ⟨_,hl2,by rw [hrec];simp,by rw [hrec];rfl⟩
    | some x=>rw [hp] at hl2;exact ⟨_,hl2,by rw [hrec];simp,by rw [hrec];rfl⟩
   obtain ⟨rc,hl2',hbusy,hpend⟩:=hl2'
   have t5:=Turn.put w2 l (.loop { rc with state:=.exhausted })
   have hX5:∀ b,b=l→Off U2 ι2 (ai (av st2.ob)) b:=fun b e=>e ▸ hloff2
   have hm5:=t5.mem hm2 hX5
   have hk5:=t5.keep hm2 hX5
   have hoffD:∀ D∈ds,D < w.heap.size:=fun D hD=>cU (hz (D,.deferred (some [])) (by simp only [z5,V6,V8];exact .inl ⟨D,hD,rfl⟩)).1
   have done:∀ x,k x ⟨st.env,ob',[],st.pend⟩=some r→iK B zsOf fr yv k r (yX x) { a with defers:=[{ target:=.collected w.heap.size,args:=#[] }]++a.defers } (w2.putObj l (.loop { rc with state:=.exhausted })):=by
    intro x hx
    refine ⟨x,_,rfl,hx,U2,ι2,w.heap.size::ds,hm5.sub g1 g4,?_,?_,by rw [hdf];rfl,?_,?_,?_,hsz,?_,fun t ht=>by cases ht⟩
    ·refine Evo.subO (ob:=ai (av st2.ob)) ?_ g1 (fun k hk=>g2 k (qo he0 hk))
     exact t5.evo hm2 (fun b e=>⟨hX5 b e,by subst e;have:=he0.size;simp only [l];omega⟩) (he0.trans he2)
    ·refine Zs.sub (ob:=ai (av st2.ob)) ?_ g1
     refine t5.zs ?_ ?_
     ·intro p hp
      simp only [z5,Tl,Tr,Ti] at hp
      rcases hp with rfl | hp
      ·exact ⟨hD2,hDoff2⟩
      ·exact (hz.evo he2) p hp
     ·intro p hp e
      simp only [z5,Tl,Tr,Ti] at hp
      rcases hp with rfl | hp
      ·simp only [l] at e;omega
      ·have:=cU (hz p hp).1
       simp only [l] at e;omega
    ·rw [Wf];exact ⟨fun h=>by have:=hoffD _ h;omega,hnd⟩
    ·intro D hD
     rcases Ti.1 hD with rfl | hD
     ·exact he0.size
     ·exact hds D hD
    ·intro hh;rw [hrng] at hh;cases hh
    ·intro t
     refine VR.keep (Keep.subO (ob':=ai (av st2.ob)) (he2.keep.trans hk5) fun k hk=>g2 k (d4 hk)) _ _ (hv t)
   obtain ⟨jp,hjp⟩:∃ jp,jp=rc.pending:=⟨_,rfl⟩
   refine ⟨jp,_,by rw [hjp];exact run_endLoop hl2' hbusy,?_⟩
   rw [hpend] at hjp
   cases hp:st2.pend with
   | none =>
    rw [hp] at hk2 hjp
    simp only [Wr] at hjp
    rw [hjp]
    exact done .normal hk2
   | some x =>
    rw [hp] at hk2 hjp
    simp only [Th] at hjp
    rw [hjp]
    have:=done x hk2
    cases x with
    | normal=>exact wpIn_skip this
    | ret=>exact wpIn_ret this
    | exit id=>exact wpIn_exit this
  cases x2 with
  | exit id=>cases hk2
  | normal=>exact main hk2
  | ret=>exact main hk2
end
end Go.VE
