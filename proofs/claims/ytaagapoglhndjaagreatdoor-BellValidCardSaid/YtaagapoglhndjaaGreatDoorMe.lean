/- Calls over abstract data. -/
import Derived.Test.YtaagapoglhndjaaGreatDoorMd
import Derived.Test.YtaagapoglhndjaaGreatDoorMc
namespace Go.VE
open Go.RowKit
section
variable {P:Program} {Fn:Nat→List D→az} {FnD:D→List Sh→List D→az} {m:Nat} {r:Nat×List Yr} {ob:Ur}
def fp:List Sh→List D→Option (List VD)
 | [],[]=>some []
 | .one::r,x::xs=>(fp r xs).map (.one x::·)
 | .agg n::r,xs=>if (xs.take n).length=n then (fp r (xs.drop n)).map (.agg (xs.take n)::·) else none
 | .ptr n::r,xs=>if (xs.take n).length=n then (fp r (xs.drop n)).map (.one (.dp (xs.take n) 0)::·) else none
 | _,_=>none
def de:List Sh→List VD→Option (List D)
 | [],[]=>some []
 | .one::r,.one x::vs=>(de r vs).map (x::·)
 | .agg n::r,.agg xs::vs=>if xs.length=n then (de r vs).map (xs++·) else none
 | .ptr n::r,.one (.dp xs o)::vs=>if xs.length=n∧o=0 then (de r vs).map (xs++·) else none
 | _,_=>none
theorem kx:∀ {sh:List Sh} {vs:List VD} {xs:List D},de sh vs=some xs→fp sh xs=some vs
 | [],[],xs,h=>by simp only [de,Jr] at h;subst h;rfl
 | [],_::_,xs,h=>by simp [de] at h
 | .one::r,[],xs,h=>by simp [de] at h
 | .agg n::r,[],xs,h=>by simp [de] at h
 | .ptr n::r,[],xs,h=>by simp [de] at h
 | .one::r,.one x::vs,xs,h=>by
  simp only [de,K6] at h
  obtain ⟨ys,h1,rfl⟩:=h
  simp [fp,kx h1]
 | .one::r,.agg x::vs,xs,h=>by simp [de] at h
 | .agg n::r,.one x::vs,xs,h=>by simp [de] at h
 | .agg n::r,.agg ys::vs,xs,h=>by
  simp only [de] at h
  split at h
  ·rename_i hn
   simp only [K6] at h
   obtain ⟨zs,h1,rfl⟩:=h
   subst hn
   simp [fp,kx h1]
  ·cases h
 | .ptr n::r,.agg ys::vs,xs,h=>by simp [de] at h
 | .ptr n::r,.one x::vs,xs,h=>by
  cases x with
  | dp row o =>
   simp only [de] at h
   split at h
   ·rename_i hn
    simp only [K6] at h
    obtain ⟨zs,h1,rfl⟩:=h
    obtain ⟨hn1,hn2⟩:=hn
    subst hn1 hn2
    simp [fp,kx h1]
   ·cases h
  | _=>simp [de] at h
theorem oB {α β:Type} {f:α→Q β} {o:Ob}:∀ {xs ys:List α} {zs:List β},(Q.mapM f (xs++ys)).run o=some zs→∃ as bs,(Q.mapM f xs).run o=some as∧(Q.mapM f ys).run o=some bs∧zs=as++bs∧(Q.mapM f (xs++ys)).reads o=(Q.mapM f xs).reads o++(Q.mapM f ys).reads o
 | [],ys,zs,h=>⟨[],zs,by simp [Q.mapM,Q.run],h,rfl,by simp [Q.mapM,Q.reads]⟩
 | x::xs,ys,zs,h=>by
  simp only [K2,Q.mapM,Q.run_bind] at h
  cases hx:(f x).run o with
  | none=>rw [hx] at h;simp at h
  | some a =>
   rw [hx] at h
   simp only [Ke] at h
   cases hr:(Q.mapM f (xs++ys)).run o with
   | none=>rw [hr] at h;simp at h
   | some rs =>
    rw [hr] at h
    simp only [Ke,Q.run,Jr] at h
    obtain ⟨as,bs,h1,h2,h3,h4⟩:=oB hr
    refine ⟨a::as,bs,?_,h2,?_,?_⟩
    ·simp [Q.mapM,Q.run_bind,hx,h1,Q.run]
    ·rw [←h,h3];rfl
    ·simp only [K2,Q.mapM,Q.reads_bind,hx,hr,h1,Q.reads,h4,Kj,Kh]
theorem sj {o:Ob}:∀ {cs:List L} {zs:List VD},(Q.mapM cJ (cs.map .one)).run o=some zs→∃ ds,(Q.mapM (ci 4) cs).run o=some ds∧zs=ds.map .one∧(Q.mapM cJ (cs.map .one)).reads o=(Q.mapM (ci 4) cs).reads o
 | [],zs,h=>by simp only [Kb,Q.mapM,Q.run,Jr] at h;subst h;exact ⟨[],by simp [Q.mapM,Q.run],rfl,by simp [Q.mapM,Q.reads]⟩
 | c::cs,zs,h=>by
  simp only [K0,Q.mapM,cJ,Q.run_bind] at h
  cases hx:(ci 4 c).run o with
  | none=>rw [hx] at h;simp at h
  | some a =>
   rw [hx] at h
   simp only [Ke,Q.run] at h
   cases hr:(Q.mapM cJ (cs.map .one)).run o with
   | none=>rw [hr] at h;simp at h
   | some rs =>
    rw [hr] at h
    simp only [Ke,Jr] at h
    obtain ⟨ds,h1,h2,h3⟩:=sj hr
    refine ⟨a::ds,?_,?_,?_⟩
    ·simp [Q.mapM,Q.run_bind,hx,h1,Q.run]
    ·rw [←h,h2];rfl
    ·simp only [K0,Q.mapM,cJ,Q.reads_bind,Q.run_bind,hx,hr,h1,Q.reads,Q.run,h3,Kj,Ke]
theorem vZ:∀ {sh:List Sh} {vs:List cv} {k:List D→List Nat→az},iA (aa Fn FnD m) ob sh vs k=some r →
  ∃ xs rd vds,(Q.mapM cJ (cI vs)).run (ai (aD ob))=some vds∧(∀ q∈(Q.mapM cJ (cI vs)).reads (ai (aD ob)),q∈rd)∧de sh vds=some xs∧k xs rd=some r:=by
 intro sh
 have more:∀ {v:cv} {vs:List cv} {vd:VD} {vds:List VD} {rd rd':List Nat},(cJ (eV v)).run (ai (aD ob))=some vd→(∀ q∈(cJ (eV v)).reads (ai (aD ob)),q∈rd) →
   (Q.mapM cJ (cI vs)).run (ai (aD ob))=some vds→(∀ q∈(Q.mapM cJ (cI vs)).reads (ai (aD ob)),q∈rd') →
   (Q.mapM cJ (cI (v::vs))).run (ai (aD ob))=some (vd::vds)∧(∀ q∈(Q.mapM cJ (cI (v::vs))).reads (ai (aD ob)),q∈rd++rd'):=by
  intro v vs vd vds rd rd' h1 h2 h3 h4
  refine ⟨by simp [cI,Q.mapM,Q.run_bind,h1,h3,Q.run],fun q hq=>?_⟩
  simp only [cI,Q.mapM,Q.reads_bind,h1,h3,Q.reads,Kj,Kp] at hq
  rcases hq with hq | hq
  ·exact Mc _ (h2 q hq)
  ·exact Ma _ (h4 q hq)
 induction sh with
 | nil =>
  intro vs k h
  cases vs with
  | nil=>exact ⟨[],[],[],by simp [cI,Q.mapM,Q.run],by simp [cI,Q.mapM,Q.reads],rfl,h⟩
  | cons v vs=>cases h
 | cons s sh ih =>
  intro vs k h
  cases vs with
  | nil=>cases s<;>cases h
  | cons v vs =>
   cases s with
   | met nm n=>cases v<;>cases h
   | one =>
    cases v with
    | one x =>
     simp only [iA] at h
     obtain ⟨d,rd,h1,h2,h⟩:=mv _ _ _ h
     obtain ⟨xs,rd',vds,h3,h4,h5,h⟩:=ih h
     have:=more (v:=.one x) (vd:=.one d) (by simp [eV,cJ,Q.run_bind,h1,Q.run]) (rd:=rd) (fun q hq=>h2 q (by simpa [eV,cJ,Q.reads_bind,h1,Q.reads] using hq)) h3 h4
     exact ⟨_,_,_,this.1,this.2,by simp [de,h5],h⟩
    | agg xs=>cases h
    | tup xs=>cases h
   | agg n =>
    cases v with
    | one x=>cases h
    | agg ls =>
     simp only [iA] at h
     split at h
     ·rename_i hn
      obtain ⟨ds,rd,h1,h2,hl,h⟩:=j8 (f:=ci 4) (fun x k=>mv 4 x k) h
      obtain ⟨xs,rd',vds,h3,h4,h5,h⟩:=ih h
      have:=more (v:=.agg ls) (vd:=.agg ds) (by simp [eV,cJ,Q.run_bind,h1,Q.run]) (rd:=rd) (fun q hq=>h2 q (by simpa [eV,cJ,Q.reads_bind,h1,Q.reads] using hq)) h3 h4
      exact ⟨_,_,_,this.1,this.2,by simp [de,h5,hl,hn],h⟩
     ·cases h
    | tup xs=>cases h
   | ptr n =>
    cases v with
    | agg xs=>cases h
    | tup xs=>cases h
    | one x =>
     cases x with
     | dp row o =>
      simp only [iA] at h
      split at h
      ·rename_i hn
       obtain ⟨xs,rd',vds,h3,h4,h5,h⟩:=ih h
       have:=more (v:=.one (.dp row o)) (vd:=.one (.dp row o)) (rd:=[]) (by simp [eV,eL,cJ,ci,Q.run_bind,Q.run]) (fun q hq=>by simp [eV,eL,cJ,ci,Q.reads_bind,Q.reads,Q.run] at hq) h3 h4
       exact ⟨row++xs,rd',_,this.1,by simpa using this.2,by simp [de,h5,hn],h⟩
      ·cases h
     | d x =>
      simp only [iA] at h
      obtain ⟨row,rfl,hn,h⟩:=s3 h
      rw [cX hn] at h
      obtain ⟨xs,rd',vds,h3,h4,h5,h⟩:=ih h
      have:=more (v:=.one (.d (.dp row 0))) (vd:=.one (.dp row 0)) (rd:=[]) (by simp [eV,eL,cJ,ci,Q.run_bind,Q.run]) (fun q hq=>by simp [eV,eL,cJ,ci,Q.reads_bind,Q.reads,Q.run] at hq) h3 h4
      exact ⟨row++xs,rd',_,this.1,by simpa using this.2,by simp [de,h5,hn],h⟩
     | ptr key o =>
      simp only [iA] at h
      split at h
      ·rename_i cells elem hk
       split at h
       ·rename_i hn
        obtain ⟨ds,rd,h1,h2,hl,h⟩:=j8 (f:=ci 3) (fun x k=>mv 3 x k) h
        obtain ⟨xs,rd',vds,h3,h4,h5,h⟩:=ih h
        have:=more (v:=.one (.ptr key o)) (vd:=.one (.dp ds o)) (rd:=key::rd) (by simp [eV,eL,cJ,ci,Q.run_bind,Q.run,aq,hk,eO,h1]) (fun q hq=>by
         simp only [eV,eL,cJ,ci,Q.reads_bind,Q.reads,Q.run,Q.run_bind,aq,hk,Ke,eO,p6,h1,Kj,Ke,Ki] at hq
         rcases hq with rfl | hq
         ·simp
         ·exact Kz _ (h2 q hq)) h3 h4
        exact ⟨_,_,_,this.1,this.2,by simp [de,h5,hl,hn],h⟩
       ·cases h
      ·cases h
     | pa key i o c =>
      simp only [iA] at h
      split at h
      ·rename_i rows size elem own hk
       split at h
       ·rename_i hn
        obtain ⟨hn1,hn2⟩:=hn
        subst hn1 hn2
        obtain ⟨hc,h⟩:=b6 h
        have hc':c=rows.length:=hc
        obtain ⟨w,h1,h2,h⟩:=di h
        obtain ⟨xs,rd',vds,h3,h4,h5,h⟩:=ih h
        rw [cX h2] at h
        have:=more (v:=.one (.pa key i 0 c)) (vd:=.one (.dp w 0)) (rd:=[key]) (by simp [eV,eL,cJ,ci,Q.run,aq,hk,eO,h1,hc',Q.guard,Q.opt,Q.bind]) (fun q hq=>by
         simpa [eV,eL,cJ,ci,Q.reads_bind,Q.reads,Q.run,Q.run_bind,aq,hk,eO,h1,hc',Q.guard,Q.opt,Q.bind] using hq) h3 h4
        exact ⟨_,_,_,this.1,by simpa using this.2,by simp [de,h5,h2],h⟩
       ·cases h
      ·cases h
     | _=>cases h
def uK (e:List Yr):RK→Nat→RC
 | .d,j=>.d ((aa (fun _ _=>none) (fun _ _ _=>none) 0).ld e j)
 | .own size elem,j=>.own ((aa (fun _ _=>none) (fun _ _ _=>none) 0).lr e j) size elem
 | .om agg,j=>.om agg ((aa (fun _ _=>none) (fun _ _ _=>none) 0).lm e j).1 ((aa (fun _ _=>none) (fun _ _ _=>none) 0).lm e j).2
def em (e:List Yr):List RK→Nat→List RC
 | [],_=>[]
 | x::xs,j=>uK e x j::em e xs (j+1)
def sY (e:List Yr) (g:Bool) (cs:List RK) (j:Nat):RV:=match g,em e cs j with
 | false,[x]=>.one x
 | _,xs=>.agg xs
def dz (e:List Yr):RS→Nat→List RV
 | [],_=>[]
 | (g,cs)::r,j=>sY e g cs j::dz e r (j+cs.length)
theorem D0 (e:List Yr) (base:Nat) (x:RK) (j n:Nat):gD base (uK e x j) n=(eL (mP (aa Fn FnD m) e base x j n).1,aD (mP (aa Fn FnD m) e base x j n).2.1,(mP (aa Fn FnD m) e base x j n).2.2):=by
 cases x<;>simp [gD,uK,mP,eL,aE,aV,eO,aa]
theorem tD (e:List Yr) (base:Nat):∀ (xs:List RK) (j n:Nat),iW base (em e xs j) n=(bV (dK (aa Fn FnD m) e base xs j n).1,aD (dK (aa Fn FnD m) e base xs j n).2.1,(dK (aa Fn FnD m) e base xs j n).2.2)
 | [],j,n=>by simp [iW,em,dK,bV,aE]
 | x::xs,j,n=>by simp only [em,iW,D0 (Fn:=Fn) (FnD:=FnD) (m:=m),tD e base xs,dK,bV,ir]
theorem zr (e:List Yr) (base:Nat):∀ (rs:RS) (j n:Nat),eG base (dz e rs j) n=(cI (cj (aa Fn FnD m) e base rs j n).1,aD (cj (aa Fn FnD m) e base rs j n).2.1,(cj (aa Fn FnD m) e base rs j n).2.2)
 | [],j,n=>by simp [eG,dz,cj,cI,aE]
 | (g,cs)::r,j,n=>by
  have hv:fB base (sY e g cs j) n=(eV (AQ g (dK (aa Fn FnD m) e base cs j n).1),aD (dK (aa Fn FnD m) e base cs j n).2.1,(dK (aa Fn FnD m) e base cs j n).2.2):=by
   unfold sY
   match g,cs with
   | true,cs=>simp only [fB,tD (Fn:=Fn) (FnD:=FnD) (m:=m),eV,AQ]
   | false,[]=>simp [em,fB,iW,dK,eV,bV,aE,AQ]
   | false,[x]=>simp only [em,fB,D0 (Fn:=Fn) (FnD:=FnD) (m:=m),dK,eV,Kj,AQ]
   | false,x::y::z =>
    have:=tD (Fn:=Fn) (FnD:=FnD) (m:=m) e base (x::y::z) j n
    simp only [em] at this
    simp only [em,fB,this]
    simp only [dK,eV,bV,AQ]
  simp only [dz,eG,hv,zr e base r,cj,cI,ir]
theorem CI (e:List Yr) (base:Nat) (rs:RS):fB base (jh (dz e rs 0)) 0=(eV (eI (cj (aa Fn FnD m) e base rs 0 0).1),aD (cj (aa Fn FnD m) e base rs 0 0).2.1,(cj (aa Fn FnD m) e base rs 0 0).2.2):=by
 have h:=zr (Fn:=Fn) (FnD:=FnD) (m:=m) e base rs 0 0
 match rs with
 | []=>simp [dz,jh,fB,eG,cj,eI,eV,cI,aE]
 | [(g,cs)] =>
  simp only [dz,eG,Kj,cj,cI,Ku,Vg,Vi] at h
  simp only [dz,jh,cj,eI,Kj]
  rw [←h.1,← h.2.1,← h.2.2]
 | a::b::c =>
  simp only [dz,jh] at h ⊢
  simp only [fB,h,cj,eI,eV]
theorem fN:∀ {l:List Nat},ii l=true→l.Nodup
 | [],_=>by simp
 | x::xs,h=>by
  simp only [ii,Js,Md,List.contains_eq_mem,Mk] at h
  exact Ml.2 ⟨h.1,fN h.2⟩
theorem kY {α:Type} {q:Q α}:∀ {us:Ur},ni ob us=true→(fG (aD us) q).run (ai (aD ob))=q.run (ai (aD ob))∧(fG (aD us) q).reads (ai (aD ob))=us.map (·.1)++q.reads (ai (aD ob))
 | [],_=>⟨rfl,rfl⟩
 | (k,o)::us,h=>by
  simp only [ni,Js] at h
  obtain ⟨h1,h2⟩:=h
  split at h1
  ·rename_i hk
   obtain ⟨h3,h4⟩:=kY (q:=q) h2
   simp only [aV,fG,Q.run,Q.reads,aq,hk,Option.bind_none]
   exact ⟨h3,by rw [h4];rfl⟩
  ·cases h1
theorem jB (us:Ur):(aD us).map Prod.fst=us.map (·.1):=by simp [aD,T3]
theorem D4 (x:gx) (h:x.isD=true):(eL x).isD=true:=by cases x<;>simp [L3.isD] at h<;>simp [eL,L.isD]
theorem isF_e (x:gx) (h:x.isF=true):(eL x).isF=true:=by
 cases x with
 | fn f cs =>
  have h':cs.all L3.isD=true:=h
  show (bV cs).all L.isD=true
  simp only [bj,List.all_map,Kt,Function.comp] at h' ⊢
  exact fun x hx=>D4 x (h' x hx)
 | d _=>rfl
 | b _=>rfl
 | i _ _=>rfl
 | nil=>rfl
 | dp _ _=>rfl
 | _=>cases h
theorem D5 (v:cv) (h:v.isD=true):(eV v).isD=true:=by
 cases v with
 | one x=>exact isF_e x h
 | agg xs =>
  simp only [V3.isD,Kt] at h
  simp only [eV,V.isD,bj,List.all_map,Kt,Function.comp]
  exact fun x hx=>D4 x (h x hx)
 | tup xs=>cases h
theorem uj {e:List Yr}:∀ {cs:List RK} {j:Nat},((cs.zipIdx j).map (xL (aa Fn FnD m) e)).all oh=true→(em e cs j).all RC.lits=true
 | [],j,_=>rfl
 | x::xs,j,h=>by
  simp only [List.zipIdx_cons,K0,T6,Js] at h
  simp only [em,T6,Js]
  refine ⟨?_,uj h.2⟩
  have h1:=h.1
  cases x<;>simpa [uK,RC.lits,oh,xL,aa] using h1
theorem mE {e:List Yr}:∀ {a b:List RK} {j:Nat},em e (a++b) j=em e a j++em e b (j+a.length)
 | [],b,j=>by simp [em]
 | x::a,b,j=>by
  simp only [K2,em,mE (a:=a),Jy]
  rw [show j+1+a.length=j+(a.length+1) by omega]
theorem zp {e:List Yr}:∀ {rs:RS} {j:Nat},(em e (rs.flatMap (·.2)) j).all RC.lits=true→RV.litsF (dz e rs j)=true
 | [],j,_=>rfl
 | (g,cs)::r,j,h=>by
  simp only [List.flatMap_cons,mE,List.all_append,Js] at h
  simp only [dz,RV.litsF,Js]
  refine ⟨?_,zp h.2⟩
  unfold sY
  split
  ·rename_i heq;rw [heq] at h;simpa [RV.lits] using h.1
  ·simpa [RV.lits] using h.1
theorem litsP {rs:List RV} (h:RV.litsF rs=true):(jh rs).lits=true:=by
 unfold jh
 split
 ·simpa [RV.litsF] using h
 ·simpa [RV.lits] using h
def j5 (cfg:Cf3) (Fn:Nat→List D→az):Cs:=fun f ds=>match cfg.ash f with
 | none=>none
 | some sh=>match de sh ds with
  | none=>none
  | some xs=>match Fn f xs with
   | none=>none
   | some (j,ys)=>match (cfg.rsk f)[j]? with
    | none=>none
    | some rs=>some (jh (dz ys rs 0))
def xR:List RS→Bool
 | [[(false,[.d])]]=>true
 | _=>false
def sH:Nat→RS→Bool
 | 0,[]=>true
 | n+1,(false,[.d])::r=>sH n r
 | _,_=>false
theorem w7:∀ {n:Nat} {rs:RS},sH n rs=true→rs=List.replicate n (false,[.d])
 | 0,[],_=>rfl
 | n+1,(false,[.d])::r,h=>by simp only [sH] at h;rw [w7 h];rfl
 | 0,_::_,h=>by simp [sH] at h
 | n+1,[],h=>by simp [sH] at h
def invV:Bool→List D→Option VD
 | true,row=>some (.agg row)
 | false,[x]=>some (.one x)
 | false,_=>none
def DZ (P:Program) (cfg:Cf3) (Fn:Nat→List D→az) (t:Nat) (g:Bool) (row:List D):List Sh→az
 | [.met name n]=>match AW P t name,invV g row with
  | some f,some v=>match cfg.ash f,cfg.rsk f with
   | some sh,[rs]=>if sH n rs=true then (match de sh [v] with
    | some xs=>match Fn f xs with
     | some (0,ys)=>some (0,ys)
     | _=>none
    | none=>none) else none
   | _,_=>none
  | _,_=>none
 | _=>none
def FnV (cfg:Cf3) (Fn:Nat→List D→az) (f:Nat) (vs:List VD):az:=match cfg.ash f with
 | none=>none
 | some sh'=>match de sh' vs with
  | none=>none
  | some xs=>if xR (cfg.rsk f)=true then (match Fn f xs with
   | some (0,[.d z])=>some (0,[.d z])
   | _=>none) else none
def dW (P:Program) (cfg:Cf3) (Fn:Nat→List D→az):D→List Sh→List D→az:=fun x sh ds=>match x,fp sh ds with
 | .fn f caps,some vs=>if f < 2000000 then FnV cfg Fn f (vs++caps.map .one) else FnV cfg Fn (f - 2000000) (caps.map .one++vs)
 | .ifc t g row,_=>DZ P cfg Fn t g row sh
 | _,_=>none
def mo (P:Program) (cfg:Cf3) (Fn:Nat→List D→az):Prop:=∀ f sh xs vs j ys rs,cfg.ash f=some sh→fp sh xs=some vs→Fn f xs=some (j,ys)→(cfg.rsk f)[j]?=some rs→SC P f vs (jh (dz ys rs 0))
theorem Ao {cfg:Cf3} (h:mo P cfg Fn):∀ f ds r,j5 cfg Fn f ds=some r→SC P f ds r:=by
 intro f ds r hc
 unfold j5 at hc
 split at hc
 ·cases hc
 ·rename_i sh hsh
  split at hc
  ·cases hc
  ·rename_i xs hxs
   split at hc
   ·cases hc
   ·rename_i j ys hf
    split at hc
    ·cases hc
    ·rename_i rs hrs
     cases hc
     exact h f sh xs ds j ys rs hsh (kx hxs) hf hrs
theorem vQ {cfg:Cf3} {dst:Option Nat} {f:Nat} {args:List cv} {caps:List gx} {k:K3 D Nat Rr Mr az} (h:Aa (aa Fn FnD m) cfg ob dst f args caps k=some r):OKQ ob (fE (j5 cfg Fn) dst f (cI args) (bV caps)) k r:=by
 unfold Aa at h
 split at h
 ·cases h
 ·rename_i sh hsh
  obtain ⟨xs,rd,vds,h1,h2,h3,h⟩:=vZ h
  obtain ⟨j,ys,kont,h4,h5,h⟩:=gi h
  have h4':Fn f xs=some (j,ys):=h4
  rw [Kn] at h5
  obtain ⟨rs,h6,rfl⟩:=K6.1 h5
  simp only at h
  split at h
  ·rename_i hc
   obtain ⟨hnd,hab⟩:=hc
   have e1:cI (args++caps.map .one)=cI args++(bV caps).map .one:=by simp [dw,bj,eV,T3]
   rw [e1] at h1 h2
   obtain ⟨ds,cs,g1,g2,g3,g4⟩:=oB h1
   obtain ⟨ds',g5,g6,g7⟩:=sj g2
   have hC:j5 cfg Fn f (ds++ds'.map .one)=some (jh (dz ys rs 0)):=by
    rw [←g6,← g3]
    simp only [j5,hsh,h3,h4',h6]
   have lay:=CI (Fn:=Fn) (FnD:=FnD) (m:=m) ys (dO dst) rs
   have main:∀ b,b=true→k (eI (cj (aa Fn FnD m) ys (dO dst) rs 0 0).1) (cj (aa Fn FnD m) ys (dO dst) rs 0 0).2.1 (rd++(cj (aa Fn FnD m) ys (dO dst) rs 0 0).2.1.map (·.1))=some r→(b=((jh (dz ys rs 0)).lits||((cI args).all V.isD&&(bV caps).all L.isD)))→OKQ ob (fE (j5 cfg Fn) dst f (cI args) (bV caps)) k r:=by
    intro b hb hk hbe
    have habs:=kY (ob:=ob) (q:=Q.ret (eV (eI (cj (aa Fn FnD m) ys (dO dst) rs 0 0).1),aD (cj (aa Fn FnD m) ys (dO dst) rs 0 0).2.1)) hab
    have hnd':decide (((aD (cj (aa Fn FnD m) ys (dO dst) rs 0 0).2.1).map Prod.fst).Nodup)=true:=by rw [jB];exact Vh (fN hnd)
    refine OKQ.mk ?_ ?_ hk
    ·simp only [fE,Q.run_bind,g1,g5,Ke,hC,Q.opt,← hbe,hb,Q.guard,qm,lay,hnd',habs.1,Q.run]
    ·intro q hq
     simp only [fE,Q.reads_bind,g1,g5,hC,Q.opt,Q.bind,← hbe,hb,Q.guard,qm,lay,hnd',habs.2,Q.reads,Kj,Kp] at hq
     rw [g4,g7] at h2
     rcases hq with hq | hq | hq
     ·exact Mc _ (h2 q (Mc _ hq))
     ·exact Mc _ (h2 q (Ma _ hq))
     ·exact Ma _ hq
   split at h
   ·rename_i hall
    refine main _ rfl h ?_
    rw [eq_comm,Mg]
    right
    simp only [Js,Kt] at hall ⊢
    refine ⟨?_,?_⟩
    ·intro v hv
     rw [dw] at hv
     obtain ⟨u,hu,rfl⟩:=M5.1 hv
     exact D5 u (hall.1 u hu)
    ·intro l hl
     rw [bj] at hl
     obtain ⟨u,hu,rfl⟩:=M5.1 hl
     exact D4 u (hall.2 u hu)
   ·obtain ⟨hl,h⟩:=s5 h
    refine main _ rfl h ?_
    rw [eq_comm,Mg]
    left
    refine litsP (zp (uj (Fn:=Fn) (FnD:=FnD) (m:=m) ?_))
    exact hl
  ·cases h
theorem E1 {cfg:Cf3} {Fn:Nat→List D→az} {f:Nat} {vs:List VD} {j:Nat} {ys:List Yr} (h:FnV cfg Fn f vs=some (j,ys)):∃ z,j=0∧ys=[.d z]∧j5 cfg Fn f vs=some (.one (.d z)):=by
 unfold FnV at h
 split at h
 ·cases h
 ·rename_i sh' hsh'
  split at h
  ·cases h
  ·rename_i xs' hxs'
   split at h
   ·rename_i h1d
    split at h
    ·rename_i z hz
     cases h
     have hrs:cfg.rsk f=[[(false,[.d])]]:=by
      revert h1d;unfold xR;split
      ·rename_i he;intro _;exact he
      ·intro hh;cases hh
     refine ⟨z,rfl,rfl,?_⟩
     simp only [j5,hsh',hxs',hz,hrs,Ky]
     rfl
    ·cases h
   ·cases h
theorem ll {ob:Ur}:∀ cs:List D,(Q.mapM (ci 4) (cs.map L.d)).run (ai (aD ob))=some cs∧(Q.mapM (ci 4) (cs.map L.d)).reads (ai (aD ob))=[]
 | []=>⟨rfl,rfl⟩
 | c::cs=>by
  obtain ⟨h1,h2⟩:=ll (ob:=ob) cs
  simp [Q.mapM,ci,Q.run_bind,Q.reads_bind,Q.run,Q.reads,h1,h2]
theorem qj {α β:Type} {f:α→Q β} {o:Ob}:∀ {xs ys:List α} {as bs:List β},(Q.mapM f xs).run o=some as→(Q.mapM f ys).run o=some bs→(Q.mapM f (xs++ys)).run o=some (as++bs)∧(Q.mapM f (xs++ys)).reads o=(Q.mapM f xs).reads o++(Q.mapM f ys).reads o
 | [],ys,as,bs,h,h2=>by
  simp only [Q.mapM,Q.run,Jr] at h
  subst h
  exact ⟨h2,by simp [Q.mapM,Q.reads]⟩
 | x::xs,ys,as,bs,h,h2=>by
  simp only [Q.mapM,Q.run_bind] at h
  cases hx:(f x).run o with
  | none=>rw [hx] at h;simp at h
  | some a =>
   rw [hx] at h
   simp only [Ke] at h
   cases hr:(Q.mapM f xs).run o with
   | none=>rw [hr] at h;simp at h
   | some rs =>
    rw [hr] at h
    simp only [Ke,Q.run,Jr] at h
    subst h
    obtain ⟨h3,h4⟩:=qj hr h2
    refine ⟨?_,?_⟩
    ·simp [Q.mapM,Q.run_bind,hx,h3,Q.run]
    ·simp only [K2,Q.mapM,Q.reads_bind,hx,hr,h3,Q.reads,h4,Kj,Kh]
theorem lk {ob:Ur}:∀ cs:List D,(Q.mapM cJ ((cs.map L.d).map V.one)).run (ai (aD ob))=some (cs.map .one)∧(Q.mapM cJ ((cs.map L.d).map V.one)).reads (ai (aD ob))=[]
 | []=>⟨rfl,rfl⟩
 | c::cs=>by
  obtain ⟨h1,h2⟩:=lk (ob:=ob) cs
  have h3:(cJ (V.one (L.d c))).run (ai (aD ob))=some (.one c):=rfl
  have h4:(cJ (V.one (L.d c))).reads (ai (aD ob))=[]:=rfl
  simp only [K0,Q.mapM,Q.run_bind,Q.reads_bind,h3,h4,h1,h2,Q.run,Q.reads,Ke,Kj,Kk]
theorem BG (vs:List cv) (h:vs.all V3.isD=true):(cI vs).all V.isD=true:=by
 rw [dw,List.all_map,Kt]
 exact fun x hx=>D5 x (Kt.1 h x hx)
theorem Bx:∀ cs:List D,(cs.map L.d).all L.isD=true
 | []=>rfl
 | c::cs=>by simp [L.isD]
theorem Bw:∀ cs:List D,((cs.map L.d).map V.one).all V.isD=true
 | []=>rfl
 | c::cs=>by simp [V.isD,L.isF,L.isD]
theorem zb {cfg:Cf3} {dst:Option Nat} {ρ:Operand→cv} {op:Op} {k:K3 D Nat Rr Mr az} (h:F6 (aa Fn (dW P cfg Fn) m) cfg P ob dst ρ op k=some r):OKQ ob (qf (j5 cfg Fn) P dst (fun x=>eV (ρ x)) op) k r:=by
 unfold F6 at h
 unfold qf
 split at h
 ·rename_i fo args hc
  simp only [hc]
  split at h
  ·rename_i f caps hf
   split at h
   ·rename_i hlt
    have:=vQ h
    rw [dw,Mn] at this
    simp only [hf,eV,eL,oX,K9 hlt]
    exact this
   ·rename_i hlt
    have:=vQ h
    have e0:cI (caps.map .one++args.map ρ)=(bV caps).map .one++args.map fun x=>eV (ρ x):=by simp [dw,bj,eV,T3]
    rw [e0] at this
    simp only [hf,eV,eL,oX,oJ,Kg hlt]
    exact this
  ·rename_i x hf
   split at h
   ·rename_i sh hsh
    obtain ⟨xs,rd,vds,h1,h2,h3,h⟩:=vZ h
    obtain ⟨j,ys,kont,h4,h5,h⟩:=gi h
    have h4':dW P cfg Fn x sh xs=some (j,ys):=h4
    have e1:cI (args.map ρ)=args.map fun x=>eV (ρ x):=by rw [dw,Mn];rfl
    cases x with
    | fn f caps =>
     simp only [dW,kx h3] at h4'
     have lG:∀ z,j=0→ys=[.d z]→∃ b,b=true∧(b=(z.isLit||(args.map fun x=>eV (ρ x)).all V.isD))∧k (.one (.d z)) [] rd=some r:=by
      rintro z rfl rfl
      simp only [Ky,Jr] at h5
      subst h5
      simp only at h
      split at h
      ·rename_i hall
       refine ⟨true,rfl,?_,h⟩
       rw [←e1,BG _ hall,Bool.or_true]
      ·obtain ⟨hl,h⟩:=s5 h
       refine ⟨true,rfl,?_,h⟩
       have:z.isLit=true:=by simpa [oh,aa] using hl
       rw [this];rfl
     rw [e1] at h1 h2
     split at h4'
     ·rename_i hlt
      obtain ⟨z,hj,hy,hC⟩:=E1 h4'
      obtain ⟨b,hb,hbe,hk⟩:=lG z hj hy
      simp only [hf,eV,eL,oX,K9 hlt]
      have hg:(z.isLit||(args.map fun x=>eV (ρ x)).all V.isD&&(caps.map L.d).all L.isD)=true:=by rw [Bx,Tw,← hbe,hb]
      refine OKQ.mk (v:=.one (.d z)) (us:=[]) (rd:=rd) ?_ ?_ hk
      ·simp only [fE,Q.run_bind,h1,(ll caps).1,hC,Q.opt,RV.lits,RC.lits,Ke,hg,Q.guard,qm,fB,gD,fG,Q.run,eV,eL,aE,Kb,V9,Jt]
      ·intro q hq
       simp only [fE,Q.reads_bind,h1,(ll caps).1,(ll caps).2,hC,Q.opt,Q.bind,RV.lits,RC.lits,hg,Q.guard,qm,fB,gD,fG,Kb,V9,Jt,Q.reads,Kj] at hq
       exact h2 q hq
     ·rename_i hlt
      obtain ⟨z,hj,hy,hC⟩:=E1 h4'
      obtain ⟨b,hb,hbe,hk⟩:=lG z hj hy
      simp only [hf,eV,eL,oX,oJ,Kg hlt]
      have hrun:(Q.mapM cJ ((caps.map L.d).map V.one++args.map fun x=>eV (ρ x))).run (ai (aD ob))=some (caps.map .one++vds):=(qj (lk caps).1 h1).1
      have hreads:(Q.mapM cJ ((caps.map L.d).map V.one++args.map fun x=>eV (ρ x))).reads (ai (aD ob))=(Q.mapM cJ (args.map fun x=>eV (ρ x))).reads (ai (aD ob)):=by
       rw [(qj (lk caps).1 h1).2,(lk caps).2,K7]
      have hg:(z.isLit||((caps.map L.d).map V.one++args.map fun x=>eV (ρ x)).all V.isD&&([]:List L).all L.isD)=true:=by rw [List.all_append,Bw,Kf,List.all_nil,Tw,← hbe,hb]
      have hC':j5 cfg Fn (f - 2000000) (caps.map .one++vds++[])=some (.one (.d z)):=by simpa using hC
      refine OKQ.mk (v:=.one (.d z)) (us:=[]) (rd:=rd) ?_ ?_ hk
      ·simp only [fE,Q.run_bind,hrun,Q.mapM,Kb,Ke,hC',Q.opt,Q.bind,RV.lits,RC.lits,Ke,hg,Q.guard,qm,fB,gD,fG,Q.run,eV,eL,aE,Kb,V9,Jt]
      ·intro q hq
       simp only [fE,Q.reads_bind,hrun,hreads,Q.mapM,hC,Q.opt,Q.bind,RV.lits,RC.lits,hg,Q.guard,qm,fB,gD,fG,Kb,V9,Jt,Q.reads,Kj] at hq
       exact h2 q hq
    | ifc t g row =>
     exfalso
     simp only [dW] at h4'
     unfold DZ at h4'
     split at h4'
     ·cases vds<;>simp [de] at h3
     ·cases h4'
    | _=>cases h4'
   ·cases h
  ·cases h
 ·rename_i hc
  simp only [hc]
  split at h
  ·rename_i recv name hi
   simp only [hi]
   split at h
   ·rename_i x hx
    obtain ⟨j,ys,kont,h4,h5,h⟩:=gi h
    have h4':dW P cfg Fn x [.met name (cfg.iv name)] []=some (j,ys):=h4
    cases x with
    | ifc t g row =>
     simp only [dW,DZ] at h4'
     split at h4'
     ·rename_i f v hf hv
      split at h4'
      ·rename_i sh rs hsh hrs
       split at h4'
       ·rename_i hall
        split at h4'
        ·rename_i xs hxs
         split at h4'
         ·rename_i ys' hfn
          cases h4'
          have ers:=w7 hall
          subst ers
          simp only [Ky,Jr] at h5
          subst h5
          simp only at h
          split at h
          ·rename_i hcc
           obtain ⟨hnd,hab⟩:=hcc
           have hC:j5 cfg Fn f [v]=some (jh (dz ys (List.replicate (cfg.iv name) (false,[.d])) 0)):=by
            simp only [j5,hsh,hxs,hfn,hrs,Ky]
           have lay:=CI (Fn:=Fn) (FnD:=dW P cfg Fn) (m:=m) ys (dO dst) (List.replicate (cfg.iv name) (false,[.d]))
           have hcaps:∀ cs:List D,(Q.mapM (ci 4) (cs.map L.d)).run (ai (aD ob))=some cs∧(Q.mapM (ci 4) (cs.map L.d)).reads (ai (aD ob))=[]:=by
            intro cs
            induction cs with
            | nil=>exact ⟨rfl,rfl⟩
            | cons c cs ih=>simp [Q.mapM,ci,Q.run_bind,Q.reads_bind,Q.run,Q.reads,ih.1,ih.2]
           have hrv:∃ u,qu P name (eV (ρ recv))=some (f,u)∧(cJ u).run (ai (aD ob))=some v∧(cJ u).reads (ai (aD ob))=[]∧u.isD=true:=by
            rw [hx]
            unfold invV at hv
            split at hv
            ·cases hv
             refine ⟨.agg (row.map L.d),by simp [eV,eL,qu,hf],?_,?_,?_⟩
             ·simp [cJ,Q.run_bind,(hcaps _).1,Q.run]
             ·simp [cJ,Q.reads_bind,(hcaps _).1,(hcaps _).2,Q.reads]
             ·simp [V.isD,L.isD]
            ·rename_i z
             cases hv
             refine ⟨.one (.d z),by simp [eV,eL,qu,hf],?_,?_,?_⟩
             ·simp [cJ,ci,Q.bind,Q.run]
             ·simp [cJ,ci,Q.bind,Q.reads]
             ·simp [V.isD,L.isD,L.isF]
            ·cases hv
           obtain ⟨u,hu,hu1,hu2,hu3⟩:=hrv
           simp only [hu]
           have habs:=kY (ob:=ob) (q:=Q.ret (eV (eI (cj (aa Fn (dW P cfg Fn) m) ys (dO dst) (List.replicate (cfg.iv name) (false,[.d])) 0 0).1),aD (cj (aa Fn (dW P cfg Fn) m) ys (dO dst) (List.replicate (cfg.iv name) (false,[.d])) 0 0).2.1)) hab
           have hnd':decide (((aD (cj (aa Fn (dW P cfg Fn) m) ys (dO dst) (List.replicate (cfg.iv name) (false,[.d])) 0 0).2.1).map Prod.fst).Nodup)=true:=by rw [jB];exact Vh (fN hnd)
           have hm1:(Q.mapM cJ [u]).run (ai (aD ob))=some [v]:=by simp [Q.mapM,Q.run_bind,hu1,Q.run]
           have hm2:(Q.mapM cJ [u]).reads (ai (aD ob))=[]:=by simp [Q.mapM,Q.reads_bind,hu1,hu2,Q.run,Q.reads]
           have hb:((jh (dz ys (List.replicate (cfg.iv name) (false,[RK.d])) 0)).lits||([u].all V.isD&&([]:List L).all L.isD))=true:=by simp [hu3]
           have hz1:(Q.mapM (ci 4) ([]:List L)).run (ai (aD ob))=some []:=rfl
           have hz2:(Q.mapM (ci 4) ([]:List L)).reads (ai (aD ob))=[]:=rfl
           refine OKQ.mk ?_ ?_ h
           ·simp only [fE,Q.run_bind,hm1,hz1,Ke,Q.run,Kb,Kj,hC,Q.opt,hb,Q.guard,qm,lay,hnd',habs.1]
           ·intro q hq
            simp only [fE,Q.reads_bind,hm1,hm2,hz1,hz2,Kb,Kj,K7,hC,Q.opt,Q.bind,hb,Q.guard,qm,lay,hnd',habs.2,Q.reads] at hq
            exact hq
          ·cases h
         ·cases h4'
        ·cases h4'
       ·cases h4'
      ·cases h4'
     ·cases h4'
    | _=>cases h4'
   ·cases h
  ·rename_i hi
   simp only [hi]
   exact HO h
end
section
variable {P:Program} {Fn:Nat→List D→az} {FnD:D→List Sh→List D→az} {m:Nat}
def At (e:List Yr) (j:Nat) (ys:List Yr):Prop:=∀ i y,ys[i]?=some y→e[j+i]?=some y
theorem At.nil (e:List Yr) (j:Nat):At e j []:=fun i y h=>by simp at h
theorem At.self (e:List Yr):At e 0 e:=fun i y h=>by simpa using h
theorem At.append {e:List Yr} {j:Nat} {a b:List Yr} (h:At e j (a++b)):At e j a∧At e (j+a.length) b:=by
 refine ⟨fun i y hi=>h i y ?_,fun i y hi=>?_⟩
 ·rw [Mb (Kv.1 hi).1];exact hi
 ·have:=h (a.length+i) y (by rw [T8 (by omega)];simpa using hi)
  rwa [←Ta] at this
theorem At.d {e:List Yr} {j i:Nat} {ys:List Yr} {x:D} (h:At e j ys) (hi:ys[i]?=some (.d x)):(aa Fn FnD m).ld e (j+i)=x:=by simp [aa,h i _ hi]
theorem At.n {e:List Yr} {j i:Nat} {ys:List Yr} {x:Nat} (h:At e j ys) (hi:ys[i]?=some (.n x)):(aa Fn FnD m).ln e (j+i)=x:=by simp [aa,h i _ hi]
theorem At.r {e:List Yr} {j i:Nat} {ys:List Yr} {x:Rr} (h:At e j ys) (hi:ys[i]?=some (.r x)):(aa Fn FnD m).lr e (j+i)=x:=by simp [aa,h i _ hi]
theorem At.mm {e:List Yr} {j i:Nat} {ys:List Yr} {x:Mr} (h:At e j ys) (hi:ys[i]?=some (.m x)):(aa Fn FnD m).lm e (j+i)=x:=by simp [aa,h i _ hi]
theorem Dr (k:Nat) (o:Option Unit) (n c:Unit) (x:gx) (ys:List Yr) (h:gW (aa Fn FnD m) (.slk k o n c) x=some ys) (e:List Yr) (j:Nat) (ha:At e j ys):eL (bx (aa Fn FnD m) e (.slk k o n c) j).1=eL x∧(bx (aa Fn FnD m) e (.slk k o n c) j).2=j+ys.length:=by
 cases x with
 | slk k' o' n' c' =>
  cases o with
  | none =>
   cases o' with
   | none =>
    simp only [gW] at h
    split at h
    ·rename_i hk
     cases h
     subst hk
     refine ⟨?_,rfl⟩
     simp only [bx,eL,L.slk.injEq,Tp]
     exact ⟨ha.n (i:=0) rfl,ha.n (i:=1) rfl⟩
    ·cases h
   | some o'=>simp [gW] at h
  | some o =>
   cases o' with
   | none =>
    simp only [gW] at h
    split at h
    ·rename_i hk
     cases h
     subst hk
     refine ⟨?_,rfl⟩
     simp only [bx,eL,L.slk.injEq,Tp,M1,T5]
     exact ⟨ha.n (i:=0) rfl,ha.n (i:=1) rfl,ha.n (i:=2) rfl⟩
    ·cases h
   | some o' =>
    simp only [gW] at h
    split at h
    ·rename_i hk
     cases h
     subst hk
     refine ⟨?_,rfl⟩
     simp only [bx,eL,L.slk.injEq,Tp,M1]
     exact ⟨ha.n (i:=0) rfl,ha.n (i:=1) rfl,ha.n (i:=2) rfl⟩
    ·cases h
 | _=>cases o<;>simp [gW] at h
mutual
theorem zL:∀ (s:L3 Unit Unit) (x:gx) (ys:List Yr),gW (aa Fn FnD m) s x=some ys→∀ (e:List Yr) (j:Nat),At e j ys→eL (bx (aa Fn FnD m) e s j).1=eL x∧(bx (aa Fn FnD m) e s j).2=j+ys.length
 | .d _,x,ys,h,e,j,ha=>by
  simp only [gW] at h
  split at h
  ·rename_i y hy
   cases h
   refine ⟨?_,rfl⟩
   have:=ha.d (Fn:=Fn) (FnD:=FnD) (m:=m) (i:=0) rfl
   simp only [bx,eL,cM hy]
   rw [←this];rfl
  ·cases h
 | .b v,x,ys,h,e,j,ha=>by
  cases x<;>simp [gW] at h
  obtain ⟨rfl,rfl⟩:=h
  exact ⟨rfl,rfl⟩
 | .i k n,x,ys,h,e,j,ha=>by
  cases x<;>simp [gW] at h
  obtain ⟨⟨rfl,rfl⟩,rfl⟩:=h
  exact ⟨rfl,rfl⟩
 | .nil,x,ys,h,e,j,ha=>by
  cases x<;>simp [gW] at h
  subst h
  exact ⟨rfl,rfl⟩
 | .dp r o,x,ys,h,e,j,ha=>by
  cases x<;>simp [gW] at h
  rename_i r' o'
  obtain ⟨⟨h1,rfl⟩,rfl⟩:=h
  refine ⟨?_,by simp [bx,h1]⟩
  simp only [bx,eL,L.d.injEq,D.dp.injEq,Vi]
  apply Mp
  intro i
  simp only [Kn]
  by_cases hi:i < r.length
  ·rw [T0 hi]
   have hr:r'[i]?=some (r'[i]'(by omega)):=Jz (by omega)
   rw [hr,M3]
   congr 1
   exact ha.d (by rw [Kn,hr];rfl)
  ·rw [Kx (by simpa using hi),Kx (by omega)];rfl
 | .fn f cs,x,ys,h,e,j,ha=>by
  cases x<;>simp only [gW] at h<;>try (cases h)
  split at h
  ·rename_i hf
   subst hf
   obtain ⟨h1,h2⟩:=kP cs _ ys h e j ha
   exact ⟨by simp only [bx,eL,h1],by simp only [bx,h2]⟩
  ·cases h
 | .slk k o n c,x,ys,h,e,j,ha=>Dr k o n c x ys h e j ha
 | .pa k i o c,x,ys,h,e,j,ha=>by
  cases x<;>simp only [gW] at h<;>try (cases h)
  split at h
  ·rename_i hk
   cases h
   obtain ⟨rfl,rfl⟩:=hk
   refine ⟨?_,rfl⟩
   simp only [bx,eL,L.pa.injEq,Tp]
   exact ⟨ha.n (i:=0) rfl,ha.n (i:=1) rfl⟩
  ·cases h
 | .ptr k o,x,ys,h,e,j,ha=>by
  cases x<;>simp [gW] at h
  obtain ⟨⟨rfl,rfl⟩,rfl⟩:=h
  exact ⟨rfl,rfl⟩
 | .sln k n,x,ys,h,e,j,ha=>by
  cases x<;>simp only [gW] at h<;>try (cases h)
  split at h
  ·rename_i hk
   cases h
   subst hk
   refine ⟨?_,rfl⟩
   simp only [bx,eL,L.sln.injEq,Tp]
   exact ha.n (i:=0) rfl
  ·cases h
 | .mk k,x,ys,h,e,j,ha=>by
  cases x<;>simp [gW] at h
  obtain ⟨rfl,rfl⟩:=h
  exact ⟨rfl,rfl⟩
 | .mq k,x,ys,h,e,j,ha=>by
  cases x<;>simp [gW] at h
  obtain ⟨rfl,rfl⟩:=h
  exact ⟨rfl,rfl⟩
 | .pb k i o,x,ys,h,e,j,ha=>by
  cases x<;>simp only [gW] at h<;>try (cases h)
  split at h
  ·rename_i hk
   cases h
   subst hk
   refine ⟨?_,rfl⟩
   simp only [bx,eL,L.pb.injEq,Tp]
   exact ⟨ha.n (i:=0) rfl,ha.n (i:=1) rfl⟩
  ·cases h
 | .px k b n es i o,x,ys,h,e,j,ha=>by
  cases x<;>simp only [gW] at h<;>try (cases h)
  split at h
  ·rename_i hk
   cases h
   obtain ⟨rfl,rfl,rfl,rfl,rfl⟩:=hk
   refine ⟨?_,rfl⟩
   have:=ha.n (Fn:=Fn) (FnD:=FnD) (m:=m) (i:=0) rfl
   rw [Kq] at this
   simp only [bx,eL,this]
  ·cases h
 | .np,x,ys,h,e,j,ha=>by
  cases x<;>simp [gW] at h
  subst h
  exact ⟨rfl,rfl⟩
 | .undef,x,ys,h,e,j,ha=>by
  cases x<;>simp [gW] at h
  subst h
  exact ⟨rfl,rfl⟩
theorem kP:∀ (ss:List (L3 Unit Unit)) (xs:List gx) (ys:List Yr),mZ (aa Fn FnD m) ss xs=some ys→∀ (e:List Yr) (j:Nat),At e j ys→bV (dv (aa Fn FnD m) e ss j).1=bV xs∧(dv (aa Fn FnD m) e ss j).2=j+ys.length
 | [],xs,ys,h,e,j,ha=>by
  cases xs<;>simp [mZ] at h
  subst h
  exact ⟨rfl,rfl⟩
 | s::ss,xs,ys,h,e,j,ha=>by
  cases xs with
  | nil=>simp [mZ] at h
  | cons x xs =>
   simp only [mZ] at h
   split at h
   ·rename_i a b h1 h2
    cases h
    obtain ⟨a1,a2⟩:=ha.append
    obtain ⟨h3,h4⟩:=zL s x a h1 e j a1
    obtain ⟨h5,h6⟩:=kP ss xs b h2 e (j+a.length) a2
    refine ⟨?_,?_⟩
    ·simp only [dv,bV,h3,h4,h5]
    ·simp only [dv,h4,h6,Kc,Ta]
   ·cases h
end
mutual
theorem tW:∀ (s:V3 Unit Unit) (x:cv) (ys:List Yr),oY (aa Fn FnD m) s x=some ys→∀ (e:List Yr) (j:Nat),At e j ys→eV (dm (aa Fn FnD m) e s j).1=eV x∧(dm (aa Fn FnD m) e s j).2=j+ys.length
 | .one s,x,ys,h,e,j,ha=>by
  cases x with
  | one x =>
   simp only [oY] at h
   obtain ⟨h1,h2⟩:=zL s x ys h e j ha
   exact ⟨by simp only [dm,eV,h1],by simp only [dm,h2]⟩
  | agg xs=>simp [oY] at h
  | tup xs=>simp [oY] at h
 | .agg ss,x,ys,h,e,j,ha=>by
  cases x with
  | agg xs =>
   simp only [oY] at h
   obtain ⟨h1,h2⟩:=kP ss xs ys h e j ha
   exact ⟨by simp only [dm,eV,h1],by simp only [dm,h2]⟩
  | one x=>simp [oY] at h
  | tup xs=>simp [oY] at h
 | .tup ss,x,ys,h,e,j,ha=>by
  cases x with
  | tup xs =>
   simp only [oY] at h
   obtain ⟨h1,h2⟩:=vz ss xs ys h e j ha
   exact ⟨by simp only [dm,eV,h1],by simp only [dm,h2]⟩
  | one x=>simp [oY] at h
  | agg xs=>simp [oY] at h
theorem vz:∀ (ss:List (V3 Unit Unit)) (xs:List cv) (ys:List Yr),sv (aa Fn FnD m) ss xs=some ys→∀ (e:List Yr) (j:Nat),At e j ys→cI (fZ (aa Fn FnD m) e ss j).1=cI xs∧(fZ (aa Fn FnD m) e ss j).2=j+ys.length
 | [],xs,ys,h,e,j,ha=>by
  cases xs<;>simp [sv] at h
  subst h
  exact ⟨rfl,rfl⟩
 | s::ss,xs,ys,h,e,j,ha=>by
  cases xs with
  | nil=>simp [sv] at h
  | cons x xs =>
   simp only [sv] at h
   split at h
   ·rename_i a b h1 h2
    cases h
    obtain ⟨a1,a2⟩:=ha.append
    obtain ⟨h3,h4⟩:=tW s x a h1 e j a1
    obtain ⟨h5,h6⟩:=vz ss xs b h2 e (j+a.length) a2
    refine ⟨?_,?_⟩
    ·simp only [fZ,cI,h3,h4,h5]
    ·simp only [fZ,h4,h6,Kc,Ta]
   ·cases h
end
theorem Fo (s:V3 Unit Unit) (x:cv) (ys:List Yr) (h:I9 (aa Fn FnD m) s x=some ys) (e:List Yr) (j:Nat) (ha:At e j ys):(eV (dm (aa Fn FnD m) e s j).1=eV x∨eV (dm (aa Fn FnD m) e s j).1=.one .undef)∧(dm (aa Fn FnD m) e s j).2=j+ys.length:=by
 unfold I9 at h
 split at h
 ·cases h;exact ⟨.inr rfl,rfl⟩
 ·exact ⟨.inl (tW _ _ _ h e j ha).1,(tW _ _ _ h e j ha).2⟩
theorem Cc {a b:Value} (h:Cd a b=true):b=a:=by
 unfold Cd at h
 simp only [Mg,Tg] at h
 rcases h with (h | h) | h<;>exact xP h
theorem rO:∀ {a b:List Value},nE a b=true→b=a
 | [],[],_=>rfl
 | x::xs,y::ys,h=>by simp only [nE,Js] at h;rw [Cc h.1,rO h.2]
 | [],_::_,h=>by simp [nE] at h
 | _::_,[],h=>by simp [nE] at h
theorem Fp (s:O3 Unit Unit Unit Unit) (x:BM) (ys:List Yr) (h:Ia (aa Fn FnD m) s x=some ys) (e:List Yr) (j:Nat) (ha:At e j ys):eO (eu (aa Fn FnD m) e s j).1=eO x∧(eu (aa Fn FnD m) e s j).2=j+ys.length:=by
 cases s<;>cases x<;>simp only [Ia] at h<;>try (cases h)
 ·split at h
  ·rename_i he
   subst he
   obtain ⟨h1,h2⟩:=kP _ _ _ h e j ha
   exact ⟨by simp only [eu,eO,h1],by simp only [eu,h2]⟩
  ·cases h
 ·split at h
  ·rename_i he
   obtain ⟨rfl,rfl,rfl⟩:=he
   cases h
   refine ⟨?_,rfl⟩
   simp only [eu,eO,O.arr.injEq,Kk,Vi]
   exact ha.r (i:=0) rfl
  ·cases h
 ·split at h
  ·rename_i he
   obtain ⟨rfl,rfl⟩:=he
   cases h
   refine ⟨?_,rfl⟩
   have:=ha.mm (Fn:=Fn) (FnD:=FnD) (m:=m) (i:=0) rfl
   simp only [eu,eO,O.mp.injEq,Tp,Vi]
   rw [Kq] at this
   rw [this]
   exact ⟨rfl,rfl⟩
  ·cases h
 ·split at h
  ·rename_i hk
   obtain ⟨h1,h2⟩:=kP _ _ _ h e j ha
   exact ⟨by simp only [eu,eO,h1,rO hk],by simp only [eu,h2]⟩
  ·cases h
 ·split at h
  ·rename_i he
   obtain ⟨rfl,rfl⟩:=he
   cases h
   refine ⟨?_,rfl⟩
   have:=ha.mm (Fn:=Fn) (FnD:=FnD) (m:=m) (i:=0) rfl
   rw [Kq] at this
   simp only [eu,eO,this]
  ·cases h
 ·split at h
  ·rename_i he
   obtain ⟨rfl,rfl,rfl⟩:=he
   cases h
   refine ⟨?_,rfl⟩
   have:=ha.r (Fn:=Fn) (FnD:=FnD) (m:=m) (i:=0) rfl
   rw [Kq] at this
   simp only [eu,this]
  ·cases h
theorem sy {env:List (Nat×cv)}:∀ (l:List (Nat×V3 Unit Unit)) (ys:List Yr),qD (aa Fn FnD m) env l=some ys→∀ (e:List Yr) (j:Nat),At e j ys →
  (∀ t,bg (bv (ef (aa Fn FnD m) e l j).1) t=bg (bv env) t∨bg (bv (ef (aa Fn FnD m) e l j).1) t=.one .undef)∧(ef (aa Fn FnD m) e l j).2=j+ys.length
 | [],ys,h,e,j,ha=>by
  simp only [qD,Jr] at h
  subst h
  exact ⟨fun t=>.inr rfl,rfl⟩
 | (t0,v)::l,ys,h,e,j,ha=>by
  simp only [qD] at h
  split at h
  ·rename_i a b h1 h2
   cases h
   obtain ⟨a1,a2⟩:=ha.append
   obtain ⟨h3,h4⟩:=Fo v _ a h1 e j a1
   obtain ⟨h5,h6⟩:=sy l b h2 e (j+a.length) a2
   refine ⟨fun t=>?_,by simp only [ef,h4,h6,Kc,Ta]⟩
   simp only [ef,bv,K0,bg]
   by_cases ht:t=t0
   ·subst ht
    rw [K9 rfl]
    rcases h3 with h3 | h3
    ·left;rw [h3];exact (eM t env).symm
    ·right;exact h3
   ·rw [Kg ht,h4]
    exact h5 t
  ·cases h
theorem vA {ob:Ur}:∀ (l:dx Unit Unit Unit Unit) (ys:List Yr),zK (aa Fn FnD m) ob l=some ys→∀ (e:List Yr) (j:Nat),At e j ys →
  (∀ k,(k∈l.map (·.1)→ai (aD (iq (aa Fn FnD m) e l j).1) k=ai (aD ob) k)∧(k∉l.map (·.1)→ai (aD (iq (aa Fn FnD m) e l j).1) k=none))
 | [],ys,h,e,j,ha=>fun k=>⟨fun hk=>by simp at hk,fun _=>rfl⟩
 | (k0,o)::l,ys,h,e,j,ha=>by
  simp only [zK] at h
  split at h
  ·rename_i o' hk0
   split at h
   ·rename_i a b h1 h2
    cases h
    obtain ⟨a1,a2⟩:=ha.append
    obtain ⟨h3,h4⟩:=Fp o o' a h1 e j a1
    have h5:=vA l b h2 e (j+a.length) a2
    intro k
    simp only [iq,aD,K0,ai,Ki]
    by_cases hk:k=k0
    ·subst hk
     refine ⟨fun _=>?_,fun hn=>absurd (.inl rfl) hn⟩
     rw [K9 rfl,h3]
     have:=aq k ob
     rw [hk0] at this
     exact this.symm
    ·rw [Kg hk,h4]
     exact ⟨fun hm=>(h5 k).1 (hm.resolve_left hk),fun hn=>(h5 k).2 fun hm=>hn (.inr hm)⟩
   ·cases h
  ·cases h
mutual
theorem qp (e:List Yr):∀ (s:L3 Unit Unit) (j:Nat),(eL (bx (aa Fn FnD m) e s j).1).keysOf=s.keysOf
 | .d _,j=>by simp [bx,eL,L.keysOf,L3.keysOf]
 | .b _,j=>by simp [bx,eL,L.keysOf,L3.keysOf]
 | .i _ _,j=>by simp [bx,eL,L.keysOf,L3.keysOf]
 | .nil,j=>by simp [bx,eL,L.keysOf,L3.keysOf]
 | .dp _ _,j=>by simp [bx,eL,L.keysOf,L3.keysOf]
 | .fn f cs,j=>by simp only [bx,eL,L.keysOf,L3.keysOf];exact gp e cs j
 | .slk k none _ _,j=>by simp [bx,eL,L.keysOf,L3.keysOf]
 | .slk k (some _) _ _,j=>by simp [bx,eL,L.keysOf,L3.keysOf]
 | .pa _ _ _ _,j=>by simp [bx,eL,L.keysOf,L3.keysOf]
 | .ptr _ _,j=>by simp [bx,eL,L.keysOf,L3.keysOf]
 | .mk _,j=>by simp [bx,eL,L.keysOf,L3.keysOf]
 | .mq _,j=>by simp [bx,eL,L.keysOf,L3.keysOf]
 | .pb _ _ _,j=>by simp [bx,eL,L.keysOf,L3.keysOf]
 | .px _ _ _ _ _ _,j=>by simp [bx,eL,L.keysOf,L3.keysOf]
 | .np,j=>by simp [bx,eL,L.keysOf,L3.keysOf]
 | .sln _ _,j=>by simp [bx,eL,L.keysOf,L3.keysOf]
 | .undef,j=>by simp [bx,eL,L.keysOf,L3.keysOf]
theorem gp (e:List Yr):∀ (ss:List (L3 Unit Unit)) (j:Nat),L.keysF (bV (dv (aa Fn FnD m) e ss j).1)=L3.keysF ss
 | [],j=>rfl
 | s::ss,j=>by simp only [dv,bV,L.keysF,L3.keysF,qp e s,gp e ss]
end
mutual
theorem qn (e:List Yr):∀ (s:V3 Unit Unit) (j:Nat),(eV (dm (aa Fn FnD m) e s j).1).keysOf=s.keysOf
 | .one s,j=>by simp only [dm,eV,V.keysOf,V3.keysOf,qp]
 | .agg ss,j=>by simp only [dm,eV,V.keysOf,V3.keysOf,gp]
 | .tup ss,j=>by simp only [dm,eV,V.keysOf,V3.keysOf,oC e ss]
theorem oC (e:List Yr):∀ (ss:List (V3 Unit Unit)) (j:Nat),V.keysF (cI (fZ (aa Fn FnD m) e ss j).1)=V3.keysF ss
 | [],j=>rfl
 | s::ss,j=>by simp only [fZ,cI,V.keysF,V3.keysF,qn e s,oC e ss]
end
theorem xO (e:List Yr) (s:O3 Unit Unit Unit Unit) (j:Nat):(eO (eu (aa Fn FnD m) e s j).1).keysOf=s.keysOf:=by
 cases s with
 | box cs el=>simp only [eu,eO,O.keysOf,O3.keysOf,gp]
 | arr _ _ _ _=>rfl
 | mp _ _ _=>rfl
 | ml ks cs=>simp only [eu,eO,O.keysOf,O3.keysOf,gp]
 | am _ _ _=>rfl
 | arn _ _ _ _=>simp only [eu,eO];split<;>rfl
theorem mS (e:List Yr):∀ (l:List (Nat×V3 Unit Unit)) (j t k:Nat),k∈(bg (bv (ef (aa Fn FnD m) e l j).1) t).keysOf→∃ p∈l,k∈p.2.keysOf
 | [],j,t,k,h=>by simp [ef,bv,bg,V.keysOf,L.keysOf] at h
 | (t0,v)::l,j,t,k,h=>by
  simp only [ef,bv,K0,bg] at h
  split at h
  ·rw [qn] at h;exact ⟨_,T9 ..,h⟩
  ·obtain ⟨p,hp,hk⟩:=mS e l _ t k h;exact ⟨p,Kz _ hp,hk⟩
theorem oD (e:List Yr):∀ (l:dx Unit Unit Unit Unit) (j q k:Nat) (o:O),ai (aD (iq (aa Fn FnD m) e l j).1) q=some o→k∈o.keysOf→∃ p∈l,k∈p.2.keysOf
 | [],j,q,k,o,h,hk=>by simp [iq,aD,ai] at h
 | (k0,s)::l,j,q,k,o,h,hk=>by
  simp only [iq,aD,K0,ai] at h
  split at h
  ·rw [←O.val_some h,xO] at hk
   exact ⟨_,T9 ..,hk⟩
  ·obtain ⟨p,hp,hk⟩:=oD e l _ q k o h hk;exact ⟨p,Kz _ hp,hk⟩
theorem zV {a b:Ex} (h:Fv a b=true):a=b:=by
 cases a<;>cases b<;>simp [Fv] at h<;>first | rfl | (rw [h])
theorem AL {a b:Option Ex} (h:xz a b=true):a=b:=by
 cases a<;>cases b<;>simp [xz] at h<;>first | rfl | (rw [zV h])
theorem pK {B:Base} {zs:List (Nat×Obj)} {nt:Nat} {rng:Bool} {yv:Value} {w:World} {pk:List Nat} {sk:Sk} {st:j4} {ys:List Yr} {a:Act} (hpr:∀ k,B.ob k≠none→k∈pk) (h:tX (aa Fn FnD m) pk sk st=some ys)
  (hs:Sim2 B zs nt rng yv (bg (eS st).env) (ai (eS st).ob) (eS st).ys a w) :
  Sim2 B zs nt rng yv (bg (eS (eH (aa Fn FnD m) ys sk)).env) (ai (eS (eH (aa Fn FnD m) ys sk)).ob) (eS (eH (aa Fn FnD m) ys sk)).ys a w∧(eH (aa Fn FnD m) ys sk).pend=st.pend:=by
 unfold tX at h
 split at h
 ·rename_i hc
  simp only [Js] at hc
  obtain ⟨⟨⟨h1,h2⟩,h3⟩,h4⟩:=hc
  split at h
  ·rename_i xs zs' hx hz
   cases h
   obtain ⟨a1,a2⟩:=(At.self (xs++zs')).append
   obtain ⟨e1,e2⟩:=sy sk.env xs hx (xs++zs') 0 a1
   have e3:=vA sk.ob zs' hz (xs++zs') (0+xs.length) a2
   simp only [C7,Js,Kt,Tj] at h1
   obtain ⟨s1,s2⟩:=h1
   rw [Kt] at h2
   have hob:(eS (eH (aa Fn FnD m) (xs++zs') sk)).ob=aD (iq (aa Fn FnD m) (xs++zs') sk.ob (0+xs.length)).1:=by
    show aD (iq (aa Fn FnD m) (xs++zs') sk.ob (ef (aa Fn FnD m) (xs++zs') sk.env 0).2).1=_
    rw [e2]
   have henv:(eS (eH (aa Fn FnD m) (xs++zs') sk)).env=bv (ef (aa Fn FnD m) (xs++zs') sk.env 0).1:=rfl
   obtain ⟨U,ι,ds,hm,he0,hzs,hdf,hnd,hds,hrg,hsz,hv,hy⟩:=hs
   have g1:∀ k,ai (eS (eH (aa Fn FnD m) (xs++zs') sk)).ob k=ai (eS st).ob k∨ai (eS (eH (aa Fn FnD m) (xs++zs') sk)).ob k=none:=by
    intro k
    rw [hob]
    by_cases hk:k∈sk.ob.map (·.1)
    ·left;exact (e3 k).1 hk
    ·right;exact (e3 k).2 hk
   have gk:∀ k,k∈sk.ob.map (·.1)→ai (eS (eH (aa Fn FnD m) (xs++zs') sk)).ob k=ai (eS st).ob k:=by
    intro k hk;rw [hob];exact (e3 k).1 hk
   have g2:∀ k∈pk,ai (eS (eH (aa Fn FnD m) (xs++zs') sk)).ob k=ai (eS st).ob k:=fun k hk=>gk k (by simpa using h2 k hk)
   have g4:∀ k o,ai (eS (eH (aa Fn FnD m) (xs++zs') sk)).ob k=some o→∀ j∈o.keysOf,ai (eS (eH (aa Fn FnD m) (xs++zs') sk)).ob j=ai (eS st).ob j:=by
    intro k o hk j hj
    rw [hob] at hk
    obtain ⟨p,hp,hjp⟩:=oD _ _ _ _ _ _ hk hj
    exact gk j (s2 p hp j hjp)
   refine ⟨⟨U,ι,ds,hm.sub g1 g4,he0.subO g1 (fun k hk=>g2 k (hpr k hk)),hzs.sub g1,hdf,hnd,hds,hrg,hsz,fun t=>?_,fun t ht=>hy t ?_⟩,(AL h3)⟩
   ·rw [henv]
    rcases e1 t with h5 | h5
    ·rw [h5]
     refine VR.keys _ _ (fun j hj=>?_) (hv t)
     refine gk j ?_
     replace hj:j∈(bg (bv st.env) t).keysOf:=hj
     rw [←h5] at hj
     obtain ⟨p,hp,hjp⟩:=mS _ _ _ _ _ hj
     exact s1 p hp j hjp
    ·rw [h5];simp [VR,LR]
   ·have:=Kt.1 h4 t ht
    show t∈st.ys
    simpa using this
  ·cases h
 ·cases h
end
section
variable {P:Program} {Fn:Nat→List D→az} {m0:Nat} {cfg:Cf3}
abbrev Hdr:=Hd3 D Nat Rr Mr az
abbrev Iu:=GO D Nat Rr Mr az
abbrev dJ (P:Program) (cfg:Cf3) (Fn:Nat→List D→az) (m0:Nat):Pr D Nat Rr (List D) Mr (List Yr) az:=aa Fn (dW P cfg Fn) m0
def tcf (cfg:Cf3):Cf:=⟨fun _ _=>none,cfg.inl,fun _ _=>none,cfg.draw,fun _ _=>none⟩
def HdOK3 (P:Program) (hd:Option Hdr) (B:Base) (zsOf:Option Ex→List (Nat×Obj)) (yv:Value):Prop :=
 ∀ h,hd=some h→∃ l,yv=.func (.yield l) #[] #[]∧∀ (vals:List cv) (ob:Ur) (k:Option Ex→Ur→az) (r:Nat×List Yr),h vals ob k=some r →
  ∀ (m:Nat) (w:World) (U:Nat→Prop) (ι:Pl) (as:Array Value),Mem w U ι (ai (aD ob))→Evo B.w B.U B.ι B.ob w U ι (ai (aD ob))→Zs w U ι (ai (aD ob)) (zsOf none)→VF w U ι (ai (aD ob)) (cI vals) as.toList →
   YieldAt (FW none) m P l as w fun e w'=>∃ p ob' U' ι',e=.returned (.bool p.isNone)∧k p ob'=some r∧Mem w' U' ι' (ai (aD ob'))∧Keep w U ι (ai (aD ob)) w' U' ι' (ai (aD ob'))∧Evo B.w B.U B.ι B.ob w' U' ι' (ai (aD ob'))∧Zs w' U' ι' (ai (aD ob')) (zsOf p)
def qO (P:Program) (rn:Iu):Prop :=
 ∀ (f:Nat) (args:List cv) (b:Nat) (ob:Ur) (kk:cv→Ur→az) (r:Nat×List Yr),rn f args b ob kk=some r →
  (∀ (as:Array Value) (w:World),(callFunc f as).run P w=.ok (.enter f as) w) ∧
  ∀ (m:Nat) (w:World) (U:Nat→Prop) (ι:Pl) (as:Array Value),Mem w U ι (ai (aD ob))→VF w U ι (ai (aD ob)) (cI args) as.toList →
   CallsIn (FW none) m P f as w fun e w'=>∃ v vv ob' U' ι',e=.returned vv∧kk v ob'=some r∧Mem w' U' ι' (ai (aD ob'))∧Evo w U ι (ai (aD ob)) w' U' ι' (ai (aD ob'))∧VR w' U' ι' (ai (aD ob')) (eV v) vv
abbrev cT (B:Base) (zsOf:Option Ex→List (Nat×Obj)) (fr:Fr) (yv:Value) (st:j4) (a:Act) (w:World):Prop:=SimT B zsOf fr yv (eS st) a w
theorem xN {ys:List Nat} {ρ:Operand→cv} {o:Oper} {d:Nat} (h:gT cfg ys ρ o=.copy d):∃ u,u∈ys∧o.dst=some d∧(o.op=.move (.tmp u)∨o.op=.assign (.tmp u)):=by
 unfold gT at h
 split at h
 ·rename_i x hop
  split at h
  ·rename_i hy hd
   cases h
   obtain ⟨u,rfl,hu⟩:=pG hy
   exact ⟨u,hu,hd,.inl hop⟩
  ·cases h
 ·rename_i x hop
  split at h
  ·rename_i hy hd
   cases h
   obtain ⟨u,rfl,hu⟩:=pG hy
   exact ⟨u,hu,hd,.inr hop⟩
  ·cases h
 ·split at h
  ·cases h
  ·split at h
   ·cases h
   ·split at h
    ·split at h
     ·cases h
     ·split at h
      ·cases h
      ·split at h<;>cases h
    ·cases h
theorem B1 {ys:List Nat} {ρ:Operand→cv} {o:Oper} {args:List Operand} (h:gT cfg ys ρ o=.yld args):∃ u as ts,u∈ys∧o.op=.call ⟨.value (.tmp u),as,ts⟩∧args=as.toList:=by
 unfold gT at h
 split at h
 ·split at h<;>cases h
 ·split at h<;>cases h
 ·split at h
  ·cases h
  ·rename_i fo args' hc
   split at h
   ·rename_i hy
    cases h
    obtain ⟨u,rfl,hu⟩:=pG hy
    obtain ⟨as,ts,hop,rfl⟩:=gb hc
    exact ⟨u,as,ts,hu,hop,rfl⟩
   ·split at h
    ·split at h
     ·cases h
     ·split at h
      ·cases h
      ·split at h<;>cases h
    ·cases h
def gZ (v:V) (args:List V):Option (Nat×List V):=match oX v with
 | some (f,caps)=>some (f,args++caps.map .one)
 | none=>match oJ v with
  | some (f,caps)=>some (f,caps.map .one++args)
  | none=>none
theorem sE {w:World} {U:Nat→Prop} {ι:Pl} {ob:Ob} {env:Nat→V} {a:Act} {o:Oper} {fo:Operand} {as:Array Operand} {ts:Array TypeId} {f:Nat} {xs:List V} (hop:o.op=.call ⟨.value fo,as,ts⟩) (hv:∀ t,VR w U ι ob (env t) (a.tmps.getD t undef))
  (hcall:∀ (vs:Array Value) (w:World),(callFunc f vs).run P w=.ok (.enter f vs) w) (h:gZ (ev env fo) (as.toList.map (ev env))=some (f,xs)):∃ us:Array Value,(execOp a.eval o).run P w=.ok (.enter f us) w∧VF w U ι ob xs us.toList:=by
 unfold gZ at h
 split at h
 ·rename_i f' caps hf
  cases h
  obtain ⟨cs,hcv,hcl⟩:=tT (qF hv fo) hf
  refine ⟨as.map a.eval++cs,?_,?_⟩
  ·unfold execOp;rw [hop];simp [resolve,hcv,Deferred.ofValue,invoke,hcall]
  ·rw [To,Tr]
   exact oe (kI (qF hv) as.toList) (Ai hcl)
 ·split at h
  ·rename_i f' caps hf
   cases h
   obtain ⟨cs,hcv,hcl⟩:=vr (qF hv fo) hf
   refine ⟨cs++as.map a.eval,?_,?_⟩
   ·unfold execOp;rw [hop];simp [resolve,hcv,Deferred.ofValue,invoke,hcall]
   ·rw [To,Tr]
    exact oe (Ai hcl) (kI (qF hv) as.toList)
  ·cases h
theorem By {v:cv} {args as:List cv} {f:Nat} {caps:List gx} (h:u3 v args=some (f,as,caps)):gZ (eV v) (cI args)=some (f,cI as):=by
 unfold u3 at h
 split at h
 ·rename_i f' caps'
  simp only [gZ,eV,eL,oX,oJ]
  split at h
  ·rename_i hlt
   cases h
   simp [K9 hlt,dw,bj,eV,T3]
  ·rename_i hlt
   simp only [Jr,Ku] at h
   obtain ⟨rfl,rfl,rfl⟩:=h
   simp [Kg hlt,dw,bj,eV,T3]
 ·cases h
theorem nO {ys:List Nat} {ρ:Operand→cv} {o:Oper} {f:Nat} {args:List cv} (h:gT cfg ys ρ o=.inl f args):∃ fo as ts,o.op=.call ⟨.value fo,as,ts⟩∧gZ (eV (ρ fo)) (as.toList.map fun x=>eV (ρ x))=some (f,cI args):=by
 unfold gT at h
 split at h
 ·split at h<;>cases h
 ·split at h<;>cases h
 ·split at h
  ·cases h
  ·rename_i fo args' hc
   split at h
   ·cases h
   ·split at h
    ·rename_i f' as' caps hf
     have main:f'=f→as'=args→∃ fo as ts,o.op=.call ⟨.value fo,as,ts⟩∧gZ (eV (ρ fo)) (as.toList.map fun x=>eV (ρ x))=some (f,cI args):=by
      rintro rfl rfl
      obtain ⟨as,ts,hop,rfl⟩:=gb hc
      refine ⟨fo,as,ts,hop,?_⟩
      have:=By hf
      rwa [dw,Mn] at this
     split at h
     ·cases h;exact main rfl rfl
     ·split at h
      ·cases h;exact main rfl rfl
      ·split at h
       ·cases h;exact main rfl rfl
       ·cases h
    ·cases h
theorem jg {st:j4} {dst:Option Nat} {v:cv} {ob:Ur}:bg (bv (gC dst v ob st).env)=jO dst (eV v) (bg (bv st.env)):=by
 funext t
 cases dst with
 | none=>simp [gC,jO]
 | some d =>
  simp only [gC,bv,K0,bg,jO,Jr]
  by_cases h:t=d
  ·simp [h]
  ·simp [h,Ne.symm h]
theorem ia (hF:mo P cfg Fn) {fr:Fr} {hd:Option Hdr} {rn:Iu} {B:Base} {zsOf:Option Ex→List (Nat×Obj)} {yv:Value} (hrn:qO P rn) (hhd:HdOK3 P hd B zsOf yv) {ro:Option Nat} (hro:hd.isSome=true→fr.rng=false∧ro=none)
  {o:Oper} {st:j4} {k:j4→az} {r:Nat×List Yr} {a:Act} {w:World} (h:xp (dJ P cfg Fn m0) cfg P fr hd rn o st k=some r) (hs:cT B zsOf fr yv st a w) {m:Nat} {K:Act→World→Prop} {R:Exit→Act→World→Prop}
  (hK:∀ st' a' w',k st'=some r→cT B zsOf fr yv st' a' w'→K a' w'):o.wpIn (FW ro) m P a w K R:=by
 have hev:∀ x,ev (bg (bv st.env)) x=eV (wV (dJ P cfg Fn m0) st.env x):=fun x=>(ye st.env x).symm
 unfold xp at h
 split at h
 case isFalse=>cases h
 rename_i hd'
 split at h
 ·rename_i d hk
  obtain ⟨u,hu,hdst,hop⟩:=xN hk
  obtain ⟨U,ι,ds,hm,he0,hz,hdf,hnd,hds,hrg,hsz,hv,hy⟩:=hs
  have hnd':∀ c,o.op≠.defer c:=by rintro c hc;rcases hop with e | e<;>rw [e] at hc<;>cases hc
  have hrun:(execOp a.eval o).run P w=.ok (.value yv) w:=by
   have:a.eval (.tmp u)=yv:=hy u hu
   rcases hop with e | e<;>(unfold execOp;rw [e];simp only [this];rfl)
  unfold Oper.wpIn
  refine ⟨fun f _=>lI ro f,?_⟩
  rw [Oper.semAt_eq _ _ _ hnd',hrun]
  refine hK _ _ _ h ?_
  rw [hdst] at hd'
  have hlt:∀ d',some d=some d'→d' < a.tmps.size:=fun d' e=>by cases e;rw [hsz];simpa [iu] using hd'
  rw [hdst]
  refine ⟨U,ι,ds,hm,he0,hz,by rw [jM,hdf],hnd,hds,hrg,by rw [mF,hsz],fun t=>?_,fun t ht=>?_⟩
  ·rw [l7 a (some d) yv t hlt]
   simp only [eS,bv,K0,bg]
   by_cases ht:t=d
   ·simp [ht,VR,LR,eV,eL]
   ·rw [Kg ht,Kg (by simpa using Ne.symm ht)];exact hv t
  ·rw [l7 a (some d) yv t hlt]
   by_cases e:d=t
   ·simp [e]
   ·rw [Kg (by simpa using e)]
    rcases Ki.1 ht with rfl | ht
    ·exact absurd rfl e
    ·exact hy t ht
 ·rename_i args hk
  obtain ⟨u,as,ts,hu,hop,rfl⟩:=B1 hk
  split at h
  ·rename_i hh hp
   obtain ⟨hrng,hro⟩:=hro rfl
   obtain ⟨l,hyv,hY⟩:=hhd hh rfl
   obtain ⟨U,ι,ds,hm,he0,hz,hdf,hnd,hds,hrg,hsz,hv,hy⟩:=hs
   have hds0:=hrg hrng
   subst hds0
   have hz':Zs w U ι (ai (aD st.ob)) (zsOf none):=by
    have hp':(eS st).pend=none:=hp
    rw [hp'] at hz;exact hz
   have hvals:VF w U ι (ai (aD st.ob)) (cI (as.toList.map (wV (dJ P cfg Fn m0) st.env))) (as.map a.eval).toList:=by
    rw [dw,Mn,Tr]
    have:=kI (qF hv) as.toList
    rwa [show (ev (bg (eS st).env))=eV ∘ wV (dJ P cfg Fn m0) st.env from funext hev] at this
   have hYw:=hY _ _ _ _ h (m - 1) w U ι (as.map a.eval) hm he0 hz' hvals
   obtain ⟨fn,tmps,assign,body,h1,h2⟩:=hYw
   have hnd':∀ c,o.op≠.defer c:=by rintro c hc;rw [hop] at hc;cases hc
   have hev':a.eval (.tmp u)=.func (.yield l) #[] #[]:=(hy u hu).trans hyv
   have hrun:(execOp a.eval o).run P w=.ok (.round l fn tmps assign body) w:=by
    unfold execOp;rw [hop];simp [resolve,hev',Deferred.ofValue,invoke,h1]
   unfold Oper.wpIn
   refine ⟨fun f _=>lI ro f,?_⟩
   rw [Oper.semAt_eq _ _ _ hnd',hrun]
   subst hro
   refine ⟨fun hc=>(by cases hc),RoundIn.mono h2 fun e w' ⟨p,ob',U',ι',h3,h4,h5,h6,h7,h8⟩=>?_⟩
   subst h3
   refine hK _ _ _ h4 ?_
   have hlt:∀ d,o.dst=some d→d < a.tmps.size:=fun d hdd=>by rw [hdd] at hd';rw [hsz];simpa [iu] using hd'
   refine ⟨U',ι',[],h5,h7,h8,by rw [jM,hdf],hnd,hds,hrg,by rw [mF,hsz],fun t=>?_,fun t ht=>?_⟩
   ·show VR w' U' ι' (ai (aD ob')) (bg (bv (gC o.dst (.one (.b p.isNone)) ob' st).env) t) _
    rw [l7 a o.dst _ t hlt,jg]
    simp only [jO]
    split
    ·exact bE rfl
    ·exact VR.keep h6 _ _ (hv t)
   ·obtain ⟨h9,h10⟩:=sg ht
    rw [l7 a o.dst _ t hlt,Kg h10]
    exact hy t h9
  ·cases h
 ·rename_i f args hk
  obtain ⟨fo,as,ts,hop,hf⟩:=nO hk
  obtain ⟨hcall,hrun⟩:=hrn f _ _ _ _ _ h
  obtain ⟨U,ι,ds,hm,he0,hz,hdf,hnd,hds,hrg,hsz,hv,hy⟩:=hs
  have hnd':∀ c,o.op≠.defer c:=by rintro c hc;rw [hop] at hc;cases hc
  rw [←hev,show (as.toList.map fun x=>eV (wV (dJ P cfg Fn m0) st.env x))=as.toList.map (ev (bg (bv st.env))) from T7 fun x _=>(hev x).symm] at hf
  obtain ⟨us,hex,hvals⟩:=sE hop hv hcall hf
  unfold Oper.wpIn
  refine ⟨fun f _=>lI ro f,?_⟩
  rw [Oper.semAt_eq _ _ _ hnd',hex]
  refine ⟨fun hc=>(by cases hc),CallsIn.mono (hrun (m - 1) w U ι _ hm hvals:CallsIn (FW ro) (m - 1) P f _ w _) fun e w' ⟨v,vv,ob',U',ι',h1,h2,h3,h4,h5⟩=>?_⟩
  subst h1
  refine hK _ _ _ h2 ?_
  have:=gf (yv:=yv) he0 hz hdf hnd hds hrg hsz hv hy hd' h3 h4 h5
  show Sim2 B (zsOf st.pend) fr.nt fr.rng yv (bg (bv (gC o.dst v ob' st).env)) (ai (aD ob')) (lC st.ys o.dst) _ w'
  rw [jg]
  exact this
 ·obtain ⟨v,us,rd,h1,h2,h3⟩:=zb (P:=P) h
  rw [Dx] at h1
  refine uX (C:=j5 cfg Fn) (Ao hF) hs h1 hd' fun a' w' hs'=>hK _ _ _ h3 ?_
  show Sim2 B (zsOf st.pend) fr.nt fr.rng yv (bg (bv (gC o.dst v (cD us st.ob) st).env)) (ai (aD (cD us st.ob))) (lC st.ys o.dst) _ w'
  rw [jg,fR,cL]
  exact hs'
theorem fO {v:cv} {b:Bool} {x:Option D} (h:oG v=(some (some b),x)):eV v=.one (.d (.lit (.bool b))):=by
 unfold oG at h;split at h<;>simp at h
 obtain ⟨rfl,_⟩:=h;simp [eV,eL]
theorem su {v:cv} {x:Option D} (h:oG v=(some none,x)):eV v=.tup []:=by
 unfold oG at h;split at h<;>simp at h
 simp [eV,cI]
theorem gr {v:cv} {x:D} {y:Option (Option Bool)} (h:oG v=(y,some x)) (_:y=none):eV v=.one (.d x):=by
 unfold oG at h;split at h<;>simp at h
 ·rw [←h.2];simp [eV,eL]
theorem oo (hF:mo P cfg Fn) {fr:Fr} {hd:Option Hdr} {rn:Iu} {B:Base} {zsOf:Option Ex→List (Nat×Obj)} {yv:Value} (hrn:qO P rn) (hhd:HdOK3 P hd B zsOf yv) {ro:Option Nat} (hro:hd.isSome=true→fr.rng=false∧ro=none)
  {ops:Array Oper} {o:Oper} {rest:List Oper} {st:j4} {k:j4→az} {r:Nat×List Yr} {a:Act} {w:World} (h:yG (dJ P cfg Fn m0) cfg P fr hd rn ops o st k=some r) (hs:cT B zsOf fr yv st a w) {m:Nat} {Q:Exit→Act→World→Prop}
  (hK:∀ st' a' w',k st'=some r→cT B zsOf fr yv st' a' w'→wpListIn (FW ro) m P ops Q rest a' w'):wpListIn (FW ro) m P ops Q (o::rest) a w:=by
 have skip:∀ (st0:j4),cT B zsOf fr yv st0 a w→(if iu fr.nt o.dst=true then k (gC o.dst (.tup []) st0.ob st0) else none)=some r→wpListIn (FW ro) m P ops Q rest (a.put o.dst undef) w:=by
  intro st0 hs h
  split at h
  ·rename_i hd'
   refine hK _ _ _ h ?_
   show Sim2 B (zsOf st0.pend) fr.nt fr.rng yv (bg (bv (gC o.dst (.tup []) st0.ob st0).env)) (ai (aD st0.ob)) (lC st0.ys o.dst) _ w
   rw [jg]
   exact Aw hs hd'
  ·cases h
 have push:∀ (gt:Nat) (b:Bool),eV (dc st.env gt)=.one (.d (.lit (.bool b)))→cT B zsOf fr yv { st with env:=(gt,.one (.b b))::st.env } a w:=by
  intro gt b hb
  show Sim2 B (zsOf st.pend) fr.nt fr.rng yv (bg ((gt,bZ (.bool b))::bv st.env)) (ai (aD st.ob)) st.ys a w
  rw [nQ (b:=b) (by rw [eM];exact hb) rfl]
  exact hs
 unfold yG at h
 unfold wpListIn
 cases hg:o.guard with
 | none =>
  rw [hg] at h
  rw [K9 (by simp [Region.wanted,hg])]
  exact ia hF hrn hhd hro h hs hK
 | some jw =>
  obtain ⟨j,want⟩:=jw
  rw [hg] at h
  simp only at h
  split at h
  ·cases h
  ·rename_i gt hgt
   obtain ⟨U,ι,ds,hm,he0,hz,hdf,hnd,hds,hrg,hsz,hv,hy⟩:=id hs
   have bool:∀ b,eV (dc st.env gt)=.one (.d (.lit (.bool b)))→yielded ops a.tmps j=some b:=fun b hb=>jG hv hgt (show bg (bv st.env) gt=_ by rw [eM];exact hb)
   split at h
   ·rename_i hgv
    have hy:yielded ops a.tmps j=none:=mu hv hgt (show bg (bv st.env) gt=_ by rw [eM];exact su hgv)
    rw [Kg (by simp [Region.wanted,hg,hy])]
    exact ⟨fun f _=>lI ro f,skip st hs h⟩
   ·rename_i hgv
    rw [K9 (by simp [Region.wanted,hg,bool _ (fO hgv)])]
    exact ia hF hrn hhd hro h hs hK
   ·rename_i hgv
    rw [K9 (by simp [Region.wanted,hg,bool _ (fO hgv)])]
    exact ia hF hrn hhd hro h hs hK
   ·rename_i hgv hn1 hn2
    have hb:=bool _ (fO hgv)
    rw [Kg ?_]
    ·exact ⟨fun f _=>lI ro f,skip st hs h⟩
    ·simp only [Region.wanted,hg,hb]
     intro hc
     have hc':=eq_of_beq hc
     simp only [Jr] at hc'
     rw [hc'] at hn1 hn2
     exact (Mh _).elim (fun h5=>hn1 h5 h5) (fun h5=>hn2 h5 h5)
   ·rename_i x hgv
    rcases i3 h with ⟨rfl,h⟩ | ⟨rfl,h⟩
    ·have hx:=gr hgv rfl
     rw [K9 (by simp [Region.wanted,hg,bool _ hx])]
     exact ia hF hrn hhd hro h (push _ _ hx) hK
    ·have hx:=gr hgv rfl
     rw [Kg (by simp [Region.wanted,hg,bool _ hx])]
     exact ⟨fun f _=>lI ro f,skip _ (push _ _ hx) h⟩
   ·rename_i x hgv
    rcases i3 h with ⟨rfl,h⟩ | ⟨rfl,h⟩
    ·have hx:=gr hgv rfl
     rw [Kg (by simp [Region.wanted,hg,bool _ hx])]
     exact ⟨fun f _=>lI ro f,skip _ (push _ _ hx) h⟩
    ·have hx:=gr hgv rfl
     rw [K9 (by simp [Region.wanted,hg,bool _ hx])]
     exact ia hF hrn hhd hro h (push _ _ hx) hK
   ·cases h
theorem vC {pk:List Nat} {e:Ex} {st:j4} {j:Nat} {ys:List Yr}:∀ {js:List (Ex×Sk)} {n:Nat},sw (dJ P cfg Fn m0) pk e st js n=some (j,ys)→∃ i x,j=n+i∧js[i]?=some x∧x.1=e∧tX (dJ P cfg Fn m0) pk x.2 st=some ys
 | [],n,h=>by cases h
 | (x,sk)::js,n,h=>by
  have next:sw (dJ P cfg Fn m0) pk e st js (n+1)=some (j,ys)→∃ i x_1,j=n+i∧((x,sk)::js)[i]?=some x_1∧x_1.1=e∧tX (dJ P cfg Fn m0) pk x_1.2 st=some ys:=by
   intro h
   obtain ⟨i,y,h1,h2,h3,h4⟩:=vC h
   exact ⟨i+1,y,by omega,by simpa using h2,h3,h4⟩
  simp only [sw] at h
  split at h
  ·rename_i he
   split at h
   ·rename_i ys' hf
    cases h
    exact ⟨0,(x,sk),rfl,rfl,zV he,hf⟩
   ·exact next h
  ·exact next h
theorem z7 {kind f b p:Nat} {pk:List Nat} {js:List (Ex×Sk)} {e:Ex} {st:j4} {j:Nat} {ys:List Yr} (h:ru (dJ P cfg Fn m0) kind f b p pk js e st=some (j,ys)):∃ x,js[j]?=some x∧x.1=e∧tX (dJ P cfg Fn m0) pk x.2 st=some ys:=by
 unfold ru at h
 split at h
 ·rename_i j' ys' hf
  obtain ⟨i,x,h1,h2,h3,h4⟩:=vC hf
  simp only [aa,Jr,Ku] at h
  obtain ⟨rfl,rfl⟩:=h
  exact ⟨x,by rw [h1];simpa using h2,h3,h4⟩
 ·cases h
theorem rX {pk:List Nat} {js:List (Ex×Sk)} {k:Ex→j4→az} {j:Nat} {kont:List Yr→az} {ys:List Yr} {r:Nat×List Yr} (h:(lN (dJ P cfg Fn m0) pk js k)[j]?=some kont) (hk:kont ys=some r):∃ x,js[j]?=some x∧k x.1 (eH (dJ P cfg Fn m0) ys x.2)=some r:=by
 unfold lN at h
 rw [Kn,K6] at h
 obtain ⟨x,hx,rfl⟩:=h
 refine ⟨x,hx,?_⟩
 cases hb:HQ pk x.2 with
 | true=>simp only [hb] at hk;exact hk
 | false=>simp only [hb] at hk;cases hk
theorem pj {kind f b p:Nat} {pk:List Nat} {js:List (Ex×Sk)} {e:Ex} {st:j4} {j:Nat} {ys:List Yr} {k:Ex→j4→az} {kont:List Yr→az} {r:Nat×List Yr} {B:Base} {zsOf:Option Ex→List (Nat×Obj)} {fr:Fr} {yv:Value} {a:Act} {w:World} (hpr:∀ k,B.ob k≠none→k∈pk)
  (h1:ru (dJ P cfg Fn m0) kind f b p pk js e st=some (j,ys)) (h2:(lN (dJ P cfg Fn m0) pk js k)[j]?=some kont) (h3:kont ys=some r) (hs:cT B zsOf fr yv st a w):∃ st',k e st'=some r∧cT B zsOf fr yv st' a w:=by
 obtain ⟨x,g1,g2,g3⟩:=z7 h1
 obtain ⟨y,g4,g5⟩:=rX h2 h3
 rw [g1] at g4
 cases g4
 obtain ⟨g6,g7⟩:=pK hpr g3 hs
 rw [g2] at g5
 refine ⟨_,g5,?_⟩
 show Sim2 B (zsOf (eH (dJ P cfg Fn m0) ys x.2).pend) _ _ _ _ _ _ _ _
 rw [g7]
 exact g6
theorem xA (hF:mo P cfg Fn) {fr:Fr} {hd:Option Hdr} {rn:Iu} {B:Base} {zsOf:Option Ex→List (Nat×Obj)} {yv:Value} (hpr:∀ k,B.ob k≠none→k∈fr.pr) (hrn:qO P rn) (hhd:HdOK3 P hd B zsOf yv) {ro:Option Nat} (hro:hd.isSome=true→fr.rng=false∧ro=none)
  {ops:Array Oper} {id:Nat} {m:Nat} {Q:Exit→Act→World→Prop}:∀ (n i:Nat) (l l2:List Oper) (st:j4) (k:j4→az) (r:Nat×List Yr) (a:Act) (w:World),tr (dJ P cfg Fn m0) cfg P fr hd rn ops id n i l st k=some r→cT B zsOf fr yv st a w →
   (∀ st' a' w',k st'=some r→cT B zsOf fr yv st' a' w'→wpListIn (FW ro) m P ops Q l2 a' w')→wpListIn (FW ro) m P ops Q (l++l2) a w:=by
 intro n
 induction n with
 | zero =>
  intro i l l2 st k r a w h hs hQ
  cases l with
  | nil=>simp only [tr] at h;exact hQ _ _ _ h hs
  | cons o l=>simp [tr,aa] at h
 | succ n ih =>
  intro i l l2 st k r a w h hs hQ
  cases l with
  | nil=>simp only [tr] at h;exact hQ _ _ _ h hs
  | cons o rest =>
   simp only [tr] at h
   split at h
   ·exact oo hF hrn hhd hro h hs fun st' a' w' hk hs'=>ih _ _ _ _ _ _ _ _ hk hs' hQ
   ·rename_i len cs _
    split at h
    ·cases h
    ·rename_i c js _
     obtain ⟨j,ys,kont,h1,h2,h3⟩:=gi h
     refine oo hF hrn hhd hro h1 hs fun st' a' w' hk hs'=>?_
     have:=ih (i+1) (rest.take len) (rest.drop len++l2) st' _ (j,ys) a' w' hk hs' fun st2 a2 w2 hk2 hs2=>by
      obtain ⟨st3,g1,g2⟩:=pj hpr hk2 h2 h3 hs2
      exact ih _ _ _ _ _ _ _ _ g1 g2 hQ
     rwa [←Kh,Mt] at this
end
section
mutual
def L.ren (σ:Nat→Nat):L→L
 | .d x=>.d x
 | .slk k off n c=>.slk (σ k) off n c
 | .pa k i off c=>.pa (σ k) i off c
 | .ptr k off=>.ptr (σ k) off
 | .fn f caps=>.fn f (L.renF σ caps)
 | .mk k=>.mk (σ k)
 | .mq k=>.mq (σ k)
 | .pb k j off=>.pb (σ k) j off
 | .sln k n=>.sln (σ k) n
 | .undef=>.undef
def L.renF (σ:Nat→Nat):List L→List L
 | []=>[]
 | x::xs=>x.ren σ::L.renF σ xs
end
def O.ren (σ:Nat→Nat):O→O
 | .box cells elem=>.box (L.renF σ cells) elem
 | .arr rows size elem own=>.arr rows size elem own
 | .mp agg keys vals own=>.mp agg keys vals own
 | .ml keys vals=>.ml keys (L.renF σ vals)
 | .am keys rows size elem=>.am keys rows size elem
 | .nul=>.nul
theorem O.ren_isAm (σ:Nat→Nat) (o:O):(o.ren σ).isAm=o.isAm:=by cases o<;>rfl
theorem O.ren_owned (σ:Nat→Nat) (o:O):(o.ren σ).owned=o.owned:=by cases o<;>rfl
def p0 (σ:Nat→Nat) (K:Nat→Prop) (ι1:Pl) (ob1:Ob) (ι2:Pl) (ob2:Ob):Prop:=∀ k,K k→ι2 (σ k)=ι1 k∧ob2 (σ k)=(ob1 k).map (O.ren σ)
section
variable {w:World} {U:Nat→Prop} {ι1 ι2:Pl} {ob1 ob2:Ob} {σ:Nat→Nat} {K:Nat→Prop}
mutual
theorem LR.told (h:p0 σ K ι1 ob1 ι2 ob2):∀ (x:L) (v:Value),(∀ k∈x.keysOf,K k)→LR w U ι1 ob1 x v→LR w U ι2 ob2 (x.ren σ) v
 | .d x,v,_,hx=>by simpa only [LR,L.ren] using hx
 | .slk k off n c,v,hk,hx=>by
  obtain ⟨h1,h2⟩:=h k (hk k (by simp [L.keysOf]))
  simp only [LR,L.ren] at hx ⊢
  obtain ⟨rows,size,elem,own,g1,g2⟩:=hx
  rw [h1]
  exact ⟨rows,size,elem,own,by rw [h2,g1];rfl,g2⟩
 | .pa k i off c,v,hk,hx=>by
  obtain ⟨h1,h2⟩:=h k (hk k (by simp [L.keysOf]))
  simp only [LR,L.ren] at hx ⊢
  obtain ⟨rows,size,elem,own,g1,g2⟩:=hx
  rw [h1]
  exact ⟨rows,size,elem,own,by rw [h2,g1];rfl,g2⟩
 | .ptr k off,v,hk,hx=>by
  obtain ⟨h1,h2⟩:=h k (hk k (by simp [L.keysOf]))
  simp only [LR,L.ren] at hx ⊢
  obtain ⟨cells,elem,g1,g2⟩:=hx
  rw [h1]
  exact ⟨_,elem,by rw [h2,g1];rfl,g2⟩
 | .fn f caps,v,hk,hx=>by
  simp only [LR,L.ren] at hx ⊢
  obtain ⟨cs,g1,g2⟩:=hx
  exact ⟨cs,g1,LF.told h caps cs.toList (fun k hkk=>hk k (by simpa [L.keysOf] using hkk)) g2⟩
 | .mk k,v,hk,hx=>by
  obtain ⟨h1,h2⟩:=h k (hk k (by simp [L.keysOf]))
  simp only [LR,L.ren] at hx ⊢
  obtain ⟨agg,keys,vals,own,g1,g2⟩:=hx
  rw [h1]
  exact ⟨agg,keys,vals,own,by rw [h2,g1];rfl,g2⟩
 | .mq k,v,hk,hx=>by
  obtain ⟨h1,h2⟩:=h k (hk k (by simp [L.keysOf]))
  simp only [LR,L.ren] at hx ⊢
  rw [h1,h2]
  obtain ⟨⟨keys,vals,g1⟩ | ⟨keys,rows,size,elem,g1⟩,g2⟩:=hx
  ·exact ⟨.inl ⟨_,_,by rw [g1];rfl⟩,g2⟩
  ·exact ⟨.inr ⟨_,_,_,_,by rw [g1];rfl⟩,g2⟩
 | .pb k j off,v,hk,hx=>by
  obtain ⟨h1,h2⟩:=h k (hk k (by simp [L.keysOf]))
  simp only [LR,L.ren] at hx ⊢
  rw [h1,h2]
  obtain ⟨⟨keys,rows,size,elem,g1⟩,g2⟩:=hx
  exact ⟨⟨_,_,_,_,by rw [g1];rfl⟩,g2⟩
 | .sln k n,v,hk,hx=>by
  obtain ⟨h1,h2⟩:=h k (hk k (by simp [L.keysOf]))
  simp only [LR,L.ren] at hx ⊢
  refine hx.imp id ?_
  rintro ⟨g0,rows,size,elem,own,g1,g2⟩
  rw [h1]
  exact ⟨g0,rows,size,elem,own,by rw [h2,g1];rfl,g2⟩
 | .undef,v,_,_=>by simp [LR,L.ren]
theorem LF.told (h:p0 σ K ι1 ob1 ι2 ob2):∀ (xs:List L) (vs:List Value),(∀ k∈L.keysF xs,K k)→LF w U ι1 ob1 xs vs→LF w U ι2 ob2 (L.renF σ xs) vs
 | [],vs,_,hx=>by simpa [LF,L.renF] using hx
 | x::xs,vs,hk,hx=>by
  simp only [LF,L.renF] at hx ⊢
  obtain ⟨v,vs',g1,g2,g3⟩:=hx
  exact ⟨v,vs',g1,LR.told h x v (fun k hkk=>hk k (by simp [L.keysF,hkk])) g2,LF.told h xs vs' (fun k hkk=>hk k (by simp [L.keysF,hkk])) g3⟩
end
theorem ER.told (h:p0 σ K ι1 ob1 ι2 ob2):∀ (ks:List Value) (xs:List L) (es:List MapEntry),(∀ k∈L.keysF xs,K k)→ER w U ι1 ob1 ks xs es→ER w U ι2 ob2 ks (L.renF σ xs) es
 | [],[],[],_,_=>by simp [ER,L.renF]
 | k::ks,x::xs,e::es,hk,hx=>by
  simp only [ER,L.renF] at hx ⊢
  exact ⟨hx.1,hx.2.1,LR.told h x _ (fun k hkk=>hk k (by simp [L.keysF,hkk])) hx.2.2.1,ER.told h ks xs es (fun k hkk=>hk k (by simp [L.keysF,hkk])) hx.2.2.2⟩
 | [],[],_::_,_,h=>by simp [ER] at h
 | [],_::_,_,_,h=>by simp [ER] at h
 | _::_,[],_,_,h=>by simp [ER] at h
 | _::_,_::_,[],_,h=>by simp [ER] at h
theorem OR.told (h:p0 σ K ι1 ob1 ι2 ob2) {k:Nat} {o:O} (hk:ι2 (σ k)=ι1 k) (hc:∀ j∈o.keysOf,K j) (ho:OR w U ι1 ob1 k o):OR w U ι2 ob2 (σ k) (o.ren σ):=by
 cases o with
 | box cells elem =>
  obtain ⟨cur,g1,g2,g3⟩:=ho
  simp only [OR,O.ren,hk]
  exact ⟨cur,g1,LF.told h _ _ (fun j hj=>hc j (by simpa [O.keysOf] using hj)) g2,g3⟩
 | arr rows size elem own=>simpa only [OR,O.ren,hk] using ho
 | mp agg keys vals own=>simpa only [OR,O.ren,hk] using ho
 | ml keys vals =>
  obtain ⟨es,clock,g1,g2,g3⟩:=ho
  simp only [OR,O.ren,hk]
  exact ⟨es,clock,g1,ER.told h _ _ _ (fun j hj=>hc j (by simpa [O.keysOf] using hj)) g2,g3⟩
 | am keys rows size elem=>simpa only [OR,O.ren,hk] using ho
 | nul=>exact ho.elim
end
structure Given (ρ σ:Nat→Nat) (C K:Nat→Prop) (ι:Pl) (ob:Ob) (ιc:Pl) (obc:Ob):Prop where
 back:∀ k,K k→C (σ k)∧ρ (σ k)=k
 forth:∀ c,C c→K (ρ c)∧σ (ρ c)=c
 told:p0 σ K ι ob ιc obc
 dom:∀ c o,obc c=some o→C c
 owned:∀ k,K k→∃ o,ob k=some o∧o.owned=true
 shut:∀ k o,K k→ob k=some o→∀ j∈o.keysOf,K j
section
variable {w:World} {U:Nat→Prop} {ι ιc:Pl} {ob obc:Ob} {ρ σ:Nat→Nat} {C K:Nat→Prop}
theorem Given.at_ (g:Given ρ σ C K ι ob ιc obc) {c:Nat} {o:O} (h:obc c=some o):∃ o1,ob (ρ c)=some o1∧o=o1.ren σ∧K (ρ c)∧(ιc c)=ι (ρ c)∧o1.owned=true:=by
 have hc:=g.dom c o h
 obtain ⟨hk,hs⟩:=g.forth c hc
 obtain ⟨h1,h2⟩:=g.told _ hk
 obtain ⟨o1,h3,h4⟩:=g.owned _ hk
 rw [hs] at h1 h2
 rw [h,h3] at h2
 simp only [M3,Jr] at h2
 exact ⟨o1,h3,h2,hk,h1,h4⟩
theorem Given.mem (g:Given ρ σ C K ι ob ιc obc) (hm:Mem w U ι ob):Mem w U ιc obc:=by
 refine ⟨hm.lt,fun c o hc=>?_,fun c c' o o' hc hc' h1 h2 hne=>?_,fun c o hc ha=>?_⟩
 ·obtain ⟨o1,h1,rfl,h3,h4,_⟩:=g.at_ hc
  have hs:=(g.forth c (g.dom c _ hc)).2
  have:=OR.told (k:=ρ c) g.told (by rw [hs];exact h4) (g.shut _ _ h3 h1) (hm.obj _ _ h1)
  rwa [hs] at this
 ·obtain ⟨o1,g1,rfl,g3,g4,g5⟩:=g.at_ hc
  obtain ⟨o1',g1',rfl,g3',g4',g5'⟩:=g.at_ hc'
  rw [g4,g4']
  refine hm.inj _ _ _ _ g1 g1' g5 g5' fun e=>hne ?_
  have:=(g.forth c (g.dom c _ hc)).2
  rw [e,(g.forth c' (g.dom c' _ hc')).2] at this
  exact this.symm
 ·obtain ⟨o1,g1,rfl,g3,g4,g5⟩:=g.at_ hc
  rw [g4]
  exact hm.one _ _ g1 (by rw [O.ren_isAm] at ha;exact ha)
theorem Given.back_ (g:Given ρ σ C K ι ob ιc obc) (hm:Mem w U ι ob) {w':World} {U':Nat→Prop} {ιc' ι':Pl} {obc' ob':Ob} (hm':Mem w' U' ιc' obc') (he:Evo w U ιc obc w' U' ιc' obc')
  (hin:∀ k,K k→ι' k=ιc' (σ k)∧ob' k=(obc' (σ k)).map (O.ren ρ)) (hout:∀ k,¬ K k→ι' k=ι k∧ob' k=ob k)
  (hdom:∀ c o,obc' c=some o→C c∧∀ j∈o.keysOf,C j):Mem w' U' ι' ob'∧Evo w U ι ob w' U' ι' ob':=by
 have htold:p0 ρ C ιc' obc' ι' ob':=fun c hc=>by
  obtain ⟨hk,hs⟩:=g.forth c hc
  obtain ⟨h1,h2⟩:=hin _ hk
  rw [hs] at h1 h2
  exact ⟨h1,h2⟩
 have hsrc:∀ c o,obc c=some o→o.owned=true→∃ o1,ob (ρ c)=some o1∧o1.owned=true∧ιc c=ι (ρ c):=fun c o hc _=>by
  obtain ⟨o1,h1,_,_,h4,h5⟩:=g.at_ hc
  exact ⟨o1,h1,h5,h4⟩
 have hev:Evo w U ι ob w' U' ι' ob':=by
  refine ⟨he.os,he.tape,he.output,he.size,he.kept,he.sub,?_,?_,?_,?_,?_,?_,?_,?_⟩
  ·intro k cells elem hk
   by_cases hK:K k
   ·obtain ⟨t1,t2⟩:=g.told k hK
    rw [hk] at t2
    obtain ⟨cells',h1,h2⟩:=he.box (σ k) _ elem t2
    obtain ⟨i1,i2⟩:=hin k hK
    exact ⟨_,by rw [i2,h1];rfl,by rw [i1,h2,t1]⟩
   ·obtain ⟨i1,i2⟩:=hout k hK
    exact ⟨cells,by rw [i2,hk],by rw [i1]⟩
  ·intro k rows size elem own hk
   by_cases hK:K k
   ·obtain ⟨t1,t2⟩:=g.told k hK
    rw [hk] at t2
    obtain ⟨rows',own',h1,h2,h3⟩:=he.arr (σ k) rows size elem own t2
    obtain ⟨i1,i2⟩:=hin k hK
    exact ⟨rows',own',by rw [i2,h1];rfl,h2,fun e=>by rw [i1,h3 e,t1]⟩
   ·obtain ⟨i1,i2⟩:=hout k hK
    exact ⟨rows,own,by rw [i2,hk],Ko _,fun _=>i1⟩
  ·intro k agg keys vals own hk
   by_cases hK:K k
   ·obtain ⟨t1,t2⟩:=g.told k hK
    rw [hk] at t2
    obtain ⟨keys',vals',own',h1,h2⟩:=he.mp (σ k) agg keys vals own t2
    obtain ⟨i1,i2⟩:=hin k hK
    exact ⟨keys',vals',own',by rw [i2,h1];rfl,by rw [i1,h2,t1]⟩
   ·obtain ⟨i1,i2⟩:=hout k hK
    exact ⟨keys,vals,own,by rw [i2,hk],by rw [i1]⟩
  ·intro k keys vals hk
   by_cases hK:K k
   ·obtain ⟨t1,t2⟩:=g.told k hK
    rw [hk] at t2
    obtain ⟨keys',vals',h1,h2⟩:=he.ml (σ k) keys _ t2
    obtain ⟨i1,i2⟩:=hin k hK
    exact ⟨_,_,by rw [i2,h1];rfl,by rw [i1,h2,t1]⟩
   ·obtain ⟨i1,i2⟩:=hout k hK
    exact ⟨keys,vals,by rw [i2,hk],by rw [i1]⟩
  ·intro k keys rows size elem hk
   by_cases hK:K k
   ·obtain ⟨t1,t2⟩:=g.told k hK
    rw [hk] at t2
    obtain ⟨keys',rows',h1,h2,h3⟩:=he.am (σ k) keys rows size elem t2
    obtain ⟨i1,i2⟩:=hin k hK
    exact ⟨_,_,by rw [i2,h1];rfl,by rw [i1,h2,t1],by rw [i1,← t1];exact h3⟩
   ·obtain ⟨i1,i2⟩:=hout k hK
    exact ⟨keys,rows,by rw [i2,hk],by rw [i1],by rw [i1];exact List.prefix_refl _⟩
  ·intro b hb hno
   refine he.same b hb fun c o hc ho heq=>?_
   obtain ⟨o1,h1,h2,h3⟩:=hsrc c o hc ho
   exact hno _ _ h1 h2 (by rw [←h3];exact heq)
  ·intro k o hk ho b hb
   by_cases hK:K k
   ·obtain ⟨i1,i2⟩:=hin k hK
    rw [i2] at hk
    obtain ⟨oc,hoc,rfl⟩:=K6.1 hk
    rw [O.ren_owned] at ho
    rw [i1] at hb
    rcases he.ownd (σ k) oc hoc ho b hb with h | ⟨c0,o0,h1,h2,h3⟩
    ·exact .inl h
    ·obtain ⟨o1,g1,g2,g3⟩:=hsrc c0 o0 h1 h2
     exact .inr ⟨_,o1,g1,g2,by rw [←g3];exact h3⟩
   ·obtain ⟨i1,i2⟩:=hout k hK
    rw [i2] at hk
    rw [i1] at hb
    exact .inr ⟨k,o,hk,ho,hb⟩
  ·intro b hb
   rcases he.orig b hb with h | h | ⟨c,o,h1,h2,h3⟩
   ·exact .inl h
   ·exact .inr (.inl h)
   ·obtain ⟨o1,g1,g2,g3⟩:=hsrc c o h1 h2
    exact .inr (.inr ⟨_,o1,g1,g2,by rw [←g3];exact h3⟩)
 refine ⟨⟨hm'.lt,?_,?_,?_⟩,hev⟩
 ·intro k o hk
  by_cases hK:K k
  ·obtain ⟨i1,i2⟩:=hin k hK
   rw [i2] at hk
   obtain ⟨oc,hoc,rfl⟩:=K6.1 hk
   have hb:=(g.back k hK).2
   have:=OR.told (k:=σ k) htold (by rw [hb];exact i1) (hdom _ _ hoc).2 (hm'.obj _ _ hoc)
   rwa [hb] at this
  ·obtain ⟨i1,i2⟩:=hout k hK
   rw [i2] at hk
   have h0:=hm.obj k o hk
   have hboth:∀ b∈(ι k).foot,w'.heap[b]?=w.heap[b]?∧(U' b↔U b):=fun b hb=>by
    cases ho:o.owned with
    | true =>
     have hne:∀ c oc,obc c=some oc→oc.owned=true→b∉(ιc c).foot:=fun c oc hc hoc hb'=>by
      obtain ⟨o1,g1,_,g3,g4,g5⟩:=g.at_ hc
      rw [g4] at hb'
      exact hm.inj _ _ _ _ g1 hk g5 ho (fun e=>hK (e ▸ g3)) b hb' hb
     have hlt:=hm.foot hk hb
     have hnU:=hm.footU hk ho hb
     refine ⟨he.same _ hlt hne,fun hU=>?_,fun h=>absurd h hnU⟩
     rcases he.orig _ hU with h | h | ⟨c,oc,h1,h2,h3⟩
     ·exact h
     ·omega
     ·exact absurd h3 (hne c oc h1 h2)
    | false =>
     have:=hm.footU' hk ho hb
     exact ⟨he.kept _ this,fun _=>this,fun _=>he.sub _ this⟩
   exact OR.evo hev i1 (fun b hb=>(hboth b hb).1) (fun b hb=>(hboth b hb).2) h0
 ·intro k k' o o' hk hk' ho ho' hne
  have side:∀ {k k':Nat} {o o':O},K k→¬ K k'→ob' k=some o→ob' k'=some o'→o.owned=true→o'.owned=true→∀ b∈(ι' k).foot,b∉(ι' k').foot:=by
   intro k k' o o' hK hK' hk hk' ho ho' b hb hb'
   obtain ⟨i1,i2⟩:=hin k hK
   obtain ⟨j1,j2⟩:=hout k' hK'
   rw [i2] at hk
   obtain ⟨oc,hoc,rfl⟩:=K6.1 hk
   rw [O.ren_owned] at ho
   rw [j2] at hk'
   rw [i1] at hb
   rw [j1] at hb'
   have hlt:=hm.foot hk' hb'
   rcases he.ownd _ oc hoc ho b hb with h | ⟨c0,o0,h1,h2,h3⟩
   ·omega
   ·obtain ⟨o1,g1,_,g3,g4,g5⟩:=g.at_ h1
    rw [g4] at h3
    exact hm.inj _ _ _ _ g1 hk' g5 ho' (fun e=>hK' (e ▸ g3)) b h3 hb'
  by_cases hK:K k
  ·by_cases hK':K k'
   ·obtain ⟨i1,i2⟩:=hin k hK
    obtain ⟨j1,j2⟩:=hin k' hK'
    rw [i2] at hk
    rw [j2] at hk'
    obtain ⟨oc,hoc,rfl⟩:=K6.1 hk
    obtain ⟨oc',hoc',rfl⟩:=K6.1 hk'
    rw [O.ren_owned] at ho ho'
    rw [i1,j1]
    refine hm'.inj _ _ _ _ hoc hoc' ho ho' fun e=>hne ?_
    rw [←(g.back k hK).2,e,(g.back k' hK').2]
   ·exact side hK hK' hk hk' ho ho'
  ·by_cases hK':K k'
   ·exact fun b hb hb'=>side hK' hK hk' hk ho' ho b hb' hb
   ·obtain ⟨i1,i2⟩:=hout k hK
    obtain ⟨j1,j2⟩:=hout k' hK'
    rw [i2] at hk
    rw [j2] at hk'
    rw [i1,j1]
    exact hm.inj _ _ _ _ hk hk' ho ho' hne
 ·intro k o hk ha
  by_cases hK:K k
  ·obtain ⟨i1,i2⟩:=hin k hK
   rw [i2] at hk
   obtain ⟨oc,hoc,rfl⟩:=K6.1 hk
   rw [i1]
   exact hm'.one _ _ hoc (by rw [O.ren_isAm] at ha;exact ha)
  ·obtain ⟨i1,i2⟩:=hout k hK
   rw [i2] at hk
   rw [i1]
   exact hm.one _ _ hk ha
end
end
section
variable {P:Program} {Fn:Nat→List D→az} {FnD:D→List Sh→List D→az} {m:Nat} {r:Nat×List Yr} {ob:Ur} {cfg:Cf3}
mutual
theorem L.ren_id:∀ x:L,x.ren id=x
 | .d _=>rfl
 | .slk ..=>rfl
 | .pa ..=>rfl
 | .ptr ..=>rfl
 | .fn f caps=>by simp only [L.ren,L.renF_id caps]
 | .mk _=>rfl
 | .mq _=>rfl
 | .pb ..=>rfl
 | .sln ..=>rfl
 | .undef=>rfl
theorem L.renF_id:∀ xs:List L,L.renF id xs=xs
 | []=>rfl
 | x::xs=>by simp only [L.renF,L.ren_id x,L.renF_id xs]
end
theorem O.ren_id (o:O):o.ren id=o:=by cases o<;>simp [O.ren,L.renF_id]
theorem tc:(aa Fn FnD m).dN=Bt:=rfl
mutual
theorem vf {ρ τ σ:Nat→Nat}:∀ (s:L3 Unit Unit) (x:gx) (ys:List D),ce (aa Fn FnD m) ρ s x=some ys→(∀ c∈s.keysOf,σ (ρ c)=τ c)→∀ zs,∃ y:gx,fk Bt τ s (ys++zs)=some (y,zs)∧eL y=(eL x).ren σ∧∀ k∈(eL x).keysOf,∃ c∈s.keysOf,ρ c=k
 | .d _,x,ys,h,_,zs=>by
  simp only [ce] at h
  split at h
  ·rename_i y hy
   cases h
   refine ⟨.d y,rfl,?_,?_⟩
   ·rw [cM hy];rfl
   ·rw [cM hy];intro k hk;simp [L.keysOf] at hk
  ·cases h
 | .fn f cs,.fn f' cs',ys,h,hc,zs=>by
  simp only [ce] at h
  split at h
  ·rename_i e
   subst e
   obtain ⟨y,h1,h2,h3⟩:=lg cs cs' ys h (fun c hcc=>hc c (by simpa [L3.keysOf] using hcc)) zs
   refine ⟨.fn f y,by simp [fk,h1],by simp [eL,L.ren,h2],fun k hk=>?_⟩
   obtain ⟨c,hc1,hc2⟩:=h3 k (by simpa [eL,L.keysOf] using hk)
   exact ⟨c,by simpa [L3.keysOf] using hc1,hc2⟩
  ·cases h
 | .mk c,.mk k,ys,h,hc,zs=>by
  simp only [ce] at h
  split at h
  ·rename_i e
   cases h
   refine ⟨.mk (τ c),rfl,?_,?_⟩
   ·simp only [eL,L.ren];rw [←e,hc c (by simp [L3.keysOf])]
   ·intro j hj;simp only [eL,L.keysOf,M2] at hj;exact ⟨c,by simp [L3.keysOf],e.trans hj.symm⟩
  ·cases h
 | .ptr c o,.ptr k o',ys,h,hc,zs=>by
  simp only [ce] at h
  split at h
  ·rename_i e
   cases h
   obtain ⟨e,rfl⟩:=e
   refine ⟨.ptr (τ c) o,rfl,?_,?_⟩
   ·simp only [eL,L.ren];rw [←e,hc c (by simp [L3.keysOf])]
   ·intro j hj;simp only [eL,L.keysOf,M2] at hj;exact ⟨c,by simp [L3.keysOf],e.trans hj.symm⟩
  ·cases h
 | .dp q o,.dp row o',ys,h,hc,zs=>by
  simp only [ce] at h
  split at h
  ·rename_i e
   cases h
   obtain ⟨e,rfl⟩:=e
   refine ⟨.dp row o,?_,rfl,fun j hj=>by simp [eL,L.keysOf] at hj⟩
   simp [fk,e]
  ·cases h
 | .mq c,.mq k,ys,h,hc,zs=>by
  simp only [ce] at h
  split at h
  ·rename_i e
   cases h
   refine ⟨.mq (τ c),rfl,?_,?_⟩
   ·simp only [eL,L.ren];rw [←e,hc c (by simp [L3.keysOf])]
   ·intro j hj;simp only [eL,L.keysOf,M2] at hj;exact ⟨c,by simp [L3.keysOf],e.trans hj.symm⟩
  ·cases h
 | .slk c none _ _,.slk k none n c',ys,h,hc,zs=>by
  simp only [ce] at h
  split at h
  ·rename_i e
   cases h
   refine ⟨.slk (τ c) none n c',by simp [fk,aa,Bt],?_,?_⟩
   ·simp only [eL,L.ren];rw [←e,hc c (by simp [L3.keysOf])]
   ·intro j hj;simp only [eL,L.keysOf,M2] at hj;exact ⟨c,by simp [L3.keysOf],e.trans hj.symm⟩
  ·cases h
 | .dp _ _,.d _,_,h,_,_ | .dp _ _,.b _,_,h,_,_ | .dp _ _,.i _ _,_,h,_,_ | .dp _ _,.nil,_,h,_,_ | .dp _ _,.fn _ _,_,h,_,_ | .dp _ _,.slk _ none _ _,_,h,_,_ | .dp _ _,.slk _ (some _) _ _,_,h,_,_ | .dp _ _,.pa ..,_,h,_,_ | .dp _ _,.ptr ..,_,h,_,_ | .dp _ _,.mk _,_,h,_,_ | .dp _ _,.mq _,_,h,_,_ | .dp _ _,.pb ..,_,h,_,_ | .dp _ _,.px ..,_,h,_,_ | .dp _ _,.np,_,h,_,_ | .dp _ _,.undef,_,h,_,_=>by simp [ce] at h
 | .fn _ _,.d _,_,h,_,_ | .fn _ _,.b _,_,h,_,_ | .fn _ _,.i _ _,_,h,_,_ | .fn _ _,.nil,_,h,_,_ | .fn _ _,.dp _ _,_,h,_,_ | .fn _ _,.slk _ none _ _,_,h,_,_ | .fn _ _,.slk _ (some _) _ _,_,h,_,_ | .fn _ _,.pa ..,_,h,_,_ | .fn _ _,.ptr ..,_,h,_,_ | .fn _ _,.mk _,_,h,_,_ | .fn _ _,.mq _,_,h,_,_ | .fn _ _,.pb ..,_,h,_,_ | .fn _ _,.px ..,_,h,_,_ | .fn _ _,.np,_,h,_,_ | .fn _ _,.undef,_,h,_,_=>by simp [ce] at h
 | .mk _,.d _,_,h,_,_ | .mk _,.b _,_,h,_,_ | .mk _,.i _ _,_,h,_,_ | .mk _,.nil,_,h,_,_ | .mk _,.dp _ _,_,h,_,_ | .mk _,.fn _ _,_,h,_,_ | .mk _,.slk _ none _ _,_,h,_,_ | .mk _,.slk _ (some _) _ _,_,h,_,_ | .mk _,.pa ..,_,h,_,_ | .mk _,.ptr ..,_,h,_,_ | .mk _,.mq _,_,h,_,_ | .mk _,.pb ..,_,h,_,_ | .mk _,.px ..,_,h,_,_ | .mk _,.np,_,h,_,_ | .mk _,.undef,_,h,_,_=>by simp [ce] at h
 | .ptr _ _,.d _,_,h,_,_ | .ptr _ _,.b _,_,h,_,_ | .ptr _ _,.i _ _,_,h,_,_ | .ptr _ _,.nil,_,h,_,_ | .ptr _ _,.dp _ _,_,h,_,_ | .ptr _ _,.fn _ _,_,h,_,_ | .ptr _ _,.slk _ none _ _,_,h,_,_ | .ptr _ _,.slk _ (some _) _ _,_,h,_,_ | .ptr _ _,.pa ..,_,h,_,_ | .ptr _ _,.mk _,_,h,_,_ | .ptr _ _,.mq _,_,h,_,_ | .ptr _ _,.pb ..,_,h,_,_ | .ptr _ _,.px ..,_,h,_,_ | .ptr _ _,.np,_,h,_,_ | .ptr _ _,.undef,_,h,_,_=>by simp [ce] at h
 | .mq _,.d _,_,h,_,_ | .mq _,.b _,_,h,_,_ | .mq _,.i _ _,_,h,_,_ | .mq _,.nil,_,h,_,_ | .mq _,.dp _ _,_,h,_,_ | .mq _,.fn _ _,_,h,_,_ | .mq _,.slk _ none _ _,_,h,_,_ | .mq _,.slk _ (some _) _ _,_,h,_,_ | .mq _,.pa ..,_,h,_,_ | .mq _,.ptr ..,_,h,_,_ | .mq _,.mk _,_,h,_,_ | .mq _,.pb ..,_,h,_,_ | .mq _,.px ..,_,h,_,_ | .mq _,.np,_,h,_,_ | .mq _,.undef,_,h,_,_=>by simp [ce] at h
 | .slk _ none _ _,.d _,_,h,_,_ | .slk _ none _ _,.b _,_,h,_,_ | .slk _ none _ _,.i _ _,_,h,_,_ | .slk _ none _ _,.nil,_,h,_,_ | .slk _ none _ _,.dp _ _,_,h,_,_ | .slk _ none _ _,.fn _ _,_,h,_,_ | .slk _ none _ _,.slk _ (some _) _ _,_,h,_,_ | .slk _ none _ _,.pa ..,_,h,_,_ | .slk _ none _ _,.ptr ..,_,h,_,_ | .slk _ none _ _,.mk _,_,h,_,_ | .slk _ none _ _,.mq _,_,h,_,_ | .slk _ none _ _,.pb ..,_,h,_,_ | .slk _ none _ _,.px ..,_,h,_,_ | .slk _ none _ _,.np,_,h,_,_ | .slk _ none _ _,.undef,_,h,_,_=>by simp [ce] at h
 | .b _,_,_,h,_,_ | .i _ _,_,_,h,_,_ | .nil,_,_,h,_,_ | .slk _ (some _) _ _,_,_,h,_,_ | .pa ..,_,_,h,_,_ | .pb ..,_,_,h,_,_ | .px ..,_,_,h,_,_ | .np,_,_,h,_,_ | .undef,_,_,h,_,_=>by simp [ce] at h
theorem lg {ρ τ σ:Nat→Nat}:∀ (ss:List (L3 Unit Unit)) (xs:List gx) (ys:List D),fA (aa Fn FnD m) ρ ss xs=some ys→(∀ c∈L3.keysF ss,σ (ρ c)=τ c)→∀ zs,∃ y:List gx,gH Bt τ ss (ys++zs)=some (y,zs)∧bV y=L.renF σ (bV xs)∧∀ k∈L.keysF (bV xs),∃ c∈L3.keysF ss,ρ c=k
 | [],[],ys,h,_,zs=>by
  simp only [fA,Jr] at h
  subst h
  exact ⟨[],rfl,rfl,fun k hk=>by simp [bV,L.keysF] at hk⟩
 | s::ss,x::xs,ys,h,hc,zs=>by
  simp only [fA] at h
  split at h
  ·rename_i a b ha hb
   cases h
   obtain ⟨y,h1,h2,h3⟩:=vf s x a ha (fun c hcc=>hc c (by simp [L3.keysF,hcc])) (b++zs)
   obtain ⟨ys,h4,h5,h6⟩:=lg ss xs b hb (fun c hcc=>hc c (by simp [L3.keysF,hcc])) zs
   refine ⟨y::ys,?_,by simp [bV,L.renF,h2,h5],fun k hk=>?_⟩
   ·rw [Kh];simp [gH,h1,h4]
   ·simp only [bV,L.keysF,Kp] at hk
    rcases hk with hk | hk
    ·obtain ⟨c,g1,g2⟩:=h3 k hk;exact ⟨c,by simp [L3.keysF,g1],g2⟩
    ·obtain ⟨c,g1,g2⟩:=h6 k hk;exact ⟨c,by simp [L3.keysF,g1],g2⟩
  ·cases h
 | [],_::_,_,h,_,_=>by simp [fA] at h
 | _::_,[],_,h,_,_=>by simp [fA] at h
end
def V.ren (σ:Nat→Nat):V→V
 | .one x=>.one (x.ren σ)
 | .agg xs=>.agg (L.renF σ xs)
 | .tup xs=>.tup xs
theorem CZ {ρ τ σ:Nat→Nat} {us:Ur} {s:V3 Unit Unit} {x:cv} {ys:List D} (h:kb (aa Fn FnD m) ρ s x=some ys) (hc:∀ c∈s.keysOf,σ (ρ c)=τ c)
  (hsl:∀ c n c' k a b,s=.one (.slk c none a b)→x=.one (.slk k none n c')→∃ rows size elem own,aX us (τ c)=some (.arr rows size elem own)∧n=rows.length∧c'=rows.length) (zs:List D) :
  ∃ y:cv,iZ (aa Fn FnD m) τ us s (ys++zs)=some (y,zs)∧eV y=(eV x).ren σ∧(∀ k∈(eV x).keysOf,∃ c∈s.keysOf,ρ c=k)∧∀ vs,eV x≠.tup vs:=by
 have one:∀ (s:L3 Unit Unit) (x:gx),ce (aa Fn FnD m) ρ s x=some ys→(∀ c∈s.keysOf,σ (ρ c)=τ c)→(∀ c a b,s≠.slk c none a b) →
   ∃ y:cv,iZ (aa Fn FnD m) τ us (.one s) (ys++zs)=some (y,zs)∧eV y=(eV (.one x)).ren σ∧(∀ k∈(eV (.one x)).keysOf,∃ c∈s.keysOf,ρ c=k)∧∀ vs,eV (.one x)≠.tup vs:=by
  intro s x h hc hne
  obtain ⟨y,h1,h2,h3⟩:=vf s x ys h hc zs
  refine ⟨.one y,?_,by simp [eV,V.ren,h2],fun k hk=>by
    obtain ⟨c,g1,g2⟩:=h3 k (by simpa [eV,V.keysOf] using hk);exact ⟨c,g1,g2⟩,fun vs=>by simp [eV]⟩
  cases s with
  | slk k off n c =>
   cases off with
   | none=>exact absurd rfl (hne k n c)
   | some o=>simp [ce] at h
  | _=>simp [iZ,tc,h1]
 cases s with
 | one s =>
  cases x with
  | one x =>
   by_cases hs:∃ c a b,s=.slk c none a b
   ·obtain ⟨c,a,b,rfl⟩:=hs
    cases x with
    | slk k off n c' =>
     cases off with
     | none =>
      simp only [kb] at h
      split at h
      ·rename_i e
       cases h
       obtain ⟨rows,size,elem,own,h1,rfl,rfl⟩:=hsl c n c' k a b rfl rfl
       refine ⟨.one (.slk (τ c) none rows.length rows.length),by simp [iZ,h1,aa],?_,?_,fun vs=>by simp [eV]⟩
       ·simp only [eV,eL,V.ren,L.ren];rw [←e,hc c (by simp [V3.keysOf,L3.keysOf])]
       ·intro j hj;simp only [eV,eL,V.keysOf,L.keysOf,M2] at hj;exact ⟨c,by simp [V3.keysOf,L3.keysOf],e.trans hj.symm⟩
      ·cases h
     | some o=>simp [kb,ce] at h
    | _=>simp [kb,ce] at h
   ·have h':ce (aa Fn FnD m) ρ s x=some ys:=by
     cases s with
     | slk c off a b=>cases off with
      | none=>exact absurd ⟨c,a,b,rfl⟩ hs
      | some o=>simpa [kb] using h
     | _=>simpa [kb] using h
    have:=one s x h' (fun c hcc=>hc c (by simpa [V3.keysOf] using hcc)) (fun c a b e=>hs ⟨c,a,b,e⟩)
    simpa [V3.keysOf] using this
  | _=>simp [kb] at h
 | agg s =>
  cases x with
  | agg x =>
   obtain ⟨y,h1,h2,h3⟩:=lg s x ys h (fun c hcc=>hc c (by simpa [V3.keysOf] using hcc)) zs
   exact ⟨.agg y,by simp [iZ,tc,h1],by simp [eV,V.ren,h2],fun k hk=>by
    obtain ⟨c,g1,g2⟩:=h3 k (by simpa [eV,V.keysOf] using hk);exact ⟨c,by simpa [V3.keysOf] using g1,g2⟩,fun vs=>by simp [eV]⟩
  | _=>simp [kb] at h
 | tup s=>cases x<;>simp [kb] at h
theorem VR.told {w:World} {U:Nat→Prop} {ι1 ι2:Pl} {ob1 ob2:Ob} {σ:Nat→Nat} {K:Nat→Prop} (h:p0 σ K ι1 ob1 ι2 ob2) {x:V} {v:Value} (hn:∀ vs,x≠.tup vs) (hk:∀ k∈x.keysOf,K k) (hx:VR w U ι1 ob1 x v):VR w U ι2 ob2 (x.ren σ) v:=by
 cases x with
 | one x=>simp only [VR,V.ren] at hx ⊢;exact LR.told h x v (fun k hkk=>hk k (by simpa [V.keysOf] using hkk)) hx
 | agg xs=>simp only [VR,V.ren] at hx ⊢;obtain ⟨cs,g1,g2⟩:=hx;exact ⟨cs,g1,LF.told h xs _ (fun k hkk=>hk k (by simpa [V.keysOf] using hkk)) g2⟩
 | tup xs=>exact absurd rfl (hn xs)
theorem sm {ρ τ σ:Nat→Nat} {us:Ur}:∀ {ss:List (V3 Unit Unit)} {xs:List cv} {ys:List D},iV (aa Fn FnD m) ρ ss xs=some ys→(∀ c∈V3.keysF ss,σ (ρ c)=τ c) →
  (∀ p∈kS ss xs,∃ rows size elem own,aX us (σ p.1)=some (.arr rows size elem own)∧p.2.1=rows.length∧p.2.2=rows.length) →
  ∀ zs,∃ y:List cv,iS (aa Fn FnD m) τ us ss (ys++zs)=some (y,zs) ∧
  ∀ {w:World} {U:Nat→Prop} {ι1 ι2:Pl} {ob1 ob2:Ob} {K:Nat→Prop},p0 σ K ι1 ob1 ι2 ob2→(∀ c∈V3.keysF ss,K (ρ c))→∀ vs,VF w U ι1 ob1 (cI xs) vs→VF w U ι2 ob2 (cI y) vs
 | [],[],ys,h,_,_,zs=>by
  simp only [iV,Jr] at h
  subst h
  exact ⟨[],rfl,fun _ _ vs hv=>hv⟩
 | s::ss,x::xs,ys,h,hc,hk,zs=>by
  simp only [iV] at h
  split at h
  ·rename_i a b ha hb
   cases h
   have hsl:∀ c n c' k a b,s=.one (.slk c none a b)→x=.one (.slk k none n c')→∃ rows size elem own,aX us (τ c)=some (.arr rows size elem own)∧n=rows.length∧c'=rows.length:=by
    rintro c n c' k a b rfl rfl
    have e:ρ c=k:=by
     simp only [kb] at ha
     split at ha
     ·assumption
     ·cases ha
    have:=hk (k,n,c') (by simp [kS])
    rw [←e,hc c (by simp [V3.keysF,V3.keysOf,L3.keysOf])] at this
    exact this
   have hk':∀ p∈kS ss xs,∃ rows size elem own,aX us (σ p.1)=some (.arr rows size elem own)∧p.2.1=rows.length∧p.2.2=rows.length:=fun p hp=>hk p (by
    unfold kS
    split
    ·rename_i e1 e2;cases e1;cases e2;exact Kz _ hp
    ·rename_i e1 e2;cases e1;cases e2;exact hp
    ·rename_i e1;exact absurd rfl (e1 _ _ _ _ rfl))
   obtain ⟨y,h1,h2,h3,h4⟩:=CZ (us:=us) ha (fun c hcc=>hc c (by simp [V3.keysF,hcc])) hsl (b++zs)
   obtain ⟨ys,h5,h6⟩:=sm hb (fun c hcc=>hc c (by simp [V3.keysF,hcc])) hk' zs
   refine ⟨y::ys,?_,fun ht hK vs hv=>?_⟩
   ·rw [Kh];simp [iS,h1,h5]
   ·simp only [cI,VF] at hv ⊢
    obtain ⟨v,vs',rfl,g1,g2⟩:=hv
    refine ⟨v,vs',rfl,?_,h6 ht (fun c hcc=>hK c (by simp [V3.keysF,hcc])) vs' g2⟩
    rw [h2]
    refine VR.told ht h4 (fun k hk=>?_) g1
    obtain ⟨c,e1,e2⟩:=h3 k hk
    rw [←e2]
    exact hK c (by simp [V3.keysF,e1])
  ·cases h
 | [],_::_,_,h,_,_,_=>by simp [iV] at h
 | _::_,[],_,h,_,_,_=>by simp [iV] at h
theorem A9 {k:az}:∀ {l:List (Nat×Nat×Nat)},FM (aa Fn FnD m) ob l k=some r→k=some r∧∀ p∈l,∃ rows size elem own,aX ob p.1=some (.arr rows size elem own)∧p.2.1=rows.length∧p.2.2=rows.length
 | [],h=>⟨h,by simp⟩
 | (key,n,c)::l,h=>by
  simp only [FM] at h
  split at h
  ·rename_i rows size elem own hk
   obtain ⟨h1,h⟩:=b6 h
   obtain ⟨h2,h⟩:=b6 h
   obtain ⟨h3,h4⟩:=A9 h
   refine ⟨h3,fun p hp=>?_⟩
   rcases Ki.1 hp with rfl | hp
   ·exact ⟨rows,size,elem,own,hk,h1,h2⟩
   ·exact h4 p hp
  ·cases h
def bm (ρ:Nat→Nat) (wn:Bool):List (Nat×O3 Unit Unit Unit Unit)→List D→Option (Ur×List D)
 | [],xs=>some ([],xs)
 | (c,.box cells e)::r,xs=>match gH Bt ρ cells xs with
  | some (ys,xs')=>match bm ρ wn r xs' with
   | some (us,zs)=>some ((ρ c,.box ys e)::us,zs)
   | none=>none
  | none=>none
 | (c,.am _ size elem)::r,x::xs=>match rC true x with
  | some mm=>match bm ρ wn r xs with
   | some (us,zs)=>some ((ρ c,.am mm size elem)::us,zs)
   | none=>none
  | none=>none
 | (c,.mp g _ true)::r,x::xs=>match rC g x with
  | some mm=>match bm ρ wn r xs with
   | some (us,zs)=>some ((ρ c,.mp g mm true)::us,zs)
   | none=>none
  | none=>none
 | (c,.arr _ size elem _)::r,x::xs=>match jL size x with
  | some rows=>match bm ρ wn r xs with
   | some (us,zs)=>some ((ρ c,.arr rows size elem wn)::us,zs)
   | none=>none
  | none=>none
 | _,_=>none
theorem sB {ρ:Nat→Nat} {wn:Bool}:∀ {os:List (Nat×O3 Unit Unit Unit Unit)} {xs:List D} {k:Ur→List D→az},fP (aa Fn FnD m) ρ wn os xs k=some r→∃ us zs,bm ρ wn os xs=some (us,zs)∧k us zs=some r:=by
 intro os
 induction os with
 | nil=>intro xs k h;exact ⟨[],xs,rfl,h⟩
 | cons p os ih =>
  intro xs k h
  obtain ⟨c,o⟩:=p
  cases o with
  | ml ks cs=>cases xs<;>simp [fP,aa] at h
  | arn rows s e o=>cases xs<;>simp [fP,aa] at h
  | am mm s e =>
   cases xs with
   | nil=>cases h
   | cons x xs =>
    simp only [fP] at h
    obtain ⟨mm',h1,h⟩:=pW h
    obtain ⟨us,zs,h2,h3⟩:=ih h
    exact ⟨_,zs,by simp [bm,h1,h2],h3⟩
  | box cells e =>
   simp only [fP,tc] at h
   split at h
   ·rename_i ys xs' hf
    obtain ⟨us,zs,h1,h2⟩:=ih h
    exact ⟨_,zs,by simp [bm,hf,h1],h2⟩
   ·cases h
  | arr rows s e o =>
   cases xs with
   | nil=>cases h
   | cons x xs =>
    simp only [fP] at h
    obtain ⟨rows',h1,h⟩:=pU h
    obtain ⟨us,zs,h2,h3⟩:=ih h
    exact ⟨_,zs,by simp [bm,h1,h2],h3⟩
  | mp g mm o =>
   cases o with
   | false=>cases xs<;>cases h
   | true =>
    cases xs with
    | nil=>cases h
    | cons x xs =>
     simp only [fP] at h
     obtain ⟨mm',h1,h⟩:=pW h
     obtain ⟨us,zs,h2,h3⟩:=ih h
     exact ⟨_,zs,by simp [bm,h1,h2],h3⟩
theorem ip {ρ:Nat→Nat} {wn:Bool}:∀ {os:List (Nat×O3 Unit Unit Unit Unit)} {xs:List D} {us:Ur} {zs:List D},bm ρ wn os xs=some (us,zs)→us.map (·.1)=(os.map (·.1)).map ρ:=by
 intro os
 induction os with
 | nil=>intro xs us zs h;simp only [bm,Jr,Ku] at h;obtain ⟨rfl,rfl⟩:=h;rfl
 | cons p os ih =>
  intro xs us zs h
  obtain ⟨c,o⟩:=p
  cases o with
  | ml ks cs=>cases xs<;>simp [bm] at h
  | arn rows s e o=>cases xs<;>simp [bm] at h
  | am mm s e =>
   cases xs with
   | nil=>cases h
   | cons x xs =>
    simp only [bm] at h
    split at h
    ·split at h
     ·rename_i us' zs' h2;cases h;simp [ih h2]
     ·cases h
    ·cases h
  | box cells e =>
   simp only [bm] at h
   split at h
   ·split at h
    ·rename_i us' zs' h2;cases h;simp [ih h2]
    ·cases h
   ·cases h
  | arr rows s e o =>
   cases xs with
   | nil=>cases h
   | cons x xs =>
    simp only [bm] at h
    split at h
    ·split at h
     ·rename_i us' zs' h2;cases h;simp [ih h2]
     ·cases h
    ·cases h
  | mp g mm o =>
   cases o with
   | false=>cases xs<;>cases h
   | true =>
    cases xs with
    | nil=>cases h
    | cons x xs =>
     simp only [bm] at h
     split at h
     ·split at h
      ·rename_i us' zs' h2;cases h;simp [ih h2]
      ·cases h
     ·cases h
structure Mate (τ:Nat→Nat) (ρ:Nat→Nat) (s:O3 Unit Unit Unit Unit) (o1 o2:O):Prop where
 eq:o2=o1.ren τ
 keys:∀ k∈o1.keysOf,∃ c∈s.keysOf,ρ c=k
theorem sq {ρ τ σ:Nat→Nat} {wn:Bool}:∀ {os:List (Nat×O3 Unit Unit Unit Unit)} {ys:List D},cK (aa Fn FnD m) ρ ob wn os=some ys→(∀ p∈os,σ (ρ p.1)=τ p.1∧∀ c∈p.2.keysOf,σ (ρ c)=τ c)→((os.map (·.1)).map τ).Nodup→∀ zs,
  ∃ us,bm τ wn os (ys++zs)=some (us,zs)∧∀ p∈os,∃ o1 o2,ai (aD ob) (ρ p.1)=some o1∧ai (aD us) (τ p.1)=some o2∧Mate σ ρ p.2 o1 o2∧(wn=true→o1.owned=true):=by
 intro os
 induction os with
 | nil=>intro ys h _ _ zs;simp only [cK,Jr] at h;subst h;exact ⟨[],rfl,by simp⟩
 | cons p os ih =>
  intro ys h hc hn zs
  obtain ⟨c,o⟩:=p
  simp only [K0,Ml] at hn
  have skip:∀ {us:Ur} {o0:BM} {q:Nat×O3 Unit Unit Unit Unit},q∈os→ai (aD ((τ c,o0)::us)) (τ q.1)=ai (aD us) (τ q.1):=by
   intro us o0 q hq
   rw [aV]
   simp only [ai]
   rw [Kg]
   intro e
   exact hn.1 (by rw [←e];exact M5.2 ⟨q.1,M5.2 ⟨q,hq,rfl⟩,rfl⟩)
  cases o with
  | ml ks cs=>simp [cK] at h
  | arn rows s e o=>simp [cK] at h
  | am mm s e =>
   simp only [cK] at h
   split at h
   ·rename_i m' s' e' hk
    split at h
    ·rename_i hg
     obtain ⟨rfl,rfl⟩:=hg
     split at h
     ·rename_i b hb
      cases h
      obtain ⟨us,h1,h2⟩:=ih hb (fun p hp=>hc p (by simp [hp])) hn.2 zs
      have ha:rC true ((aa Fn FnD m).mpD true m')=some m':=by simp [aa,rC]
      refine ⟨(τ c,.am m' s e)::us,by simp [bm,ha,h1],fun q hq=>?_⟩
      rcases Ki.1 hq with rfl | hq
      ·exact ⟨eO (.am m' s e),eO (.am m' s e),by rw [aq,hk];rfl,by rw [aV];simp only [ai,Jv];rfl,⟨rfl,fun k hkk=>by simp [eO,O.keysOf] at hkk⟩,fun _=>rfl⟩
      ·obtain ⟨o1,o2,e1,e2,e3⟩:=h2 q hq
       exact ⟨o1,o2,e1,by rw [skip hq];exact e2,e3⟩
     ·cases h
    ·cases h
   ·cases h
  | box cells e =>
   simp only [cK] at h
   split at h
   ·rename_i cells' e' hk
    split at h
    ·rename_i he
     subst he
     split at h
     ·rename_i a b ha hb
      cases h
      obtain ⟨us,h1,h2⟩:=ih hb (fun p hp=>hc p (by simp [hp])) hn.2 zs
      obtain ⟨y,g1,g2,g3⟩:=lg (τ:=τ) (σ:=σ) cells cells' a ha (fun d hd=>(hc (c,.box cells e) (by simp)).2 d (by simpa [O3.keysOf] using hd)) (b++zs)
      refine ⟨(τ c,.box y e)::us,by rw [Kh];simp [bm,g1,h1],fun q hq=>?_⟩
      rcases Ki.1 hq with rfl | hq
      ·refine ⟨eO (.box cells' e),eO (.box y e),by rw [aq,hk];rfl,by rw [aV];simp only [ai,Jv];rfl,⟨by simp [eO,O.ren,g2],fun k hkk=>?_⟩,fun _=>rfl⟩
       obtain ⟨d,e1,e2⟩:=g3 k (by simpa [eO,O.keysOf] using hkk)
       exact ⟨d,by simpa [O3.keysOf] using e1,e2⟩
      ·obtain ⟨o1,o2,e1,e2,e3⟩:=h2 q hq
       exact ⟨o1,o2,e1,by rw [skip hq];exact e2,e3⟩
     ·cases h
    ·cases h
   ·cases h
  | arr rows s e o =>
   simp only [cK] at h
   split at h
   ·rename_i rows' s' e' own hk
    split at h
    ·rename_i he
     obtain ⟨rfl,rfl,rfl⟩:=he
     split at h
     ·rename_i b hb
      cases h
      obtain ⟨us,h1,h2⟩:=ih hb (fun p hp=>hc p (by simp [hp])) hn.2 zs
      have ha:jL s ((aa Fn FnD m).slD s rows')=some rows':=by simp [aa,jL]
      refine ⟨(τ c,.arr rows' s e own)::us,by simp [bm,ha,h1],fun q hq=>?_⟩
      rcases Ki.1 hq with rfl | hq
      ·exact ⟨eO (.arr rows' s e own),eO (.arr rows' s e own),by rw [aq,hk];rfl,by rw [aV];simp only [ai,Jv];rfl,⟨rfl,fun k hkk=>by simp [eO,O.keysOf] at hkk⟩,fun e=>by rw [e];rfl⟩
      ·obtain ⟨o1,o2,e1,e2,e3⟩:=h2 q hq
       exact ⟨o1,o2,e1,by rw [skip hq];exact e2,e3⟩
     ·cases h
    ·cases h
   ·cases h
  | mp g mm o =>
   cases o with
   | false=>simp [cK] at h
   | true =>
    simp only [cK] at h
    split at h
    ·rename_i g' m' hk
     split at h
     ·rename_i hg
      subst hg
      split at h
      ·rename_i b hb
       cases h
       obtain ⟨us,h1,h2⟩:=ih hb (fun p hp=>hc p (by simp [hp])) hn.2 zs
       have ha:rC g ((aa Fn FnD m).mpD g m')=some m':=by simp [aa,rC]
       refine ⟨(τ c,.mp g m' true)::us,by simp [bm,ha,h1],fun q hq=>?_⟩
       rcases Ki.1 hq with rfl | hq
       ·exact ⟨eO (.mp g m' true),eO (.mp g m' true),by rw [aq,hk];rfl,by rw [aV];simp only [ai,Jv];rfl,⟨rfl,fun k hkk=>by simp [eO,O.keysOf] at hkk⟩,fun _=>rfl⟩
       ·obtain ⟨o1,o2,e1,e2,e3⟩:=h2 q hq
        exact ⟨o1,o2,e1,by rw [skip hq];exact e2,e3⟩
      ·cases h
     ·cases h
    ·cases h
mutual
theorem Br {τ1 τ2 σ:Nat→Nat}:∀ (s:L3 Unit Unit) (xs:List D) (y:gx) (zs:List D),fk Bt τ1 s xs=some (y,zs)→(∀ c∈s.keysOf,σ (τ1 c)=τ2 c)→∃ y2:gx,fk Bt τ2 s xs=some (y2,zs)∧eL y2=(eL y).ren σ∧∀ k∈(eL y).keysOf,∃ c∈s.keysOf,τ1 c=k
 | .d _,[],y,zs,h,_=>by simp [fk] at h
 | .d _,x::xs,y,zs,h,_=>by
  simp only [fk,Jr,Ku] at h
  obtain ⟨rfl,rfl⟩:=h
  exact ⟨.d x,rfl,rfl,fun k hk=>by simp [eL,L.keysOf] at hk⟩
 | .fn f cs,xs,y,zs,h,hc=>by
  simp only [fk] at h
  split at h
  ·rename_i ys r' hf
   cases h
   obtain ⟨y2,h1,h2,h3⟩:=mi cs xs ys zs hf (fun c hcc=>hc c (by simpa [L3.keysOf] using hcc))
   refine ⟨.fn f y2,by simp [fk,h1],by simp [eL,L.ren,h2],fun k hk=>?_⟩
   obtain ⟨c,e1,e2⟩:=h3 k (by simpa [eL,L.keysOf] using hk)
   exact ⟨c,by simpa [L3.keysOf] using e1,e2⟩
  ·cases h
 | .mk c,xs,y,zs,h,hc=>by
  simp only [fk,Jr,Ku] at h
  obtain ⟨rfl,rfl⟩:=h
  exact ⟨.mk (τ2 c),rfl,by simp [eL,L.ren,hc c (by simp [L3.keysOf])],fun k hk=>⟨c,by simp [L3.keysOf],by simpa [eL,L.keysOf,eq_comm] using hk⟩⟩
 | .mq c,xs,y,zs,h,hc=>by
  simp only [fk,Jr,Ku] at h
  obtain ⟨rfl,rfl⟩:=h
  exact ⟨.mq (τ2 c),rfl,by simp [eL,L.ren,hc c (by simp [L3.keysOf])],fun k hk=>⟨c,by simp [L3.keysOf],by simpa [eL,L.keysOf,eq_comm] using hk⟩⟩
 | .slk c none _ _,x1::x2::xs,y,zs,h,hc=>by
  simp only [fk,Jr,Ku] at h
  obtain ⟨rfl,rfl⟩:=h
  exact ⟨.slk (τ2 c) none (Bt x1) (Bt x2),rfl,by simp [eL,L.ren,hc c (by simp [L3.keysOf])],fun k hk=>⟨c,by simp [L3.keysOf],by simpa [eL,L.keysOf,eq_comm] using hk⟩⟩
 | .slk c none _ _,[],y,zs,h,hc | .slk c none _ _,[_],y,zs,h,hc | .slk c (some _) _ _,xs,y,zs,h,hc=>by simp [fk] at h
 | .ptr c o,xs,y,zs,h,hc=>by
  simp only [fk,Jr,Ku] at h
  obtain ⟨rfl,rfl⟩:=h
  exact ⟨.ptr (τ2 c) o,rfl,by simp [eL,L.ren,hc c (by simp [L3.keysOf])],fun k hk=>⟨c,by simp [L3.keysOf],by simpa [eL,L.keysOf,eq_comm] using hk⟩⟩
 | .dp q o,xs,y,zs,h,hc=>by
  simp only [fk] at h
  split at h
  ·rename_i e
   simp only [Jr,Ku] at h
   obtain ⟨rfl,rfl⟩:=h
   exact ⟨.dp (xs.take q.length) o,by simp only [fk,K9 e],rfl,fun k hk=>by simp [eL,L.keysOf] at hk⟩
  ·cases h
 | .b _,xs,y,zs,h,_ | .i _ _,xs,y,zs,h,_ | .nil,xs,y,zs,h,_ | .pa ..,xs,y,zs,h,_ | .pb ..,xs,y,zs,h,_ | .px ..,xs,y,zs,h,_ | .np,xs,y,zs,h,_ | .undef,xs,y,zs,h,_=>by simp [fk] at h
theorem mi {τ1 τ2 σ:Nat→Nat}:∀ (ss:List (L3 Unit Unit)) (xs:List D) (y:List gx) (zs:List D),gH Bt τ1 ss xs=some (y,zs)→(∀ c∈L3.keysF ss,σ (τ1 c)=τ2 c)→∃ y2:List gx,gH Bt τ2 ss xs=some (y2,zs)∧bV y2=L.renF σ (bV y)∧∀ k∈L.keysF (bV y),∃ c∈L3.keysF ss,τ1 c=k
 | [],xs,y,zs,h,_=>by
  simp only [gH,Jr,Ku] at h
  obtain ⟨rfl,rfl⟩:=h
  exact ⟨[],rfl,rfl,fun k hk=>by simp [bV,L.keysF] at hk⟩
 | s::ss,xs,y,zs,h,hc=>by
  simp only [gH] at h
  split at h
  ·rename_i y1 r1 h1
   split at h
   ·rename_i ys r2 h2
    cases h
    obtain ⟨y2,g1,g2,g3⟩:=Br s xs y1 r1 h1 (fun c hcc=>hc c (by simp [L3.keysF,hcc]))
    obtain ⟨ys2,g4,g5,g6⟩:=mi ss r1 ys zs h2 (fun c hcc=>hc c (by simp [L3.keysF,hcc]))
    refine ⟨y2::ys2,by simp [gH,g1,g4],by simp [bV,L.renF,g2,g5],fun k hk=>?_⟩
    simp only [bV,L.keysF,Kp] at hk
    rcases hk with hk | hk
    ·obtain ⟨c,e1,e2⟩:=g3 k hk;exact ⟨c,by simp [L3.keysF,e1],e2⟩
    ·obtain ⟨c,e1,e2⟩:=g6 k hk;exact ⟨c,by simp [L3.keysF,e1],e2⟩
   ·cases h
  ·cases h
end
theorem yc {τ1 τ2 σ:Nat→Nat} {wn:Bool}:∀ {os:List (Nat×O3 Unit Unit Unit Unit)} {xs:List D} {us:Ur} {zs:List D},bm τ1 wn os xs=some (us,zs)→(∀ p∈os,σ (τ1 p.1)=τ2 p.1∧∀ c∈p.2.keysOf,σ (τ1 c)=τ2 c)→((os.map (·.1)).map τ1).Nodup→((os.map (·.1)).map τ2).Nodup →
  ∃ us2,bm τ2 wn os xs=some (us2,zs)∧∀ p∈os,∃ o1 o2,ai (aD us) (τ1 p.1)=some o1∧ai (aD us2) (τ2 p.1)=some o2∧Mate σ τ1 p.2 o1 o2:=by
 intro os
 induction os with
 | nil=>intro xs us zs h _ _ _;simp only [bm,Jr,Ku] at h;obtain ⟨rfl,rfl⟩:=h;exact ⟨[],rfl,by simp⟩
 | cons p os ih =>
  intro xs us zs h hc hn hn2
  obtain ⟨c,o⟩:=p
  simp only [K0,Ml] at hn hn2
  have skip:∀ {τ:Nat→Nat} {us:Ur} {o0:BM} {q:Nat×O3 Unit Unit Unit Unit},τ c∉(os.map (·.1)).map τ→q∈os→ai (aD ((τ c,o0)::us)) (τ q.1)=ai (aD us) (τ q.1):=by
   intro τ us o0 q hn hq
   rw [aV]
   simp only [ai]
   rw [Kg]
   intro e
   exact hn (by rw [←e];exact M5.2 ⟨q.1,M5.2 ⟨q,hq,rfl⟩,rfl⟩)
  cases o with
  | ml ks cs=>cases xs<;>simp [bm] at h
  | arn rows s e o=>cases xs<;>simp [bm] at h
  | am mm s e =>
   cases xs with
   | nil=>cases h
   | cons x xs =>
    simp only [bm] at h
    split at h
    ·rename_i mm' ha
     split at h
     ·rename_i us' zs' hr
      cases h
      obtain ⟨us2,h1,h2⟩:=ih hr (fun p hp=>hc p (by simp [hp])) hn.2 hn2.2
      refine ⟨(τ2 c,.am mm' s e)::us2,by simp [bm,ha,h1],fun q hq=>?_⟩
      rcases Ki.1 hq with rfl | hq
      ·exact ⟨eO (.am mm' s e),eO (.am mm' s e),by rw [aV];simp only [ai,Jv];rfl,by rw [aV];simp only [ai,Jv];rfl,⟨rfl,fun k hkk=>by simp [eO,O.keysOf] at hkk⟩⟩
      ·obtain ⟨o1,o2,e1,e2,e3⟩:=h2 q hq
       exact ⟨o1,o2,by rw [skip hn.1 hq];exact e1,by rw [skip hn2.1 hq];exact e2,e3⟩
     ·cases h
    ·cases h
  | box cells e =>
   simp only [bm] at h
   split at h
   ·rename_i ys xs' hf
    split at h
    ·rename_i us' zs' hr
     cases h
     obtain ⟨y2,g1,g2,g3⟩:=mi (τ2:=τ2) (σ:=σ) cells xs ys xs' hf (fun d hd=>(hc (c,.box cells e) (by simp)).2 d (by simpa [O3.keysOf] using hd))
     obtain ⟨us2,h1,h2⟩:=ih hr (fun p hp=>hc p (by simp [hp])) hn.2 hn2.2
     refine ⟨(τ2 c,.box y2 e)::us2,by simp [bm,g1,h1],fun q hq=>?_⟩
     rcases Ki.1 hq with rfl | hq
     ·refine ⟨eO (.box ys e),eO (.box y2 e),by rw [aV];simp only [ai,Jv];rfl,by rw [aV];simp only [ai,Jv];rfl,⟨by simp [eO,O.ren,g2],fun k hkk=>?_⟩⟩
      obtain ⟨d,e1,e2⟩:=g3 k (by simpa [eO,O.keysOf] using hkk)
      exact ⟨d,by simpa [O3.keysOf] using e1,e2⟩
     ·obtain ⟨o1,o2,e1,e2,e3⟩:=h2 q hq
      exact ⟨o1,o2,by rw [skip hn.1 hq];exact e1,by rw [skip hn2.1 hq];exact e2,e3⟩
    ·cases h
   ·cases h
  | arr rows s e o =>
   cases xs with
   | nil=>cases h
   | cons x xs =>
    simp only [bm] at h
    split at h
    ·rename_i rows' ha
     split at h
     ·rename_i us' zs' hr
      cases h
      obtain ⟨us2,h1,h2⟩:=ih hr (fun p hp=>hc p (by simp [hp])) hn.2 hn2.2
      refine ⟨(τ2 c,.arr rows' s e wn)::us2,by simp [bm,ha,h1],fun q hq=>?_⟩
      rcases Ki.1 hq with rfl | hq
      ·exact ⟨eO (.arr rows' s e wn),eO (.arr rows' s e wn),by rw [aV];simp only [ai,Jv];rfl,by rw [aV];simp only [ai,Jv];rfl,⟨rfl,fun k hkk=>by simp [eO,O.keysOf] at hkk⟩⟩
      ·obtain ⟨o1,o2,e1,e2,e3⟩:=h2 q hq
       exact ⟨o1,o2,by rw [skip hn.1 hq];exact e1,by rw [skip hn2.1 hq];exact e2,e3⟩
     ·cases h
    ·cases h
  | mp g mm o =>
   cases o with
   | false=>cases xs<;>cases h
   | true =>
    cases xs with
    | nil=>cases h
    | cons x xs =>
     simp only [bm] at h
     split at h
     ·rename_i mm' ha
      split at h
      ·rename_i us' zs' hr
       cases h
       obtain ⟨us2,h1,h2⟩:=ih hr (fun p hp=>hc p (by simp [hp])) hn.2 hn2.2
       refine ⟨(τ2 c,.mp g mm' true)::us2,by simp [bm,ha,h1],fun q hq=>?_⟩
       rcases Ki.1 hq with rfl | hq
       ·exact ⟨eO (.mp g mm' true),eO (.mp g mm' true),by rw [aV];simp only [ai,Jv];rfl,by rw [aV];simp only [ai,Jv];rfl,⟨rfl,fun k hkk=>by simp [eO,O.keysOf] at hkk⟩⟩
       ·obtain ⟨o1,o2,e1,e2,e3⟩:=h2 q hq
        exact ⟨o1,o2,by rw [skip hn.1 hq];exact e1,by rw [skip hn2.1 hq];exact e2,e3⟩
      ·cases h
     ·cases h
theorem mh {ρ:Nat→Nat} {wn:Bool}:∀ {os:List (Nat×O3 Unit Unit Unit Unit)} {xs:List D} {us:Ur} {zs:List D},bm ρ wn os xs=some (us,zs)→∀ {k:Nat} {o:BM},aX us k=some o→∀ {rows:Rr} {s e:Nat} {own:Bool},o≠.arn rows s e own:=by
 intro os
 induction os with
 | nil=>intro xs us zs h k o hk;simp only [bm,Jr,Ku] at h;obtain ⟨rfl,rfl⟩:=h;cases hk
 | cons p os ih =>
  intro xs us zs h k o hk rows s e own
  obtain ⟨c,o'⟩:=p
  have key:∀ {us':Ur} {o0:BM},aX ((ρ c,o0)::us') k=some o→(∀ {o},aX us' k=some o→o≠.arn rows s e own)→o0≠.arn rows s e own→o≠.arn rows s e own:=by
   intro us' o0 h1 h2 h3
   simp only [aX] at h1
   split at h1
   ·cases h1;exact h3
   ·exact h2 h1
  cases o' with
  | ml ks cs=>cases xs<;>simp [bm] at h
  | arn rows s e o=>cases xs<;>simp [bm] at h
  | am mm s e =>
   cases xs with
   | nil=>cases h
   | cons x xs =>
    simp only [bm] at h
    split at h
    ·split at h
     ·rename_i hr
      cases h
      exact key hk (fun h=>ih hr h) (fun h=>by cases h)
     ·cases h
    ·cases h
  | box cells e =>
   simp only [bm] at h
   split at h
   ·split at h
    ·rename_i hr
     cases h
     exact key hk (fun h=>ih hr h) (fun h=>by cases h)
    ·cases h
   ·cases h
  | arr rows s e o =>
   cases xs with
   | nil=>cases h
   | cons x xs =>
    simp only [bm] at h
    split at h
    ·split at h
     ·rename_i hr
      cases h
      exact key hk (fun h=>ih hr h) (fun h=>by cases h)
     ·cases h
    ·cases h
  | mp g mm o =>
   cases o with
   | false=>cases xs<;>cases h
   | true =>
    cases xs with
    | nil=>cases h
    | cons x xs =>
     simp only [bm] at h
     split at h
     ·split at h
      ·rename_i hr
       cases h
       exact key hk (fun h=>ih hr h) (fun h=>by cases h)
      ·cases h
     ·cases h
theorem nW {o3:BM} {rows:Rr} {s e:Nat} {own:Bool} (h1:∀ (rows:Rr) (s e:Nat) (own:Bool),o3≠.arn rows s e own) (h2:(eO o3).val=some (.arr rows s e own)):o3=.arr rows s e own:=by
 cases o3 with
 | arn rows s e o=>exact absurd rfl (h1 _ _ _ _)
 | arr rows s e o=>simp only [eO,fq,Jr,O.arr.injEq] at h2;obtain ⟨rfl,rfl,rfl,rfl⟩:=h2;rfl
 | _=>simp [eO] at h2
def Fb (zs:List Yr) (j:Nat):D:=match zs[j]? with | some (.d x)=>x | _=>default
def rM:Pr D Nat Rr (List D) Mr (List Yr) az:=aa (fun _ _=>none) (fun _ _ _=>none) 0
theorem mj {ρ:Nat→Nat} {us:Ur}:∀ {ss:List (V3 Unit Unit)} {xs:List D},iS (aa Fn FnD m) ρ us ss xs=iS rM ρ us ss xs
 | [],xs=>rfl
 | s::ss,xs=>by
  have h1:iZ (aa Fn FnD m) ρ us s xs=iZ rM ρ us s xs:=by
   unfold iZ
   split<;>rfl
  simp only [iS,h1]
  cases iZ rM ρ us s xs with
  | none=>rfl
  | some p=>simp only [mj (ss:=ss)]
def rY (ms:Ms) (zs:List Yr) (ρ:Nat→Nat) (o:Ur):cv:=match ms.ref with
 | none=>kA (Fb zs) ms.res
 | some c=>match aX o (ρ c) with
  | some (.arr rows _ _ _)=>.one (.slk (ρ c) none rows.length rows.length)
  | _=>.one .undef
def MC (P:Program) (f:Nat) (ms:Ms) (xs:List D) (zs:List Yr):Prop :=
 (∀ (as:Array Value) (w:World),(callFunc f as).run P w=.ok (.enter f as) w) ∧
 ∀ (vs:List cv) (ys rest:List D) (o1:Ur),bm id true ms.obs xs=some (o1,ys)→iS rM id o1 ms.args ys=some (vs,rest) →
  ∀ (m:Nat) (w:World) (U:Nat→Prop) (ι:Pl) (as:Array Value),Mem w U ι (ai (aD o1))→VF w U ι (ai (aD o1)) (cI vs) as.toList →
   CallsIn (FW none) m P f as w fun e w'=>∃ vv o2 rest2 U' ι',e=.returned vv∧bm id ms.wn ms.obs ((List.range (n9 ms.obs)).map fun i=>Fb zs (xr ms.res+i))=some (o2,rest2)∧Mem w' U' ι' (ai (aD o2))∧Evo w U ι (ai (aD o1)) w' U' ι' (ai (aD o2))∧VR w' U' ι' (ai (aD o2)) (eV (rY ms zs id o2)) vv
def nj (P:Program) (cfg:Cf3) (Fn:Nat→List D→az):Prop:=∀ f ms xs zs,cfg.ms f=some ms→Fn (f+1000000) xs=some (0,zs)→MC P (pY f) ms xs zs
theorem mM {ob:Ur} {k:Nat} {o:O} (h:ai (aD ob) k=some o):k∈ob.map (·.1):=by
 induction ob with
 | nil=>simp [aD,ai] at h
 | cons p ob ih =>
  obtain ⟨j,q⟩:=p
  rw [aV] at h
  simp only [ai] at h
  split at h
  ·rename_i e;simp [e]
  ·simp [ih h]
theorem l8:∀ {us:List (Nat×O)} {b:Ob} {k:Nat},(us.map (·.1)).Nodup→k∈us.map (·.1)→b9 b us k=ai us k
 | (j,o)::r,b,k,hn,hk=>by
  simp only [K0,Ml,Ki] at hn hk
  rw [fM]
  simp only [ai]
  by_cases e:k∈r.map (·.1)
  ·rw [l8 hn.2 e,Kg]
   rintro rfl
   exact hn.1 e
  ·rcases hk with rfl | hk
   ·rw [jN e];simp
   ·exact absurd hk e
theorem Ck {w:World} {U:Nat→Prop} {ι ι2:Pl} {ob ob2:Ob} {e:Nat→D} {res:Option (Bool×Nat)} {v:Value} (h:VR w U ι ob (eV (kA (N:=Nat) e res)) v):VR w U ι2 ob2 (eV (kA (N:=Nat) e res)) v:=by
 match res with
 | none=>simpa only [kA,eV,cI,VR,VF] using h
 | some (false,n)=>simpa only [kA,eV,eL,VR,LR] using h
 | some (true,n) =>
  simp only [kA,eV,VR] at h ⊢
  obtain ⟨cs,h1,h2⟩:=h
  refine ⟨cs,h1,?_⟩
  have e1:bV ((List.range n).map fun i=>L3.d (e i))=((List.range n).map e).map L.d:=by rw [bj,Mn,Mn];rfl
  rw [e1] at h2 ⊢
  exact kz (lH h2)
def HZ (ρ:Nat→Nat) (C:List Nat) (k:Nat):Nat:=match C.find? fun c=>ρ c==k with
 | some c=>c
 | none=>k
theorem Fk {ρ:Nat→Nat} {C:List Nat} (hn:(C.map ρ).Nodup) {c:Nat} (hc:c∈C):HZ ρ C (ρ c)=c:=by
 unfold HZ
 cases h:C.find? fun d=>ρ d==ρ c with
 | none=>rw [List.find?_eq_none] at h;exact absurd (Vb (ρ c)) (by simpa using h c hc)
 | some d =>
  have h1:=List.find?_some h
  have h2:=List.mem_of_find?_eq_some h
  simp only [Tg] at h1
  simp only
  by_cases e:d=c
  ·exact e
  ·exfalso
   have key:∀ {l:List Nat},(l.map ρ).Nodup→∀ {a b:Nat},a∈l→b∈l→ρ a=ρ b→a=b:=by
    intro l
    induction l with
    | nil=>intro _ a b ha;cases ha
    | cons x l ih =>
     intro hn a b ha hb hab
     simp only [K0,Ml] at hn
     rcases Ki.1 ha with e1 | ha'<;>rcases Ki.1 hb with e2 | hb'
     ·rw [e1,e2]
     ·exact absurd (M5.2 ⟨b,hb',by rw [←hab,e1]⟩) hn.1
     ·exact absurd (M5.2 ⟨a,ha',by rw [hab,e2]⟩) hn.1
     ·exact ih hn.2 ha' hb' hab
   exact e (key hn h2 hc h1)
theorem A8 {ρ:Nat→Nat}:∀ {ss:List (V3 Unit Unit)} {xs:List cv} {ys:List D},iV (aa Fn FnD m) ρ ss xs=some ys→∀ p∈kS ss xs,∃ c∈V3.keysF ss,ρ c=p.1
 | [],xs,_,_,p,hp=>by cases xs<;>simp [kS] at hp
 | s::ss,[],_,h,_,_=>by simp [iV] at h
 | s::ss,x::xs,ys,h,p,hp=>by
  simp only [iV] at h
  split at h
  ·rename_i a b ha hb
   have ih:=A8 hb
   unfold kS at hp
   split at hp
   ·rename_i e1 e2
    cases e1;cases e2
    rcases Ki.1 hp with rfl | hp
    ·simp only [kb] at ha
     split at ha
     ·rename_i e
      exact ⟨_,by simp [V3.keysF,V3.keysOf,L3.keysOf],e⟩
     ·cases ha
    ·obtain ⟨c,h1,h2⟩:=ih p hp;exact ⟨c,by simp [V3.keysF,h1],h2⟩
   ·rename_i e1 e2
    cases e1;cases e2
    obtain ⟨c,h1,h2⟩:=ih p hp;exact ⟨c,by simp [V3.keysF,h1],h2⟩
   ·cases hp
  ·cases h
theorem CO {ms:Ms} (h:AR ms=true) {c:Nat} (hr:ms.ref=some c):c∈ms.obs.map (·.1):=by
 unfold AR at h
 simp only [Js] at h
 have:=h.2
 rw [hr] at this
 simpa using this
theorem ze {ms:Ms} (h:AR ms=true):(ms.obs.map (·.1)).Nodup∧(∀ c∈V3.keysF ms.args,c∈ms.obs.map (·.1))∧∀ p∈ms.obs,∀ c∈p.2.keysOf,c∈ms.obs.map (·.1):=by
 unfold AR at h
 simp only [Js,Kt,Tj] at h
 exact ⟨fN h.1.1.1,h.1.1.2,h.1.2⟩
theorem yW {w:World} {U:Nat→Prop} {ι:Pl} {o:Ob}:∀ {ss:List (V3 Unit Unit)} {xs:List cv} {vs:List Value},VF w U ι o (cI xs) vs→VF w U ι o (cI (tq (aa Fn FnD m) ss xs)) vs
 | [],xs,vs,h=>by cases xs<;>simpa [tq] using h
 | s::ss,[],vs,h=>by cases s<;>simpa [tq] using h
 | s::ss,x::xs,vs,h=>by
  simp only [cI,VF] at h
  obtain ⟨v,vs',rfl,h1,h2⟩:=h
  have ih:=yW (ss:=ss) h2
  have other:VF w U ι o (cI (x::tq (aa Fn FnD m) ss xs)) (v::vs'):=by
   simp only [cI,VF];exact ⟨v,vs',rfl,h1,ih⟩
  cases s with
  | one l =>
   cases l with
   | d u =>
    cases x with
    | one y =>
     cases y with
     | fn f cs =>
      simp only [tq]
      split
      ·rename_i ds hds
       simp only [cI,VF]
       refine ⟨v,vs',rfl,?_,ih⟩
       simp only [eV,eL,VR,LR] at h1 ⊢
       obtain ⟨cs',rfl,hc⟩:=h1
       rw [ek hds] at hc
       show DR w U (.fn f ds) (iR f cs')
       simp only [DR];exact ⟨cs',rfl,lH hc⟩
      ·exact other
     | _=>exact other
    | _=>exact other
   | _=>exact other
  | _=>exact other
theorem o5 (hM:nj P cfg Fn) {f:Nat} {args:List cv} {kk:cv→Ur→List Nat→az} (h:qG (aa Fn FnD m) cfg f args ob kk=some r) :
  (∀ (as:Array Value) (w:World),(callFunc (pY f) as).run P w=.ok (.enter (pY f) as) w)∧∃ v us rd,kk v us rd=some r ∧
  ∀ (obf:Ob),(∀ k∈rd,obf k=ai (aD ob) k)→∀ (m:Nat) (w:World) (U:Nat→Prop) (ι:Pl) (as:Array Value),Mem w U ι obf→VF w U ι obf (cI args) as.toList →
   CallsIn (FW none) m P (pY f) as w fun e w'=>∃ vv U' ι',e=.returned vv∧Mem w' U' ι' (b9 obf (aD us))∧Evo w U ι obf w' U' ι' (b9 obf (aD us))∧VR w' U' ι' (b9 obf (aD us)) (eV v) vv:=by
 unfold qG at h
 split at h
 ·cases h
 rename_i ms hms
 simp only at h
 generalize hal:t8 _=ρ at h
 generalize hpre:tq (aa Fn FnD m) ms.args args=args' at h
 split at h
 case isFalse=>cases h
 rename_i hok
 simp only [Js] at hok
 obtain ⟨hok,hnd⟩:=hok
 have hndρ:=fN hnd
 obtain ⟨hC,hCa,hCo⟩:=ze hok
 split at h
 case h_2=>cases h
 rename_i xs ys hxs hys
 obtain ⟨h,hchk⟩:=A9 h
 obtain ⟨j,zs,kont,h4,h5,h⟩:=gi h
 have h4':Fn (f+1000000) (ys++xs)=some (j,zs):=h4
 have hj:j=0:=by
  cases j with
  | zero=>rfl
  | succ j=>simp at h5
 subst hj
 obtain ⟨hcall,hmc⟩:=hM f ms _ zs hms h4'
 simp only [Ky,Jr] at h5
 subst h5
 obtain ⟨us,usr,hus,hk0⟩:=sB h
 have hk:kk (rY ms zs ρ us) us ((li ms.args args'++tM ob (li ms.args args') ms.obs).map (·.2)++ms.obs.map fun p=>ρ p.1)=some r:=by
  unfold rY
  cases href:ms.ref with
  | none=>rw [href] at hk0;exact hk0
  | some c =>
   rw [href] at hk0
   simp only at hk0 ⊢
   split at hk0
   ·rename_i rows _ _ _ hr;rw [hr];exact hk0
   ·cases hk0
 refine ⟨hcall,_,us,_,hk,fun obf hob m1 w U ι as hm hv0=>?_⟩
 have hv:=yW (Fn:=Fn) (FnD:=FnD) (m:=m) (ss:=ms.args) hv0
 rw [hpre] at hv
 let C:=ms.obs.map (·.1)
 let σ:=HZ ρ C
 have hσ:∀ c∈C,σ (ρ c)=c:=fun c hc=>Fk hndρ hc
 let K:Nat→Prop:=fun k=>∃ c∈C,ρ c=k
 have hρ:∀ c∈C,obf (ρ c)=ai (aD ob) (ρ c):=fun c hc=>by
  obtain ⟨p,hp,rfl⟩:=M5.1 hc
  exact hob _ (Ma _ (M5.2 ⟨p,hp,rfl⟩))
 obtain ⟨o1,ho1,hmate⟩:=sq (τ:=id) (σ:=σ) hys (fun p hp=>⟨hσ _ (M5.2 ⟨p,hp,rfl⟩),fun c hc=>hσ c (hCo p hp c hc)⟩) (by simpa using hC) xs
 have mate:∀ c∈C,∃ oa ob',ai (aD ob) (ρ c)=some oa∧ai (aD o1) c=some ob'∧ob'=oa.ren σ∧oa.owned=true∧∀ k∈oa.keysOf,K k:=fun c hc=>by
  obtain ⟨p,hp,rfl⟩:=M5.1 hc
  obtain ⟨oa,ob',e1,e2,e3,e4⟩:=hmate p hp
  refine ⟨oa,ob',e1,e2,e3.eq,e4 rfl,fun k hk=>?_⟩
  obtain ⟨d,d1,d2⟩:=e3.keys k hk
  exact ⟨d,hCo p hp d d1,d2⟩
 have hg:Given ρ σ (·∈C) K ι obf (fun c=>ι (ρ c)) (ai (aD o1)):=by
  refine ⟨?_,?_,?_,?_,?_,?_⟩
  ·rintro k ⟨c,hc,rfl⟩;rw [hσ c hc];exact ⟨hc,rfl⟩
  ·intro c hc;exact ⟨⟨c,hc,rfl⟩,hσ c hc⟩
  ·rintro k ⟨c,hc,rfl⟩
   obtain ⟨oa,ob',e1,e2,e3,_⟩:=mate c hc
   simp only [hσ c hc,hρ c hc,e1,e2,e3,M3,Kk]
  ·intro c o hc
   have:=mM hc
   rw [ip ho1,List.map_id] at this
   exact this
  ·rintro k ⟨c,hc,rfl⟩
   obtain ⟨oa,ob',e1,_,_,e4,_⟩:=mate c hc
   exact ⟨oa,(hρ c hc).trans e1,e4⟩
  ·rintro k o ⟨c,hc,rfl⟩ hko
   obtain ⟨oa,ob',e1,_,_,_,e5⟩:=mate c hc
   rw [hρ c hc,e1] at hko;cases hko
   exact e5
 have hkarg:∀ c∈V3.keysF ms.args,K (ρ c):=fun c hc=>⟨c,hCa c hc,rfl⟩
 have hchk':∀ p∈kS ms.args args',∃ rows size elem own,aX o1 (σ p.1)=some (.arr rows size elem own)∧p.2.1=rows.length∧p.2.2=rows.length:=fun p hp=>by
  obtain ⟨rows,size,elem,own,k1,k2,k3⟩:=hchk p hp
  have hkey:∃ c∈V3.keysF ms.args,ρ c=p.1:=A8 hxs p hp
  obtain ⟨c,hc,hcp⟩:=hkey
  obtain ⟨oa,ob',e1,e2,e3,_⟩:=mate c (hCa c hc)
  rw [hcp] at e1
  rw [aq,k1] at e1
  cases e1
  rw [←hcp,hσ c (hCa c hc)]
  rw [aq] at e2
  obtain ⟨o3,e4,e5⟩:=Kr.1 e2
  rw [e3] at e5
  have:o3=.arr rows size elem own:=nW (fun _ _ _ _=>mh ho1 e4) e5
  exact ⟨rows,size,elem,own,by rw [e4,this],k2,k3⟩
 obtain ⟨vs,hvs,hvf⟩:=sm (us:=o1) (τ:=id) (σ:=σ) hxs (fun c hc=>hσ c (hCa c hc)) hchk' []
 rw [Kj,mj] at hvs
 refine CallsIn.mono (hmc vs xs [] o1 ho1 hvs m1 w U (fun c=>ι (ρ c)) as (hg.mem hm) (hvf hg.told hkarg _ hv)) ?_
 rintro e w' ⟨vv,o2,rest2,U',ιc,he,hf2,n1,n2,n3⟩
 obtain ⟨us',g1,g2⟩:=yc (τ1:=id) (τ2:=ρ) (σ:=ρ) hf2 (fun p hp=>⟨rfl,fun c hc=>rfl⟩) (by simpa using hC) hndρ
 have hus':us'=us:=by
  have:bm ρ ms.wn ms.obs ((List.range (n9 ms.obs)).map fun i=>Fb zs (xr ms.res+i))=some (us,usr):=hus
  rw [this] at g1;cases g1;rfl
 subst hus'
 have mate2:∀ c∈C,∃ oa ob',ai (aD o2) c=some oa∧ai (aD us') (ρ c)=some ob'∧ob'=oa.ren ρ∧∀ j∈oa.keysOf,j∈C:=fun c hc=>by
  obtain ⟨p,hp,rfl⟩:=M5.1 hc
  obtain ⟨oa,ob',e1,e2,e3⟩:=g2 p hp
  refine ⟨oa,ob',e1,e2,e3.eq,fun k hk=>?_⟩
  obtain ⟨d,d1,rfl⟩:=e3.keys k hk
  exact hCo p hp d d1
 have hdus:us'.map (·.1)=C.map ρ:=ip hus
 have hdus':(aD us').map (·.1)=C.map ρ:=by rw [jB];exact hdus
 classical
 have:=hg.back_ hm n1 n2 (ι':=fun k=>if K k then ιc (σ k) else ι k) (ob':=b9 obf (aD us')) ?_ ?_ ?_
 ·refine ⟨vv,U',_,he,this.1,this.2,?_⟩
  have n3':=n3
  unfold rY at n3' ⊢
  cases href:ms.ref with
  | none=>rw [href] at n3';exact Ck n3'
  | some c =>
   rw [href] at n3'
   simp only at n3' ⊢
   cases hus2:aX us' (ρ c) with
   | none=>simp [eV,eL,VR,LR]
   | some ou =>
    cases ou with
    | arr rows size elem own =>
     simp only
     have hcC:c∈C:=by
      exact CO hok href
     obtain ⟨oa,ob',e1,e2,e3,_⟩:=mate2 c hcC
     rw [aq,hus2] at e2
     cases e2
     rw [aq] at e1
     obtain ⟨o3,e4,e5⟩:=Kr.1 e1
     have ho3:o3=.arr rows size elem own:=by
      have e6:oa=.arr rows size elem own:=by
       cases oa<;>simp [eO,O.ren] at e3
       obtain ⟨rfl,rfl,rfl,rfl⟩:=e3
       rfl
      rw [e6] at e5
      exact nW (fun _ _ _ _=>mh hf2 e4) e5
     rw [show (id c)=c from rfl,e4,ho3] at n3'
     simp only [eV,eL,VR,LR] at n3' ⊢
     obtain ⟨rows2,size2,elem2,own2,q1,q2,q3,q4⟩:=n3'
     rw [aq,e4,ho3] at q1
     cases q1
     refine ⟨rows,size,elem,own,?_,q2,?_,q4⟩
     ·rw [l8 (by rw [hdus'];exact hndρ) (by rw [hdus'];exact M5.2 ⟨c,hcC,rfl⟩),aq,hus2];rfl
     ·rw [K9 ⟨c,hcC,rfl⟩,hσ c hcC];exact q3
    | _=>simp [eV,eL,VR,LR]
 ·rintro k hK
  refine ⟨by simp only [K9 hK],?_⟩
  obtain ⟨c,hc,rfl⟩:=hK
  rw [hσ c hc,l8 (by rw [hdus'];exact hndρ) (by rw [hdus'];exact M5.2 ⟨c,hc,rfl⟩)]
  obtain ⟨oa,ob',e1,e2,e3,_⟩:=mate2 c hc
  rw [e2,e1,e3];rfl
 ·intro k hK
  refine ⟨by simp only [Kg hK],?_⟩
  rw [jN]
  rw [hdus']
  intro hmem
  obtain ⟨c,hc,rfl⟩:=M5.1 hmem
  exact hK ⟨c,hc,rfl⟩
 ·intro c o hco
  have hc:c∈C:=by
   have:=mM hco
   rw [ip hf2,List.map_id] at this
   exact this
  obtain ⟨oa,ob',e1,_,_,e4⟩:=mate2 c hc
  rw [e1] at hco;cases hco
  exact ⟨hc,e4⟩
theorem pX {f x:Nat} (hf:f < 300000) (hx:x=f∨x=f+300000∨x=f+600000):pY x=f:=by
 unfold pY
 split
 ·omega
 ·split<;>omega
theorem sF (hM:nj P cfg Fn) {f:Nat} {args:List cv} {kk:cv→Ur→List Nat→az} (h:u5 (aa Fn FnD m) cfg f args ob kk=some r) :
  (∀ (as:Array Value) (w:World),(callFunc f as).run P w=.ok (.enter f as) w)∧∃ v us rd,kk v us rd=some r ∧
  ∀ (obf:Ob),(∀ k∈rd,obf k=ai (aD ob) k)→∀ (m:Nat) (w:World) (U:Nat→Prop) (ι:Pl) (as:Array Value),Mem w U ι obf→VF w U ι obf (cI args) as.toList →
   CallsIn (FW none) m P f as w fun e w'=>∃ vv U' ι',e=.returned vv∧Mem w' U' ι' (b9 obf (aD us))∧Evo w U ι obf w' U' ι' (b9 obf (aD us))∧VR w' U' ι' (b9 obf (aD us)) (eV v) vv:=by
 unfold u5 at h
 split at h
 ·rename_i hf
  split at h
  ·have:=o5 hM h
   rw [pX hf (.inl rfl)] at this
   exact this
  ·have:=o5 hM h
   rw [pX hf (.inr (.inl rfl))] at this
   exact this
  ·have:=o5 hM h
   rw [pX hf (.inr (.inr rfl))] at this
   exact this
 ·cases h
theorem vP (hM:nj P cfg Fn) {f:Nat} {args:List cv} {kk:cv→Ur→az} (h:DE (aa Fn FnD m) cfg f args ob kk=some r) :
  (∀ (as:Array Value) (w:World),(callFunc f as).run P w=.ok (.enter f as) w) ∧
  ∀ (m:Nat) (w:World) (U:Nat→Prop) (ι:Pl) (as:Array Value),Mem w U ι (ai (aD ob))→VF w U ι (ai (aD ob)) (cI args) as.toList →
   CallsIn (FW none) m P f as w fun e w'=>∃ v vv ob' U' ι',e=.returned vv∧kk v ob'=some r∧Mem w' U' ι' (ai (aD ob'))∧Evo w U ι (ai (aD ob)) w' U' ι' (ai (aD ob'))∧VR w' U' ι' (ai (aD ob')) (eV v) vv:=by
 obtain ⟨h1,v,us,rd,h2,h3⟩:=sF hM h
 refine ⟨h1,fun m w U ι as hm hv=>CallsIn.mono (h3 _ (fun _ _=>rfl) m w U ι as hm hv) ?_⟩
 rintro e w' ⟨vv,U',ι',he,g1,g2,g3⟩
 have e1:ai (aD (cD us ob))=b9 (ai (aD ob)) (aD us):=by rw [fR,cL]
 exact ⟨v,vv,cD us ob,U',ι',he,h2,by rw [e1];exact g1,by rw [e1];exact g2,by rw [e1];exact g3⟩
end
section
variable {P:Program} {Fn:Nat→List D→az} {m0:Nat} {cfg:Cf3}
mutual
theorem zx:∀ x:gx,(eL x).keysOf=x.keysOf
 | .d _=>by simp [eL,L.keysOf,L3.keysOf]
 | .b _=>by simp [eL,L.keysOf,L3.keysOf]
 | .i _ _=>by simp [eL,L.keysOf,L3.keysOf]
 | .nil=>by simp [eL,L.keysOf,L3.keysOf]
 | .dp _ _=>by simp [eL,L.keysOf,L3.keysOf]
 | .fn f cs=>by simp only [eL,L.keysOf,L3.keysOf];exact mR cs
 | .slk _ _ _ _=>by simp [eL,L.keysOf,L3.keysOf]
 | .pa _ _ _ _=>by simp [eL,L.keysOf,L3.keysOf]
 | .ptr _ _=>by simp [eL,L.keysOf,L3.keysOf]
 | .mk _=>by simp [eL,L.keysOf,L3.keysOf]
 | .mq _=>by simp [eL,L.keysOf,L3.keysOf]
 | .pb _ _ _=>by simp [eL,L.keysOf,L3.keysOf]
 | .px _ _ _ _ _ _=>by simp [eL,L.keysOf,L3.keysOf]
 | .np=>by simp [eL,L.keysOf,L3.keysOf]
 | .sln _ _=>by simp [eL,L.keysOf,L3.keysOf]
 | .undef=>by simp [eL,L.keysOf,L3.keysOf]
theorem mR:∀ xs:List gx,L.keysF (bV xs)=L3.keysF xs
 | []=>rfl
 | x::xs=>by simp only [bV,L.keysF,L3.keysF,zx x,mR xs]
end
mutual
theorem tE:∀ x:cv,(eV x).keysOf=x.keysOf
 | .one x=>by simp only [eV,V.keysOf,V3.keysOf,zx]
 | .agg xs=>by simp only [eV,V.keysOf,V3.keysOf,mR]
 | .tup xs=>by simp only [eV,V.keysOf,V3.keysOf,mQ xs]
theorem mQ:∀ xs:List cv,V.keysF (cI xs)=V3.keysF xs
 | []=>rfl
 | x::xs=>by simp only [cI,V.keysF,V3.keysF,tE x,mQ xs]
end
theorem pi (o:BM):(eO o).keysOf=o.keysOf:=by
 cases o with
 | arn rows s e o=>cases rows<;>simp [eO,O.keysOf,O3.keysOf]
 | _=>simp [eO,O.keysOf,O3.keysOf,mR]
theorem se (ob:Ur):∀ ks:List Nat,mL (aD ob) ks=kF ob ks
 | []=>rfl
 | k::ks=>by
  simp only [mL,kF,xv,se ob ks]
  cases aX ob k<;>simp [pi]
theorem yQ (ob:Ur):∀ (n:Nat) (ks:List Nat),pZ (aD ob) n ks=td ob n ks
 | 0,ks=>rfl
 | n+1,ks=>by simp only [pZ,td,se,yQ ob n]
theorem zy (ob:Ur):∀ ks:List Nat,jk (aD ob) ks=aD (qr ob ks)
 | []=>rfl
 | k::ks=>by
  simp only [jk,qr,xv,zy ob ks]
  cases aX ob k<;>simp [aV]
theorem Fl {pk:List Nat} {vs:List cv} {ob ob':Ur} (h:tP pk vs ob=some ob'):gcO pk (cI vs) (aD ob)=some (aD ob'):=by
 unfold tP at h
 unfold gcO
 simp only [mQ,yQ,zy] at h ⊢
 split at h
 ·rename_i hc
  cases h
  rw [K9]
  simp only [dw,List.all_map,aD,T3,tE,pi]
  exact hc
 ·cases h
theorem nL:∀ {l acc:List Nat} {k:Nat},k∈l∨k∈acc→k∈gv l acc
 | [],acc,k,h=>by simpa [gv] using h
 | x::xs,acc,k,h=>by
  simp only [gv]
  split
  ·rename_i hc
   refine nL ?_
   rcases h with h | h
   ·rcases Ki.1 h with rfl | h
    ·exact .inr (by simpa using hc)
    ·exact .inl h
   ·exact .inr h
  ·refine nL ?_
   rcases h with h | h
   ·rcases Ki.1 h with rfl | h
    ·exact .inr (T9 ..)
    ·exact .inl h
   ·exact .inr (Kz _ h)
theorem cF {ob:Ur} {k:Nat} (h:ai (aD ob) k≠none):k∈e8 ob:=by
 have:=si h
 rw [keysO,show (aD ob).map (·.1)=ob.map (·.1) from jB ob] at this
 exact nL (.inl this)
def LogSub (a b:Iw):Prop:=a.length=b.length∧∀ (j:Nat) (x y:List Nat×List Nat),a[j]?=some x→b[j]?=some y→(∀ k∈x.1,k∈y.1)∧∀ k∈x.2,k∈y.2
theorem LogSub.snoc {a b:Iw} (h:LogSub a b) {x y:List Nat×List Nat} (h1:∀ k∈x.1,k∈y.1) (h2:∀ k∈x.2,k∈y.2):LogSub (a++[x]) (b++[y]):=by
 refine ⟨by simp [h.1],fun j u v hu hv=>?_⟩
 by_cases hj:j < a.length
 ·rw [Mb hj] at hu
  rw [Mb (by rw [←h.1];exact hj)] at hv
  exact h.2 j u v hu hv
 ·rw [T8 (by omega)] at hu
  rw [T8 (by rw [←h.1];omega),← h.1] at hv
  have hj0:j - a.length=0:=by
   rcases Nat.eq_zero_or_pos (j - a.length) with h0 | h0
   ·exact h0
   ·rw [Kx (by simp;omega)] at hu;cases hu
  rw [hj0] at hu hv
  simp only [Ky,Jr] at hu hv
  subst hu hv
  exact ⟨h1,h2⟩
theorem Fs {pairs:List (Nat×Nat)} {i:Nat} {log log2:Iw} {rd wr rd2:List Nat} (h:oM pairs i log rd wr=true) (hl:LogSub log2 log) (hr:∀ k∈rd2,k∈rd):oM pairs i log2 rd2 wr=true:=by
 unfold oM at h ⊢
 rw [Kt] at h ⊢
 intro p hp
 have:=h p hp
 split at this
 ·rename_i hi
  rw [K9 hi]
  cases hb:log[p.1]? with
  | none=>rw [hb] at this;cases this
  | some y =>
   rw [hb] at this
   have hlen:p.1 < log2.length:=by rw [hl.1];exact (Kv.1 hb).1
   obtain ⟨s1,s2⟩:=hl.2 p.1 _ y (Jz hlen) hb
   rw [Jz hlen]
   generalize log2[p.1]'hlen=x at s1 s2
   simp only [Js,Kt,Md,List.contains_eq_mem,Mk] at this ⊢
   refine ⟨fun k hk=>⟨fun hm=>(this.1 k (s2 k hk)).1 (hr k hm),(this.1 k (s2 k hk)).2⟩,fun k hk=>this.2 k (s1 k hk)⟩
 ·rename_i hi
  rw [Kg hi]
def Z3 (P:Program) (cfg:Cf3) (Fn:Nat→List D→az) (κ:Oper→Option Nat) (nt:Nat):Zo:=fun o x q R=>iu nt o.dst=true ∧
 (((qf (j5 cfg Fn) P (κ o) (ev x.1) o.op).run x.2=some q∧(qf (j5 cfg Fn) P (κ o) (ev x.1) o.op).reads x.2=R) ∨
 ∃ (fo:Operand) (as:Array Operand) (ts:Array TypeId) (f:Nat) (xs:List V),o.op=.call ⟨.value fo,as,ts⟩∧gZ (ev x.1 fo) (as.toList.map (ev x.1))=some (f,xs) ∧
  (∀ (vs:Array Value) (w:World),(callFunc f vs).run P w=.ok (.enter f vs) w) ∧
  ∀ (obf:Ob),(∀ k∈R,obf k=x.2 k)→∀ (m:Nat) (w:World) (U:Nat→Prop) (ι:Pl) (vs:Array Value),Mem w U ι obf→VF w U ι obf xs vs.toList →
   CallsIn (FW none) m P f vs w fun e w'=>∃ vv U' ι',e=.returned vv∧Mem w' U' ι' (b9 obf q.2)∧Evo w U ι obf w' U' ι' (b9 obf q.2)∧VR w' U' ι' (b9 obf q.2) q.1 vv)
theorem vO {fo:Operand} {as:Array Operand} {ts:Array TypeId}:jC (.call ⟨.value fo,as,ts⟩)=2:=rfl
theorem Z3_ok (hF:mo P cfg Fn) (κ:Oper→Option Nat) (nt:Nat) (ops:Array Oper):ZOK P nt ops (fun _=>True) (Z3 P cfg Fn κ nt) where
 agree:=by
  rintro o x y q R ⟨hd,h⟩ h1 h2
  refine ⟨hd,?_⟩
  have hev:=vE h1
  rcases h with ⟨a,b⟩ | ⟨fo,as,ts,f,xs,hop,hf,hc,hr⟩
  ·left
   have e:qf (j5 cfg Fn) P (κ o) (ev y.1) o.op=qf (j5 cfg Fn) P (κ o) (ev x.1) o.op:=sb _ hev
   rw [e]
   have:=Q.run_agree (qf (j5 cfg Fn) P (κ o) (ev x.1) o.op) (ob:=x.2) (ob':=y.2) (fun k hk=>h2 k (by rw [b] at hk;exact hk))
   exact ⟨this.1.trans a,this.2.trans b⟩
  ·right
   rw [hop] at hev
   have e1:ev y.1 fo=ev x.1 fo:=hev fo (by simp [Op.operands,Call.operands])
   have e2:as.toList.map (ev y.1)=as.toList.map (ev x.1):=T7 fun z hz=>hev z (by simp only [Op.operands,Call.operands];simp at hz;simp [hz])
   exact ⟨fo,as,ts,f,xs,hop,by rw [e1,e2];exact hf,hc,fun obf hob=>hr obf fun k hk=>(hob k hk).trans (h2 k hk)⟩
 ng:=by
  rintro o x q R ⟨hd,h⟩ hc
  rcases h with ⟨a,b⟩ | ⟨fo,as,ts,f,caps,hop,_⟩
  ·have hn:=HN (P:=P) (C:=j5 cfg Fn) (dst:=κ o) (ρ:=ev x.1) hc
   exact ⟨hn.upd a,by rw [←b,hn.reads]⟩
  ·rw [hop,vO] at hc;cases hc
 nu:=by
  rintro o x q R ⟨hd,h⟩ hc
  rcases h with ⟨a,b⟩ | ⟨fo,as,ts,f,caps,hop,_⟩
  ·exact HM (P:=P) (C:=j5 cfg Fn) (dst:=κ o) (ρ:=ev x.1) hc _ _ a
  ·rw [hop,vO] at hc;cases hc
 rep:=fun _ _=>trivial
 sound:=by
  rintro o x q R B zs rng yv a w ro m K RR ⟨hd,h⟩ _ hs hK
  rcases h with ⟨h1,_⟩ | ⟨fo,as,ts,f,caps,hop,hf,hcall,hr⟩
  ·exact uX (C:=j5 cfg Fn) (Ao hF) hs h1 hd fun a' w' hs'=>hK _ _ (by rw [l5] at hs';exact hs')
  ·obtain ⟨U,ι,ds,hm,he0,hz,hdf,hnd,hds,hrg,hsz,hv,hy⟩:=hs
   have hnd':∀ c,o.op≠.defer c:=by rintro c hc;rw [hop] at hc;cases hc
   obtain ⟨us,hex,hvals⟩:=sE hop hv hcall hf
   unfold Oper.wpIn
   refine ⟨fun f _=>lI ro f,?_⟩
   rw [Oper.semAt_eq _ _ _ hnd',hex]
   refine ⟨fun hc=>(by cases hc),CallsIn.mono (hr x.2 (fun _ _=>rfl) (m - 1) w U ι _ hm hvals:CallsIn (FW ro) (m - 1) P f _ w _) fun e w' ⟨vv,U',ι',h1,h3,h4,h5⟩=>?_⟩
   subst h1
   refine hK _ _ ?_
   have:=gf (yv:=yv) he0 hz hdf hnd hds hrg hsz hv hy hd h3 h4 h5
   rw [l5] at this
   exact this
theorem Dv {pairs:List (Nat×Nat)} {i:Nat} {log:Iw} {rd wr:List Nat} (h:oM pairs i log rd wr=true):∀ p∈pairs,p.2=i→∃ a,log[p.1]?=some a∧Ii a (rd,wr):=by
 unfold oM at h
 rw [Kt] at h
 intro p hp hpi
 have:=h p hp
 rw [K9 hpi] at this
 split at this
 ·rename_i rj wj hlog
  refine ⟨(rj,wj),hlog,?_⟩
  simp only [Js,Kt,Md,List.contains_eq_mem,Mk] at this
  exact ⟨fun k hk=>this.1 k hk,fun k hk=>this.2 k hk⟩
 ·cases this
theorem uZ {ρ:Operand→cv} {o:Oper} {f:Nat} {args:List cv} (h:xC cfg ρ o=some (f,args)):∃ fo as ts,o.op=.call ⟨.value fo,as,ts⟩∧gZ (eV (ρ fo)) (as.toList.map fun x=>eV (ρ x))=some (f,cI args):=by
 unfold xC at h
 split at h
 ·rename_i f' args' hk
  split at h
  ·cases h;exact nO hk
  ·cases h
 ·cases h
mutual
theorem VR.told_id {K:Nat→Prop} {w:World} {U:Nat→Prop} {ι1 ι2:Pl} {ob1 ob2:Ob} (h:p0 id K ι1 ob1 ι2 ob2):∀ (x:V) (v:Value),(∀ k∈x.keysOf,K k)→VR w U ι1 ob1 x v→VR w U ι2 ob2 x v
 | .one l,v,hk,hx=>by
  simp only [VR] at hx ⊢
  have:=LR.told h l v (by simpa [V.keysOf] using hk) hx
  rwa [L.ren_id] at this
 | .agg xs,v,hk,hx=>by
  simp only [VR] at hx ⊢
  obtain ⟨cs,e1,e2⟩:=hx
  have:=LF.told h xs cs.toList (by simpa [V.keysOf] using hk) e2
  rw [L.renF_id] at this
  exact ⟨cs,e1,this⟩
 | .tup xs,v,hk,hx=>by
  simp only [VR] at hx ⊢
  obtain ⟨vs,e1,e2⟩:=hx
  exact ⟨vs,e1,VF.told_id h xs vs.toList (by simpa [V.keysOf] using hk) e2⟩
theorem VF.told_id {K:Nat→Prop} {w:World} {U:Nat→Prop} {ι1 ι2:Pl} {ob1 ob2:Ob} (h:p0 id K ι1 ob1 ι2 ob2):∀ (xs:List V) (vs:List Value),(∀ k∈V.keysF xs,K k)→VF w U ι1 ob1 xs vs→VF w U ι2 ob2 xs vs
 | [],vs,_,hv=>by simpa [VF] using hv
 | x::xs,vs,hk,hv=>by
  simp only [VF] at hv ⊢
  obtain ⟨v,vs',e,h1,h2⟩:=hv
  exact ⟨v,vs',e,VR.told_id h x v (fun k hk'=>hk k (by simp [V.keysF,hk'])) h1,VF.told_id h xs vs' (fun k hk'=>hk k (by simp [V.keysF,hk'])) h2⟩
end
theorem B4 {xs:List cv} {k:Nat} (h:k∈V3.keysF xs):∃ x∈xs,k∈x.keysOf:=by
 induction xs with
 | nil=>simp [V3.keysF] at h
 | cons x xs ih =>
  simp only [V3.keysF,Kp] at h
  rcases h with h | h
  ·exact ⟨x,by simp,h⟩
  ·obtain ⟨y,hy,h⟩:=ih h
   exact ⟨y,by simp [hy],h⟩
theorem HL {o:BM} (h:z6 o=true):(eO o).owned=true:=by
 cases o with
 | arn rows s e o=>cases h
 | _=>exact h
theorem CK {o:BM} (h:z6 o=true):(eO o).val=some (eO o):=by
 cases o with
 | arn rows s e o=>cases h
 | _=>rfl
theorem qI {l:List Nat} {ks:List Nat} (h:l.all ks.contains=true):∀ k∈l,k∈ks:=fun k hk=>by
 have:=Kt.1 h k hk
 simpa using this
theorem tO {ob:Ur} {k:Nat} (hown:∀ p∈ob,z6 p.2=true) (h:k∈ob.map (·.1)):∃ o,ai (aD ob) k=some o:=by
 induction ob with
 | nil=>simp at h
 | cons p ob ih =>
  obtain ⟨j,o⟩:=p
  rw [aV]
  simp only [ai]
  by_cases e:k=j
  ·rw [K9 e];exact ⟨_,CK (hown _ (T9 ..))⟩
  ·rw [Kg e];exact ih (fun p hp=>hown p (Kz _ hp)) (by simpa [e] using h)
theorem qy {ob:Ur} {k:Nat} {o:O} (h:ai (aD ob) k=some o):∃ p∈ob,p.1=k∧eO p.2=o:=by
 induction ob with
 | nil=>simp [aD,ai] at h
 | cons p ob ih =>
  obtain ⟨j,q⟩:=p
  rw [aV] at h
  simp only [ai] at h
  by_cases e:k=j
  ·rw [K9 e] at h
   refine ⟨_,T9 ..,e.symm,?_⟩
   generalize eO q=q' at h
   cases q'<;>first | (cases h;rfl) | cases h
  ·rw [Kg e] at h
   obtain ⟨p,hp,h1,h2⟩:=ih h
   exact ⟨p,Kz _ hp,h1,h2⟩
theorem tH {ρ:Operand→cv} {o:Oper} {f:Nat} {args:List cv} (h:tI cfg ρ o=some (f,args)):∃ fo as ts,o.op=.call ⟨.value fo,as,ts⟩∧gZ (eV (ρ fo)) (as.toList.map fun x=>eV (ρ x))=some (f,cI args):=by
 unfold tI at h
 split at h
 ·rename_i f' args' hk
  split at h
  ·cases h;exact nO hk
  ·cases h
 ·cases h
theorem ya {w:World} {U:Nat→Prop} {ι ιc:Pl} {ob obc:Ob} {K J:Nat→Prop} (g:Given id id K K ι ob ιc obc) (hm:Mem w U ι ob) {w':World} {U':Nat→Prop} {ιc' ι':Pl} {obc' ob':Ob} (hm':Mem w' U' ιc' obc') (he:Evo w U ιc obc w' U' ιc' obc')
  (hKJ:∀ k,K k→J k) (hnew:∀ k,J k→¬ K k→ob k=none) (hin:∀ k,J k→ι' k=ιc' k∧ob' k=obc' k) (hout:∀ k,¬ J k→ι' k=ι k∧ob' k=ob k)
  (hdom:∀ c o,obc' c=some o→J c∧∀ j∈o.keysOf,J j):Mem w' U' ι' ob'∧Evo w U ι ob w' U' ι' ob':=by
 have htold:p0 id J ιc' obc' ι' ob':=fun c hc=>by
  obtain ⟨h1,h2⟩:=hin c hc
  refine ⟨h1,?_⟩
  rw [id,h2]
  cases obc' c with
  | none=>rfl
  | some o=>rw [M3,O.ren_id]
 have hco:∀ k o,K k→ob k=some o→obc k=some o∧ιc k=ι k:=fun k o hK hk=>by
  obtain ⟨t1,t2⟩:=g.told k hK
  rw [hk,M3,O.ren_id] at t2
  exact ⟨t2,t1⟩
 have hsrc:∀ c o,obc c=some o→o.owned=true→ob c=some o∧ιc c=ι c:=fun c o hc _=>by
  obtain ⟨o1,h1,h2,_,h4,h5⟩:=g.at_ hc
  rw [O.ren_id] at h2
  exact ⟨by rw [h2];exact h1,h4⟩
 have hev:Evo w U ι ob w' U' ι' ob':=by
  refine ⟨he.os,he.tape,he.output,he.size,he.kept,he.sub,?_,?_,?_,?_,?_,?_,?_,?_⟩
  ·intro k cells elem hk
   by_cases hK:K k
   ·obtain ⟨t2,t1⟩:=hco k _ hK hk
    obtain ⟨cells',h1,h2⟩:=he.box k _ elem t2
    obtain ⟨i1,i2⟩:=hin k (hKJ k hK)
    exact ⟨_,by rw [i2,h1],by rw [i1,h2,t1]⟩
   ·by_cases hJ:J k
    ·rw [hnew k hJ hK] at hk;cases hk
    ·obtain ⟨i1,i2⟩:=hout k hJ
     exact ⟨cells,by rw [i2,hk],by rw [i1]⟩
  ·intro k rows size elem own hk
   by_cases hK:K k
   ·obtain ⟨t2,t1⟩:=hco k _ hK hk
    obtain ⟨rows',own',h1,h2,h3⟩:=he.arr k rows size elem own t2
    obtain ⟨i1,i2⟩:=hin k (hKJ k hK)
    exact ⟨rows',own',by rw [i2,h1],h2,fun e=>by rw [i1,h3 e,t1]⟩
   ·by_cases hJ:J k
    ·rw [hnew k hJ hK] at hk;cases hk
    ·obtain ⟨i1,i2⟩:=hout k hJ
     exact ⟨rows,own,by rw [i2,hk],Ko _,fun _=>i1⟩
  ·intro k agg keys vals own hk
   by_cases hK:K k
   ·obtain ⟨t2,t1⟩:=hco k _ hK hk
    obtain ⟨keys',vals',own',h1,h2⟩:=he.mp k agg keys vals own t2
    obtain ⟨i1,i2⟩:=hin k (hKJ k hK)
    exact ⟨keys',vals',own',by rw [i2,h1],by rw [i1,h2,t1]⟩
   ·by_cases hJ:J k
    ·rw [hnew k hJ hK] at hk;cases hk
    ·obtain ⟨i1,i2⟩:=hout k hJ
     exact ⟨keys,vals,own,by rw [i2,hk],by rw [i1]⟩
  ·intro k keys vals hk
   by_cases hK:K k
   ·obtain ⟨t2,t1⟩:=hco k _ hK hk
    obtain ⟨keys',vals',h1,h2⟩:=he.ml k keys vals t2
    obtain ⟨i1,i2⟩:=hin k (hKJ k hK)
    exact ⟨keys',vals',by rw [i2,h1],by rw [i1,h2,t1]⟩
   ·by_cases hJ:J k
    ·rw [hnew k hJ hK] at hk;cases hk
    ·obtain ⟨i1,i2⟩:=hout k hJ
     exact ⟨keys,vals,by rw [i2,hk],by rw [i1]⟩
  ·intro k keys rows size elem hk
   by_cases hK:K k
   ·obtain ⟨t2,t1⟩:=hco k _ hK hk
    obtain ⟨keys',rows',h1,h2,h3⟩:=he.am k keys rows size elem t2
    obtain ⟨i1,i2⟩:=hin k (hKJ k hK)
    exact ⟨keys',rows',by rw [i2,h1],by rw [i1,h2,t1],by rw [i1,← t1];exact h3⟩
   ·by_cases hJ:J k
    ·rw [hnew k hJ hK] at hk;cases hk
    ·obtain ⟨i1,i2⟩:=hout k hJ
     exact ⟨keys,rows,by rw [i2,hk],by rw [i1],by rw [i1];exact List.prefix_refl _⟩
  ·intro b hb hno
   refine he.same b hb fun c o hc ho heq=>?_
   obtain ⟨h1,h3⟩:=hsrc c o hc ho
   exact hno _ _ h1 ho (by rw [←h3];exact heq)
  ·intro k o hk ho b hb
   by_cases hJ:J k
   ·obtain ⟨i1,i2⟩:=hin k hJ
    rw [i2] at hk
    rw [i1] at hb
    rcases he.ownd k o hk ho b hb with h | ⟨c0,o0,h1,h2,h3⟩
    ·exact .inl h
    ·obtain ⟨g1,g3⟩:=hsrc c0 o0 h1 h2
     exact .inr ⟨_,o0,g1,h2,by rw [←g3];exact h3⟩
   ·obtain ⟨i1,i2⟩:=hout k hJ
    rw [i2] at hk
    rw [i1] at hb
    exact .inr ⟨k,o,hk,ho,hb⟩
  ·intro b hb
   rcases he.orig b hb with h | h | ⟨c,o,h1,h2,h3⟩
   ·exact .inl h
   ·exact .inr (.inl h)
   ·obtain ⟨g1,g3⟩:=hsrc c o h1 h2
    exact .inr (.inr ⟨_,o,g1,h2,by rw [←g3];exact h3⟩)
 refine ⟨⟨hm'.lt,?_,?_,?_⟩,hev⟩
 ·intro k o hk
  by_cases hJ:J k
  ·obtain ⟨i1,i2⟩:=hin k hJ
   rw [i2] at hk
   have:=OR.told (k:=k) htold i1 (hdom _ _ hk).2 (hm'.obj _ _ hk)
   rwa [O.ren_id] at this
  ·obtain ⟨i1,i2⟩:=hout k hJ
   rw [i2] at hk
   have h0:=hm.obj k o hk
   have hboth:∀ b∈(ι k).foot,w'.heap[b]?=w.heap[b]?∧(U' b↔U b):=fun b hb=>by
    cases ho:o.owned with
    | true =>
     have hne:∀ c oc,obc c=some oc→oc.owned=true→b∉(ιc c).foot:=fun c oc hc hoc hb'=>by
      obtain ⟨o1,g1,_,g3,g4,g5⟩:=g.at_ hc
      rw [g4] at hb'
      exact hm.inj _ _ _ _ g1 hk g5 ho (fun e=>hJ (hKJ _ (e ▸ g3))) b hb' hb
     have hlt:=hm.foot hk hb
     have hnU:=hm.footU hk ho hb
     refine ⟨he.same _ hlt hne,fun hU=>?_,fun h=>absurd h hnU⟩
     rcases he.orig _ hU with h | h | ⟨c,oc,h1,h2,h3⟩
     ·exact h
     ·omega
     ·exact absurd h3 (hne c oc h1 h2)
    | false =>
     have:=hm.footU' hk ho hb
     exact ⟨he.kept _ this,fun _=>this,fun _=>he.sub _ this⟩
   exact OR.evo hev i1 (fun b hb=>(hboth b hb).1) (fun b hb=>(hboth b hb).2) h0
 ·intro k k' o o' hk hk' ho ho' hne
  have side:∀ {k k':Nat} {o o':O},J k→¬ J k'→ob' k=some o→ob' k'=some o'→o.owned=true→o'.owned=true→∀ b∈(ι' k).foot,b∉(ι' k').foot:=by
   intro k k' o o' hK hK' hk hk' ho ho' b hb hb'
   obtain ⟨i1,i2⟩:=hin k hK
   obtain ⟨j1,j2⟩:=hout k' hK'
   rw [i2] at hk
   rw [j2] at hk'
   rw [i1] at hb
   rw [j1] at hb'
   have hlt:=hm.foot hk' hb'
   rcases he.ownd _ o hk ho b hb with h | ⟨c0,o0,h1,h2,h3⟩
   ·omega
   ·obtain ⟨o1,g1,_,g3,g4,g5⟩:=g.at_ h1
    rw [g4] at h3
    exact hm.inj _ _ _ _ g1 hk' g5 ho' (fun e=>hK' (hKJ _ (e ▸ g3))) b h3 hb'
  by_cases hK:J k
  ·by_cases hK':J k'
   ·obtain ⟨i1,i2⟩:=hin k hK
    obtain ⟨j1,j2⟩:=hin k' hK'
    rw [i2] at hk
    rw [j2] at hk'
    rw [i1,j1]
    exact hm'.inj _ _ _ _ hk hk' ho ho' hne
   ·exact side hK hK' hk hk' ho ho'
  ·by_cases hK':J k'
   ·exact fun b hb hb'=>side hK' hK hk' hk ho' ho b hb' hb
   ·obtain ⟨i1,i2⟩:=hout k hK
    obtain ⟨j1,j2⟩:=hout k' hK'
    rw [i2] at hk
    rw [j2] at hk'
    rw [i1,j1]
    exact hm.inj _ _ _ _ hk hk' ho ho' hne
 ·intro k o hk ha
  by_cases hK:J k
  ·obtain ⟨i1,i2⟩:=hin k hK
   rw [i2] at hk
   rw [i1]
   exact hm'.one _ _ hk ha
  ·obtain ⟨i1,i2⟩:=hout k hK
   rw [i2] at hk
   rw [i1]
   exact hm.one _ _ hk ha
theorem D9 {rn:Iu} (hrn:qO P rn) {fr:Fr} {q:Nat} {o:Oper} {f:Nat} {args:List cv} {ob:Ur} {k:cv→Ur→List Nat→az} {r:Nat×List Yr} (h:Da (dJ P cfg Fn m0) cfg fr rn q o f args ob k=some r) :
  (∀ (as:Array Value) (w:World),(callFunc f as).run P w=.ok (.enter f as) w)∧∃ v us rd,k v us rd=some r ∧
  ∀ (obf:Ob),(∀ k∈rd,obf k=ai (aD ob) k)→∀ (m:Nat) (w:World) (U:Nat→Prop) (ι:Pl) (as:Array Value),Mem w U ι obf→VF w U ι obf (cI args) as.toList →
   CallsIn (FW none) m P f as w fun e w'=>∃ vv U' ι',e=.returned vv∧Mem w' U' ι' (b9 obf (aD us))∧Evo w U ι obf w' U' ι' (b9 obf (aD us))∧VR w' U' ι' (b9 obf (aD us)) (eV v) vv:=by
 unfold Da at h
 split at h
 ·cases h
 rename_i kept hgc
 simp only at h
 split at h
 case isFalse=>cases h
 rename_i hc
 simp only [Js,Kt] at hc
 obtain ⟨⟨_,hc⟩,hca⟩:=hc
 split at h
 ·cases h
 split at h
 ·cases h
 rename_i c js hctx
 obtain ⟨j,ys,kont,h1,h2,h3⟩:=gi h
 obtain ⟨x,g1,g2⟩:=rX h2 h3
 split at g2
 case isFalse=>cases g2
 rename_i hk
 simp only [Js] at hk
 obtain ⟨⟨⟨⟨k1,k2⟩,k3⟩,k4⟩,k5⟩:=hk
 have hndu:=fN k1
 have k3:=qI k3
 have k5:=qI k5
 generalize hus:(eH (dJ P cfg Fn m0) ys x.2).ob=us at g2 hndu k1 k2 k3 k4 k5
 generalize hv:dc (eH (dJ P cfg Fn m0) ys x.2).env 0=v at g2 k5
 obtain ⟨hcall,hrun⟩:=hrn f _ _ _ _ _ h1
 refine ⟨hcall,v,us,_,g2,fun obf hob0 m w U ι as hm hvf=>?_⟩
 have hob:∀ q∈kept.map (·.1),obf q=ai (aD ob) q:=fun q hq=>hob0 q (Mc _ hq)
 have hnew:∀ q,q∈us.map (·.1)→q∉kept.map (·.1)→obf q=none:=fun q hq hn=>by
  have hq2:q∈(us.map (·.1)).filter fun q=>!(kept.map (·.1)).contains q:=M7.2 ⟨hq,by simpa using hn⟩
  rw [hob0 q (Ma _ hq2),aq]
  have:=Kt.1 k2 q hq2
  cases ho:aX ob q with
  | none=>rfl
  | some o=>rw [ho] at this;cases this
 obtain ⟨c1,_,c3,c4⟩:=zH (Fl hgc)
 have kin:∀ q o,ai (aD kept) q=some o→q∈kept.map (·.1)∧obf q=some o∧o.owned=true:=fun q o hq=>by
  obtain ⟨p,hp,e1,e2⟩:=qy hq
  have hq2:q∈kept.map (·.1):=M5.2 ⟨p,hp,e1⟩
  refine ⟨hq2,?_,?_⟩
  ·rw [hob q hq2]
   rcases c1 q with e | e
   ·rw [←e];exact hq
   ·rw [e] at hq;cases hq
  ·rw [←e2]
   exact HL (hc p hp).1
 let K:Nat→Prop:=fun q=>q∈kept.map (·.1)
 have htold:p0 id K ι obf ι (ai (aD kept)):=fun q hq=>by
  obtain ⟨o,ho⟩:=tO (fun p hp=>(hc p hp).1) hq
  refine ⟨rfl,?_⟩
  rw [(kin q o ho).2.1,id,ho,M3,O.ren_id]
 have hg:Given id id K K ι obf ι (ai (aD kept)):=by
  refine ⟨fun q hq=>⟨hq,rfl⟩,fun q hq=>⟨hq,rfl⟩,htold,fun q o hq=>(kin q o hq).1,fun q hq=>?_,fun q o hq ho j hj=>?_⟩
  ·obtain ⟨o,ho⟩:=tO (fun p hp=>(hc p hp).1) hq
   exact ⟨o,(kin q o ho).2⟩
  ·obtain ⟨o',ho'⟩:=tO (fun p hp=>(hc p hp).1) hq
   have e:=(kin q o' ho').2.1
   rw [ho] at e;cases e
   obtain ⟨p,hp,e1,e2⟩:=qy ho'
   rw [←e2,pi] at hj
   exact Tj.1 ((hc p hp).2 j hj)
 have hm2:=hg.mem hm
 have hvf2:VF w U ι (ai (aD kept)) (cI args) as.toList:=VF.told_id htold _ _ (fun q hq=>by
  rw [mQ] at hq
  obtain ⟨v0,hv0,hq⟩:=B4 hq
  exact Tj.1 (hca v0 hv0 q hq)) hvf
 refine CallsIn.mono (hrun m w U ι as hm2 hvf2) ?_
 rintro e w' ⟨v0,vv,ob0,U',ι',he,hk0,n1,n2,n3⟩
 obtain ⟨y,y1,y2,y3⟩:=z7 hk0
 rw [g1] at y1;cases y1
 have hs:Sim2 ⟨w,U,ι,ai (aD kept)⟩ [] 1 false undef (bg (eS (⟨[(0,v0)],ob0,[],none⟩:j4)).env) (ai (eS (⟨[(0,v0)],ob0,[],none⟩:j4)).ob) (eS (⟨[(0,v0)],ob0,[],none⟩:j4)).ys { tmps:=#[vv],defers:=[] } w':=by
  refine ⟨U',ι',[],n1,n2,fun p hp=>(by cases hp),rfl,V9,fun d hd=>(by cases hd),fun _=>rfl,rfl,fun t=>?_,fun t ht=>by cases ht⟩
  show VR w' U' ι' (ai (aD ob0)) (bg [(0,eV v0)] t) (#[vv].getD t undef)
  cases t with
  | zero=>exact n3
  | succ t=>simp [bg,VR,LR]
 obtain ⟨hs2,_⟩:=pK (pk:=kept.map (·.1)) (fun q hq=>by
  cases ho:ai (aD kept) q with
  | none=>exact absurd ho hq
  | some o=>exact (kin q o ho).1) y3 hs
 obtain ⟨U2,ι2,ds,p1,p2,_,_,_,_,_,_,p3,_⟩:=hs2
 have p1:Mem w' U2 ι2 (ai (aD us)):=by rw [←hus];exact p1
 have p2:Evo w U ι (ai (aD kept)) w' U2 ι2 (ai (aD us)):=by rw [←hus];exact p2
 have p3:VR w' U2 ι2 (ai (aD us)) (eV v) vv:=by
  have:=p3 0
  rw [←hus,← hv,← eM]
  exact this
 have ukeys:(aD us).map (·.1)=us.map (·.1):=jB us
 classical
 let J:Nat→Prop:=fun q=>q∈us.map (·.1)
 have hin:∀ q,J q→b9 obf (aD us) q=ai (aD us) q:=fun q hq=>l8 (by rw [ukeys];exact hndu) (by rw [ukeys];exact hq)
 have:=ya (J:=J) hg hm p1 p2 (ι':=fun q=>if J q then ι2 q else ι q) (ob':=b9 obf (aD us)) k3 hnew ?_ ?_ ?_
 ·refine ⟨vv,U2,_,he,this.1,this.2,?_⟩
  refine VR.told_id (K:=J) (fun q hq=>⟨by simp only [K9 hq,id],?_⟩) (eV v) vv (fun q hq=>k5 q (by rw [←tE];exact hq)) p3
  rw [id,hin q hq]
  cases ai (aD us) q with
  | none=>rfl
  | some o=>rw [M3,O.ren_id]
 ·intro q hq
  exact ⟨by simp only [K9 hq],hin q hq⟩
 ·intro q hq
  refine ⟨by simp only [Kg hq],jN fun hmem=>hq ?_⟩
  rw [ukeys] at hmem
  exact hmem
 ·intro q o hqo
  obtain ⟨p,hp,e1,e2⟩:=qy hqo
  refine ⟨M5.2 ⟨p,hp,e1⟩,fun j hj=>?_⟩
  rw [←e2,pi] at hj
  have:=Kt.1 k4 p hp
  exact qI this j hj
theorem yi (hF:mo P cfg Fn) (hM:nj P cfg Fn) {rn:Iu} (hrn:qO P rn) {id:Nat} {fr:Fr} {ops:Array Oper} {pairs:List (Nat×Nat)} {r:Nat×List Yr}:∀ {l:List Oper} {i:Nat} {log log2:Iw} {st:j4} {k:j4→az},Ec (dJ P cfg Fn m0) cfg P fr rn id ops pairs l i log st k=some r→LogSub log2 log→st.ys=[] →
  ∃ st',k st'=some r∧st'.ys=[]∧st'.pend=st.pend∧jY (Z3 P cfg Fn (qq cfg fr) fr.nt) ops pairs l i log2 (bg (bv st.env),ai (aD st.ob)) (bg (bv st'.env),ai (aD st'.ob))
 | [],i,log,log2,st,k,h,hl,hy=>by
  simp only [Ec] at h
  exact ⟨st,h,hy,rfl,[],rfl,fun _ _ m q R hm=>by simp at hm⟩
 | o::rest,i,log,log2,st,k,h,hl,hy=>by
  have after:∀ (st1:j4) (v:cv) (us:Ur),bg (bv st1.env)=bg (bv st.env)→st1.ob=st.ob→((bg (bv (gC o.dst v (cD us st1.ob) st1).env),ai (aD (gC o.dst v (cD us st1.ob) st1).ob)):X)=app o (some (eV v,aD us)) (bg (bv st.env),ai (aD st.ob)):=fun st1 v us he ho=>by
   refine Prod.ext ?_ ?_
   ·simp only [app];rw [jg,he]
   ·simp only [app,gC];rw [fR,cL,ho]
  have go:∀ (st1:j4),bg (bv st1.env)=bg (bv st.env)→st1.ob=st.ob→st1.ys=[]→st1.pend=st.pend→gF ops o (bg (bv st.env)) true →
    (I4 (dJ P cfg Fn m0) cfg P fr rn (id*1000+i) o st1 fun v us rd=>if (iu fr.nt o.dst&&oM pairs i log rd (us.map (·.1)))=true then Ec (dJ P cfg Fn m0) cfg P fr rn id ops pairs rest (i+1) (log++[(rd,us.map (·.1))]) (gC o.dst v (cD us st1.ob) st1) k else none)=some r →
    ∃ st',k st'=some r∧st'.ys=[]∧st'.pend=st.pend∧jY (Z3 P cfg Fn (qq cfg fr) fr.nt) ops pairs (o::rest) i log2 (bg (bv st.env),ai (aD st.ob)) (bg (bv st'.env),ai (aD st'.ob)):=by
   intro st1 he1 ho1 hy1 hp1 hgate h1
   have lG:∀ {v:cv} {us:Ur} {rd rd2:List Nat},(∀ k∈rd2,k∈rd)→(iu fr.nt o.dst=true→Z3 P cfg Fn (qq cfg fr) fr.nt o (bg (bv st.env),ai (aD st.ob)) (eV v,aD us) rd2) →
     (if (iu fr.nt o.dst&&oM pairs i log rd (us.map (·.1)))=true then Ec (dJ P cfg Fn m0) cfg P fr rn id ops pairs rest (i+1) (log++[(rd,us.map (·.1))]) (gC o.dst v (cD us st1.ob) st1) k else none)=some r →
     ∃ st',k st'=some r∧st'.ys=[]∧st'.pend=st.pend∧jY (Z3 P cfg Fn (qq cfg fr) fr.nt) ops pairs (o::rest) i log2 (bg (bv st.env),ai (aD st.ob)) (bg (bv st'.env),ai (aD st'.ob)):=by
    intro v us rd rd2 hsub hz h2
    split at h2
    ·rename_i hc
     simp only [Js] at hc
     have hk:wr (some (eV v,aD us))=us.map (·.1):=jB us
     obtain ⟨st',f1,f2,f3,f4⟩:=yi hF hM hrn (log2:=log2++[(rd2,wr (some (eV v,aD us)))]) h2 (hl.snoc hsub (by rw [hk];exact fun _ h=>h)) (by simp only [gC,hy1];exact l5 _)
     refine ⟨st',f1,f2,f3.trans hp1,?_⟩
     rw [after st1 v us he1 ho1] at f4
     refine xB (res:=(eV v,aD us)) ⟨hgate,fun q hq=>by cases hq;exact hz hc.1,fun hq=>by cases hq⟩ ?_ f4
     have:=Fs hc.2 hl hsub
     rw [←hk] at this
     exact Dv this
    ·cases h2
   unfold I4 at h1
   split at h1
   ·rename_i f args hms
    obtain ⟨fo,as,ts,hop,hf⟩:=uZ hms
    obtain ⟨g0,v,us,rd,g1,g2⟩:=sF hM h1
    refine lG (fun _ h=>h) (fun hd=>⟨hd,.inr ⟨fo,as,ts,f,cI args,hop,?_,g0,fun obf hob=>g2 obf (fun k hk=>by rw [ho1];exact hob k hk)⟩⟩) g1
    rw [←he1,← ye st1.env fo,show as.toList.map (ev (bg (bv st1.env)))=as.toList.map fun x=>eV (wV (dJ P cfg Fn m0) st1.env x) from T7 fun x _=>(ye st1.env x).symm]
    exact hf
   ·split at h1
    ·rename_i p hms
     obtain ⟨f,args⟩:=p
     obtain ⟨fo,as,ts,hop,hf⟩:=tH hms
     obtain ⟨g0,v,us,rd,g1,g2⟩:=D9 hrn h1
     refine lG (fun _ h=>h) (fun hd=>⟨hd,.inr ⟨fo,as,ts,f,cI args,hop,?_,g0,fun obf hob=>g2 obf (fun k hk=>by rw [ho1];exact hob k hk)⟩⟩) g1
     rw [←he1,← ye st1.env fo,show as.toList.map (ev (bg (bv st1.env)))=as.toList.map fun x=>eV (wV (dJ P cfg Fn m0) st1.env x) from T7 fun x _=>(ye st1.env x).symm]
     exact hf
    ·obtain ⟨v,us,rd,g1,g2,g3⟩:=zb (P:=P) h1
     rw [Dx,he1,ho1] at g1 g2
     exact lG g2 (fun hd=>⟨hd,.inl ⟨g1,rfl⟩⟩) g3
  have skip:∀ (st1:j4),bg (bv st1.env)=bg (bv st.env)→st1.ob=st.ob→st1.ys=[]→st1.pend=st.pend→gF ops o (bg (bv st.env)) false →
    Ec (dJ P cfg Fn m0) cfg P fr rn id ops pairs rest (i+1) (log++[([],[])]) (gC o.dst (.tup []) st1.ob st1) k=some r →
    ∃ st',k st'=some r∧st'.ys=[]∧st'.pend=st.pend∧jY (Z3 P cfg Fn (qq cfg fr) fr.nt) ops pairs (o::rest) i log2 (bg (bv st.env),ai (aD st.ob)) (bg (bv st'.env),ai (aD st'.ob)):=by
   intro st1 he1 ho1 hy1 hp1 hgate h1
   obtain ⟨st',f1,f2,f3,f4⟩:=yi hF hM hrn (log2:=log2++[([],[])]) h1 (hl.snoc (fun _ h=>h) (fun _ h=>h)) (by simp only [gC,hy1];exact l5 _)
   refine ⟨st',f1,f2,f3.trans hp1,uY ⟨hgate,fun q hq=>(by cases hq),fun _=>rfl⟩ ?_⟩
   have e:((bg (bv (gC o.dst (.tup []) st1.ob st1).env),ai (aD (gC o.dst (.tup []) st1.ob st1).ob)):X)=app o none (bg (bv st.env),ai (aD st.ob)):=by
    refine Prod.ext ?_ ?_
    ·simp only [app];rw [jg,he1];simp only [eV,cI]
    ·simp only [app,gC];rw [ho1]
   rw [e] at f4
   exact f4
  unfold Ec at h
  simp only at h
  cases hg:o.guard with
  | none =>
   rw [hg] at h
   exact go st rfl rfl hy rfl (by simp [gF,hg]) h
  | some jw =>
   obtain ⟨j,want⟩:=jw
   rw [hg] at h
   simp only at h
   split at h
   ·cases h
   ·rename_i gt hgt
    have at_:∀ v,eV (dc st.env gt)=v→bg (bv st.env) gt=v:=fun v hv=>by rw [eM];exact hv
    have push3:∀ b,eV (dc st.env gt)=.one (.d (.lit (.bool b)))→bg (bv ((gt,.one (.b b))::st.env))=bg (bv st.env):=fun b hb=>by
     show bg ((gt,bZ (.bool b))::bv st.env)=_
     exact nQ (b:=b) (at_ _ hb) rfl
    have gt_:∀ b,eV (dc st.env gt)=.one (.d (.lit (.bool b)))→∀ g,g=decide (b=want)→gF ops o (bg (bv st.env)) g:=fun b hb g hgb=>by
     simp only [gF,hg];exact ⟨gt,hgt,.inl ⟨b,at_ _ hb,hgb⟩⟩
    split at h
    ·rename_i hgv
     exact skip st rfl rfl hy rfl (by simp only [gF,hg];exact ⟨gt,hgt,.inr ⟨at_ _ (su hgv),trivial⟩⟩) h
    ·rename_i hgv
     exact go st rfl rfl hy rfl (gt_ _ (fO hgv) _ rfl) h
    ·rename_i hgv
     exact go st rfl rfl hy rfl (gt_ _ (fO hgv) _ rfl) h
    ·rename_i want _ _ v0 _ hgv hn1 hn2
     refine skip st rfl rfl hy rfl (gt_ _ (fO hgv) _ ?_) h
     rename_i b0 _ _ _
     symm
     rw [Mk]
     intro e
     rw [e] at hn1 hn2
     exact (Mh want).elim (fun h5=>hn1 h5 h5) (fun h5=>hn2 h5 h5)
    ·rename_i x hgv
     rcases i3 h with ⟨rfl,h⟩ | ⟨rfl,h⟩
     ·have hb:=gr hgv rfl
      exact go { st with env:=(gt,.one (.b true))::st.env } (push3 _ hb) rfl hy rfl (gt_ _ hb _ rfl) h
     ·have hb:=gr hgv rfl
      exact skip { st with env:=(gt,.one (.b false))::st.env } (push3 _ hb) rfl hy rfl (gt_ _ hb _ rfl) h
    ·rename_i x hgv
     rcases i3 h with ⟨rfl,h⟩ | ⟨rfl,h⟩
     ·have hb:=gr hgv rfl
      exact skip { st with env:=(gt,.one (.b true))::st.env } (push3 _ hb) rfl hy rfl (gt_ _ hb _ rfl) h
     ·have hb:=gr hgv rfl
      exact go { st with env:=(gt,.one (.b false))::st.env } (push3 _ hb) rfl hy rfl (gt_ _ hb _ rfl) h
    ·cases h
theorem Bs (hF:mo P cfg Fn) (hM:nj P cfg Fn) {rn:Iu} (hrn:qO P rn) {id:Nat} {fr:Fr} {ops:Array Oper} {pairs:List (Nat×Nat)} {B:Base} {zsOf:Option Ex→List (Nat×Obj)} {yv:Value} {ro:Option Nat} {m:Nat} {R:Exit→Act→World→Prop} {st:j4} {k:j4→az} {r:Nat×List Yr} {a:Act} {w:World}
  (hok:ta ops pairs=true) (hy:st.ys=[]) (h:Ec (dJ P cfg Fn m0) cfg P fr rn id ops pairs ops.toList 0 [] st k=some r) (hs:cT B zsOf fr yv st a w) (hR:∀ st' a' w',k st'=some r→cT B zsOf fr yv st' a' w'→R .normal a' w') :
  wpAnyIn (FW ro) m P .any ops R ops.size (Array.replicate ops.size false) a { w with drawn:=w.drawn+1 }:=by
 obtain ⟨st',f1,f2,f3,f4⟩:=yi hF hM hrn (log2:=[]) h ⟨rfl,fun j x y hx=>by simp at hx⟩ hy
 have hs0:wc B (zsOf st.pend) fr.nt fr.rng yv (bg (bv st.env)) (ai (aD st.ob)) a w:=by
  have:Sim2 B (zsOf st.pend) fr.nt fr.rng yv (bg (bv st.env)) (ai (aD st.ob)) st.ys a w:=hs
  rw [hy] at this;exact this
 refine vG (Z3_ok hF (qq cfg fr) fr.nt ops) hok f4 trivial hs0 fun a' w' hs2=>?_
 refine hR st' a' w' f1 ?_
 show Sim2 B (zsOf st'.pend) fr.nt fr.rng yv (bg (bv st'.env)) (ai (aD st'.ob)) st'.ys a' w'
 rw [f2,f3]
 exact hs2
end
section
variable {P:Program} {Fn:Nat→List D→az} {FnD:D→List Sh→List D→az} {m:Nat} {r:Nat×List Yr} {ob:Ur} {cfg:Cf3}
def InsC (P:Program) (f size elem bs:Nat):Prop :=
 (∀ (as:Array Value) (w:World),(callFunc f as).run P w=.ok (.enter f as) w) ∧
 ∀ (w:World) (a:Option Nat) (n c i:Nat) (us vs:List Value) (cur:Array Value) (vb m vc:Nat) (vcur:Array Value) (vt:Nat),
  0 < m→i≤n→n≤c→c≤maxLen→(n+m)*bs≤140737488355328→n+m≤maxLen →
  us.length=n*size→vs.length=m*size→(∀ v∈us,v.oneCell'=true)→(∀ v∈vs,v.oneCell'=true) →
  (a=none→n=0∧c=0) →
  (∀ b,a=some b→w.heap[b]?=some (.cells cur elem (0,0))∧cur.size=c*size∧(∀ (j:Nat) (u:Value),us[j]?=some u→cur[j]?=some u)∧vb≠b) →
  w.heap[vb]?=some (.cells vcur vt (0,0))→(∀ (j:Nat) (u:Value),vs[j]?=some u→vcur[j]?=some u) →
  Calls P f #[.slice (a.map fun b=>⟨b,0,none⟩) n c,.int .i64 i,.slice (some ⟨vb,0,none⟩) m vc] w fun e w' =>
   ∃ (b' c':Nat) (cur':Array Value),e=.returned (.slice (some ⟨b',0,none⟩) (n+m) c')∧w'.heap[b']?=some (.cells cur' elem (0,0))∧n+m≤c'∧c'≤maxLen∧cur'.size=c'*size ∧
    (∀ (j:Nat) (u:Value),(us.take (i*size)++vs++us.drop (i*size))[j]?=some u→cur'[j]?=some u)∧Turn w w' (fun x=>a=some x)∧(w.heap.size≤b'∨a=some b')
def rD (P:Program) (cfg:Cf3):Prop:=∀ f p,cfg.sp f=some p→InsC P f p.1 p.2.1 p.2.2
theorem jK {rows:List (List D)} {size:Nat} (h:∀ r∈rows,r.length=size) (i:Nat):(rows.take i).flatten=rows.flatten.take (i*size)∧(rows.drop i).flatten=rows.flatten.drop (i*size):=by
 by_cases hi:i≤rows.length
 ·have e1:rows.flatten=(rows.take i).flatten++(rows.drop i).flatten:=by rw [←Td,Mt]
  have e2:(rows.take i).flatten.length=i*size:=by
   rw [cf (size:=size) (fun r hr=>h r (Mo hr)),M4,V1 hi]
  rw [e1]
  constructor
  ·rw [Tl (by omega),← e2,T1]
  ·rw [←e2,List.drop_left]
 ·have hl:rows.length≤i:=by omega
  have:rows.flatten.length≤i*size:=by rw [cf h];exact M9 _ hl
  rw [Kl hl,List.drop_eq_nil_of_le hl,Kl this,List.drop_eq_nil_of_le this]
  exact ⟨rfl,rfl⟩
theorem vk {w w':World} {U:Nat→Prop} {ι:Pl} {ob:Ob} (hm:Mem w U ι ob) {k:Nat} {a:Option Nat} {rows new:List (List D)} {size elem i b' c':Nat} {cur':Array Value} {us vs:List Value}
  (hk:(a=none∧ob k=none∧rows=[])∨(ob k=some (.arr rows size elem true)∧a=some (ι k).1))
  (hrl:∀ r∈rows,r.length=size) (hnl:∀ r∈new,r.length=size) (hus:FR w U rows.flatten us) (hvs:FR w U new.flatten vs) (hne:0 < new.length)
  (h1:w'.heap[b']?=some (.cells cur' elem (0,0))) (h2:rows.length+new.length≤c') (h3:c'≤maxLen) (h4:cur'.size=c'*size)
  (h5:∀ (j:Nat) (u:Value),(us.take (i*size)++vs++us.drop (i*size))[j]?=some u→cur'[j]?=some u) (h6:Turn w w' (fun x=>a=some x)) (h7:w.heap.size≤b'∨a=some b') :
  Mem w' U (eW ι k ⟨b',c',[]⟩) (bX ob k (.arr (rows.take i++new++rows.drop i) size elem true))∧Evo w U ι ob w' U (eW ι k ⟨b',c',[]⟩) (bX ob k (.arr (rows.take i++new++rows.drop i) size elem true)):=by
 have hlen:(rows.take i++new++rows.drop i).length=rows.length+new.length:=by
  simp only [Kc,M4,Tq];omega
 have hfl:(rows.take i++new++rows.drop i).flatten=rows.flatten.take (i*size)++new.flatten++rows.flatten.drop (i*size):=by
  rw [Td,Td,(jK hrl i).1,(jK hrl i).2]
 have hnotU:∀ b,a=some b→¬ U b:=fun b hb=>by
  rcases hk with ⟨h,_⟩ | ⟨hk,h⟩
  ·rw [h] at hb;cases hb
  ·rw [h] at hb;cases hb;exact hm.notU hk rfl
 refine eQ (w':=w') hm k _ (b',c') h6.os h6.tape h6.output h6.size (fun b hb hne'=>h6.same b hb fun e=>?_) (fun o ho=>?_) ?_ (show O.owned (.arr (rows.take i++new++rows.drop i) size elem true)=true from rfl) (fun e'=>?_)
 ·rcases hk with ⟨h,_⟩ | ⟨hk,h⟩
  ·rw [h] at e;cases e
  ·rw [h] at e;cases e
   rcases hne' with h' | h'
   ·rw [hk] at h';cases h'
   ·exact h' rfl
 ·rcases hk with ⟨_,h,_⟩ | ⟨hk,h⟩
  ·rw [h] at ho;cases ho
  ·rw [hk] at ho;cases ho
   exact ⟨rfl,rfl,rfl,by rw [hlen];omega,fun e=>by rw [hlen] at e;omega⟩
 ·rcases h7 with h | h
  ·exact .inl h
  ·rcases hk with ⟨h',_⟩ | ⟨hk,h'⟩
   ·rw [h'] at h;cases h
   ·rw [h'] at h;cases h
    exact .inr ⟨by rw [hk];simp,rfl⟩
 ·refine ⟨cur',by rw [ak];exact h1,by rw [ak,hlen];exact h2,by rw [ak];exact h3,by rw [ak];exact h4,?_,?_⟩
  ·rw [ak,eA]
   refine ⟨?_,us.take (i*size)++vs++us.drop (i*size),?_,fun j u hj=>?_⟩
   ·intro r hr
    simp only [Kp] at hr
    rcases hr with (hr | hr) | hr
    ·exact hrl r (Mo hr)
    ·exact hnl r hr
    ·exact hrl r (List.mem_of_mem_drop hr)
   ·rw [hfl]
    have hu':=FR.mono e'.kept e'.sub _ _ hus
    have hv':=FR.mono e'.kept e'.sub _ _ hvs
    exact ((hu'.take _).append hv').append (hu'.drop _)
   ·rw [bJ h1,K4];exact h5 j u hj
  ·rw [ak]
   simp only [Jv]
   rcases h7 with h | h
   ·intro hU;exact absurd (hm.lt _ hU) (by omega)
   ·exact hnotU _ h
theorem BA (hS:rD P cfg) {f:Nat} {args:List cv} {b:Nat} {kk:cv→Ur→az} (h:yk (aa Fn FnD m) cfg f args b ob kk=some r) :
  (∀ (as:Array Value) (w:World),(callFunc f as).run P w=.ok (.enter f as) w) ∧
  ∀ (m:Nat) (w:World) (U:Nat→Prop) (ι:Pl) (as:Array Value),Mem w U ι (ai (aD ob))→VF w U ι (ai (aD ob)) (cI args) as.toList →
   CallsIn (FW none) m P f as w fun e w'=>∃ v vv ob' U' ι',e=.returned vv∧kk v ob'=some r∧Mem w' U' ι' (ai (aD ob'))∧Evo w U ι (ai (aD ob)) w' U' ι' (ai (aD ob'))∧VR w' U' ι' (ai (aD ob')) (eV v) vv:=by
 unfold yk at h
 split at h
 ·cases h
 rename_i size elem bs hsp
 obtain ⟨hcall,hins⟩:=hS f _ hsp
 refine ⟨hcall,?_⟩
 split at h
 case h_2=>cases h
 rename_i s iv key2 n2 c2
 split at h
 case h_2=>cases h
 rename_i y rows2 size2 elem2 hy hk2
 split at h
 case isFalse=>cases h
 rename_i hsz2
 subst hsz2
 obtain ⟨hc2,h⟩:=b6 h
 rcases pV h with ⟨_,h⟩ | ⟨hnn,h⟩
 ·cases h
 have hseg:(aa Fn FnD m).seg rows2 none n2=rows2.take n2:=rfl
 rw [hseg] at hnn h
 have hlenE:(aa Fn FnD m).len (rows2.take n2)=(rows2.take n2).length:=rfl
 have hob2:ai (aD ob) key2=some (.arr rows2 size2 elem2 true):=by rw [aq,hk2];rfl
 intro m' w U ι as hm hv
 simp only [cI,VF] at hv
 obtain ⟨v0,l0,hl0,hs,v1,l1,rfl,h1,v2,l2,rfl,h2,rfl⟩:=hv
 have has:as=#[v0,v1,v2]:=by
  cases as with | mk l=>simp only at hl0;rw [hl0]
 subst has
 simp only [eV,VR] at h1 h2
 simp only [eL,T5,LR] at h2
 obtain ⟨rows',size',elem',own',hob2',hle2,hval2,_⟩:=h2
 rw [hob2] at hob2'
 cases hob2'
 have hc2':c2=rows2.length:=hc2
 obtain ⟨hn2,rfl⟩:=hval2 hc2'
 obtain ⟨vcur,g1,g2,g3,g4,g5,g6⟩:=hm.obj key2 _ hob2
 rw [eA] at g5
 obtain ⟨hrl2,ws,hws,hwc⟩:=g5
 have hvs:FR w U (rows2.take n2).flatten (ws.take (n2*size2)):=by
  rw [(jK hrl2 n2).1];exact hws.take _
 have hnl:∀ r∈rows2.take n2,r.length=size2:=fun r hr=>hrl2 r (Mo hr)
 have hnlen:(rows2.take n2).length=n2:=by rw [M4];omega
 have hm0:0 < n2:=by rw [←hnlen];exact Ve.2 hnn
 have hvl:(ws.take (n2*size2)).length=n2*size2:=by
  rw [hvs.len,cf hnl,hnlen]
 have hvc:∀ (j:Nat) (u:Value),(ws.take (n2*size2))[j]?=some u→vcur[j]?=some u:=fun j u hj=>by
  rw [M8] at hj
  split at hj
  ·have:=hwc j u hj
   rw [bJ g1,K4] at this
   exact this
  ·cases hj
 have nilc:eV s=.one (.d (.lit (.slice none 0 0))) →
   ((aa Fn FnD m).fits bs ((aa Fn FnD m).len (rows2.take n2)) ((aa Fn FnD m).ins y ((aa Fn FnD m).rows []) (rows2.take n2) fun r =>
      ep (aa Fn FnD m) ob (some (nR ob 8 b)) (.arr r size2 elem true) (fun key=>.one (.slk key none ((aa Fn FnD m).len (rows2.take n2)) ((aa Fn FnD m).len (rows2.take n2)))) fun v us _=>kk v (cD us ob)))=some r →
   CallsIn (FW none) m' P f #[v0,v1,.slice (some ⟨(ι key2).1,0*size2,none⟩) n2 ((ι key2).2 - 0)] w fun e w'=>∃ v vv ob' U' ι',e=.returned vv∧kk v ob'=some r∧Mem w' U' ι' (ai (aD ob'))∧Evo w U ι (ai (aD ob)) w' U' ι' (ai (aD ob'))∧VR w' U' ι' (ai (aD ob')) (eV v) vv:=by
  intro hse h
  obtain ⟨hf1,hf2,h⟩:=jf h
  obtain ⟨z,rfl,⟨hz1,hz2⟩,h⟩:=uD h
  have hz0:z.toNat=0:=by
   have:z.toNat≤([]:Rr).length:=hz2
   simpa using this
  rw [hse] at hs
  simp only [VR,LR,DR] at hs
  obtain ⟨rfl,_⟩:=hs
  rw [cM hy] at h1
  simp only [LR,DR] at h1
  obtain ⟨rfl,_⟩:=h1
  unfold ep at h
  split at h
  ·rename_i key hkey
   cases hkey
   split at h
   ·rename_i hfree
    have hfree':ai (aD ob) (nR ob 8 b)=none:=by rw [aq,hfree];rfl
    have hz:z=((0:Nat):Int):=by omega
    rw [hz]
    have hcalls:=hins w none 0 0 0 [] (ws.take (n2*size2)) #[] (ι key2).1 n2 ((ι key2).2 - 0) vcur elem2 hm0 (Ko _) (Ko _) (Nat.zero_le _) (by rw [hlenE,hnlen] at hf1;simpa using hf1) (by rw [hlenE,hnlen] at hf2;simpa using hf2) (by simp) hvl (by simp) hvs.one (fun _=>⟨rfl,rfl⟩) (fun b hb=>by cases hb) g1 hvc
    rw [Nat.zero_mul]
    refine CallsIn.mono (iy hcalls) ?_
    rintro e w' ⟨b',c',cur',he,k1,k2,k3,k4,k5,k6,k7⟩
    obtain ⟨m1,m2⟩:=vk (i:=0) (rows:=[]) hm (.inl ⟨rfl,hfree',rfl⟩) (by simp) hnl (us:=[]) (by simp [FR]) hvs (by rw [hnlen];exact hm0) k1 (by simp only [K8,hnlen];omega) k3 k4 k5 k6 k7
    refine ⟨_,_,_,U,eW ι (nR ob 8 b) ⟨b',c',[]⟩,he,h,?_,?_,?_⟩
    ·rw [fR,cL]
     simpa [aD,b9,eO,aa,hz0] using m1
    ·rw [fR,cL]
     simpa [aD,b9,eO,aa,hz0] using m2
    ·rw [fR,cL]
     simp only [eV,eL,T5,VR,LR,hlenE,hnlen]
     refine ⟨rows2.take n2,size2,elem,true,by simp [aD,b9,eO,aa,hz0,bX],by rw [hnlen];exact Ko _,fun _=>⟨by omega,?_⟩,?_⟩
     ·rw [ak];simp
     ·exact ⟨some ⟨b',0,none⟩,c',by rw [K4],by omega,k3⟩
   ·cases h
  ·cases h
 cases s with
 | one x =>
  cases x with
  | nil=>exact nilc rfl h
  | d x =>
   simp only at h
   obtain ⟨rfl,h⟩:=jd h
   exact nilc rfl h
  | slk key off n c =>
   cases off with
   | none =>
    have hq:=h
    simp only at hq
    split at hq
    ·cases hq
    rename_i hkk
    split at hq
    ·rename_i rows size' elem' hk1
     split at hq
     ·rename_i hse
      obtain ⟨rfl,rfl⟩:=hse
      obtain ⟨hc,hq⟩:=b6 hq
      obtain ⟨hn,hq⟩:=b6 hq
      obtain ⟨hf1,hf2,hq⟩:=jf hq
      obtain ⟨z,rfl,⟨hz1,hz2⟩,hq⟩:=uD hq
      have hc':c=rows.length:=hc
      have hn':n=rows.length:=hn
      have hadd:(aa Fn FnD m).addN n ((aa Fn FnD m).len (rows2.take n2))=rows.length+n2:=by
       show n+(rows2.take n2).length=_
       rw [hn',hnlen]
      rw [hadd] at hf1 hf2 hq
      have hob1:ai (aD ob) key=some (.arr rows size' elem' true):=by rw [aq,hk1];rfl
      simp only [eV,eL,T5,VR,LR] at hs
      obtain ⟨rows',size'',elem'',own'',hob1',hle1,hval1,_⟩:=hs
      rw [hob1] at hob1'
      cases hob1'
      obtain ⟨hn1,rfl⟩:=hval1 hc'
      rw [cM hy] at h1
      simp only [LR,DR] at h1
      obtain ⟨rfl,_⟩:=h1
      obtain ⟨cur,q1,q2,q3,q4,q5,q6⟩:=hm.obj key _ hob1
      rw [eA] at q5
      obtain ⟨hrl,us,hus,huc⟩:=q5
      have hul:us.length=rows.length*size':=by rw [hus.len,cf hrl]
      have hvb:(ι key2).1≠(ι key).1:=hm.inj1 _ _ _ _ hob2 hob1 rfl rfl (fun e=>hkk e.symm)
      have hz:z=((z.toNat:Nat):Int):=by omega
      rw [hz,hn',Nat.zero_mul]
      have hcalls:=hins w (some (ι key).1) rows.length ((ι key).2 - 0) z.toNat us (ws.take (n2*size')) cur (ι key2).1 n2 ((ι key2).2 - 0) vcur elem2 hm0 hz2 (by simpa using q2) (by simpa using q3) hf1 hf2 hul hvl hus.one hvs.one (fun e=>by cases e)
       (fun b hb=>by
        cases hb
        refine ⟨q1,by simpa using q4,fun j u hj=>?_,hvb⟩
        have:=huc j u hj
        rw [bJ q1,K4] at this
        exact this) g1 hvc
      refine CallsIn.mono (iy hcalls) ?_
      rintro e w' ⟨b',c',cur',he,k1,k2,k3,k4,k5,k6,k7⟩
      obtain ⟨m1,m2⟩:=vk (i:=z.toNat) (rows:=rows) hm (.inr ⟨hob1,rfl⟩) hrl hnl hus hvs (by rw [hnlen];exact hm0) k1 (by rw [hnlen];exact k2) k3 k4 k5 k6 k7
      have hlen':(rows.take z.toNat++rows2.take n2++rows.drop z.toNat).length=rows.length+n2:=by
       simp only [Kc,M4,Tq];omega
      refine ⟨_,_,_,U,eW ι key ⟨b',c',[]⟩,he,hq,?_,?_,?_⟩
      ·rw [fR,cL]
       simpa [aD,b9,eO] using m1
      ·rw [fR,cL]
       simpa [aD,b9,eO] using m2
      ·rw [fR,cL]
       simp only [eV,eL,T5,VR,LR]
       refine ⟨rows.take z.toNat++rows2.take n2++rows.drop z.toNat,size',elem',true,by simp [aD,b9,eO,bX],by rw [hlen'];exact Ko _,fun _=>⟨by omega,?_⟩,?_⟩
       ·rw [ak];simp
       ·exact ⟨_,c',rfl,k2,k3⟩
     ·cases hq
    ·cases hq
   | some o=>simp only at h;cases h
  | _=>simp only at h;cases h
 | _=>simp only at h;cases h
end
section
variable {P:Program} {Fn:Nat→List D→az} {m0:Nat} {cfg:Cf3}
def j6 (B:Base) (zsOf:Option Ex→List (Nat×Obj)) (fr:Fr) (yv:Value) (k:Ex→j4→az) (r:Nat×List Yr) (e:Exit) (a:Act) (w:World):Prop:=∃ x st,e=yd x∧k x st=some r∧cT B zsOf fr yv st a w
def FX (P:Program) (cfg:Cf3) (Fn:Nat→List D→az) (m0 n:Nat):Prop :=
 ∀ (r:Nat×List Yr) (fr:Fr) (hd:Option Hdr) (cur p:Nat) (c:Code) (st:j4) (k:Ex→j4→az) (a:Act) (w:World) (B:Base) (zsOf:Option Ex→List (Nat×Obj)) (yv:Value) (ro:Option Nat) (m:Nat),
  cn (cfg.draw fr.f) c=true→(∀ k,B.ob k≠none→k∈fr.pr)→(fr.rng=true→ro=none)→HdOK3 P hd B zsOf yv→(hd.isSome=true→fr.rng=false∧ro=none) →
  cm (dJ P cfg Fn m0) cfg P n fr hd cur p c st k=some r→cT B zsOf fr yv st a w→c.wpIn (FW ro) m P (j6 B zsOf fr yv k r) a w
theorem HdOK3.none' {B:Base} {zsOf:Option Ex→List (Nat×Obj)} {yv:Value}:HdOK3 P none B zsOf yv:=fun h hh=>by cases hh
theorem mC {ob:Ur} {env:List (Nat×cv)} {r:Nat×List Yr}:∀ {rs:List ResultVar} {k:List cv→az},ot (dJ P cfg Fn m0) P ob env rs k=some r→∃ vs,(nH P (bg (bv env)) rs).run (ai (aD ob))=some (cI vs)∧k vs=some r
 | [],k,h=>⟨[],by simp [nH,Q.run,cI],h⟩
 | .tmp t::rs,k,h=>by
  simp only [ot] at h
  obtain ⟨vs,h1,h2⟩:=mC h
  exact ⟨_,by simp [nH,Q.run_bind,h1,Q.run,cI,eM],h2⟩
 | .cell a T::rs,k,h=>by
  simp only [ot] at h
  split at h
  ·rename_i g s hg hs
   obtain ⟨v,us,rd,h1,_,h⟩:=ve h
   obtain ⟨vs,h2,h3⟩:=mC h
   rw [←eM] at h1
   exact ⟨_,by simp [nH,hg,hs,Q.opt,Q.bind,Q.run_bind,h1,h2,Q.run,cI],h3⟩
  ·cases h
theorem BB {fn:Func} {R:Ending→World→Prop} {B:Base} {fr:Fr} {yv:Value} {ro:Option Nat} {m:Nat} {r:Nat×List Yr} {rs:List ResultVar} {G:Ex→j4→az} {kk:List cv→j4→az} (hres:fn.results.toList=rs)
  (hG:∀ x st,G x st=some r→∃ vs,(nH P (bg (bv st.env)) rs).run (ai (aD st.ob))=some (cI vs)∧kk vs st=some r∧∀ id,x≠.exit id)
  (hR:∀ vs st us U ι w',kk vs st=some r→Mem w' U ι (ai (aD st.ob))→Evo B.w B.U B.ι B.ob w' U ι (ai (aD st.ob))→VF w' U ι (ai (aD st.ob)) (cI vs) us→R (.returned (ie us)) w') :
  ∀ e a w,j6 B (fun _=>[]) fr yv G r e a w→bodyPostM (FW ro) m P fn R e a w:=by
 rintro e a w ⟨x,st,rfl,hk,U,ι,ds,hm,he0,hz,hdf,hnd,hds,hrg,hsz,hv,hy⟩
 obtain ⟨vs,h1,h2,h3⟩:=hG x st hk
 have main:LeavesInM (FW ro) m P fn a.tmps R a.defers .returning w:=by
  rw [hdf]
  refine jU ds w hm he0 (fun p hp=>hz p (by simp [hp])) hnd hds fun w' g1 g2 g3=>?_
  obtain ⟨us,h4,h5⟩:=p9 (P:=P) g1 (fun t=>VR.keep g3 _ _ (hv t)) h1
  exact ⟨ie us,lO (by rw [hres];exact h4),hR vs st us U ι w' h2 g1 g2 h5⟩
 cases x with
 | normal=>exact main
 | ret=>exact main
 | exit id=>exact absurd rfl (h3 id)
theorem pp (vs:List cv):(cI vs).length=vs.length:=by rw [dw,K5]
theorem tZ:∀ (vs:List cv) (i:Nat),bv (kf vs i)=ry (cI vs) i
 | [],i=>rfl
 | v::vs,i=>by simp only [kf,bv,K0,cI,ry];rw [←tZ vs (i+1)];rfl
theorem CJ (vs:List cv):eV (eI vs)=qe (cI vs):=by
 match vs with
 | []=>rfl
 | [x]=>rfl
 | x::y::r=>simp [eI,qe,cI,eV]
theorem zB {n:Nat} (ih:FX P cfg Fn m0 n) {f:Nat} {bd:Bd} {fn:Func} (hin:InlOK P (tcf cfg) f bd fn) {args:List cv} {b:Nat} {ob:Ur} {kk:cv→Ur→az} {r:Nat×List Yr}
  (h:(if args.length≤bd.nt then cm (dJ P cfg Fn m0) cfg P n ⟨f,b,bd.nt,true,e8 ob,false⟩ none 0 1 bd.code ⟨kf args 0,ob,[],none⟩ (fun e st=>match e with
   | .exit _=>(dJ P cfg Fn m0).fail
   | .normal=>iO (dJ P cfg Fn m0) P bd ob kk st
   | .ret=>iO (dJ P cfg Fn m0) P bd ob kk st) else (dJ P cfg Fn m0).fail)=some r) :
  (∀ (as:Array Value) (w:World),(callFunc f as).run P w=.ok (.enter f as) w) ∧
  ∀ (m:Nat) (w:World) (U:Nat→Prop) (ι:Pl) (as:Array Value),Mem w U ι (ai (aD ob))→VF w U ι (ai (aD ob)) (cI args) as.toList →
   CallsIn (FW none) m P f as w fun e w'=>∃ v vv ob' U' ι',e=.returned vv∧kk v ob'=some r∧Mem w' U' ι' (ai (aD ob'))∧Evo w U ι (ai (aD ob)) w' U' ι' (ai (aD ob'))∧VR w' U' ι' (ai (aD ob')) (eV v) vv:=by
 split at h
 ·rename_i hlen
  refine ⟨hin.call,fun m w U ι as hm hv=>?_⟩
  refine callsIn_of_wp_marks hin.hfn hin.body trivial (wpIn_mono (ih r ⟨f,b,bd.nt,true,e8 ob,false⟩ none 0 1 bd.code _ _ _ w ⟨w,U,ι,ai (aD ob)⟩ (fun _=>[]) undef none m hin.draws (fun k hk=>cF hk) (fun _=>rfl) HdOK3.none' (fun h=>by cases h) h ?_) ?_)
  ·show Sim2 ⟨w,U,ι,ai (aD ob)⟩ [] bd.nt true undef (bg (bv (kf args 0))) (ai (aD ob)) [] { tmps:=as++Array.replicate (fn.ntmps - as.size) undef,defers:=[] } w
   rw [hin.nt,tZ]
   exact rJ hm hv (by rw [pp];exact hlen) (fun p hp=>by cases hp) [] (fun t ht=>by cases ht) (Evo.refl _ _ _ _)
  ·refine BB (kk:=fun vs st=>match tP (e8 ob) vs st.ob with | some ob'=>kk (eI vs) ob' | none=>(dJ P cfg Fn m0).fail) hin.res ?_ ?_
   ·intro x st hx
    have key:iO (dJ P cfg Fn m0) P bd ob kk st=some r→(∀ id,x≠.exit id)→∃ vs,(nH P (bg (bv st.env)) bd.res).run (ai (aD st.ob))=some (cI vs)∧(match tP (e8 ob) vs st.ob with | some ob'=>kk (eI vs) ob' | none=>(dJ P cfg Fn m0).fail)=some r∧∀ id,x≠.exit id:=by
     intro hx hne
     unfold iO at hx
     obtain ⟨vs,h1,h2⟩:=mC hx
     exact ⟨vs,h1,by revert h2;cases tP (e8 ob) vs st.ob<;>exact id,hne⟩
    cases x with
    | exit id=>cases hx
    | normal=>exact key hx (by simp)
    | ret=>exact key hx (by simp)
   ·intro vs st us U' ι' w' hk h1 h2 h3
    split at hk
    ·rename_i ob' hg
     obtain ⟨g1,g2,g3,g4⟩:=zH (Fl hg)
     exact ⟨eI vs,ie us,ob',U',ι',rfl,hk,h1.sub g1 g4,Evo.subO (B:=⟨w,U,ι,ai (aD ob)⟩) h2 g1 (fun k hk=>g2 k (cF hk)),by rw [CJ];exact AM (VF.keysO g3 h3)⟩
    ·cases hk
 ·cases h
theorem Ci (hM:nj P cfg Fn) (hS:rD P cfg) (hI:∀ f bd,cfg.inl f=some bd→∃ fn,InlOK P (tcf cfg) f bd fn) {n:Nat} (ih:FX P cfg Fn m0 n):qO P (yM (dJ P cfg Fn m0) cfg P (cm (dJ P cfg Fn m0) cfg P n)):=by
 intro f args b ob kk r h
 unfold yM at h
 split at h
 ·exact vP hM h
 split at h
 ·split at h
  ·exact vP hM h
  ·exact BA hS h
 ·rename_i bd hbd
  obtain ⟨fn,hin⟩:=hI f bd hbd
  exact zB ih hin h
theorem qo {B:Base} {w:World} {U:Nat→Prop} {ι:Pl} {ob:Ur} (e:Evo B.w B.U B.ι B.ob w U ι (ai (aD ob))) {k:Nat} (h:B.ob k≠none) (hn:B.ob k≠some .nul):k∈e8 ob:=by
 cases ho:B.ob k with
 | none=>exact absurd ho h
 | some o =>
  cases o with
  | box cells elem=>obtain ⟨_,h1,_⟩:=e.box k cells elem ho;exact cF (by rw [h1];simp)
  | arr rows size elem own=>obtain ⟨_,_,h1,_⟩:=e.arr k rows size elem own ho;exact cF (by rw [h1];simp)
  | mp agg keys vals own=>obtain ⟨_,_,_,h1,_⟩:=e.mp k agg keys vals own ho;exact cF (by rw [h1];simp)
  | ml keys vals=>obtain ⟨_,_,h1,_⟩:=e.ml k keys vals ho;exact cF (by rw [h1];simp)
  | am keys rows size elem=>obtain ⟨_,_,h1,_⟩:=e.am k keys rows size elem ho;exact cF (by rw [h1];simp)
  | nul=>exact absurd ho hn
theorem Evo.subN {B:Base} {w:World} {U:Nat→Prop} {ι:Pl} {ob ob':Ob} (e:Evo B.w B.U B.ι B.ob w U ι ob) (hs:∀ k,ob' k=ob k∨ob' k=none) (hb:∀ k,B.ob k≠none→B.ob k≠some .nul→ob' k=ob k):Evo B.w B.U B.ι B.ob w U ι ob':=by
 have up:∀ {k o},ob' k=some o→ob k=some o:=fun {k o} h=>by
  rcases hs k with h1 | h1
  ·rw [←h1];exact h
  ·rw [h1] at h;cases h
 refine ⟨e.os,e.tape,e.output,e.size,e.kept,e.sub,?_,?_,?_,?_,?_,e.same,fun k o hk=>e.ownd k o (up hk),e.orig⟩
 ·intro k cells elem hk;rw [hb k (by rw [hk];simp) (by rw [hk];simp)];exact e.box k cells elem hk
 ·intro k rows size elem own hk;rw [hb k (by rw [hk];simp) (by rw [hk];simp)];exact e.arr k rows size elem own hk
 ·intro k agg keys vals own hk;rw [hb k (by rw [hk];simp) (by rw [hk];simp)];exact e.mp k agg keys vals own hk
 ·intro k keys vals hk;rw [hb k (by rw [hk];simp) (by rw [hk];simp)];exact e.ml k keys vals hk
 ·intro k keys rows size elem hk;rw [hb k (by rw [hk];simp) (by rw [hk];simp)];exact e.am k keys rows size elem hk
theorem zip_e (ps:List Nat) (vals:List cv) (env:List (Nat×cv)):bv ((ps.zip vals).reverse++env)=(ps.zip (cI vals)).reverse++bv env:=by
 simp only [bv,Mm,List.map_reverse,dw]
 congr 2
 induction ps generalizing vals with
 | nil=>rfl
 | cons p ps ih=>cases vals with
  | nil=>rfl
  | cons v vs=>simp [ih]
theorem AH (hI:∀ f bd,cfg.inl f=some bd→∃ fn,InlOK P (tcf cfg) f bd fn) {n:Nat} (ih:FX P cfg Fn m0 n) {r:Nat×List Yr} {fr:Fr} {hd:Option Hdr} {cur p:Nat} {g:Operand} {ps:Array Tmp} {assign body:Code} {st:j4} {k:Ex→j4→az} {a:Act} {w:World} {B:Base} {zsOf:Option Ex→List (Nat×Obj)} {yv:Value} {ro:Option Nat} {m:Nat}
  (hdr:cn (cfg.draw fr.f) (.rangeFunc g ps assign body)=true) (_:∀ k,B.ob k≠none→k∈fr.pr) (hrg:fr.rng=true→ro=none)
  (h:cm (dJ P cfg Fn m0) cfg P (n+1) fr hd cur p (.rangeFunc g ps assign body) st k=some r) (hs:cT B zsOf fr yv st a w):(Code.rangeFunc g ps assign body).wpIn (FW ro) m P (j6 B zsOf fr yv k r) a w:=by
 simp only [cm] at h
 split at h
 case isFalse=>cases h
 rename_i hrng
 split at h
 case h_2=>cases h
 rename_i hys
 have hro:=hrg hrng
 subst hro
 split at h
 ·cases h
 rename_i f caps hf3
 have hf:oX (ev (bg (bv st.env)) g)=some (f,bV caps):=by
  rw [←ye (Fn:=Fn) (FnD:=dW P cfg Fn) (m:=m0)]
  unfold fn3 at hf3
  split at hf3
  ·split at hf3
   ·rename_i hρ hlt;cases hf3;rw [hρ];simp only [eV,eL,oX,K9 hlt]
   ·cases hf3
  ·cases hf3
 split at h
 ·cases h
 rename_i bd hbd
 split at h
 case isFalse=>cases h
 rename_i hc
 obtain ⟨hcap,hres,hps⟩:=hc
 obtain ⟨fn,hin⟩:=hI f bd hbd
 simp only [cn,Js] at hdr
 obtain ⟨U,ι,ds,hm,he0,hz,hdf,hnd,hds,_,hsz,hv,hy⟩:=hs
 obtain ⟨cs,hcv,hcl⟩:=tT (qF hv g) hf
 refine wpIn_rangeFunc ?_
 intro gfn _
 obtain ⟨rec,hrec⟩:∃ rec:LoopState→Option Code→Loop,rec=fun s pe=>{ state:=s,pending:=pe,fn:=gfn,tmps:=a.tmps,params:=ps,assign,body,defers:=w.heap.size }:=⟨_,rfl⟩
 let l:=w.heap.size+1
 obtain ⟨W1,hW1⟩:∃ W1,(w.alloc (.deferred (some []))).alloc (.loop (rec .ready none))=W1:=⟨_,rfl⟩
 have hsz1:W1.heap.size=w.heap.size+2:=by rw [←hW1];simp
 have hL1:W1.heap[l]?=some (.loop (rec .ready none)):=by
  rw [←hW1];have:=World.alloc_heap_new (w.alloc (.deferred (some []))) (.loop (rec .ready none));rwa [World.size_alloc] at this
 have hD1:W1.heap[w.heap.size]?=some (.deferred (some [])):=by
  rw [←hW1];exact (Below.heap_alloc _ _ _ (by simp)).trans (World.alloc_heap_new w _)
 have t1:Turn w W1 (fun _=>False):=by rw [←hW1];exact (Turn.alloc w _ _).trans (Turn.alloc _ _ _)
 have nX:∀ {U:Nat→Prop} {ι:Pl} {ob:Ob} b,(fun _:Nat=>False) b→Off U ι ob b:=fun b h=>h.elim
 have hoff:∀ z,w.heap.size≤z→Off U ι (ai (aD st.ob)) z:=fun z hz=>⟨fun hU=>by have:=hm.lt z hU;omega,fun k o hk _ e=>by have:=hm.foot hk e;omega⟩
 let B':Base:=⟨w,U,ι,ai (aD st.ob)⟩
 have he1:Evo B'.w B'.U B'.ι B'.ob W1 U ι (ai (aD st.ob)):=t1.evo (B:=B') hm (fun b h=>h.elim) (Evo.refl _ _ _ _)
 have hm1:Mem W1 U ι (ai (aD st.ob)):=t1.mem hm nX
 let recO:Option Ex→Obj:=fun p=>.loop (match p with | none=>rec .ready none | some x=>rec .done (some (o4 x)))
 let zs':Option Ex→List (Nat×Obj):=fun p=>[(l,recO p),(w.heap.size,.deferred (some []))]
 have hzs1:Zs W1 U ι (ai (aD st.ob)) (zs' none):=by
  intro p hp
  simp only [zs',Ki,Me,Tn] at hp
  rcases hp with rfl | rfl
  ·exact ⟨hL1,hoff _ (by simp only [l];omega)⟩
  ·exact ⟨hD1,hoff _ (Ko _)⟩
 refine ⟨l,[{ target:=.collected w.heap.size,args:=#[] }],W1,{ target:=.fn (.func f) cs,args:=#[.func (.yield l) #[] #[]] },W1,f,#[.func (.yield l) #[] #[]]++cs,W1,?_,?_,fun f' _=>trivial,?_,fun hc=>(by cases hc),?_⟩
 ·rw [←hW1,hrec];exact run_enterLoop_outer _ _ _ _ _
 ·simp only [resolve,hcv]
  simp [go_sem]
 ·simp [invoke,hin.call]
 have hcapV:VF W1 U ι (ai (aD st.ob)) (cI (.one .undef::caps.map .one)) ((#[.func (.yield l) #[] #[]]++cs:Array Value)).toList:=by
  rw [To]
  show VF W1 U ι (ai (aD st.ob)) (.one .undef::cI (caps.map .one)) (.func (.yield l) #[] #[]::cs.toList)
  simp only [VF]
  refine ⟨_,_,rfl,by simp [VR,LR],?_⟩
  have:=VF.keep (t1.keep hm nX) _ _ (Ai hcl)
  rwa [show (bV caps).map V.one=cI (caps.map .one) by simp [bj,dw,eV,T3]] at this
 refine callsIn_of_wp hin.hfn hin.body trivial (wpIn_mono (ih r ⟨f,(fr.b+1)*1000,bd.nt,false,e8 st.ob,false⟩ (some _) 0 1 bd.code _ _ _ W1 B' zs' (.func (.yield l) #[] #[]) none (m - 1) hin.draws (fun k hk=>cF hk) (fun h=>by cases h) ?_ (fun _=>⟨rfl,rfl⟩) h ?_) ?_)
 ·
  intro hh hhh
  cases hhh
  refine ⟨l,rfl,fun vals ob kk r' hk m' Wy Uy ιy as hmy hey hzy hvy=>?_⟩
  unfold Gx at hk
  split at hk
  case isFalse=>cases hk
  rename_i hvl
  obtain ⟨hly,hloff⟩:=hzy (l,recO none) (by simp [zs'])
  obtain ⟨hDy,hDoff⟩:=hzy (w.heap.size,.deferred (some [])) (by simp [zs'])
  have hly':Wy.heap[l]?=some (.loop (rec .ready none)):=hly
  have hasz:as.size=ps.size:=by have:=hvy.len;rw [pp] at this;simp only [Mz] at this;omega
  have hyr:=run_yield (P:=P) (args:=as) hly' (by rw [hrec];exact hasz)
  rw [hrec] at hyr
  refine ⟨gfn,_,assign,body,hyr,roundIn_of_wpIn trivial ?_⟩
  let B2:Base:=⟨Wy,Uy,ιy,ai (aD ob)⟩
  have hpsz:∀ p∈ps.toList,p < a.tmps.size:=fun p hp=>by rw [hsz];simpa using Kt.1 hps p hp
  have hfold:((ps.zip as).foldl (fun tmps (t,a)=>tmps.setIfInBounds t a) a.tmps)=((ps.toList.zip as.toList).foldl (fun t (p,v)=>t.setIfInBounds p v) a.tmps):=by
   rw [←Array.foldl_toList,Array.toList_zip]
  refine wpIn_mono (F:=FW (some l)) (ih r' ⟨fr.f,fr.b,fr.nt,false,e8 ob,false⟩ none cur (2*p) assign _ _ _ Wy B2 (fun _=>[]) undef (some l) m' hdr.1 (fun k hk=>cF hk) (fun h=>by cases h) HdOK3.none' (fun h=>by cases h) hk ?_) ?_
  ·refine ⟨Uy,ιy,[],hmy,Evo.refl _ _ _ _,fun p hp=>(by simp [yg] at hp),rfl,by simp,by simp,fun _=>rfl,?_,?_,fun t ht=>by cases ht⟩
   ·rw [hfold,uV];exact hsz
   ·intro t
    rw [hfold]
    show VR Wy Uy ιy (ai (aD ob)) (bg (bv ((ps.toList.zip vals).reverse++st.env)) t) _
    rw [zip_e]
    exact CH hvy hpsz (fun t=>VR.keep hey.keep _ _ (hv t)) t
  ·rintro e1 a1 w1 ⟨x1,st1,rfl,hk1,U1,ι1,ds1,hm1',he1',_,hdf1,_,_,hrg1,hsz1',hv1,hy1⟩
   cases x1 with
   | exit id=>cases hk1
   | ret=>cases hk1
   | normal =>
    simp only at hk1
    have hlt:l < Wy.heap.size:=cV hly'
    have hoff1:Off U1 ι1 (ai (aD st1.ob)) l:=hloff.evo hlt he1'
    have hl1:w1.heap[l]?=some (.loop (rec .ready none)):=(he1'.same l hlt fun k o hk ho=>hloff.2 k o hk ho).trans hly'
    refine ⟨_,run_beginRound hl1 (by rw [hrec]),?_⟩
    have t2:=Turn.put w1 l (.loop { rec .ready none with state:=.busy })
    have hX2:∀ b,b=l→Off U1 ι1 (ai (aD st1.ob)) b:=fun b e=>e ▸ hoff1
    have hm2:=t2.mem hm1' hX2
    have hk2:=t2.keep hm1' hX2
    let B3:Base:=⟨w1.putObj l (.loop { rec .ready none with state:=.busy }),U1,ι1,ai (aD st1.ob)⟩
    have hds1:ds1=[]:=hrg1 rfl
    subst hds1
    have hevY2:Evo B'.w B'.U B'.ι B'.ob (w1.putObj l (.loop { rec .ready none with state:=.busy })) U1 ι1 (ai (aD st1.ob)) :=
     t2.evo (B:=B') hm1' (fun b e=>⟨hX2 b e,by subst e;show w.heap.size≤l;simp only [l];omega⟩) (hey.trans he1')
    have hl2:(w1.putObj l (.loop { rec .ready none with state:=.busy })).heap[l]?=some (.loop { rec .ready none with state:=.busy }):=World.putObj_heap_same (cV hl1)
    refine wpIn_mono (F:=FW (some l)) (ih r' ⟨fr.f,fr.b,fr.nt,false,e8 st1.ob,false⟩ none cur (2*p+1) body st1 _ a1 _ B3 (fun _=>[]) undef (some l) m' hdr.2 (fun k hk=>cF hk) (fun h=>by cases h) HdOK3.none' (fun h=>by cases h) hk1 ?_) ?_
    ·exact ⟨U1,ι1,[],hm2,Evo.refl _ _ _ _,fun p hp=>(by simp [yg] at hp),hdf1,by simp,by simp,fun _=>rfl,hsz1',fun t=>VR.keep hk2 _ _ (hv1 t),hy1⟩
    ·rintro e3 a3 w3 ⟨x3,st3,rfl,hk3,U3,ι3,ds3,hm3,he3,_,hdf3,_,_,hrg3,hsz3,hv3,_⟩
     unfold bdy3 at hk3
     split at hk3
     case h_2=>cases hk3
     rename_i ob' hg
     obtain ⟨g1,g2,g3,g4⟩:=zH (Fl hg)
     have hoff3:Off U3 ι3 (ai (aD st3.ob)) l:=hoff1.evo (by have:=cV hl2;exact this) he3
     have hl3:w3.heap[l]?=some (.loop { rec .ready none with state:=.busy }):=(he3.same l (cV hl2) fun k o hk ho=>hoff1.2 k o hk ho).trans hl2
     have hDlt:w.heap.size < Wy.heap.size:=cV hDy
     have hDoff1:Off U1 ι1 (ai (aD st1.ob)) w.heap.size:=hDoff.evo hDlt he1'
     have hDoff3:Off U3 ι3 (ai (aD st3.ob)) w.heap.size:=hDoff1.evo (by show _ < (w1.putObj l _).heap.size;simp;exact Mq hDlt he1'.size) he3
     have hD1':w1.heap[w.heap.size]?=some (.deferred (some [])):=(he1'.same _ hDlt fun k o hk ho=>hDoff.2 k o hk ho).trans hDy
     have hD2':(w1.putObj l (.loop { rec .ready none with state:=.busy })).heap[w.heap.size]?=some (.deferred (some [])):=(World.putObj_heap_other (by simp only [l];omega)).trans hD1'
     have hD3:w3.heap[w.heap.size]?=some (.deferred (some [])):=(he3.same _ (cV hD2') fun k o hk ho=>hDoff1.2 k o hk ho).trans hD2'
     have lG:∀ (p:Option Ex) (jump:Option Code),jump=p.map o4→kk p ob'=some r'→∃ v w',(Instr.endRound l jump).run P w3=.ok v w' ∧
       ∃ p ob' U' ι',Ending.returned v=.returned (.bool p.isNone)∧kk p ob'=some r'∧Mem w' U' ι' (ai (aD ob'))∧Keep Wy Uy ιy (ai (aD ob)) w' U' ι' (ai (aD ob'))∧Evo B'.w B'.U B'.ι B'.ob w' U' ι' (ai (aD ob'))∧Zs w' U' ι' (ai (aD ob')) (zs' p):=by
      intro p jump hj hkk
      subst hj
      have t4:=Turn.put w3 l (.loop { { rec .ready none with state:=.busy } with state:=if (p.map o4).isNone then .ready else .done,pending:=p.map o4 })
      have hX4:∀ b,b=l→Off U3 ι3 (ai (aD st3.ob)) b:=fun b e=>e ▸ hoff3
      have hm4:=t4.mem hm3 hX4
      have hk4:=t4.keep hm3 hX4
      have he4:Evo B'.w B'.U B'.ι B'.ob _ U3 ι3 (ai (aD st3.ob)):=t4.evo (B:=B') hm3 (fun b e=>⟨hX4 b e,by subst e;show w.heap.size≤l;simp only [l];omega⟩) (hevY2.trans he3)
      have hkk4:Keep Wy Uy ιy (ai (aD ob)) _ U3 ι3 (ai (aD st3.ob)):=((he1'.keep.trans hk2).trans he3.keep).trans hk4
      refine ⟨_,_,run_endRound (P:=P) (p.map o4) hl3,p,ob',U3,ι3,by cases p<;>rfl,hkk,hm4.sub g1 g4,hkk4.subO (fun k hk=>g2 k (cF hk)),Evo.subN he4 g1 (fun k hk hn=>g2 k (qo hey hk hn)),?_⟩
      refine Zs.sub (ob:=ai (aD st3.ob)) ?_ g1
      intro q hq
      simp only [zs',Ki,Me,Tn] at hq
      rcases hq with rfl | rfl
      ·refine ⟨?_,hoff3⟩
       rw [World.putObj_heap_same (cV hl3)]
       simp only [recO,hrec]
       cases p<;>rfl
      ·exact ⟨(World.putObj_heap_other (by simp only [l];omega)).trans hD3,hDoff3⟩
     cases x3 with
     | normal=>exact lG none none rfl hk3
     | ret=>exact lG (some .ret) (some .ret) rfl hk3
     | exit id=>exact lG (some (.exit id)) (some (.exit id)) rfl hk3
 ·
  show Sim2 B' (zs' none) bd.nt false (.func (.yield l) #[] #[]) (bg (bv (kf (.one .undef::caps.map .one) 0))) (ai (aD st.ob)) [0] { tmps:=(#[Value.func (.yield l) #[] #[]]++cs)++Array.replicate (fn.ntmps - (#[Value.func (.yield l) #[] #[]]++cs).size) undef,defers:=[] } W1
  rw [hin.nt,tZ]
  refine rJ hm1 hcapV (by rw [pp];simpa using hcap) hzs1 [0] (fun t ht=>?_) he1
  simp only [Ki,Me,Tn] at ht
  subst ht
  simp
 ·
  rintro e2 a2 w2 ⟨x2,st2,rfl,hk2,U2,ι2,ds2,hm2,he2,hz2,hdf2,_,_,hrg2,_,_,_⟩
  have hds2:ds2=[]:=hrg2 rfl
  subst hds2
  have hres0:(results fn a2.tmps).run P w2=.ok (ie []) w2:=lO (by rw [hin.res,hres];simp)
  have main:tG (dJ P cfg Fn m0) st k st2=some r→a2.defers=[]∧∃ v,(results fn a2.tmps).run P w2=.ok v w2∧rangePost (FW none) m P l (j6 B zsOf fr yv k r) { a with defers:=[{ target:=.collected w.heap.size,args:=#[] }]++a.defers } (.returned v) w2:=by
   intro hk2
   unfold tG at hk2
   split at hk2
   case h_2=>cases hk2
   rename_i ob' hg
   refine ⟨hdf2,_,hres0,?_⟩
   obtain ⟨g1,g2,g3,g4⟩:=zH (Fl hg)
   obtain ⟨hl2,hloff2⟩:=hz2 (l,recO st2.pend) (by simp [zs',yg,eS])
   obtain ⟨hD2,hDoff2⟩:=hz2 (w.heap.size,.deferred (some [])) (by simp [zs',yg])
   have hl2':∃ rc,w2.heap[l]?=some (.loop rc)∧rc.state≠.busy∧rc.pending=st2.pend.map o4:=by
    cases hp:st2.pend with
    | none=>rw [hp] at hl2;exact ⟨_,hl2,by rw [hrec];simp,by rw [hrec];rfl⟩
    | some x=>rw [hp] at hl2;exact ⟨_,hl2,by rw [hrec];simp,by rw [hrec];rfl⟩
   obtain ⟨rc,hl2',hbusy,hpend⟩:=hl2'
   have t5:=Turn.put w2 l (.loop { rc with state:=.exhausted })
   have hX5:∀ b,b=l→Off U2 ι2 (ai (aD st2.ob)) b:=fun b e=>e ▸ hloff2
   have hm5:=t5.mem hm2 hX5
   have hk5:=t5.keep hm2 hX5
   have hoffD:∀ D∈ds,D < w.heap.size:=fun D hD=>cV (hz (D,.deferred (some [])) (by simp only [yg,Kp,M5];exact .inl ⟨D,hD,rfl⟩)).1
   have done:∀ x,k x ⟨st.env,ob',[],st.pend⟩=some r→j6 B zsOf fr yv k r (yd x) { a with defers:=[{ target:=.collected w.heap.size,args:=#[] }]++a.defers } (w2.putObj l (.loop { rc with state:=.exhausted })):=by
    intro x hx
    refine ⟨x,_,rfl,hx,U2,ι2,w.heap.size::ds,hm5.sub g1 g4,?_,?_,by rw [hdf];rfl,?_,?_,?_,hsz,?_,fun t ht=>by cases ht⟩
    ·refine Evo.subN (ob:=ai (aD st2.ob)) ?_ g1 (fun k hk hn=>g2 k (qo he0 hk hn))
     exact t5.evo hm2 (fun b e=>⟨hX5 b e,by subst e;have:=he0.size;simp only [l];omega⟩) (he0.trans he2)
    ·refine Zs.sub (ob:=ai (aD st2.ob)) ?_ g1
     refine t5.zs ?_ ?_
     ·intro p hp
      simp only [yg,K0,K2,Ki] at hp
      rcases hp with rfl | hp
      ·exact ⟨hD2,hDoff2⟩
      ·exact (hz.evo he2) p hp
     ·intro p hp e
      simp only [yg,K0,K2,Ki] at hp
      rcases hp with rfl | hp
      ·simp only [l] at e;omega
      ·have:=cV (hz p hp).1
       simp only [l] at e;omega
    ·rw [Ml];exact ⟨fun h=>by have:=hoffD _ h;omega,hnd⟩
    ·intro D hD
     rcases Ki.1 hD with rfl | hD
     ·exact he0.size
     ·exact hds D hD
    ·intro hh;rw [hrng] at hh;cases hh
    ·intro t
     refine VR.keep (Keep.subO (ob':=ai (aD st2.ob)) (he2.keep.trans hk5) fun k hk=>g2 k (cF hk)) _ _ (hv t)
   obtain ⟨jp,hjp⟩:∃ jp,jp=rc.pending:=⟨_,rfl⟩
   refine ⟨jp,_,by rw [hjp];exact run_endLoop hl2' hbusy,?_⟩
   rw [hpend] at hjp
   cases hp:st2.pend with
   | none =>
    rw [hp] at hk2 hjp
    simp only [Tt] at hjp
    rw [hjp]
    exact done .normal hk2
   | some x =>
    rw [hp] at hk2 hjp
    simp only [M3] at hjp
    rw [hjp]
    have:=done x hk2
    cases x with
    | normal=>exact wpIn_skip this
    | ret=>exact wpIn_ret this
    | exit id=>exact wpIn_exit this
  cases x2 with
  | exit id=>cases hk2
  | normal=>exact main hk2
  | ret=>exact main hk2
end
end Go.VE
