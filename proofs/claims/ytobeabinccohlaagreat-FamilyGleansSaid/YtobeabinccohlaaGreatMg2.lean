/- Family: Homes. -/
import Derived.Test.YtobeabinccohlaaGreatMg1
namespace Go.VE
open Go.RowKit Go.Proofs
def q0y (d who:Int) (l:List E9):List Int:=q1i f0 [] (q11 d who (q0m l l.length))
theorem q0w (k:Int) (o:Option (List E9)):(kn9 k o).getD []=q1y k (o.getD []):=by cases o<;>rfl
theorem q33 (k:Int) (o:Option (List E5)):(kn5 k o).getD []=q8B k (o.getD []):=by cases o<;>rfl
theorem q23 {ok ps fs:Bool} {p f:Int} {ds:List Int} (h:q1m ok ps fs p f ds=0):ok=true:=by
 unfold q1m at h
 cases ok with
 | true=>rfl
 | false=>simp at h
theorem q3p {a b c:List E9} {o:List E5} (h:q0M a b c o=true):a.length≤60∧b.length≤60∧c.length≤60∧o.length≤60:=by
 unfold q0M at h
 simp only [Bool.and_eq_true,decide_eq_true_eq] at h
 exact h.1.1.1.1
set_option maxRecDepth 20000 in
theorem s12 (n:Nat) (p d k:Int) (a b c:Option (List E9)) (o:Option (List E5)) (ha:(a.getD []).length*72≤140737488351232) (hb:(b.getD []).length*72≤140737488351232) (hc:(c.getD []).length*72≤140737488351232) (ho:(o.getD []).length*40≤140737488351232) :
  FN (n+11) 12 [d9 a,d9 b,d9 c,d5 o,il p,il d,il k]=if q1m (q0M (a.getD []) (b.getD []) (c.getD []) (o.getD [])) true false p 0 [d,k]=0 then some (0,[.d (dI (some (q0y d p (q1y k (a.getD []))))),.d (il 0)]) else some (0,[.d (dI none),.d (il (q1m (q0M (a.getD []) (b.getD []) (c.getD []) (o.getD [])) true false p 0 [d,k]))]):=by
 rw [F12]
 have h73:=s73 n p 0 true false a b c o [d] k (by simp) ha hb hc ho
 rw [show dI (some ([d]++[k]))=.sl 1 [[il d],[il k]] from rfl] at h73
 simp only [G12,q06,s72,q01,q02,q07,q0H,q1D,h73]
 simp only [List.cons_append,List.nil_append]
 by_cases he:q1m (q0M (a.getD []) (b.getD []) (c.getD []) (o.getD [])) true false p 0 [d,k]=0
 ·rw [if_pos he]
  have hlen:=(q3p (q23 he)).1
  have hcl:((kn9 k a).getD []).length≤60:=by
   rw [q0w];exact Nat.le_trans (List.length_filter_le _ _) hlen
  have hl12:=l12 (n+6) (kn9 k a) (kn9 k b) (kn9 k c) (kn5 k o) d p (by omega)
  simp only [q4V,he,if_true,q01,q02,q07,q04,q0L,ne_eq,not_true_eq_false,decide_false,q00,Bool.false_eq_true,if_false,q0T,q3H]
  rw [q26 _ 4 _ rfl]
  simp only [q0a,q6O,q0U]
  rw [q0l (by omega) (by omega)]
  simp only [q0k]
  simp only [q0T] at hl12
  rw [q0w] at hl12
  rw [q0w] at hcl
  simp only [q0w]
  unfold Q12 at hl12
  rw [show q0y d p (q1y k (a.getD []))=q1i f0 [] (q11 d p (q0m (q1y k (a.getD [])) (q1y k (a.getD [])).length)) from rfl]
  have ht:∀ q:List Int,(q.map rI).take q.length=q.map rI:=fun q=>List.take_of_length_le (by simp)
  rcases hl12 with ⟨acc,hne,hup,hle,(⟨hr,hT⟩ | ⟨hr,hT⟩)⟩ | ⟨hr,hT⟩
  ·rw [hr,← hT]
   simp [dI,dSl,ht]
  ·rw [hr,← hT]
   have hput:=q1C (n+6) acc 0 (by omega) hup
   simp [q0X,hput,dI,dSl,ht]
  ·rw [hr,← hT]
   simp [q0X,qhd,qb8,dI,dSl,ins,rI]
 ·rw [if_neg he]
  simp only [q4V,if_neg he,q01,q02,q07,q04,q0L,q00]
  rw [if_pos (by simpa using he)]
  simp [dI,dSl]
end Go.VE
namespace Go.VE
open Go.RowKit Go.Proofs
theorem q9f (n:Nat) (x:Int):FN (n+1) 92 [.lit (.slice none 0 0),il x]=some (0,[.d (dI (some [x]))]):=s92 n none x (by simp) (by simp)
def en78 (d who:Int) (a b c o:D) (m:Nat) (acc:List Int):Nat×List Yr:=match acc with
 | []=>(0,[.d (il who),.d (il d),.d a,.d b,.d c,.d o,.d (il ((m:Int) - 1))])
 | y::r=>(1,[.d (il who),.d (il d),.d a,.d b,.d c,.d o,.d (dI (some (y::r))),.d (il ((m:Int) - 1))])
def Q78 (n:Nat) (T:List Int) (r:Out):Prop :=
 (∃ acc:List Int,acc≠[]∧Up acc∧acc.length≤n∧((r=some (2,[.d (dI (some acc))])∧acc=T)∨(r=some (3,[.d (dI (some acc))])∧ins 0 acc=T)))∨(r=some (1,[])∧ins 0 []=T)
theorem q5M (f1 f2 t1 t2 d:Int):qhr f1 f2 t1 t2 d≠0↔q2p f1 t2 d=true:=by unfold qhr;repeat' split;all_goals simp_all
theorem q1J (f1 f2 t1 t2 d:Int) (h:q2p f1 t2 d=true):qhr f1 f2 t1 t2 d=1↔q2c f2 t1 d=true:=by unfold qhr;rw [if_pos h];split<;>simp_all
theorem q5L (f1 f2 t1 t2 d:Int) (h:¬ q2p f1 t2 d=true):qhr f1 f2 t1 t2 d=0:=by unfold qhr;rw [if_neg h]
set_option maxRecDepth 20000 in
theorem l78 (n:Nat) (a:Option (List E9)) (b c o:D) (d who:Int) (hl:(a.getD []).length≤1000000) :
  Q78 (a.getD []).length (q1i f0 [] (q11 d who (q0m (a.getD []) (a.getD []).length))) (q0I [qat (RP (n+4)),qas (RP (n+4))] M0 0 [.d (il who),.d (il d),.d (d9 a),.d b,.d c,.d o,.d (il (((a.getD []).length:Int) - 1))]):=by
 have:=q47 (σ:=Nat×List Int) [qat (RP (n+4)),qas (RP (n+4))] (fun s=>en78 d who (d9 a) b c o s.1 s.2) (fun s=>s.1)
  (fun s=>s.1≤(a.getD []).length∧Up s.2∧s.2.length+s.1≤(a.getD []).length∧q1i f0 s.2 (q11 d who (q0m (a.getD []) s.1))=q1i f0 [] (q11 d who (q0m (a.getD []) (a.getD []).length)))
  (Q78 (a.getD []).length (q1i f0 [] (q11 d who (q0m (a.getD []) (a.getD []).length)))) ?_ M0 ((a.getD []).length,[]) ⟨Nat.le_refl _,by simp,by simp,rfl⟩ (by unfold M0;simp only;omega)
 ·exact this
 ·generalize q1i f0 [] (q11 d who (q0m (a.getD []) (a.getD []).length))=T
  rintro ⟨m,acc⟩ k ⟨g1,g2,g3,g4⟩ ih
  simp only at g1 g2 g3 g4 ih
  cases m with
  | zero =>
   rw [q3z] at g4
   cases acc with
   | nil =>
    refine ⟨qat (RP (n+4)),rfl,.inr ⟨?_,g4⟩⟩
    simp [en78,qat]
   | cons y r =>
    refine ⟨qas (RP (n+4)),rfl,.inl ⟨y::r,by simp,g2,by omega,.inr ⟨?_,g4⟩⟩⟩
    simp [en78,qas]
  | succ m =>
   obtain ⟨e,he⟩:∃ e,(a.getD [])[m]?=some e:=⟨_,List.getElem?_eq_getElem (by omega)⟩
   rw [q2H he,q11] at g4
   have hm:(((m+1:Nat):Int) - 1)=((m:Nat):Int):=by omega
   have hw:IntKind.i64.wrap (((m:Nat):Int) - 1)=((m:Nat):Int) - 1:=q0l (by omega) (by omega)
   cases acc with
   | nil =>
    refine ⟨qat (RP (n+4)),rfl,?_⟩
    simp only [en78,hm,qat,q02,q07,q04,q1q,q00]
    rw [if_pos (by simp)]
    simp only [q4u he,r9,q0a,q0C,q0L,q00,q0U,hw,decide_eq_true_eq]
    by_cases h1:e.a=who
    ·rw [if_neg (by simp [h1])]
     simp only [q06,s160,q01,q02,q0L,q00,q0F,decide_eq_true_eq]
     by_cases h2:q2p e.f1 e.t2 d=true
     ·rw [if_pos ((q5M _ _ _ _ _).2 h2)]
      rw [if_pos ⟨h1,h2⟩] at g4
      simp only [q1p,q9f,q01,q02]
      by_cases h3:q2c e.f2 e.t1 d=true
      ·rw [if_pos h3] at g4
       rw [if_pos ((q1J _ _ _ _ _ h2).2 h3)]
       exact .inl ⟨[e.b],by simp,by simp,by simp;omega,.inl ⟨rfl,g4⟩⟩
      ·rw [if_neg h3] at g4
       rw [if_neg fun h=>h3 ((q1J _ _ _ _ _ h2).1 h)]
       exact ih (m,[e.b]) ⟨by simp only;omega,by simp,by simp only [List.length_singleton];omega,g4⟩ (by simp only;omega)
     ·rw [q5L _ _ _ _ _ h2,if_neg (by simp),if_neg (by simp)]
      rw [if_neg fun h=>h2 h.2] at g4
      exact ih (m,[]) ⟨by simp only;omega,g2,by simp only [List.length_nil];omega,g4⟩ (by simp only;omega)
    ·rw [if_pos (by simp [h1])]
     rw [if_neg fun h=>h1 h.1] at g4
     exact ih (m,[]) ⟨by simp only;omega,g2,by simp only [List.length_nil];omega,g4⟩ (by simp only;omega)
   | cons y r =>
    refine ⟨qas (RP (n+4)),rfl,?_⟩
    simp only [en78,hm,qas,q02,q07,q04,q1q,q00]
    rw [if_pos (by simp)]
    simp only [q4u he,r9,q0a,q0C,q0L,q00,q0U,hw,decide_eq_true_eq]
    by_cases h1:e.a=who
    ·rw [if_neg (by simp [h1])]
     simp only [q06,s160,q01,q02,q0L,q00,q0F,decide_eq_true_eq]
     by_cases h2:q2p e.f1 e.t2 d=true
     ·rw [if_pos ((q5M _ _ _ _ _).2 h2)]
      rw [if_pos ⟨h1,h2⟩] at g4
      have hput:=s92 (n+3) (some (y::r)) e.b (by simp only [Option.getD_some,List.length_cons] at g3 ⊢;omega) g2
      simp only [Option.getD_some] at hput
      simp only [hput,q01,q02]
      have hil:=q3e e.b (y::r)
      have hne:=q6V e.b (y::r)
      have hup:=q3S e.b g2
      by_cases h3:q2c e.f2 e.t1 d=true
      ·rw [if_pos h3] at g4
       rw [if_pos ((q1J _ _ _ _ _ h2).2 h3)]
       exact .inl ⟨ins e.b (y::r),hne,hup,by simp only [List.length_cons] at g3 hil ⊢;omega,.inl ⟨rfl,g4⟩⟩
      ·rw [if_neg h3] at g4
       rw [if_neg fun h=>h3 ((q1J _ _ _ _ _ h2).1 h)]
       have:=ih (m,ins e.b (y::r)) ⟨by simp only;omega,hup,by simp only [List.length_cons] at g3 hil ⊢;omega,g4⟩ (by simp only;omega)
       revert this
       generalize ins e.b (y::r)=q at hne
       cases q with
       | nil=>exact absurd rfl hne
       | cons z zs=>intro this;exact this
     ·rw [q5L _ _ _ _ _ h2,if_neg (by simp),if_neg (by simp)]
      rw [if_neg fun h=>h2 h.2] at g4
      exact ih (m,y::r) ⟨by simp only;omega,g2,by simp only at g3 ⊢;omega,g4⟩ (by simp only;omega)
    ·rw [if_pos (by simp [h1])]
     rw [if_neg fun h=>h1 h.1] at g4
     exact ih (m,y::r) ⟨by simp only;omega,g2,by simp only at g3 ⊢;omega,g4⟩ (by simp only;omega)
end Go.VE
namespace Go.VE
open Go.RowKit Go.Proofs
theorem qaK (d who:Int) (l:List E9):Up (q0y d who l):=q6q _ _ (by simp)
set_option maxRecDepth 20000 in
theorem s78 (n:Nat) (a:Option (List E9)) (b c o:D) (d who:Int) (hl:(a.getD []).length≤1000000):FN (n+5) 78 [d9 a,b,c,o,il who,il d]=some (0,[.d (dI (some (q0y d who (a.getD []))))]):=by
 rw [F78]
 simp only [G78,q6O,q04,q0U]
 rw [q0l (by omega) (by omega),q0k]
 have h:=l78 n a b c o d who hl
 unfold Q78 at h
 rw [show q0y d who (a.getD [])=q1i f0 [] (q11 d who (q0m (a.getD []) (a.getD []).length)) from rfl]
 rcases h with ⟨acc,hne,hup,hle,(⟨hr,hT⟩ | ⟨hr,hT⟩)⟩ | ⟨hr,hT⟩
 ·rw [hr,← hT];simp
 ·rw [hr,← hT]
  have hput:=s92 (n+3) (some acc) 0 (by simp only [Option.getD_some];omega) hup
  simp only [Option.getD_some] at hput
  simp [q0X,hput]
 ·rw [hr,← hT]
  simp [q9f,ins]
set_option maxRecDepth 20000 in
theorem s13 (n:Nat) (p f d k:Int) (a b c:Option (List E9)) (o:Option (List E5)) (ha:(a.getD []).length*72≤140737488351232) (hb:(b.getD []).length*72≤140737488351232) (hc:(c.getD []).length*72≤140737488351232) (ho:(o.getD []).length*40≤140737488351232) :
  FN (n+7) 13 [d9 a,d9 b,d9 c,d5 o,il p,il f,il d,il k]=if q1m (q0M (a.getD []) (b.getD []) (c.getD []) (o.getD [])) true true p 1 [d,k]=0 then some (0,[.d (dI (some (q0y d p (q1y k (a.getD []))))),.d (il 0)]) else some (0,[.d (dI none),.d (il (q1m (q0M (a.getD []) (b.getD []) (c.getD []) (o.getD [])) true true p 1 [d,k]))]):=by
 rw [F13]
 have h76:=s76 n p 1 d k a b c o ha hb hc ho
 simp only [G13,q06,q0P,s77,q01,q02,q07,if_true,Bool.false_eq_true,if_false,h76,q04]
 by_cases he:q1m (q0M (a.getD []) (b.getD []) (c.getD []) (o.getD [])) true true p 1 [d,k]=0
 ·rw [if_pos he,if_pos he]
  have hlen:=(q3p (q23 he)).1
  have hcl:((nzO (q1y k (a.getD []))).getD []).length≤1000000:=by
   rw [q0R];have:=List.length_filter_le (fun e=>q3U e.kn e.un k) (a.getD []);unfold q1y;omega
  simp only [q01,q02,q07,q0L,ne_eq,not_true_eq_false,decide_false,q00,Bool.false_eq_true,if_false,s78 (n+1) _ _ _ _ _ _ hcl,q0R,q0b]
 ·rw [if_neg he,if_neg he]
  simp only [qdy,q01,q02,q07,q0L,q00]
  rw [if_pos (by simpa using he)]
  simp [dI,dSl]
theorem qgj (ok:Bool) (p:Int) (ds:List Int):q1m ok true true p 1 ds=q1m ok true false p 0 ds:=by
 unfold q1m;simp
end Go.VE
namespace Go.VE
open Go.RowKit Go.Proofs
def fm (o:Option Int):Int:=o.getD (-1)
def q1z (d who:Int) (l:List E9):List Int:=q1i fm [] (q11 d who (q0m l l.length))
def qel (d who:Int) (a b c o:D) (m:Nat) (acc:List Int):Nat×List Yr:=match acc with
 | []=>(0,[.d (il who),.d (il d),.d a,.d b,.d c,.d o,.d (il ((m:Int) - 1))])
 | y::r=>(1,[.d (il who),.d (il d),.d a,.d b,.d c,.d o,.d (dI (some (y::r))),.d (il ((m:Int) - 1))])
def Q165 (n:Nat) (T:List Int) (r:Out):Prop :=
 (∃ acc:List Int,acc≠[]∧Up acc∧acc.length≤n∧((r=some (2,[.d (dI (some acc))])∧acc=T)∨(r=some (3,[.d (dI (some acc))])∧ins (-1) acc=T)))∨(r=some (1,[])∧ins (-1) []=T)
set_option maxRecDepth 20000 in
theorem l165 (n:Nat) (a:Option (List E9)) (b c o:D) (d who:Int) (hl:(a.getD []).length≤1000000) :
  Q165 (a.getD []).length (q1i fm [] (q11 d who (q0m (a.getD []) (a.getD []).length))) (q0I [q7m (RP (n+4)),q7l (RP (n+4))] M0 0 [.d (il who),.d (il d),.d b,.d c,.d (d9 a),.d o,.d (il (((a.getD []).length:Int) - 1))]):=by
 have:=q47 (σ:=Nat×List Int) [q7m (RP (n+4)),q7l (RP (n+4))] (fun s=>qel d who b c (d9 a) o s.1 s.2) (fun s=>s.1)
  (fun s=>s.1≤(a.getD []).length∧Up s.2∧s.2.length+s.1≤(a.getD []).length∧q1i fm s.2 (q11 d who (q0m (a.getD []) s.1))=q1i fm [] (q11 d who (q0m (a.getD []) (a.getD []).length)))
  (Q165 (a.getD []).length (q1i fm [] (q11 d who (q0m (a.getD []) (a.getD []).length)))) ?_ M0 ((a.getD []).length,[]) ⟨Nat.le_refl _,by simp,by simp,rfl⟩ (by unfold M0;simp only;omega)
 ·exact this
 ·generalize q1i fm [] (q11 d who (q0m (a.getD []) (a.getD []).length))=T
  rintro ⟨m,acc⟩ k ⟨g1,g2,g3,g4⟩ ih
  simp only at g1 g2 g3 g4 ih
  cases m with
  | zero =>
   rw [q3z] at g4
   cases acc with
   | nil =>
    refine ⟨q7m (RP (n+4)),rfl,.inr ⟨?_,g4⟩⟩
    simp [qel,q7m]
   | cons y r =>
    refine ⟨q7l (RP (n+4)),rfl,.inl ⟨y::r,by simp,g2,by omega,.inr ⟨?_,g4⟩⟩⟩
    simp [qel,q7l]
  | succ m =>
   obtain ⟨e,he⟩:∃ e,(a.getD [])[m]?=some e:=⟨_,List.getElem?_eq_getElem (by omega)⟩
   rw [q2H he,q11] at g4
   have hm:(((m+1:Nat):Int) - 1)=((m:Nat):Int):=by omega
   have hw:IntKind.i64.wrap (((m:Nat):Int) - 1)=((m:Nat):Int) - 1:=q0l (by omega) (by omega)
   cases acc with
   | nil =>
    refine ⟨q7m (RP (n+4)),rfl,?_⟩
    simp only [qel,hm,q7m,q02,q07,q04,q1q,q00]
    rw [if_pos (by simp)]
    simp only [q4u he,r9,q0a,q0C,q0L,q00,q0U,hw,decide_eq_true_eq]
    by_cases h1:e.a=who
    ·rw [if_neg (by simp [h1])]
     simp only [q06,s160,q01,q02,q0L,q00,q0F,decide_eq_true_eq]
     by_cases h2:q2p e.f1 e.t2 d=true
     ·rw [if_pos ((q5M _ _ _ _ _).2 h2)]
      rw [if_pos ⟨h1,h2⟩] at g4
      simp only [q1p,q9f,q01,q02]
      by_cases h3:q2c e.f2 e.t1 d=true
      ·rw [if_pos h3] at g4
       rw [if_pos ((q1J _ _ _ _ _ h2).2 h3)]
       exact .inl ⟨[e.b],by simp,by simp,by simp;omega,.inl ⟨rfl,g4⟩⟩
      ·rw [if_neg h3] at g4
       rw [if_neg fun h=>h3 ((q1J _ _ _ _ _ h2).1 h)]
       exact ih (m,[e.b]) ⟨by simp only;omega,by simp,by simp only [List.length_singleton];omega,g4⟩ (by simp only;omega)
     ·rw [q5L _ _ _ _ _ h2,if_neg (by simp),if_neg (by simp)]
      rw [if_neg fun h=>h2 h.2] at g4
      exact ih (m,[]) ⟨by simp only;omega,g2,by simp only [List.length_nil];omega,g4⟩ (by simp only;omega)
    ·rw [if_pos (by simp [h1])]
     rw [if_neg fun h=>h1 h.1] at g4
     exact ih (m,[]) ⟨by simp only;omega,g2,by simp only [List.length_nil];omega,g4⟩ (by simp only;omega)
   | cons y r =>
    refine ⟨q7l (RP (n+4)),rfl,?_⟩
    simp only [qel,hm,q7l,q02,q07,q04,q1q,q00]
    rw [if_pos (by simp)]
    simp only [q4u he,r9,q0a,q0C,q0L,q00,q0U,hw,decide_eq_true_eq]
    by_cases h1:e.a=who
    ·rw [if_neg (by simp [h1])]
     simp only [q06,s160,q01,q02,q0L,q00,q0F,decide_eq_true_eq]
     by_cases h2:q2p e.f1 e.t2 d=true
     ·rw [if_pos ((q5M _ _ _ _ _).2 h2)]
      rw [if_pos ⟨h1,h2⟩] at g4
      have hput:=s92 (n+3) (some (y::r)) e.b (by simp only [Option.getD_some,List.length_cons] at g3 ⊢;omega) g2
      simp only [Option.getD_some] at hput
      simp only [hput,q01,q02]
      have hil:=q3e e.b (y::r)
      have hne:=q6V e.b (y::r)
      have hup:=q3S e.b g2
      by_cases h3:q2c e.f2 e.t1 d=true
      ·rw [if_pos h3] at g4
       rw [if_pos ((q1J _ _ _ _ _ h2).2 h3)]
       exact .inl ⟨ins e.b (y::r),hne,hup,by simp only [List.length_cons] at g3 hil ⊢;omega,.inl ⟨rfl,g4⟩⟩
      ·rw [if_neg h3] at g4
       rw [if_neg fun h=>h3 ((q1J _ _ _ _ _ h2).1 h)]
       have:=ih (m,ins e.b (y::r)) ⟨by simp only;omega,hup,by simp only [List.length_cons] at g3 hil ⊢;omega,g4⟩ (by simp only;omega)
       revert this
       generalize ins e.b (y::r)=q at hne
       cases q with
       | nil=>exact absurd rfl hne
       | cons z zs=>intro this;exact this
     ·rw [q5L _ _ _ _ _ h2,if_neg (by simp),if_neg (by simp)]
      rw [if_neg fun h=>h2 h.2] at g4
      exact ih (m,y::r) ⟨by simp only;omega,g2,by simp only at g3 ⊢;omega,g4⟩ (by simp only;omega)
    ·rw [if_pos (by simp [h1])]
     rw [if_neg fun h=>h1 h.1] at g4
     exact ih (m,y::r) ⟨by simp only;omega,g2,by simp only at g3 ⊢;omega,g4⟩ (by simp only;omega)
theorem qfh (d who:Int) (l:List E9):Up (q1z d who l):=q6q _ _ (by simp)
set_option maxRecDepth 20000 in
theorem s165 (n:Nat) (a:Option (List E9)) (b c o:D) (d who:Int) (hl:(a.getD []).length≤1000000):FN (n+5) 165 [b,c,d9 a,o,il who,il d]=some (0,[.d (dI (some (q1z d who (a.getD []))))]):=by
 rw [F165]
 simp only [G165,q6O,q04,q0U]
 rw [q0l (by omega) (by omega),q0k]
 have h:=l165 n a b c o d who hl
 unfold Q165 at h
 rw [show q1z d who (a.getD [])=q1i fm [] (q11 d who (q0m (a.getD []) (a.getD []).length)) from rfl]
 rcases h with ⟨acc,hne,hup,hle,(⟨hr,hT⟩ | ⟨hr,hT⟩)⟩ | ⟨hr,hT⟩
 ·rw [hr,← hT];simp
 ·rw [hr,← hT]
  have hput:=s92 (n+3) (some acc) (-1) (by simp only [Option.getD_some];omega) hup
  simp only [Option.getD_some] at hput
  simp [q0X,hput]
 ·rw [hr,← hT]
  simp [q9f,ins]
end Go.VE
namespace Go.VE
open Go.RowKit Go.Proofs
def q8C (d who:Int) (l:List E5):Bool:=l.any fun e=>decide (e.a=who∧e.day=d - 1)
set_option maxRecDepth 20000 in
theorem s164 (n:Nat) (x y z:D) (o:Option (List E5)) (d who:Int) (hd:0≤d∧d≤4166) (hl:(o.getD []).length≤4611686018427387904):FN (n+1) 164 [x,y,z,d5 o,il who,il d]=some (0,[.d (bl (q8C d who (o.getD [])))]):=by
 rw [F164]
 simp only [G164,qib,q04,q0k]
 have:=q0t (β:=Unit) (o.getD []) hl (qbO (RP n)) (fun i _=>[.d (il who),.d (il d),.d (d5 o),.d (il (o.getD []).length),.d (il i)]) (fun _ _=>True)
  (fun _ r _=>if q8C d who r=true then some (0,[.d (bl true)]) else some (1,[]))
  (fun _ k _=>by simp [qbO,q8C]) ?_ M0 () trivial (q1A hl)
 ·simp only [Int.natCast_zero] at this
  rw [this]
  by_cases h:q8C d who (o.getD [])=true<;>simp [h]
 ·intro i e r _ k hi hd' hlt hw _ ih
  have ih':=ih () trivial
  have hlt':(i:Int) < ((o.getD []).length:Int):=by omega
  have hwd:IntKind.i64.wrap (d - 1)=d - 1:=q0l (by omega) (by omega)
  simp only [qbO,q02,q07,q0B,q00,hlt',decide_true,if_true,qh1 hi,r5,q0a,q0C,q0F,q04,q0U,hwd,q0u,hw,q0P,q0b,decide_eq_true_eq]
  have hb:q8C d who (e::r)=(decide (e.a=who∧e.day=d - 1)||q8C d who r):=rfl
  rw [hb]
  by_cases h1:e.a=who
  ·rw [if_pos h1]
   by_cases h2:e.day=d - 1
   ·rw [if_pos h2];simp [h1,h2]
   ·rw [if_neg h2]
    simp only [h2,and_false,decide_false,Bool.false_or]
    exact ih'
  ·rw [if_neg h1]
   simp only [h1,false_and,decide_false,Bool.false_or]
   exact ih'
theorem s218 (n:Nat) (e:E5) (d who:Int) (hd:0≤d∧d≤4166):FN (n+1) 218 (r5 e++[il who,il d])=some (0,[.d (bl (decide (e.a=who∧e.day=d - 1)))]):=by
 rw [r5]
 simp only [List.cons_append,List.nil_append]
 rw [F218]
 have hwd:IntKind.i64.wrap (d - 1)=d - 1:=q0l (by omega) (by omega)
 simp only [G218,q0F,q00,q04,q0U,hwd,q0b,q0P]
 by_cases h:e.a=who<;>simp [h]
theorem d218 (n:Nat) (e:E5) (d who:Int) (hd:0≤d∧d≤4166):FD (n+1) (.fn 218 [.dp [il who] 0,.dp [il d] 0]) [.agg 5] (r5 e)=some (0,[.d (bl (decide (e.a=who∧e.day=d - 1)))]) :=
 q3Z [.agg 5,.ptr 1,.ptr 1] [.agg (r5 e)] (by decide) rfl (by kernel_rfl) rfl (by kernel_rfl) (s218 n e d who hd)
theorem s214 (n:Nat) (x y z:D) (o:Option (List E5)) (d who:Int) (hd:0≤d∧d≤4166) (hl:(o.getD []).length≤4611686018427387904):FN (n+5) 214 [x,y,z,d5 o,il who,il d]=some (0,[.d (bl (q8C d who (o.getD [])))]):=by
 rw [F214]
 simp only [G214,q06,q52,q6a,s125 (n+1) o hl (.fn 218 [.dp [il who] 0,.dp [il d] 0]) _ (fun e _=>d218 n e d who hd),q01,q02,q0b]
 rfl
end Go.VE
namespace Go.VE
open Go.RowKit Go.Proofs
theorem q5I (f:Option Int→Int):∀ (os:List (Option Int)) (acc:List Int),(q1i f acc os).length≤acc.length+os.length
 | [],acc=>by simp [q1i]
 | o::os,acc=>by
  have h1:=q5I f os (ins (f o) acc)
  have h2:=q3e (f o) acc
  show (q1i f (ins (f o) acc) os).length≤_
  simp only [List.length_cons];omega
theorem q8p (d who:Int):∀ l:List E9,(q11 d who l).length≤l.length+1
 | []=>by simp [q11]
 | e::r=>by
  have:=q8p d who r
  simp only [q11]
  split
  ·split<;>simp<;>omega
  ·simp;omega
theorem q9o (l:List E9) (m:Nat):(q0m l m).length≤l.length:=by simp [q0m];omega
theorem q5d (d who:Int) (l:List E9):(q0y d who l).length≤l.length+1:=by
 have h1:=q5I f0 (q11 d who (q0m l l.length)) []
 have h2:=q8p d who (q0m l l.length)
 have h3:=q9o l l.length
 unfold q0y;simp only [List.length_nil] at h1;omega
theorem q9p (d who:Int) (l:List E9):(q1z d who l).length≤l.length+1:=by
 have h1:=q5I fm (q11 d who (q0m l l.length)) []
 have h2:=q8p d who (q0m l l.length)
 have h3:=q9o l l.length
 unfold q1z;simp only [List.length_nil] at h1;omega
def qcQ (b:Bool) (q r:List Int):Int:=if (b||decide (q=[0])||!decide (-1∈r))=true then 0 else if 0∈q∨1 < r.length then 2 else 1
set_option maxRecDepth 20000 in
theorem s166 (n:Nat) (a c:Option (List E9)) (o:Option (List E5)) (b:D) (d who:Int) (hd:0≤d∧d≤4166) (ha:(a.getD []).length≤1000) (hc:(c.getD []).length≤1000) (ho:(o.getD []).length≤1000) :
  FN (n+6) 166 [d9 a,b,d9 c,d5 o,il who,il d]=some (0,[.d (il (qcQ (q8C d who (o.getD [])) (q0y d who (a.getD [])) (q1z d who (c.getD []))))]):=by
 rw [F166]
 have l1:=q5d d who (a.getD [])
 have l2:=q9p d who (c.getD [])
 simp only [G166,q06,s78 n a b (d9 c) (d5 o) d who (by omega),s165 n c (d9 a) b (d5 o) d who (by omega),s164 (n+4) (d9 a) b (d9 c) o d who hd (by omega),q01,q02,q07,q00,q04,q0b,q3s,Option.getD_some,q0F,q0P]
 generalize q0y d who (a.getD [])=q at l1 ⊢
 generalize q1z d who (c.getD [])=r at l2 ⊢
 have h41a:=s41 (n+4) (some r) (-1) (by simp only [Option.getD_some];omega)
 have h41b:=s41 (n+4) (some q) 0 (by simp only [Option.getD_some];omega)
 simp only [Option.getD_some] at h41a h41b
 unfold qcQ
 cases q8C d who (o.getD []) with
 | true=>simp
 | false =>
  simp only [Bool.false_eq_true,if_false,Bool.false_or]
  have row0:∀ (v:Int) (t:List Int) (k:List D→Out),(RP (n+5)).rowD 1 (dI (some (v::t))) (il 0) k=k (rI v):=fun v t k=>by
   have:=q3X (Fn:=FN (n+5)) (FnD:=q1e Tryz.prog (cf3 tb Tryz.prog) (FN (n+5))) (m:=M0) (o:=some (v::t)) (i:=0) (c:=v) rfl k
   exact this
  have rest:∀ z:Bool,z=decide (q=[0])→(RP (n+5)).bnd (some (0,[.d (dI (some q)),.d (dI (some r)),.d (bl z)])) [fun y5=>(RP (n+5)).cond ((RP (n+5)).ld y5 2) ((RP (n+5)).out 0 [.d (il 0)]) ((RP (n+5)).bnd (FN (n+5) 41 [(RP (n+5)).ld y5 1,il (-1)]) [fun y6=>(RP (n+5)).un .not ((RP (n+5)).ld y6 0) fun x7=>(RP (n+5)).cond x7 ((RP (n+5)).out 0 [.d (il 0)]) ((RP (n+5)).bnd (FN (n+5) 41 [(RP (n+5)).ld y5 0,il 0]) [fun y8=>(RP (n+5)).cond ((RP (n+5)).ld y8 0) ((RP (n+5)).out 0 [.d (il 2)]) ((RP (n+5)).lenD ((RP (n+5)).ld y5 1) fun x9=>(RP (n+5)).bin .gtr false x9 (il 1) fun x10=>(RP (n+5)).cond x10 ((RP (n+5)).out 0 [.d (il 2)]) ((RP (n+5)).out 0 [.d (il 1)]))])])]=some (0,[.d (il (if (decide (q=[0])||!decide (-1∈r))=true then 0 else if 0∈q∨1 < r.length then 2 else 1))]):=by
   rintro z rfl
   simp only [q01,q02,q07,q00,q0b,h41a,h41b,q0V,q3s,Option.getD_some,q2V,decide_eq_true_eq]
   by_cases e1:q=[0]
   ·simp [e1]
   ·by_cases e2:(-1:Int)∈r
    ·by_cases e3:(0:Int)∈q
     ·simp [e1,e2,e3]
     ·by_cases e4:1 < r.length
      ·have:(1:Int) < (r.length:Int):=by omega
       simp [e1,e2,e3,e4,this]
      ·have:¬ (1:Int) < (r.length:Int):=by omega
       simp [e1,e2,e3,e4,this]
    ·simp [e1,e2]
  cases q with
  | nil =>
   simp only [List.length_nil]
   rw [if_neg (by simp)]
   exact rest false (by simp)
  | cons v t =>
   cases t with
   | nil =>
    rw [if_pos (by simp),row0]
    simp only [rI,q0a,q0F,q0b]
    exact rest (decide (v=0)) (by simp)
   | cons w t =>
    rw [if_neg (by simp;omega)]
    exact rest false (by simp)
end Go.VE
namespace Go.VE
open Go.RowKit Go.Proofs
def q6p (a c:List E9) (o:List E5) (d p:Int):Int:=qcQ (q8C d p o) (q0y d p a) (q1z d p c)
def byI (a c:List E9) (o:List E5) (d z:Int):Int:=if 0 < z then q6p a c o d z else if z=0 then 0 else 1
set_option maxRecDepth 20000 in
theorem l85 (n:Nat) (a c:Option (List E9)) (o:Option (List E5)) (b:D) (d:Int) (hd:0≤d∧d≤4166) (ha:(a.getD []).length≤1000) (hc:(c.getD []).length≤1000) (ho:(o.getD []).length≤1000) (r:List Int) (hr:r.length≤100000) (m0:Bool) :
  q0I [qeJ (RP (n+6))] M0 0 [.d (il d),.d (d9 a),.d b,.d (d9 c),.d (d5 o),.d (bl false),.d (bl m0),.d (dI (some r)),.d (il r.length),.d (il 0)] =
   some (0,[.d (bl (r.any fun z=>decide (byI (a.getD []) (c.getD []) (o.getD []) d z≠0))),.d (bl (m0||r.any fun z=>decide (byI (a.getD []) (c.getD []) (o.getD []) d z≠1)))]):=by
 have:=q0t (β:=Bool×Bool) r (by omega) (qeJ (RP (n+6))) (fun i s=>[.d (il d),.d (d9 a),.d b,.d (d9 c),.d (d5 o),.d (bl s.1),.d (bl s.2),.d (dI (some r)),.d (il r.length),.d (il i)]) (fun _ _=>True)
  (fun _ q s=>some (0,[.d (bl (s.1||q.any fun z=>decide (byI (a.getD []) (c.getD []) (o.getD []) d z≠0))),.d (bl (s.2||q.any fun z=>decide (byI (a.getD []) (c.getD []) (o.getD []) d z≠1)))]))
  (fun s k _=>by simp [qeJ]) ?_ M0 (false,m0) trivial (q1A (by omega))
 ·simpa using this
 ·rintro i z q ⟨y,m⟩ k hi hd' hlt hw _ ih
  have hlt':(i:Int) < (r.length:Int):=by omega
  have hi':((some r).getD [])[i]?=some z:=hi
  have hb0:∀ x:Int,byI (a.getD []) (c.getD []) (o.getD []) d z=x→(some (0,[.d (bl (y||(z::q).any fun z=>decide (byI (a.getD []) (c.getD []) (o.getD []) d z≠0))),.d (bl (m||(z::q).any fun z=>decide (byI (a.getD []) (c.getD []) (o.getD []) d z≠1)))]):Out)=some (0,[.d (bl ((y||decide (x≠0))||q.any fun z=>decide (byI (a.getD []) (c.getD []) (o.getD []) d z≠0))),.d (bl ((m||decide (x≠1))||q.any fun z=>decide (byI (a.getD []) (c.getD []) (o.getD []) d z≠1)))]):=by
   intro x hx
   simp only [List.any_cons,hx,Bool.or_assoc]
  simp only [qeJ,q02,q07,q0B,q00,hlt',decide_true,if_true,q3X hi',rI,q0a,q0F,q04,q0b,q2n,q01,q2V,decide_eq_true_eq,q06,s166 n a c o b d z hd ha hc ho,q0P,q0L,q0u,hw]
  by_cases h0:z=0
  ·have hx:byI (a.getD []) (c.getD []) (o.getD []) d z=0:=by simp [byI,h0]
   rw [hb0 0 hx,← ih ((y||decide ((0:Int)≠0)),(m||decide ((0:Int)≠1))) trivial]
   subst h0
   cases y<;>cases m<;>simp
  ·by_cases h1:0 < z
   ·have hx:byI (a.getD []) (c.getD []) (o.getD []) d z=q6p (a.getD []) (c.getD []) (o.getD []) d z:=by simp [byI,h1]
    rw [hb0 _ hx,← ih ((y||decide (q6p (a.getD []) (c.getD []) (o.getD []) d z≠0)),(m||decide (q6p (a.getD []) (c.getD []) (o.getD []) d z≠1))) trivial]
    unfold q6p
    generalize qcQ (q8C d z (o.getD [])) (q0y d z (a.getD [])) (q1z d z (c.getD []))=w
    cases y<;>cases m<;>simp [h0,h1]
   ·have hx:byI (a.getD []) (c.getD []) (o.getD []) d z=1:=by simp [byI,h0,h1]
    rw [hb0 1 hx,← ih ((y||decide ((1:Int)≠0)),(m||decide ((1:Int)≠1))) trivial]
    cases y<;>cases m<;>simp [h0,h1]
end Go.VE
namespace Go.VE
open Go.RowKit Go.Proofs
def q1L (a c:List E9) (o:List E5) (d who:Int):Int :=
 if (q8C d who o||decide (q0y d who a=[0]))=true then 0 else q67 ((q1z d who c).any fun z=>decide (byI a c o d z≠0)) (decide (0∈q0y d who a)||(q1z d who c).any fun z=>decide (byI a c o d z≠1))
set_option maxRecDepth 20000 in
theorem s85 (n:Nat) (a c:Option (List E9)) (o:Option (List E5)) (b:D) (d who:Int) (hd:0≤d∧d≤4166) (ha:(a.getD []).length≤1000) (hc:(c.getD []).length≤1000) (ho:(o.getD []).length≤1000) :
  FN (n+7) 85 [d9 a,b,d9 c,d5 o,il who,il d]=some (0,[.d (il (q1L (a.getD []) (c.getD []) (o.getD []) d who))]):=by
 rw [F85]
 have l1:=q5d d who (a.getD [])
 have l2:=q9p d who (c.getD [])
 have h165:=s165 (n+1) c (d9 a) b (d5 o) d who (by omega)
 have h85:=l85 n a c o b d hd ha hc ho (q1z d who (c.getD [])) (by omega)
 simp only [G85,q06,s78 (n+1) a b (d9 c) (d5 o) d who (by omega),s164 (n+5) (d9 a) b (d9 c) o d who hd (by omega),q01,q02,q07,q00,q04,q0b,q3s,Option.getD_some,q0F,q0P]
 unfold q1L
 generalize q0y d who (a.getD [])=q at l1 ⊢
 generalize q1z d who (c.getD [])=r at l2 h165 h85 ⊢
 have h41b:=s41 (n+5) (some q) 0 (by simp only [Option.getD_some];omega)
 simp only [Option.getD_some] at h41b
 cases q8C d who (o.getD []) with
 | true=>simp
 | false =>
  have row0:∀ (v:Int) (t:List Int) (k:List D→Out),(RP (n+6)).rowD 1 (dI (some (v::t))) (il 0) k=k (rI v):=fun v t k=>by
   have:=q3X (Fn:=FN (n+6)) (FnD:=q1e Tryz.prog (cf3 tb Tryz.prog) (FN (n+6))) (m:=M0) (o:=some (v::t)) (i:=0) (c:=v) rfl k
   exact this
  simp only [Bool.false_eq_true,if_false,Bool.false_or]
  cases q with
  | nil =>
   simp only [List.length_nil]
   rw [if_neg (by simp)]
   simp only [q01,q02,q07,q00,Bool.false_eq_true,if_false,h41b,h165,q3s,Option.getD_some,q0k,h85,s167,q0b]
   simp
  | cons v t =>
   cases t with
   | nil =>
    rw [if_pos (by simp),row0]
    simp only [rI,q0a,q0F,q0b,q01,q02,q07,q00,decide_eq_true_eq]
    by_cases hv:v=0
    ·subst hv;simp
    ·rw [if_neg hv]
     simp only [h41b,q01,q02,q07,h165,q3s,Option.getD_some,q0k,h85,s167,q0b]
     simp [hv]
   | cons w t =>
    rw [if_neg (by simp;omega)]
    simp only [q01,q02,q07,q00,Bool.false_eq_true,if_false,h41b,h165,q3s,Option.getD_some,q0k,h85,s167,q0b]
    simp
end Go.VE
namespace Go.VE
open Go.RowKit Go.Proofs
theorem q2u {ok ps fs:Bool} {p f d k:Int} (h:q1m ok ps fs p f [d,k]=0):(0≤d∧d≤4166)∧0≤k∧k≤4166:=by
 unfold q1m at h
 split at h
 ·simp at h
 ·split at h
  ·simp at h
  ·split at h
   ·simp at h
   ·split at h
    ·simp at h
    ·rename_i hh
     simp only [List.any_cons,List.any_nil,Bool.or_false,Bool.or_eq_true,Bool.not_eq_true',decide_eq_false_iff_not,not_or,Decidable.not_not] at hh
     exact hh
set_option maxRecDepth 20000 in
theorem s19 (n:Nat) (p f d k:Int) (a b c:Option (List E9)) (o:Option (List E5)) (ha:(a.getD []).length*72≤140737488351232) (hb:(b.getD []).length*72≤140737488351232) (hc:(c.getD []).length*72≤140737488351232) (ho:(o.getD []).length*40≤140737488351232) :
  FN (n+9) 19 [d9 a,d9 b,d9 c,d5 o,il p,il f,il d,il k]=if q1m (q0M (a.getD []) (b.getD []) (c.getD []) (o.getD [])) true true p 1 [d,k]=0 then some (0,[.d (il (q1L (q1y k (a.getD [])) (q1y k (c.getD [])) (q8B k (o.getD [])) d p)),.d (il 0)]) else some (0,[.d (il 0),.d (il (q1m (q0M (a.getD []) (b.getD []) (c.getD []) (o.getD [])) true true p 1 [d,k]))]):=by
 rw [F19]
 have h76:=s76 (n+2) p 1 d k a b c o ha hb hc ho
 simp only [G19,q06,q0P,s77,q01,q02,q07,if_true,Bool.false_eq_true,if_false,h76,q04]
 by_cases he:q1m (q0M (a.getD []) (b.getD []) (c.getD []) (o.getD [])) true true p 1 [d,k]=0
 ·rw [if_pos he,if_pos he]
  obtain ⟨h1,_,h3,h4⟩:=q3p (q23 he)
  have c1:((nzO (q1y k (a.getD []))).getD []).length≤1000:=by rw [q0R];have:=List.length_filter_le (fun e=>q3U e.kn e.un k) (a.getD []);unfold q1y;omega
  have c3:((nzO (q1y k (c.getD []))).getD []).length≤1000:=by rw [q0R];have:=List.length_filter_le (fun e=>q3U e.kn e.un k) (c.getD []);unfold q1y;omega
  have c4:((nzO (q8B k (o.getD []))).getD []).length≤1000:=by rw [q0R];have:=List.length_filter_le (fun e=>q3U e.kn e.un k) (o.getD []);unfold q8B;omega
  simp only [q01,q02,q07,q0L,ne_eq,not_true_eq_false,decide_false,q00,Bool.false_eq_true,if_false,s85 (n+1) _ _ _ _ d p (q2u he).1 c1 c3 c4,q0R,q0b]
 ·rw [if_neg he,if_neg he]
  simp only [qdy,q01,q02,q07,q0L,q00]
  rw [if_pos (by simpa using he)]
  simp
end Go.VE
namespace Go.VE
open Go.RowKit Go.Proofs
def q0n (acc l:List Int):List Int:=l.foldl (fun acc x=>ins x acc) acc
theorem q4N (acc:List Int) (x:Int) (l:List Int):q0n acc (x::l)=q0n (ins x acc) l:=rfl
theorem q1P:∀ (l:List Int) {acc:List Int},Up acc→Up (q0n acc l)
 | [],_,h=>h
 | x::l,_,h=>q1P l (q3S x h)
theorem q1j (z:Int):∀ (l acc:List Int),z∈q0n acc l↔z∈acc∨z∈l
 | [],acc=>by simp [q0n]
 | x::l,acc=>by
  rw [q4N,q1j z l,q3d,List.mem_cons]
  constructor
  ·rintro ((h | h) | h)
   ·exact .inr (.inl h)
   ·exact .inl h
   ·exact .inr (.inr h)
  ·rintro (h | h | h)
   ·exact .inl (.inr h)
   ·exact .inl (.inl h)
   ·exact .inr h
theorem q7Q:∀ (l acc:List Int),(q0n acc l).length≤acc.length+l.length
 | [],acc=>by simp [q0n]
 | x::l,acc=>by
  have h1:=q7Q l (ins x acc)
  have h2:=q3e x acc
  rw [q4N];simp only [List.length_cons];omega
def q2X (L:Int→List Int) (f:Int):List (Option Int)→List Int→List Int
 | [],acc=>acc
 | none::os,acc=>q2X L f os (ins f acc)
 | some w::os,acc=>q2X L f os (q0n acc (L w))
theorem q3K {L M:Int→List Int} (f:Int):∀ {os:List (Option Int)} (acc:List Int),(∀ w,some w∈os→L w=M w)→q2X L f os acc=q2X M f os acc
 | [],_,_=>rfl
 | none::os,acc,h=>q3K f (os:=os) _ fun w hw=>h w (List.mem_cons_of_mem _ hw)
 | some w::os,acc,h=>by
  rw [q2X,q2X,h w (by simp)]
  exact q3K f (os:=os) _ fun w hw=>h w (List.mem_cons_of_mem _ hw)
theorem q8e (L:Int→List Int) (f:Int):∀ (os:List (Option Int)) {acc:List Int},Up acc→Up (q2X L f os acc)
 | [],_,h=>h
 | none::os,_,h=>q8e L f os (q3S f h)
 | some w::os,_,h=>q8e L f os (q1P _ h)
theorem q6G (L:Int→List Int) (f z:Int):∀ (os:List (Option Int)) (acc:List Int),z∈q2X L f os acc↔z∈acc∨(none∈os∧z=f)∨∃ w,some w∈os∧z∈L w
 | [],acc=>by simp [q2X]
 | none::os,acc=>by
  rw [q2X,q6G L f z os,q3d]
  constructor
  ·rintro ((h | h) | ⟨h1,h2⟩ | ⟨w,hw,h⟩)
   ·exact .inr (.inl ⟨by simp,h⟩)
   ·exact .inl h
   ·exact .inr (.inl ⟨by simp,h2⟩)
   ·exact .inr (.inr ⟨w,by simp [hw],h⟩)
  ·rintro (h | ⟨_,h⟩ | ⟨w,hw,h⟩)
   ·exact .inl (.inr h)
   ·exact .inl (.inl h)
   ·exact .inr (.inr ⟨w,by simpa using hw,h⟩)
 | some v::os,acc=>by
  rw [q2X,q6G L f z os,q1j]
  constructor
  ·rintro ((h | h) | ⟨h1,h2⟩ | ⟨w,hw,h⟩)
   ·exact .inl h
   ·exact .inr (.inr ⟨v,by simp,h⟩)
   ·exact .inr (.inl ⟨by simp [h1],h2⟩)
   ·exact .inr (.inr ⟨w,by simp [hw],h⟩)
  ·rintro (h | ⟨h1,h⟩ | ⟨w,hw,h⟩)
   ·exact .inl (.inl h)
   ·exact .inr (.inl ⟨by simpa using h1,h⟩)
   ·rcases List.mem_cons.1 hw with e | hw
    ·cases e;exact .inl (.inr h)
    ·exact .inr (.inr ⟨w,hw,h⟩)
def qa5 (d:Int) (l:List E9):Nat→Int→List Int
 | 0,_=>[]
 | n+1,f=>q2X (qa5 d l n) f (q11 d f (q0m l l.length)) []
def q0c (d:Int) (l:List E9) (f:Int):List Int:=qa5 d l f.toNat f
def q7i (l:List E9):Prop:=∀ e∈l,1≤e.b∧e.b < e.a∧e.a≤99
theorem q55 (d who:Int):∀ (l:List E9) (w:Int),some w∈q11 d who l→∃ e∈l,e.a=who∧e.b=w∧q2p e.f1 e.t2 d=true
 | [],w,h=>by simp [q11] at h
 | e::r,w,h=>by
  simp only [q11] at h
  split at h
  ·rename_i h1
   rcases List.mem_cons.1 h with h | h
   ·cases h;exact ⟨e,by simp,h1.1,rfl,h1.2⟩
   ·split at h
    ·simp at h
    ·obtain ⟨e',h2,h3⟩:=q55 d who r w h
     exact ⟨e',by simp [h2],h3⟩
  ·obtain ⟨e',h2,h3⟩:=q55 d who r w h
   exact ⟨e',by simp [h2],h3⟩
theorem q6C (d who:Int):∀ l:List E9,q11 d who l≠[]
 | []=>by simp [q11]
 | e::r=>by
  simp only [q11]
  split
  ·simp
  ·exact q6C d who r
theorem q46 {l:List E9} {m:Nat} {e:E9} (h:e∈q0m l m):e∈l:=by
 unfold q0m at h
 exact List.mem_of_mem_take (List.mem_reverse.1 h)
theorem q44 {d f:Int} {l:List E9} {m:Nat} (hl:q7i l) {w:Int} (h:some w∈q11 d f (q0m l m)):1≤w∧w < f∧f≤99:=by
 obtain ⟨e,he,h1,h2,_⟩:=q55 _ _ _ _ h
 have:=hl e (q46 he)
 omega
theorem qfQ {d:Int} {l:List E9} (hl:q7i l):∀ (n:Nat) (f:Int),1≤f→f.toNat≤n→qa5 d l n f=q0c d l f:=by
 intro n
 induction n using Nat.strongRecOn with
 | _ n ih =>
  intro f h1 h2
  cases n with
  | zero=>omega
  | succ n =>
   unfold q0c
   obtain ⟨m,hm⟩:∃ m,f.toNat=m+1:=⟨f.toNat - 1,by omega⟩
   rw [hm,qa5,qa5]
   refine q3K f _ fun w hw=>?_
   have:=q44 hl hw
   rw [ih n (by omega) w this.1 (by omega),ih m (by omega) w this.1 (by omega)]
theorem q5f {d:Int} {l:List E9} (hl:q7i l) {f:Int} (h1:1≤f):q0c d l f=q2X (q0c d l) f (q11 d f (q0m l l.length)) []:=by
 obtain ⟨m,hm⟩:∃ m,f.toNat=m+1:=⟨f.toNat - 1,by omega⟩
 unfold q0c
 rw [hm,qa5]
 refine q3K f _ fun w hw=>?_
 have:=q44 hl hw
 exact qfQ hl m w this.1 (by omega)
theorem q8R (d:Int) (l:List E9) (f:Int):Up (q0c d l f):=by
 unfold q0c
 cases f.toNat with
 | zero=>simp [qa5]
 | succ m=>exact q8e _ _ _ (by simp)
theorem q5E {d:Int} {l:List E9} (hl:q7i l) {f z:Int} (h1:1≤f):z∈q0c d l f↔(none∈q11 d f (q0m l l.length)∧z=f)∨∃ w,some w∈q11 d f (q0m l l.length)∧z∈q0c d l w:=by
 rw [q5f hl h1,q6G];simp
theorem q0Z {d:Int} {l:List E9} (hl:q7i l):∀ (n:Nat) (f z:Int),f.toNat≤n→1≤f→z∈q0c d l f→1≤z∧z≤f:=by
 intro n
 induction n with
 | zero=>intro f z h1 h2;omega
 | succ n ih =>
  intro f z h1 h2 h
  rcases (q5E hl h2).1 h with ⟨_,rfl⟩ | ⟨w,hw,h⟩
  ·exact ⟨h2,Int.le_refl _⟩
  ·have:=q44 hl hw
   have:=ih w z (by omega) this.1 h
   omega
theorem q4a {d:Int} {l:List E9} (hl:q7i l):∀ (n:Nat) (f:Int),f.toNat≤n→1≤f→∃ z,z∈q0c d l f:=by
 intro n
 induction n with
 | zero=>intro f h1 h2;omega
 | succ n ih =>
  intro f h1 h2
  have hne:=q6C d f (q0m l l.length)
  revert hne
  generalize hq:q11 d f (q0m l l.length)=q
  intro hne
  cases q with
  | nil=>exact absurd rfl hne
  | cons o os =>
   cases o with
   | none=>exact ⟨f,(q5E hl h2).2 (.inl ⟨by rw [hq];simp,rfl⟩)⟩
   | some w =>
    have hw:some w∈q11 d f (q0m l l.length):=by rw [hq];simp
    have:=q44 hl hw
    obtain ⟨z,hz⟩:=ih w (by omega) this.1
    exact ⟨z,(q5E hl h2).2 (.inr ⟨w,hw,hz⟩)⟩
theorem q8Q:∀ (l:List Int) (a b:Int),Up l→(∀ z∈l,a≤z∧z≤b)→(l.length:Int)≤max 0 (b - a+1)
 | [],a,b,_,_=>by simp;omega
 | x::l,a,b,hu,h=>by
  rw [Up,List.pairwise_cons] at hu
  have hx:=h x (by simp)
  have:=q8Q l (x+1) b hu.2 fun z hz=>⟨by have:=hu.1 z hz;omega,(h z (by simp [hz])).2⟩
  simp only [List.length_cons,Int.natCast_add,Int.natCast_one]
  omega
theorem q3r {d:Int} {l:List E9} (hl:q7i l) {f:Int} (h1:1≤f):((q0c d l f).length:Int)≤f:=by
 have:=q8Q _ 1 f (q8R d l f) fun z hz=>q0Z hl _ f z (Nat.le_refl _) h1 hz
 omega
end Go.VE
namespace Go.VE
open Go.RowKit Go.Proofs
def q3h (a c:List E9) (o:List E5) (d p:Int):Bool×Bool:=if q8C d p o=true then (false,true) else
 (((q11 d p (q0m a a.length)).any fun x=>decide (f0 x≠0))&&(q11 d p (q0m c c.length)).any Option.isNone,((q11 d p (q0m a a.length)).any fun x=>decide (f0 x=0))||(q11 d p (q0m c c.length)).any Option.isSome)
def q1W (W:Int→Bool×Bool):Option Int→Bool×Bool
 | none=>(true,false)
 | some z=>if z=0 then (false,true) else W z
def goP (a c:List E9) (o:List E5) (d p:Int):Bool×Bool:=if q8C d p o=true then (false,true) else
 ((q11 d p (q0m c c.length)).any fun x=>(q1W (q3h a c o d) x).1,(q11 d p (q0m c c.length)).any fun x=>(q1W (q3h a c o d) x).2)
def q0G (L:Int→List Int) (yes no:Bool) (x:Option Int) (acc:List Int):List Int :=
 if f0 x=0∨yes=false then (if f0 x=0∨no=true then ins 0 acc else acc) else q0n (if f0 x=0∨no=true then ins 0 acc else acc) (L (f0 x))
def qai (L:Int→List Int) (yes no:Bool):List (Option Int)→List Int→List Int
 | [],acc=>acc
 | x::os,acc=>qai L yes no os (q0G L yes no x acc)
def q38 (a b c:List E9) (o:List E5) (d p:Int):List Int:=qai (q0c d b) (goP a c o d p).1 (goP a c o d p).2 (q11 d p (q0m a a.length)) []
def q7x (L:Int→List Int):List Int→List Int→List Int
 | [],acc=>acc
 | h::r,acc=>q7x L r (if h=0 then acc else q0n acc (L h))
def qit (a b c:List E9) (o:List E5) (d p:Int):List Int :=
 if q1L a c o d p=0 then ins 0 [] else q7x (q0c d b) (q0y d p a) (if q1L a c o d p=1 then [] else ins 0 [])
theorem q7E (L:Int→List Int) (yes no:Bool) (x:Option Int) {acc:List Int} (h:Up acc):Up (q0G L yes no x acc):=by
 unfold q0G
 have h1:Up (if f0 x=0∨no=true then ins 0 acc else acc):=by split;exact q3S 0 h;exact h
 split
 ·exact h1
 ·exact q1P _ h1
theorem qcT (L:Int→List Int) (yes no:Bool):∀ (os:List (Option Int)) {acc:List Int},Up acc→Up (qai L yes no os acc)
 | [],_,h=>h
 | x::os,_,h=>qcT L yes no os (q7E L yes no x h)
theorem q3E (a b c:List E9) (o:List E5) (d p:Int):Up (q38 a b c o d p):=qcT _ _ _ _ (by simp)
theorem q6I (L:Int→List Int) (yes no:Bool) (x:Option Int) (acc:List Int) (z:Int):z∈q0G L yes no x acc↔z∈acc∨(z=0∧(f0 x=0∨no=true))∨(yes=true∧f0 x≠0∧z∈L (f0 x)):=by
 unfold q0G
 by_cases h0:f0 x=0
 ·simp only [h0,true_or,if_true,q3d,and_true,ne_eq,not_true_eq_false,false_and,and_false,or_false]
  exact Or.comm
 ·cases yes with
  | false =>
   cases no with
   | false=>simp [h0]
   | true=>simp [h0,q3d];exact Or.comm
  | true =>
   cases no with
   | false=>simp [h0,q1j]
   | true =>
    simp only [h0,false_or,Bool.true_eq_false,if_false,if_true,q1j,q3d,and_true,true_and,ne_eq,not_false_eq_true]
    constructor
    ·rintro ((h | h) | h)
     ·exact .inr (.inl h)
     ·exact .inl h
     ·exact .inr (.inr h)
    ·rintro (h | h | h)
     ·exact .inl (.inr h)
     ·exact .inl (.inl h)
     ·exact .inr h
theorem qbg (L:Int→List Int) (yes no:Bool) (z:Int):∀ (os:List (Option Int)) (acc:List Int),z∈qai L yes no os acc↔z∈acc∨(z=0∧∃ x∈os,f0 x=0∨no=true)∨(yes=true∧∃ x∈os,f0 x≠0∧z∈L (f0 x))
 | [],acc=>by simp [qai]
 | x::os,acc=>by
  rw [qai,qbg L yes no z os,q6I]
  constructor
  ·rintro ((h | ⟨h1,h2⟩ | ⟨h1,h2,h3⟩) | ⟨h1,y,hy,h2⟩ | ⟨h1,y,hy,h2⟩)
   ·exact .inl h
   ·exact .inr (.inl ⟨h1,x,by simp,h2⟩)
   ·exact .inr (.inr ⟨h1,x,by simp,h2,h3⟩)
   ·exact .inr (.inl ⟨h1,y,by simp [hy],h2⟩)
   ·exact .inr (.inr ⟨h1,y,by simp [hy],h2⟩)
  ·rintro (h | ⟨h1,y,hy,h2⟩ | ⟨h1,y,hy,h2⟩)
   ·exact .inl (.inl h)
   ·rcases List.mem_cons.1 hy with rfl | hy
    ·exact .inl (.inr (.inl ⟨h1,h2⟩))
    ·exact .inr (.inl ⟨h1,y,hy,h2⟩)
   ·rcases List.mem_cons.1 hy with rfl | hy
    ·exact .inl (.inr (.inr ⟨h1,h2⟩))
    ·exact .inr (.inr ⟨h1,y,hy,h2⟩)
theorem qaL (L:Int→List Int):∀ (r:List Int) {acc:List Int},Up acc→Up (q7x L r acc)
 | [],_,h=>h
 | x::r,acc,h=>qaL L r (by split;exact h;exact q1P _ h)
theorem q9l (L:Int→List Int) (z:Int):∀ (r acc:List Int),z∈q7x L r acc↔z∈acc∨∃ h∈r,h≠0∧z∈L h
 | [],acc=>by simp [q7x]
 | x::r,acc=>by
  rw [q7x,q9l L z r]
  have e:z∈(if x=0 then acc else q0n acc (L x))↔z∈acc∨(x≠0∧z∈L x):=by
   by_cases h:x=0
   ·simp [h]
   ·simp [h,q1j]
  rw [e]
  constructor
  ·rintro ((h | ⟨h1,h2⟩) | ⟨y,hy,h⟩)
   ·exact .inl h
   ·exact .inr ⟨x,by simp,h1,h2⟩
   ·exact .inr ⟨y,by simp [hy],h⟩
  ·rintro (h | ⟨y,hy,h⟩)
   ·exact .inl (.inl h)
   ·rcases List.mem_cons.1 hy with rfl | hy
    ·exact .inl (.inr h)
    ·exact .inr ⟨y,hy,h⟩
theorem qhK (a b c:List E9) (o:List E5) (d p:Int):Up (qit a b c o d p):=by
 unfold qit
 split
 ·simp [ins]
 ·exact qaL _ _ (by split<;>simp [ins])
theorem q1k (d p z:Int) (a:List E9):z∈q0y d p a↔∃ x∈q11 d p (q0m a a.length),z=f0 x:=by
 unfold q0y;rw [q5D];simp
theorem q2f (d p z:Int) (c:List E9):z∈q1z d p c↔∃ x∈q11 d p (q0m c c.length),z=fm x:=by
 unfold q1z;rw [q5D];simp
theorem q3g {α:Type} (p:α→Bool) (l:List α):l.any p=true↔∃ x∈l,p x=true:=List.any_eq_true
def By0 (c:List E9):Prop:=∀ e∈c,0≤e.b
theorem qam {d p:Int} {c:List E9} (hc:By0 c) {m:Nat} {w:Int} (h:some w∈q11 d p (q0m c m)):0≤w:=by
 obtain ⟨e,he,_,h2,_⟩:=q55 _ _ _ _ h
 have:=hc e (q46 he)
 omega
theorem qhL {l:List Int} {x:Int} (hx:x∈l) (hu:Up l):1 < l.length↔∃ z∈l,z≠x:=by
 cases l with
 | nil=>simp at hx
 | cons u r =>
  cases r with
  | nil =>
   simp at hx;subst hx
   constructor
   ·intro h;simp at h
   ·rintro ⟨z,hz,h⟩;simp at hz;exact absurd hz h
  | cons v r =>
   refine ⟨fun _=>?_,fun _=>by simp⟩
   rw [Up,List.pairwise_cons] at hu
   have:=hu.1 v (by simp)
   by_cases h:u=x
   ·exact ⟨v,by simp,by omega⟩
   ·exact ⟨u,by simp,h⟩
theorem qhb {l:List Int} {x:Int} (hu:Up l) (hne:∃ z,z∈l):l=[x]↔∀ z∈l,z=x:=by
 constructor
 ·rintro rfl z hz;simpa using hz
 ·intro h
  refine qcU hu (by simp) fun z=>?_
  obtain ⟨y,hy⟩:=hne
  have:=h y hy;subst this
  constructor
  ·intro hz;simp [h z hz]
  ·intro hz;simp at hz;subst hz;exact hy
theorem q6l (d p:Int) (a:List E9):∃ z,z∈q0y d p a:=by
 have:=q6C d p (q0m a a.length)
 cases hq:q11 d p (q0m a a.length) with
 | nil=>exact absurd hq this
 | cons x q=>exact ⟨f0 x,(q1k ..).2 ⟨x,by rw [hq];simp,rfl⟩⟩
theorem qcA {d p:Int} {c:List E9} (hc:By0 c):-1∈q1z d p c↔none∈q11 d p (q0m c c.length):=by
 rw [q2f]
 constructor
 ·rintro ⟨x,hx,h⟩
  cases x with
  | none=>exact hx
  | some w=>have:=qam hc hx;simp [fm] at h;omega
 ·intro h;exact ⟨none,h,rfl⟩
theorem qcz {d p:Int} {c:List E9} (hc:By0 c):(∃ z∈q1z d p c,z≠-1)↔∃ w,some w∈q11 d p (q0m c c.length):=by
 constructor
 ·rintro ⟨z,hz,h⟩
  obtain ⟨x,hx,rfl⟩:=(q2f ..).1 hz
  cases x with
  | none=>simp [fm] at h
  | some w=>exact ⟨w,hx⟩
 ·rintro ⟨w,hw⟩
  have:=qam hc hw
  exact ⟨w,(q2f ..).2 ⟨some w,hw,rfl⟩,by omega⟩
theorem q7V (l:List (Option Int)):l.any Option.isSome=true↔∃ w,some w∈l:=by
 rw [q3g]
 constructor
 ·rintro ⟨x,hx,h⟩;cases x with
  | none=>simp at h
  | some w=>exact ⟨w,hx⟩
 ·rintro ⟨w,h⟩;exact ⟨_,h,rfl⟩
theorem qci (l:List (Option Int)):l.any Option.isNone=true↔none∈l:=by
 rw [q3g]
 constructor
 ·rintro ⟨x,hx,h⟩;cases x with
  | none=>exact hx
  | some w=>simp at h
 ·intro h;exact ⟨_,h,rfl⟩
theorem qaJ (a c:List E9) (o:List E5) (d p:Int) (h:(q3h a c o d p).1=false):(q3h a c o d p).2=true:=by
 revert h
 unfold q3h
 split
 ·intro _;rfl
 ·simp only
  intro h
  rw [Bool.and_eq_false_iff] at h
  rw [Bool.or_eq_true]
  rcases h with h | h
  ·left
   obtain ⟨z,hz⟩:=q6l d p a
   obtain ⟨x,hx,rfl⟩:=(q1k ..).1 hz
   have h3:=(List.any_eq_false.1 h) x hx
   exact (q3g _ _).2 ⟨x,hx,by simpa using h3⟩
  ·right
   have:=q6C d p (q0m c c.length)
   rw [q7V]
   cases hq:q11 d p (q0m c c.length) with
   | nil=>exact absurd hq this
   | cons x q =>
    rw [hq] at h
    cases x with
    | none=>simp at h
    | some w=>exact ⟨w,by simp⟩
theorem qhH (a c:List E9) (o:List E5) (d p:Int) (hc:By0 c):q6p a c o d p=q67 (q3h a c o d p).1 (q3h a c o d p).2:=by
 unfold q6p qcQ q3h
 cases hb:q8C d p o with
 | true=>simp [q67]
 | false =>
  simp only [Bool.false_or,Bool.false_eq_true,if_false]
  have e1:q0y d p a=[0]↔((q11 d p (q0m a a.length)).any fun x=>decide (f0 x≠0))=false:=by
   rw [qhb (qaK ..) (q6l ..),List.any_eq_false]
   constructor
   ·intro h x hx;have:=h _ ((q1k ..).2 ⟨x,hx,rfl⟩);simp [this]
   ·intro h z hz
    obtain ⟨x,hx,rfl⟩:=(q1k ..).1 hz
    have:=h x hx;simpa using this
  have e2:0∈q0y d p a↔((q11 d p (q0m a a.length)).any fun x=>decide (f0 x=0))=true:=by
   rw [q1k,q3g]
   constructor
   ·rintro ⟨x,hx,h⟩;exact ⟨x,hx,by simp [←h]⟩
   ·rintro ⟨x,hx,h⟩;exact ⟨x,hx,by simpa using (of_decide_eq_true h).symm⟩
  have e3:-1∈q1z d p c↔(q11 d p (q0m c c.length)).any Option.isNone=true:=by rw [qcA hc,qci]
  have e4:-1∈q1z d p c→(1 < (q1z d p c).length↔(q11 d p (q0m c c.length)).any Option.isSome=true):=fun h=>by
   rw [qhL h (qfh ..),qcz hc,q7V]
  revert e1 e2 e3 e4
  generalize (q11 d p (q0m a a.length)).any (fun x=>decide (f0 x≠0))=q1
  generalize (q11 d p (q0m a a.length)).any (fun x=>decide (f0 x=0))=q2
  generalize (q11 d p (q0m c c.length)).any Option.isNone=q3
  generalize (q11 d p (q0m c c.length)).any Option.isSome=q4
  intro e1 e2 e3 e4
  cases q1 with
  | false=>simp [e1.2 rfl,q67]
  | true =>
   have n1:¬ q0y d p a=[0]:=fun h=>by have:=e1.1 h;cases this
   cases q3 with
   | false =>
    have n3:¬ -1∈q1z d p c:=fun h=>by have:=e3.1 h;cases this
    simp [n1,n3,q67]
   | true =>
    have n3:=e3.2 rfl
    have e4:=e4 n3
    rw [if_neg (by simp [n1,n3])]
    by_cases h2:0∈q0y d p a
    ·have:=e2.1 h2;subst this
     rw [if_pos (.inl h2)];simp [q67]
    ·have:q2=false:=by cases q2;rfl;exact absurd (e2.2 rfl) h2
     subst this
     cases q4 with
     | true=>rw [if_pos (.inr (e4.2 rfl))];simp [q67]
     | false =>
      rw [if_neg]
      ·simp [q67]
      ·rintro (h | h)
       ·exact h2 h
       ·have:=e4.1 h;cases this
theorem qiH (y n:Bool):q67 y n≠0↔y=true:=by cases y<;>cases n<;>simp [q67]
theorem qgn (y n:Bool):q67 y n≠1↔(y=false∨n=true):=by cases y<;>cases n<;>simp [q67]
theorem q6o (a c:List E9) (o:List E5) (d:Int) (hc:By0 c) (x:Option Int) (hx:∀ w,x=some w→0≤w):(byI a c o d (fm x)≠0↔(q1W (q3h a c o d) x).1=true)∧(byI a c o d (fm x)≠1↔(q1W (q3h a c o d) x).2=true):=by
 cases x with
 | none=>simp [byI,fm,q1W]
 | some w =>
  have:=hx w rfl
  by_cases h:w=0
  ·subst h;simp [byI,fm,q1W]
  ·have h2:0 < w:=by omega
   simp only [byI,fm,Option.getD_some,h2,if_true,q1W,h,if_false]
   rw [qhH a c o d w hc,qiH,qgn]
   refine ⟨Iff.rfl,⟨fun h=>?_,fun h=>.inr h⟩⟩
   rcases h with h | h
   ·exact qaJ _ _ _ _ _ h
   ·exact h
theorem qhA (a c:List E9) (o:List E5) (d p:Int) (hc:By0 c):((q1z d p c).any fun z=>decide (byI a c o d z≠0))=((q11 d p (q0m c c.length)).any fun x=>(q1W (q3h a c o d) x).1)∧((q1z d p c).any fun z=>decide (byI a c o d z≠1))=((q11 d p (q0m c c.length)).any fun x=>(q1W (q3h a c o d) x).2):=by
 have key:∀ x∈q11 d p (q0m c c.length),∀ w,x=some w→0≤w:=fun x hx w h=>by subst h;exact qam hc hx
 constructor
 ·rw [Bool.eq_iff_iff,q3g,q3g]
  constructor
  ·rintro ⟨z,hz,h⟩
   obtain ⟨x,hx,rfl⟩:=(q2f ..).1 hz
   exact ⟨x,hx,(q6o a c o d hc x (key x hx)).1.1 (by simpa using h)⟩
  ·rintro ⟨x,hx,h⟩
   exact ⟨fm x,(q2f ..).2 ⟨x,hx,rfl⟩,by simpa using (q6o a c o d hc x (key x hx)).1.2 h⟩
 ·rw [Bool.eq_iff_iff,q3g,q3g]
  constructor
  ·rintro ⟨z,hz,h⟩
   obtain ⟨x,hx,rfl⟩:=(q2f ..).1 hz
   exact ⟨x,hx,(q6o a c o d hc x (key x hx)).2.1 (by simpa using h)⟩
  ·rintro ⟨x,hx,h⟩
   exact ⟨fm x,(q2f ..).2 ⟨x,hx,rfl⟩,by simpa using (q6o a c o d hc x (key x hx)).2.2 h⟩
theorem qe1 (a c:List E9) (o:List E5) (d p:Int) (h:(goP a c o d p).1=false):(goP a c o d p).2=true:=by
 revert h
 unfold goP
 split
 ·intro _;rfl
 ·simp only
  intro h
  have:=q6C d p (q0m c c.length)
  cases hq:q11 d p (q0m c c.length) with
  | nil=>exact absurd hq this
  | cons x q =>
   rw [hq] at h
   have h1:=List.any_eq_false.1 h x (by simp)
   have h2:(q1W (q3h a c o d) x).2=true:=by
    cases x with
    | none=>simp [q1W] at h1
    | some w =>
     simp only [q1W] at h1 ⊢
     split
     ·rfl
     ·rename_i hw
      rw [if_neg hw] at h1
      exact qaJ _ _ _ _ _ (by simpa using h1)
   exact (q3g _ _).2 ⟨x,by simp,h2⟩
theorem q9x (a c:List E9) (o:List E5) (d p:Int) (hc:By0 c):q1L a c o d p=q67 ((goP a c o d p).1&&!decide (q0y d p a=[0])) ((goP a c o d p).2||decide (0∈q0y d p a)):=by
 unfold q1L goP
 cases hb:q8C d p o with
 | true=>simp [q67]
 | false =>
  simp only [Bool.false_or,Bool.false_eq_true,if_false]
  rw [(qhA a c o d p hc).1,(qhA a c o d p hc).2]
  by_cases h:q0y d p a=[0]
  ·simp [h,q67]
  ·simp [h,Bool.or_comm]
theorem q5a {a b c:List E9} {o:List E5} {d p z:Int}:z∈q38 a b c o d p↔(z=0∧(0∈q0y d p a∨(goP a c o d p).2=true))∨((goP a c o d p).1=true∧∃ h∈q0y d p a,h≠0∧z∈q0c d b h):=by
 unfold q38
 rw [qbg]
 simp only [List.not_mem_nil,false_or]
 constructor
 ·rintro (⟨h1,x,hx,h2⟩ | ⟨h1,x,hx,h2,h3⟩)
  ·refine .inl ⟨h1,?_⟩
   rcases h2 with h2 | h2
   ·exact .inl ((q1k ..).2 ⟨x,hx,h2.symm⟩)
   ·exact .inr h2
  ·exact .inr ⟨h1,f0 x,(q1k ..).2 ⟨x,hx,rfl⟩,h2,h3⟩
 ·rintro (⟨h1,h2⟩ | ⟨h1,h,hh,h2,h3⟩)
  ·refine .inl ⟨h1,?_⟩
   rcases h2 with h2 | h2
   ·obtain ⟨x,hx,h2⟩:=(q1k ..).1 h2
    exact ⟨x,hx,.inl h2.symm⟩
   ·obtain ⟨z,hz⟩:=q6l d p a
    obtain ⟨x,hx,_⟩:=(q1k ..).1 hz
    exact ⟨x,hx,.inr h2⟩
  ·obtain ⟨x,hx,rfl⟩:=(q1k ..).1 hh
   exact .inr ⟨h1,x,hx,h2,h3⟩
theorem qhq {d p:Int} {a:List E9}:q0y d p a=[0]↔∀ h∈q0y d p a,h=0:=qhb (qaK ..) (q6l ..)
theorem fam_eq (a b c:List E9) (o:List E5) (d p:Int) (hc:By0 c):q38 a b c o d p=qit a b c o d p:=by
 refine qcU (q3E ..) (qhK ..) fun z=>?_
 rw [q5a]
 unfold qit
 have hg:=q9x a c o d p hc
 have hno:=qe1 a c o d p
 by_cases h0:q1L a c o d p=0
 ·rw [if_pos h0]
  have h1:((goP a c o d p).1&&!decide (q0y d p a=[0]))=false:=by
   cases hq:((goP a c o d p).1&&!decide (q0y d p a=[0]))
   ·rfl
   ·rw [hq] at hg;rw [h0] at hg;exfalso;revert hg;cases ((goP a c o d p).2||decide (0∈q0y d p a))<;>simp [q67]
  simp only [ins,List.mem_singleton]
  rw [Bool.and_eq_false_iff] at h1
  rcases h1 with h1 | h1
  ·simp [h1,hno h1]
  ·have h2:q0y d p a=[0]:=by simpa using h1
   simp [h2]
 ·rw [if_neg h0,q9l]
  have h1:(goP a c o d p).1=true∧¬ q0y d p a=[0]:=by
   cases hq:((goP a c o d p).1&&!decide (q0y d p a=[0]))
   ·rw [hq] at hg;exact absurd (by rw [hg];simp [q67]) h0
   ·simpa using hq
  have h2:q1L a c o d p=1↔¬ (0∈q0y d p a∨(goP a c o d p).2=true):=by
   rw [hg]
   simp only [h1.1,h1.2,decide_false,Bool.not_false,Bool.and_self]
   cases hq:((goP a c o d p).2||decide (0∈q0y d p a)) with
   | false =>
    rw [Bool.or_eq_false_iff] at hq
    simp [q67,hq.1];simpa using hq.2
   | true =>
    rw [Bool.or_eq_true] at hq
    simp only [q67,if_true]
    constructor
    ·intro h;simp at h
    ·intro h;exfalso;apply h;rcases hq with hq | hq
     ·exact .inr hq
     ·exact .inl (of_decide_eq_true hq)
  by_cases h3:0∈q0y d p a∨(goP a c o d p).2=true
  ·rw [if_neg (fun h=>h2.1 h h3)]
   simp only [h3,and_true,h1.1,true_and,ins,List.mem_singleton]
  ·rw [if_pos (h2.2 h3)]
   simp only [h3,and_false,h1.1,true_and,List.not_mem_nil,false_or]
end Go.VE
namespace Go.VE
open Go.RowKit Go.Proofs
def qgI (a:List E9):Prop:=∀ e∈a,1≤e.b∧e.b≤99
theorem q3M {d p:Int} {a:List E9} (ha:qgI a) {h:Int} (hh:h∈q0y d p a):0≤h∧h≤99:=by
 obtain ⟨x,hx,rfl⟩:=(q1k ..).1 hh
 cases x with
 | none=>simp [f0]
 | some w =>
  obtain ⟨e,he,_,h2,_⟩:=q55 _ _ _ _ hx
  have:=ha e (q46 he)
  simp only [f0,Option.getD_some];omega
theorem q2Q {a b c:List E9} {o:List E5} {d p z:Int} (ha:qgI a) (hb:q7i b) (hz:z∈q38 a b c o d p):0≤z∧z≤99:=by
 rcases q5a.1 hz with ⟨rfl,_⟩ | ⟨_,h,hh,h0,hl⟩
 ·omega
 ·have:=q3M ha hh
  have:=q0Z hb _ h z (Nat.le_refl _) (by omega) hl
  omega
theorem qbs {a b c:List E9} {o:List E5} {d p:Int} (ha:qgI a) (hb:q7i b):0∈q38 a b c o d p↔(0∈q0y d p a∨(goP a c o d p).2=true):=by
 rw [q5a]
 constructor
 ·rintro (⟨_,h⟩ | ⟨_,h,hh,h0,hl⟩)
  ·exact h
  ·have:=q3M ha hh
   have:=q0Z hb _ h 0 (Nat.le_refl _) (by omega) hl
   omega
 ·intro h;exact .inl ⟨rfl,h⟩
theorem qed {a b c:List E9} {o:List E5} {d p:Int} (ha:qgI a) (hb:q7i b):(∃ z∈q38 a b c o d p,z≠0)↔((goP a c o d p).1=true∧q0y d p a≠[0]):=by
 constructor
 ·rintro ⟨z,hz,h0⟩
  rcases q5a.1 hz with ⟨rfl,_⟩ | ⟨h1,h,hh,h2,_⟩
  ·exact absurd rfl h0
  ·exact ⟨h1,fun e=>h2 (qhq.1 e h hh)⟩
 ·rintro ⟨h1,h2⟩
  rw [Ne,qhq] at h2
  have:∃ h∈q0y d p a,h≠0:=by
   apply Classical.byContradiction;intro hn
   exact h2 fun h hh=>Classical.byContradiction fun h0=>hn ⟨h,hh,h0⟩
  obtain ⟨h,hh,h0⟩:=this
  have:=q3M ha hh
  obtain ⟨z,hz⟩:=q4a hb _ h (Nat.le_refl _) (by omega)
  have:=q0Z hb _ h z (Nat.le_refl _) (by omega) hz
  exact ⟨z,q5a.2 (.inr ⟨h1,h,hh,h0,hz⟩),by omega⟩
theorem qbt {a b c:List E9} {o:List E5} {d p:Int} (ha:qgI a) (hb:q7i b):∃ z,z∈q38 a b c o d p:=by
 by_cases h:0∈q38 a b c o d p
 ·exact ⟨0,h⟩
 ·rw [qbs ha hb,not_or] at h
  have h1:(goP a c o d p).1=true:=by
   cases hq:(goP a c o d p).1
   ·exact absurd (qe1 _ _ _ _ _ hq) h.2
   ·rfl
  have h2:q0y d p a≠[0]:=fun e=>h.1 (by rw [e];simp)
  obtain ⟨z,hz,_⟩:=(qed (c:=c) (o:=o) ha hb).2 ⟨h1,h2⟩
  exact ⟨z,hz⟩
theorem q9U {l:List Int} (hu:Up l) (hr:∀ z∈l,0≤z) (hne:∃ z,z∈l):∃ x r,l=x::r∧(x=0↔0∈l):=by
 cases l with
 | nil=>obtain ⟨z,hz⟩:=hne;simp at hz
 | cons x r =>
  refine ⟨x,r,rfl,fun h=>by simp [h],fun h=>?_⟩
  rw [Up,List.pairwise_cons] at hu
  rcases List.mem_cons.1 h with h | h
  ·exact h.symm
  ·have:=hu.1 0 h
   have:=hr x (by simp)
   omega
theorem qcS:∀ {l:List Int},Up l→(∀ z∈l,0≤z)→∀ {y:Int},l[l.length - 1]?=some y→(y≠0↔∃ z∈l,z≠0)
 | [],_,_,y,h=>by simp at h
 | [x],_,_,y,h=>by simp at h;subst h;simp
 | x::w::r,hu,hr,y,h=>by
  rw [Up,List.pairwise_cons] at hu
  have h':(w::r)[(w::r).length - 1]?=some y:=by simpa using h
  have ih:=qcS (l:=w::r) hu.2 (fun z hz=>hr z (List.mem_cons_of_mem _ hz)) h'
  have hm:y∈w::r:=List.mem_of_getElem? h'
  have h1:=hu.1 y hm
  have h2:=hr x (by simp)
  exact ⟨fun _=>⟨y,List.mem_cons_of_mem _ hm,by omega⟩,fun _=>by omega⟩
theorem qik {a b c:List E9} {o:List E5} {d p:Int} (ha:qgI a) (hb:q7i b) (hc:By0 c) {x y:Int} {r:List Int} (hx:q38 a b c o d p=x::r) (hy:(q38 a b c o d p)[(q38 a b c o d p).length - 1]?=some y):q67 (decide (y≠0)) (decide (x=0))=q1L a c o d p:=by
 have hr:∀ z∈q38 a b c o d p,0≤z:=fun z hz=>(q2Q ha hb hz).1
 have h1:=qcS (q3E a b c o d p) hr hy
 obtain ⟨x',r',e,h2⟩:=q9U (q3E a b c o d p) hr (qbt ha hb)
 rw [hx] at e;cases e
 rw [qed ha hb] at h1
 rw [qbs ha hb] at h2
 rw [q9x a c o d p hc]
 have e1:decide (y≠0)=((goP a c o d p).1&&!decide (q0y d p a=[0])):=by
  rw [Bool.eq_iff_iff,decide_eq_true_iff,h1];simp
 have e2:decide (x=0)=((goP a c o d p).2||decide (0∈q0y d p a)):=by
  rw [Bool.eq_iff_iff,decide_eq_true_iff,h2];simp [or_comm]
 rw [e1,e2]
def q7q (l:List Int) (f:Int):Int:=if f∈l then (if 1 < l.length then 2 else 1) else 0
theorem forP (l:List Int) (f x:Int) (r:List Int) (h:l=x::r):q67 (decide (f∈l)) (decide (1 < l.length)||decide (x≠f))=q7q l f:=by
 unfold q7q q67
 subst h
 by_cases h1:f∈x::r
 ·simp only [h1,decide_true,if_true]
  by_cases h2:1 < (x::r).length
  ·simp only [h2,decide_true,Bool.true_or,if_true]
  ·have:r=[]:=by cases r;rfl;simp at h2
   subst this
   have:f=x:=by simpa using h1
   subst this
   simp
 ·simp [h1]
end Go.VE
namespace Go.VE
open Go.RowKit Go.Proofs
def qf5 {σ:Type} (step:σ→Int→σ) (stopO noneO:σ→Out):σ→List (Option Int)→Out
 | s,[]=>stopO s
 | s,none::_=>noneO s
 | s,some w::os=>qf5 step stopO noneO (step s w) os
def qeF:List (Option Int)→Prop
 | []=>True
 | none::r=>r=[]
 | some _::r=>qeF r
theorem q3m (d who:Int):∀ l:List E9,qeF (q11 d who l)
 | []=>rfl
 | e::r=>by
  simp only [q11]
  split
  ·split
   ·trivial
   ·exact q3m d who r
  ·exact q3m d who r
theorem q56 {σ:Type} (l:List E9) (hl:l.length≤1000000) (d who:Int) (bs:List ((Nat→List Yr→Out)→List Yr→Out)) (en:Nat→σ→Nat×List Yr) (I:Nat→σ→Prop) (step:σ→Int→σ) (stopO noneO:σ→Out)
  (h0:∀ s k,I 0 s→∃ b,bs[(en 0 s).1]?=some b∧b k (en 0 s).2=noneO s)
  (h1:∀ (m:Nat) e s (k:Nat→List Yr→Out),l[m]?=some e→m < l.length→IntKind.i64.wrap (((m:Nat):Int) - 1)=((m:Nat):Int) - 1→(((m+1:Nat):Int) - 1)=((m:Nat):Int)→I (m+1) s →
   I m s∧(e.a=who→q2p e.f1 e.t2 d=true→I m (step s e.b))∧∃ b,bs[(en (m+1) s).1]?=some b∧b k (en (m+1) s).2=if e.a=who∧q2p e.f1 e.t2 d=true then (if q2c e.f2 e.t1 d=true then stopO (step s e.b) else k (en m (step s e.b)).1 (en m (step s e.b)).2) else k (en m s).1 (en m s).2)
  (s:σ) (hs:I l.length s):q0I bs M0 (en l.length s).1 (en l.length s).2=qf5 step stopO noneO s (q11 d who (q0m l l.length)):=by
 refine q48 (σ:=Nat×σ) bs (fun s=>en s.1 s.2) (fun s=>s.1) (fun s=>s.1≤l.length∧I s.1 s.2) (fun s=>qf5 step stopO noneO s.2 (q11 d who (q0m l s.1))) ?_ M0 (l.length,s) ⟨Nat.le_refl _,hs⟩ (by unfold M0;simp only;omega)
 rintro ⟨m,s⟩ k ⟨g1,g2⟩ ih
 simp only at g1 g2 ih ⊢
 cases m with
 | zero=>exact h0 s k g2
 | succ m =>
  obtain ⟨e,he⟩:∃ e,l[m]?=some e:=⟨_,List.getElem?_eq_getElem (by omega)⟩
  obtain ⟨i1,i2,b,hb,hr⟩:=h1 m e s k he (by omega) (q0l (by omega) (by omega)) (by omega) g2
  refine ⟨b,hb,?_⟩
  rw [hr,q2H he,q11]
  split
  ·rename_i hc
   split
   ·rfl
   ·exact ih (m,step s e.b) ⟨by simp only;omega,i2 hc.1 hc.2⟩ (by simp only;omega)
  ·exact ih (m,s) ⟨by simp only;omega,i1⟩ (by simp only;omega)
theorem q4p {σ:Type} {step:σ→Int→σ} {stopO noneO:σ→Out} (R:σ→List (Option Int)→Out) (h0:∀ s,stopO s=R s []) (h1:∀ s,noneO s=R s [none]) (h2:∀ s w os,R (step s w) os=R s (some w::os)):∀ (os:List (Option Int)) (s:σ),qeF os→qf5 step stopO noneO s os=R s os
 | [],s,_=>h0 s
 | none::r,s,h=>by have:r=[]:=h;subst this;exact h1 s
 | some w::os,s,h=>by
  have:=q4p R h0 h1 h2 os (step s w) h
  rw [qf5,this,h2]
section
variable {Fn:Nat→List D→Out} {FnD:D→List Sh→List D→Out} {m:Nat}
end
end Go.VE
namespace Go.VE
open Go.RowKit Go.Proofs
def hB:Option Int→Bool
 | some w=>decide (w≠0)
 | none=>false
def zB:Option Int→Bool
 | some w=>decide (w=0)
 | none=>false
def R196 (x0 x1:D) (s:Bool×Bool) (os:List (Option Int)):Out:=some (if os.any Option.isNone=true then 0 else 1,[.d (bl false),.d (bl (s.1||os.any hB)),.d (bl (s.2||os.any zB)),.d x0,.d x1])
set_option maxRecDepth 20000 in
theorem l196_0 (n:Nat) (a b c:Option (List E9)) (o:Option (List E5)) (d who:Int) (hl:(a.getD []).length≤1000000) (s:Bool×Bool) :
  q0I [q9Q (RP (n+4))] M0 0 [.d (il d),.d (il (((a.getD []).length:Int) - 1)),.d (bl false),.d (bl s.1),.d (bl s.2),.d (q0T a b c o),.d (il who)]=R196 (q0T a b c o) (il who) s (q11 d who (q0m (a.getD []) (a.getD []).length)):=by
 have:=q56 (σ:=Bool×Bool) (a.getD []) hl d who [q9Q (RP (n+4))] (fun m s=>(0,[.d (il d),.d (il ((m:Int) - 1)),.d (bl false),.d (bl s.1),.d (bl s.2),.d (q0T a b c o),.d (il who)])) (fun _ _=>True) (fun s w=>(s.1||decide (w≠0),s.2||decide (w=0)))
  (fun s=>some (1,[.d (bl false),.d (bl s.1),.d (bl s.2),.d (q0T a b c o),.d (il who)])) (fun s=>some (0,[.d (bl false),.d (bl s.1),.d (bl s.2),.d (q0T a b c o),.d (il who)])) ?_ ?_ s trivial
 ·refine Eq.trans this (q4p (R196 (q0T a b c o) (il who)) ?_ ?_ ?_ _ s (q3m _ _ _))
  ·intro s;simp [R196]
  ·intro s;simp [R196,hB,zB]
  ·intro s w os;simp only [R196,List.any_cons,hB,zB,Option.isNone_some,Bool.false_or,Bool.or_assoc]
 ·intro s k _
  exact ⟨_,rfl,by simp [q9Q]⟩
 ·intro m e s k he hm hw hm1 _
  refine ⟨trivial,fun _ _=>trivial,_,rfl,?_⟩
  have h157:=s157 (n+3) a b c o m e who he
  simp only [hm1,q9Q,q02,q07,q04,q1q,q00]
  rw [if_pos (by simp)]
  simp only [q06,h157,q01,q02,q07,q0V,q00,q0U,hw,qf4,q7o,q0P,q0b,q0L,q0F]
  obtain ⟨s1,s2⟩:=s
  by_cases h1:e.a=who
  ·by_cases h2:q2p e.f1 e.t2 d=true
   ·rw [if_pos (⟨h1,h2⟩:e.a=who∧q2p e.f1 e.t2 d=true)]
    cases s1<;>cases s2<;>cases hq:q2c e.f2 e.t1 d<;>simp [h1,h2,q7o,hq]
   ·rw [if_neg (fun h=>h2 h.2:¬ (e.a=who∧q2p e.f1 e.t2 d=true))]
    simp [h1,h2]
  ·rw [if_neg (fun h=>h1 h.1:¬ (e.a=who∧q2p e.f1 e.t2 d=true))]
   simp [h1]
def q8F (x0 x1 x2 x3:D) (h:Bool) (s:Bool) (os:List (Option Int)):Out:=some (if os.any Option.isNone=true then 0 else 1,[.d (bl false),.d (bl h),.d (bl (s||os.any Option.isSome)),.d x0,.d x1,.d x2,.d x3])
set_option maxRecDepth 20000 in
theorem l196_1 (n:Nat) (a b c:Option (List E9)) (o:Option (List E5)) (d who:Int) (x0 x1:D) (hl:(c.getD []).length≤1000000) (h s:Bool) :
  q0I [q7k (RP (n+4))] M0 0 [.d (il d),.d (il (((c.getD []).length:Int) - 1)),.d (bl false),.d (bl h),.d (bl s),.d x0,.d x1,.d (q0T a b c o),.d (il who)]=q8F x0 x1 (q0T a b c o) (il who) h s (q11 d who (q0m (c.getD []) (c.getD []).length)):=by
 have:=q56 (σ:=Bool) (c.getD []) hl d who [q7k (RP (n+4))] (fun m s=>(0,[.d (il d),.d (il ((m:Int) - 1)),.d (bl false),.d (bl h),.d (bl s),.d x0,.d x1,.d (q0T a b c o),.d (il who)])) (fun _ _=>True) (fun _ _=>true)
  (fun s=>some (1,[.d (bl false),.d (bl h),.d (bl s),.d x0,.d x1,.d (q0T a b c o),.d (il who)])) (fun s=>some (0,[.d (bl false),.d (bl h),.d (bl s),.d x0,.d x1,.d (q0T a b c o),.d (il who)])) ?_ ?_ s trivial
 ·refine Eq.trans this (q4p (q8F x0 x1 (q0T a b c o) (il who) h) ?_ ?_ ?_ _ s (q3m _ _ _))
  ·intro s;simp [q8F]
  ·intro s;simp [q8F]
  ·intro s w os;simp [q8F]
 ·intro s k _
  exact ⟨_,rfl,by simp [q7k]⟩
 ·intro m e s k he hm hw hm1 _
  refine ⟨trivial,fun _ _=>trivial,_,rfl,?_⟩
  have h195:=s195 (n+3) a b c o m e who he
  have hnn:¬ ((m:Nat):Int) < 0:=by omega
  simp only [hm1,q7k,q02,q07,q04,q1q,q00]
  rw [if_pos (by simp)]
  simp only [q06,h195,q01,q02,q07,q0V,q00,q0U,hw,qf4,q7o,q0P,q0b,q0L,q0F,q0B,q1q]
  by_cases h1:e.a=who
  ·by_cases h2:q2p e.f1 e.t2 d=true
   ·rw [if_pos (⟨h1,h2⟩:e.a=who∧q2p e.f1 e.t2 d=true)]
    cases s<;>cases hq:q2c e.f2 e.t1 d<;>simp [h1,h2,hnn,q7o,hq]
   ·rw [if_neg (fun h=>h2 h.2:¬ (e.a=who∧q2p e.f1 e.t2 d=true))]
    simp [h1,h2]
  ·rw [if_neg (fun h=>h1 h.1:¬ (e.a=who∧q2p e.f1 e.t2 d=true))]
   simp [h1]
theorem qav (n:Nat):qhD (RP n)=q7k (RP n):=rfl
theorem qau (n:Nat):qhC (RP n)=q7k (RP n):=rfl
theorem hB_any (os:List (Option Int)):(os.any fun x=>decide (f0 x≠0))=os.any hB:=by
 congr 1;funext x;cases x<;>rfl
theorem zB_any (os:List (Option Int)):(os.any fun x=>decide (f0 x=0))=(os.any zB||os.any Option.isNone):=by
 induction os with
 | nil=>rfl
 | cons x os ih =>
  rw [List.any_cons,ih,List.any_cons,List.any_cons]
  cases x with
  | none=>simp [f0,zB]
  | some w=>simp only [zB,Option.isNone_some,Bool.false_or,Bool.or_assoc];rfl
set_option maxRecDepth 20000 in
theorem s196 (n:Nat) (a b c:Option (List E9)) (o:Option (List E5)) (d who:Int) (hd:0≤d∧d≤4166) (ha:(a.getD []).length≤1000000) (hc:(c.getD []).length≤1000000) (ho:(o.getD []).length≤1000000) :
  FN (n+6) 196 [d9 a,d9 b,d9 c,d5 o,il who,il d]=some (0,[.d (bl (q3h (a.getD []) (c.getD []) (o.getD []) d who).1),.d (bl (q3h (a.getD []) (c.getD []) (o.getD []) d who).2)]):=by
 rw [F196]
 have h0:=l196_0 (n+1) a b c o d who ha (false,false)
 have h1:=fun h s=>l196_1 (n+1) a b c o d who (q0T a b c o) (il who) hc h s
 simp only [q0T] at h0 h1
 simp only [G196,q06,s214 n (d9 a) (d9 b) (d9 c) o d who hd (by omega),q01,q02,q00,q0P,q0b,q6a,q3H]
 unfold q3h
 cases q8C d who (o.getD []) with
 | true=>simp
 | false =>
  simp only [Bool.false_eq_true,if_false]
  have hp:∀ k:List D→Out,(RP (n+5)).ptrW 4 (.dp [d9 a,d9 b,d9 c,d5 o] 0) k=k [d9 a,d9 b,d9 c,d5 o]:=fun k=>q26 _ 4 k rfl
  have w1:IntKind.i64.wrap (((a.getD []).length:Int) - 1)=((a.getD []).length:Int) - 1:=q0l (by omega) (by omega)
  have w2:IntKind.i64.wrap (((c.getD []).length:Int) - 1)=((c.getD []).length:Int) - 1:=q0l (by omega) (by omega)
  simp only [hp,q0a,q0C,q6O,q04,q0U,w1,w2,q0k]
  rw [show (RP (n+5))=RP (n+1+4) from rfl] at *
  rw [h0,hB_any,zB_any]
  simp only [R196,Bool.false_or]
  generalize q11 d who (q0m (a.getD []) (a.getD []).length)=q at *
  cases hn:q.any Option.isNone with
  | true =>
   simp only [if_true,q01,q02,q07,q00,q0b,q0P,q0L,q0F,ne_eq,not_true_eq_false,decide_false,decide_true]
   cases hh:q.any hB<;>cases hz:q.any zB<;>simp only [Bool.false_eq_true,if_true,if_false,q01,q02,q07,q00,q0b,qav,h1,q8F] <;>
    (cases hn2:(q11 d who (q0m (c.getD []) (c.getD []).length)).any Option.isNone<;>cases hn3:(q11 d who (q0m (c.getD []) (c.getD []).length)).any Option.isSome<;>simp [q0X,qav,qau,h1,q8F,hn2,hn3])
  | false =>
   simp only [Bool.false_eq_true,if_false,q0X,q01,q02,q07,q00,q0b,q0P,qau,h1,q8F]
   cases hh:q.any hB<;>cases hz:q.any zB <;>
    (cases hn2:(q11 d who (q0m (c.getD []) (c.getD []).length)).any Option.isNone<;>cases hn3:(q11 d who (q0m (c.getD []) (c.getD []).length)).any Option.isSome<;>simp [q0X,qav,qau,h1,q8F,hn2,hn3])
end Go.VE
