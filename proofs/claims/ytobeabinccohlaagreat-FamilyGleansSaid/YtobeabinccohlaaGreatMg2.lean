/- Family: the reference's homes. -/
import Derived.Test.YtobeabinccohlaaGreatMg1
namespace Go.VE
open Go.RowKit Go.Proofs
theorem nil92 (n:Nat) (x:Int):FN (n+1) 92 [.lit (.slice none 0 0),il x]=some (0,[.d (dI (some [x]))]):=s92 n none x (by simp) (by simp)
def en78 (d who:Int) (a b c o:D) (m:Nat) (acc:List Int):Nat×List Yr:=match acc with
 | []=>(0,[.d (il who),.d (il d),.d a,.d b,.d c,.d o,.d (il ((m:Int) - 1))])
 | y::r=>(1,[.d (il who),.d (il d),.d a,.d b,.d c,.d o,.d (dI (some (y::r))),.d (il ((m:Int) - 1))])
def Q78 (n:Nat) (T:List Int) (r:Out):Prop :=
 (∃ acc:List Int,acc≠[]∧Up acc∧acc.length≤n∧((r=some (2,[.d (dI (some acc))])∧acc=T)∨(r=some (3,[.d (dI (some acc))])∧ins 0 acc=T)))∨(r=some (1,[])∧ins 0 []=T)
theorem hasB_ne (f1 f2 t1 t2 d:Int):hasB f1 f2 t1 t2 d≠0↔mayB f1 t2 d=true:=by unfold hasB;repeat' split;all_goals simp_all
theorem hasB_one (f1 f2 t1 t2 d:Int) (h:mayB f1 t2 d=true):hasB f1 f2 t1 t2 d=1↔sureB f2 t1 d=true:=by unfold hasB;rw [if_pos h];split<;>simp_all
theorem hasB_no (f1 f2 t1 t2 d:Int) (h:¬ mayB f1 t2 d=true):hasB f1 f2 t1 t2 d=0:=by unfold hasB;rw [if_neg h]
set_option maxRecDepth 20000 in
theorem l78 (n:Nat) (a:Option (List E9)) (b c o:D) (d who:Int) (hl:(a.getD []).length≤1000000) :
  Q78 (a.getD []).length (putAll f0 [] (opts d who (below (a.getD []) (a.getD []).length))) (loopR [L78_0 (RP (n+4)),L78_1 (RP (n+4))] M0 0 [.d (il who),.d (il d),.d (d9 a),.d b,.d c,.d o,.d (il (((a.getD []).length:Int) - 1))]):=by
 have:=loop_pr (σ:=Nat×List Int) [L78_0 (RP (n+4)),L78_1 (RP (n+4))] (fun s=>en78 d who (d9 a) b c o s.1 s.2) (fun s=>s.1)
  (fun s=>s.1≤(a.getD []).length∧Up s.2∧s.2.length+s.1≤(a.getD []).length∧putAll f0 s.2 (opts d who (below (a.getD []) s.1))=putAll f0 [] (opts d who (below (a.getD []) (a.getD []).length)))
  (Q78 (a.getD []).length (putAll f0 [] (opts d who (below (a.getD []) (a.getD []).length)))) ?_ M0 ((a.getD []).length,[]) ⟨Nat.le_refl _,by simp,by simp,rfl⟩ (by unfold M0;simp only;omega)
 ·exact this
 ·generalize putAll f0 [] (opts d who (below (a.getD []) (a.getD []).length))=T
  rintro ⟨m,acc⟩ k ⟨g1,g2,g3,g4⟩ ih
  simp only at g1 g2 g3 g4 ih
  cases m with
  | zero =>
   rw [below_zero] at g4
   cases acc with
   | nil =>
    refine ⟨L78_0 (RP (n+4)),rfl,.inr ⟨?_,g4⟩⟩
    simp [en78,L78_0]
   | cons y r =>
    refine ⟨L78_1 (RP (n+4)),rfl,.inl ⟨y::r,by simp,g2,by omega,.inr ⟨?_,g4⟩⟩⟩
    simp [en78,L78_1]
  | succ m =>
   obtain ⟨e,he⟩:∃ e,(a.getD [])[m]?=some e:=⟨_,List.getElem?_eq_getElem (by omega)⟩
   rw [below_succ he,opts] at g4
   have hm:(((m+1:Nat):Int) - 1)=((m:Nat):Int):=by omega
   have hw:IntKind.i64.wrap (((m:Nat):Int) - 1)=((m:Nat):Int) - 1:=wrap_id (by omega) (by omega)
   cases acc with
   | nil =>
    refine ⟨L78_0 (RP (n+4)),rfl,?_⟩
    simp only [en78,hm,L78_0,r_ld0,r_lds,r_liti,r_geq,r_cond]
    rw [if_pos (by simp)]
    simp only [row9 he,r9,r_cell0,r_cells,r_neq,r_cond,r_sub,hw,decide_eq_true_eq]
    by_cases h1:e.a=who
    ·rw [if_neg (by simp [h1])]
     simp only [r_call,s160,r_bnd0,r_ld0,r_neq,r_cond,r_eql,decide_eq_true_eq]
     by_cases h2:mayB e.f1 e.t2 d=true
     ·rw [if_pos ((hasB_ne _ _ _ _ _).2 h2)]
      rw [if_pos ⟨h1,h2⟩] at g4
      simp only [r_litNil,nil92,r_bnd0,r_ld0]
      by_cases h3:sureB e.f2 e.t1 d=true
      ·rw [if_pos h3] at g4
       rw [if_pos ((hasB_one _ _ _ _ _ h2).2 h3)]
       exact .inl ⟨[e.b],by simp,by simp,by simp;omega,.inl ⟨rfl,g4⟩⟩
      ·rw [if_neg h3] at g4
       rw [if_neg fun h=>h3 ((hasB_one _ _ _ _ _ h2).1 h)]
       exact ih (m,[e.b]) ⟨by simp only;omega,by simp,by simp only [List.length_singleton];omega,g4⟩ (by simp only;omega)
     ·rw [hasB_no _ _ _ _ _ h2,if_neg (by simp),if_neg (by simp)]
      rw [if_neg fun h=>h2 h.2] at g4
      exact ih (m,[]) ⟨by simp only;omega,g2,by simp only [List.length_nil];omega,g4⟩ (by simp only;omega)
    ·rw [if_pos (by simp [h1])]
     rw [if_neg fun h=>h1 h.1] at g4
     exact ih (m,[]) ⟨by simp only;omega,g2,by simp only [List.length_nil];omega,g4⟩ (by simp only;omega)
   | cons y r =>
    refine ⟨L78_1 (RP (n+4)),rfl,?_⟩
    simp only [en78,hm,L78_1,r_ld0,r_lds,r_liti,r_geq,r_cond]
    rw [if_pos (by simp)]
    simp only [row9 he,r9,r_cell0,r_cells,r_neq,r_cond,r_sub,hw,decide_eq_true_eq]
    by_cases h1:e.a=who
    ·rw [if_neg (by simp [h1])]
     simp only [r_call,s160,r_bnd0,r_ld0,r_neq,r_cond,r_eql,decide_eq_true_eq]
     by_cases h2:mayB e.f1 e.t2 d=true
     ·rw [if_pos ((hasB_ne _ _ _ _ _).2 h2)]
      rw [if_pos ⟨h1,h2⟩] at g4
      have hput:=s92 (n+3) (some (y::r)) e.b (by simp only [Option.getD_some,List.length_cons] at g3 ⊢;omega) g2
      simp only [Option.getD_some] at hput
      simp only [hput,r_bnd0,r_ld0]
      have hil:=ins_len e.b (y::r)
      have hne:=ins_ne e.b (y::r)
      have hup:=up_ins e.b g2
      by_cases h3:sureB e.f2 e.t1 d=true
      ·rw [if_pos h3] at g4
       rw [if_pos ((hasB_one _ _ _ _ _ h2).2 h3)]
       exact .inl ⟨ins e.b (y::r),hne,hup,by simp only [List.length_cons] at g3 hil ⊢;omega,.inl ⟨rfl,g4⟩⟩
      ·rw [if_neg h3] at g4
       rw [if_neg fun h=>h3 ((hasB_one _ _ _ _ _ h2).1 h)]
       have:=ih (m,ins e.b (y::r)) ⟨by simp only;omega,hup,by simp only [List.length_cons] at g3 hil ⊢;omega,g4⟩ (by simp only;omega)
       revert this
       generalize ins e.b (y::r)=q at hne
       cases q with
       | nil=>exact absurd rfl hne
       | cons z zs=>intro this;exact this
     ·rw [hasB_no _ _ _ _ _ h2,if_neg (by simp),if_neg (by simp)]
      rw [if_neg fun h=>h2 h.2] at g4
      exact ih (m,y::r) ⟨by simp only;omega,g2,by simp only at g3 ⊢;omega,g4⟩ (by simp only;omega)
    ·rw [if_pos (by simp [h1])]
     rw [if_neg fun h=>h1 h.1] at g4
     exact ih (m,y::r) ⟨by simp only;omega,g2,by simp only at g3 ⊢;omega,g4⟩ (by simp only;omega)
end Go.VE
namespace Go.VE
open Go.RowKit Go.Proofs
theorem up_homes (d who:Int) (l:List E9):Up (homesL d who l):=up_putAll _ _ (by simp)
set_option maxRecDepth 20000 in
theorem s78 (n:Nat) (a:Option (List E9)) (b c o:D) (d who:Int) (hl:(a.getD []).length≤1000000):FN (n+5) 78 [d9 a,b,c,o,il who,il d]=some (0,[.d (dI (some (homesL d who (a.getD []))))]):=by
 rw [F78]
 simp only [G78,len9,r_liti,r_sub]
 rw [wrap_id (by omega) (by omega),r_loop]
 have h:=l78 n a b c o d who hl
 unfold Q78 at h
 rw [show homesL d who (a.getD [])=putAll f0 [] (opts d who (below (a.getD []) (a.getD []).length)) from rfl]
 rcases h with ⟨acc,hne,hup,hle,(⟨hr,hT⟩ | ⟨hr,hT⟩)⟩ | ⟨hr,hT⟩
 ·rw [hr,← hT];simp
 ·rw [hr,← hT]
  have hput:=s92 (n+3) (some acc) 0 (by simp only [Option.getD_some];omega) hup
  simp only [Option.getD_some] at hput
  simp [hput]
 ·rw [hr,← hT]
  simp [nil92,ins]
set_option maxRecDepth 20000 in
theorem s13 (n:Nat) (p f d k:Int) (a b c:Option (List E9)) (o:Option (List E5)) (ha:(a.getD []).length*72≤140737488351232) (hb:(b.getD []).length*72≤140737488351232) (hc:(c.getD []).length*72≤140737488351232) (ho:(o.getD []).length*40≤140737488351232) :
  FN (n+7) 13 [d9 a,d9 b,d9 c,d5 o,il p,il f,il d,il k]=if askE (okKin (a.getD []) (b.getD []) (c.getD []) (o.getD [])) true true p 1 [d,k]=0 then some (0,[.d (dI (some (homesL d p (cnt9 k (a.getD []))))),.d (il 0)]) else some (0,[.d (dI none),.d (il (askE (okKin (a.getD []) (b.getD []) (c.getD []) (o.getD [])) true true p 1 [d,k]))]):=by
 rw [F13]
 have h76:=s76 n p 1 d k a b c o ha hb hc ho
 simp only [G13,r_call,r_litb,s77,r_bnd0,r_ld0,r_lds,if_true,Bool.false_eq_true,if_false,h76,r_liti]
 by_cases he:askE (okKin (a.getD []) (b.getD []) (c.getD []) (o.getD [])) true true p 1 [d,k]=0
 ·rw [if_pos he,if_pos he]
  have hlen:=(okKin_len (askE_ok he)).1
  have hcl:((nzO (cnt9 k (a.getD []))).getD []).length≤1000000:=by
   rw [nzO_getD];have:=List.length_filter_le (fun e=>cnts e.kn e.un k) (a.getD []);unfold cnt9;omega
  simp only [r_bnd0,r_ld0,r_lds,r_neq,ne_eq,not_true_eq_false,decide_false,r_cond,Bool.false_eq_true,if_false,s78 (n+1) _ _ _ _ _ _ hcl,nzO_getD,r_out]
 ·rw [if_neg he,if_neg he]
  simp only [nil5,r_bnd0,r_ld0,r_lds,r_neq,r_cond]
  rw [if_pos (by simpa using he)]
  simp [dI,dSl]
theorem askE_fam (ok:Bool) (p:Int) (ds:List Int):askE ok true true p 1 ds=askE ok true false p 0 ds:=by
 unfold askE;simp
end Go.VE
namespace Go.VE
open Go.RowKit Go.Proofs
def fm (o:Option Int):Int:=o.getD (-1)
def awaysL (d who:Int) (l:List E9):List Int:=putAll fm [] (opts d who (below l l.length))
def en165 (d who:Int) (a b c o:D) (m:Nat) (acc:List Int):Nat×List Yr:=match acc with
 | []=>(0,[.d (il who),.d (il d),.d a,.d b,.d c,.d o,.d (il ((m:Int) - 1))])
 | y::r=>(1,[.d (il who),.d (il d),.d a,.d b,.d c,.d o,.d (dI (some (y::r))),.d (il ((m:Int) - 1))])
def Q165 (n:Nat) (T:List Int) (r:Out):Prop :=
 (∃ acc:List Int,acc≠[]∧Up acc∧acc.length≤n∧((r=some (2,[.d (dI (some acc))])∧acc=T)∨(r=some (3,[.d (dI (some acc))])∧ins (-1) acc=T)))∨(r=some (1,[])∧ins (-1) []=T)
set_option maxRecDepth 20000 in
theorem l165 (n:Nat) (a:Option (List E9)) (b c o:D) (d who:Int) (hl:(a.getD []).length≤1000000) :
  Q165 (a.getD []).length (putAll fm [] (opts d who (below (a.getD []) (a.getD []).length))) (loopR [L165_0 (RP (n+4)),L165_1 (RP (n+4))] M0 0 [.d (il who),.d (il d),.d b,.d c,.d (d9 a),.d o,.d (il (((a.getD []).length:Int) - 1))]):=by
 have:=loop_pr (σ:=Nat×List Int) [L165_0 (RP (n+4)),L165_1 (RP (n+4))] (fun s=>en165 d who b c (d9 a) o s.1 s.2) (fun s=>s.1)
  (fun s=>s.1≤(a.getD []).length∧Up s.2∧s.2.length+s.1≤(a.getD []).length∧putAll fm s.2 (opts d who (below (a.getD []) s.1))=putAll fm [] (opts d who (below (a.getD []) (a.getD []).length)))
  (Q165 (a.getD []).length (putAll fm [] (opts d who (below (a.getD []) (a.getD []).length)))) ?_ M0 ((a.getD []).length,[]) ⟨Nat.le_refl _,by simp,by simp,rfl⟩ (by unfold M0;simp only;omega)
 ·exact this
 ·generalize putAll fm [] (opts d who (below (a.getD []) (a.getD []).length))=T
  rintro ⟨m,acc⟩ k ⟨g1,g2,g3,g4⟩ ih
  simp only at g1 g2 g3 g4 ih
  cases m with
  | zero =>
   rw [below_zero] at g4
   cases acc with
   | nil =>
    refine ⟨L165_0 (RP (n+4)),rfl,.inr ⟨?_,g4⟩⟩
    simp [en165,L165_0]
   | cons y r =>
    refine ⟨L165_1 (RP (n+4)),rfl,.inl ⟨y::r,by simp,g2,by omega,.inr ⟨?_,g4⟩⟩⟩
    simp [en165,L165_1]
  | succ m =>
   obtain ⟨e,he⟩:∃ e,(a.getD [])[m]?=some e:=⟨_,List.getElem?_eq_getElem (by omega)⟩
   rw [below_succ he,opts] at g4
   have hm:(((m+1:Nat):Int) - 1)=((m:Nat):Int):=by omega
   have hw:IntKind.i64.wrap (((m:Nat):Int) - 1)=((m:Nat):Int) - 1:=wrap_id (by omega) (by omega)
   cases acc with
   | nil =>
    refine ⟨L165_0 (RP (n+4)),rfl,?_⟩
    simp only [en165,hm,L165_0,r_ld0,r_lds,r_liti,r_geq,r_cond]
    rw [if_pos (by simp)]
    simp only [row9 he,r9,r_cell0,r_cells,r_neq,r_cond,r_sub,hw,decide_eq_true_eq]
    by_cases h1:e.a=who
    ·rw [if_neg (by simp [h1])]
     simp only [r_call,s160,r_bnd0,r_ld0,r_neq,r_cond,r_eql,decide_eq_true_eq]
     by_cases h2:mayB e.f1 e.t2 d=true
     ·rw [if_pos ((hasB_ne _ _ _ _ _).2 h2)]
      rw [if_pos ⟨h1,h2⟩] at g4
      simp only [r_litNil,nil92,r_bnd0,r_ld0]
      by_cases h3:sureB e.f2 e.t1 d=true
      ·rw [if_pos h3] at g4
       rw [if_pos ((hasB_one _ _ _ _ _ h2).2 h3)]
       exact .inl ⟨[e.b],by simp,by simp,by simp;omega,.inl ⟨rfl,g4⟩⟩
      ·rw [if_neg h3] at g4
       rw [if_neg fun h=>h3 ((hasB_one _ _ _ _ _ h2).1 h)]
       exact ih (m,[e.b]) ⟨by simp only;omega,by simp,by simp only [List.length_singleton];omega,g4⟩ (by simp only;omega)
     ·rw [hasB_no _ _ _ _ _ h2,if_neg (by simp),if_neg (by simp)]
      rw [if_neg fun h=>h2 h.2] at g4
      exact ih (m,[]) ⟨by simp only;omega,g2,by simp only [List.length_nil];omega,g4⟩ (by simp only;omega)
    ·rw [if_pos (by simp [h1])]
     rw [if_neg fun h=>h1 h.1] at g4
     exact ih (m,[]) ⟨by simp only;omega,g2,by simp only [List.length_nil];omega,g4⟩ (by simp only;omega)
   | cons y r =>
    refine ⟨L165_1 (RP (n+4)),rfl,?_⟩
    simp only [en165,hm,L165_1,r_ld0,r_lds,r_liti,r_geq,r_cond]
    rw [if_pos (by simp)]
    simp only [row9 he,r9,r_cell0,r_cells,r_neq,r_cond,r_sub,hw,decide_eq_true_eq]
    by_cases h1:e.a=who
    ·rw [if_neg (by simp [h1])]
     simp only [r_call,s160,r_bnd0,r_ld0,r_neq,r_cond,r_eql,decide_eq_true_eq]
     by_cases h2:mayB e.f1 e.t2 d=true
     ·rw [if_pos ((hasB_ne _ _ _ _ _).2 h2)]
      rw [if_pos ⟨h1,h2⟩] at g4
      have hput:=s92 (n+3) (some (y::r)) e.b (by simp only [Option.getD_some,List.length_cons] at g3 ⊢;omega) g2
      simp only [Option.getD_some] at hput
      simp only [hput,r_bnd0,r_ld0]
      have hil:=ins_len e.b (y::r)
      have hne:=ins_ne e.b (y::r)
      have hup:=up_ins e.b g2
      by_cases h3:sureB e.f2 e.t1 d=true
      ·rw [if_pos h3] at g4
       rw [if_pos ((hasB_one _ _ _ _ _ h2).2 h3)]
       exact .inl ⟨ins e.b (y::r),hne,hup,by simp only [List.length_cons] at g3 hil ⊢;omega,.inl ⟨rfl,g4⟩⟩
      ·rw [if_neg h3] at g4
       rw [if_neg fun h=>h3 ((hasB_one _ _ _ _ _ h2).1 h)]
       have:=ih (m,ins e.b (y::r)) ⟨by simp only;omega,hup,by simp only [List.length_cons] at g3 hil ⊢;omega,g4⟩ (by simp only;omega)
       revert this
       generalize ins e.b (y::r)=q at hne
       cases q with
       | nil=>exact absurd rfl hne
       | cons z zs=>intro this;exact this
     ·rw [hasB_no _ _ _ _ _ h2,if_neg (by simp),if_neg (by simp)]
      rw [if_neg fun h=>h2 h.2] at g4
      exact ih (m,y::r) ⟨by simp only;omega,g2,by simp only at g3 ⊢;omega,g4⟩ (by simp only;omega)
    ·rw [if_pos (by simp [h1])]
     rw [if_neg fun h=>h1 h.1] at g4
     exact ih (m,y::r) ⟨by simp only;omega,g2,by simp only at g3 ⊢;omega,g4⟩ (by simp only;omega)
theorem up_aways (d who:Int) (l:List E9):Up (awaysL d who l):=up_putAll _ _ (by simp)
set_option maxRecDepth 20000 in
theorem s165 (n:Nat) (a:Option (List E9)) (b c o:D) (d who:Int) (hl:(a.getD []).length≤1000000):FN (n+5) 165 [b,c,d9 a,o,il who,il d]=some (0,[.d (dI (some (awaysL d who (a.getD []))))]):=by
 rw [F165]
 simp only [G165,len9,r_liti,r_sub]
 rw [wrap_id (by omega) (by omega),r_loop]
 have h:=l165 n a b c o d who hl
 unfold Q165 at h
 rw [show awaysL d who (a.getD [])=putAll fm [] (opts d who (below (a.getD []) (a.getD []).length)) from rfl]
 rcases h with ⟨acc,hne,hup,hle,(⟨hr,hT⟩ | ⟨hr,hT⟩)⟩ | ⟨hr,hT⟩
 ·rw [hr,← hT];simp
 ·rw [hr,← hT]
  have hput:=s92 (n+3) (some acc) (-1) (by simp only [Option.getD_some];omega) hup
  simp only [Option.getD_some] at hput
  simp [hput]
 ·rw [hr,← hT]
  simp [nil92,ins]
end Go.VE
namespace Go.VE
open Go.RowKit Go.Proofs
def barB (d who:Int) (l:List E5):Bool:=l.any fun e=>decide (e.a=who∧e.day=d - 1)
set_option maxRecDepth 20000 in
theorem s164 (n:Nat) (x y z:D) (o:Option (List E5)) (d who:Int) (hd:0≤d∧d≤4166) (hl:(o.getD []).length≤4611686018427387904):FN (n+1) 164 [x,y,z,d5 o,il who,il d]=some (0,[.d (bl (barB d who (o.getD [])))]):=by
 rw [F164]
 simp only [G164,len5,r_liti,r_loop]
 have:=range_loop (β:=Unit) (o.getD []) hl (L164_0 (RP n)) (fun i _=>[.d (il who),.d (il d),.d (d5 o),.d (il (o.getD []).length),.d (il i)]) (fun _ _=>True)
  (fun _ r _=>if barB d who r=true then some (0,[.d (bl true)]) else some (1,[]))
  (fun _ k _=>by simp [L164_0,barB]) ?_ M0 () trivial (M0_big hl)
 ·simp only [Int.natCast_zero] at this
  rw [this]
  by_cases h:barB d who (o.getD [])=true<;>simp [h]
 ·intro i e r _ k hi hd' hlt hw _ ih
  have ih':=ih () trivial
  have hlt':(i:Int) < ((o.getD []).length:Int):=by omega
  have hwd:IntKind.i64.wrap (d - 1)=d - 1:=wrap_id (by omega) (by omega)
  simp only [L164_0,r_ld0,r_lds,r_lss,r_cond,hlt',decide_true,if_true,row5 hi,r5,r_cell0,r_cells,r_eql,r_liti,r_sub,hwd,r_add,hw,r_litb,r_out,decide_eq_true_eq]
  have hb:barB d who (e::r)=(decide (e.a=who∧e.day=d - 1)||barB d who r):=rfl
  rw [hb]
  by_cases h1:e.a=who
  ·rw [if_pos h1]
   by_cases h2:e.day=d - 1
   ·rw [if_pos h2];simp [h1,h2]
   ·rw [if_neg h2]
    simp only [h2,and_false,decide_false,Bool.false_or]
    exact ih'
  ·rw [if_neg h1]
   simp only [h1,false_and,decide_false,Bool.false_or]
   exact ih'
theorem s218 (n:Nat) (e:E5) (d who:Int) (hd:0≤d∧d≤4166):FN (n+1) 218 (r5 e++[il who,il d])=some (0,[.d (bl (decide (e.a=who∧e.day=d - 1)))]):=by
 rw [r5]
 simp only [List.cons_append,List.nil_append]
 rw [F218]
 have hwd:IntKind.i64.wrap (d - 1)=d - 1:=wrap_id (by omega) (by omega)
 simp only [G218,r_eql,r_cond,r_liti,r_sub,hwd,r_out,r_litb]
 by_cases h:e.a=who<;>simp [h]
theorem d218 (n:Nat) (e:E5) (d who:Int) (hd:0≤d∧d≤4166):FD (n+1) (.fn 218 [.dp [il who] 0,.dp [il d] 0]) [.agg 5] (r5 e)=some (0,[.d (bl (decide (e.a=who∧e.day=d - 1)))]) :=
 FD_fn [.agg 5,.ptr 1,.ptr 1] [.agg (r5 e)] (by decide) rfl (by kernel_rfl) rfl (by kernel_rfl) (s218 n e d who hd)
theorem s214 (n:Nat) (x y z:D) (o:Option (List E5)) (d who:Int) (hd:0≤d∧d≤4166) (hl:(o.getD []).length≤4611686018427387904):FN (n+5) 214 [x,y,z,d5 o,il who,il d]=some (0,[.d (bl (barB d who (o.getD [])))]):=by
 rw [F214]
 simp only [G214,r_call,r_fnD,r_dpD,s125 (n+1) o hl (.fn 218 [.dp [il who] 0,.dp [il d] 0]) _ (fun e _=>d218 n e d who hd),r_bnd0,r_ld0,r_out]
 rfl
end Go.VE
namespace Go.VE
open Go.RowKit Go.Proofs
theorem len_putAll (f:Option Int→Int):∀ (os:List (Option Int)) (acc:List Int),(putAll f acc os).length≤acc.length+os.length
 | [],acc=>by simp [putAll]
 | o::os,acc=>by
  have h1:=len_putAll f os (ins (f o) acc)
  have h2:=ins_len (f o) acc
  show (putAll f (ins (f o) acc) os).length≤_
  simp only [List.length_cons];omega
theorem len_opts (d who:Int):∀ l:List E9,(opts d who l).length≤l.length+1
 | []=>by simp [opts]
 | e::r=>by
  have:=len_opts d who r
  simp only [opts]
  split
  ·split<;>simp<;>omega
  ·simp;omega
theorem len_below (l:List E9) (m:Nat):(below l m).length≤l.length:=by simp [below];omega
theorem len_homes (d who:Int) (l:List E9):(homesL d who l).length≤l.length+1:=by
 have h1:=len_putAll f0 (opts d who (below l l.length)) []
 have h2:=len_opts d who (below l l.length)
 have h3:=len_below l l.length
 unfold homesL;simp only [List.length_nil] at h1;omega
theorem len_aways (d who:Int) (l:List E9):(awaysL d who l).length≤l.length+1:=by
 have h1:=len_putAll fm (opts d who (below l l.length)) []
 have h2:=len_opts d who (below l l.length)
 have h3:=len_below l l.length
 unfold awaysL;simp only [List.length_nil] at h1;omega
def walkI (b:Bool) (q r:List Int):Int:=if (b||decide (q=[0])||!decide (-1∈r))=true then 0 else if 0∈q∨1 < r.length then 2 else 1
set_option maxRecDepth 20000 in
theorem s166 (n:Nat) (a c:Option (List E9)) (o:Option (List E5)) (b:D) (d who:Int) (hd:0≤d∧d≤4166) (ha:(a.getD []).length≤1000) (hc:(c.getD []).length≤1000) (ho:(o.getD []).length≤1000) :
  FN (n+6) 166 [d9 a,b,d9 c,d5 o,il who,il d]=some (0,[.d (il (walkI (barB d who (o.getD [])) (homesL d who (a.getD [])) (awaysL d who (c.getD []))))]):=by
 rw [F166]
 have l1:=len_homes d who (a.getD [])
 have l2:=len_aways d who (c.getD [])
 simp only [G166,r_call,s78 n a b (d9 c) (d5 o) d who (by omega),s165 n c (d9 a) b (d5 o) d who (by omega),s164 (n+4) (d9 a) b (d9 c) o d who hd (by omega),r_bnd0,r_ld0,r_cond,r_liti,r_out,lenI,Option.getD_some,r_eql,r_litb]
 generalize homesL d who (a.getD [])=q at l1 ⊢
 generalize awaysL d who (c.getD [])=r at l2 ⊢
 have h41a:=s41 (n+4) (some r) (-1) (by simp only [Option.getD_some];omega)
 have h41b:=s41 (n+4) (some q) 0 (by simp only [Option.getD_some];omega)
 simp only [Option.getD_some] at h41a h41b
 unfold walkI
 cases barB d who (o.getD []) with
 | true=>simp
 | false =>
  simp only [Bool.false_eq_true,if_false,Bool.false_or]
  have row0:∀ (v:Int) (t:List Int) (k:List D→Out),(RP (n+5)).rowD 1 (dI (some (v::t))) (il 0) k=k (rI v):=fun v t k=>by
   have:=rowI (Fn:=FN (n+5)) (FnD:=FnDof Tryz.prog (cf3 tb Tryz.prog) (FN (n+5))) (m:=M0) (o:=some (v::t)) (i:=0) (c:=v) rfl k
   exact this
  have rest:∀ z:Bool,z=decide (q=[0])→(RP (n+5)).bnd (some (0,[.d (dI (some q)),.d (dI (some r)),.d (bl z)])) [fun y5=>(RP (n+5)).cond ((RP (n+5)).ld y5 2) ((RP (n+5)).out 0 [.d (il 0)]) ((RP (n+5)).bnd (FN (n+5) 41 [(RP (n+5)).ld y5 1,il (-1)]) [fun y6=>(RP (n+5)).un .not ((RP (n+5)).ld y6 0) fun x7=>(RP (n+5)).cond x7 ((RP (n+5)).out 0 [.d (il 0)]) ((RP (n+5)).bnd (FN (n+5) 41 [(RP (n+5)).ld y5 0,il 0]) [fun y8=>(RP (n+5)).cond ((RP (n+5)).ld y8 0) ((RP (n+5)).out 0 [.d (il 2)]) ((RP (n+5)).lenD ((RP (n+5)).ld y5 1) fun x9=>(RP (n+5)).bin .gtr false x9 (il 1) fun x10=>(RP (n+5)).cond x10 ((RP (n+5)).out 0 [.d (il 2)]) ((RP (n+5)).out 0 [.d (il 1)]))])])]=some (0,[.d (il (if (decide (q=[0])||!decide (-1∈r))=true then 0 else if 0∈q∨1 < r.length then 2 else 1))]):=by
   rintro z rfl
   simp only [r_bnd0,r_ld0,r_lds,r_cond,r_out,h41a,h41b,r_not,lenI,Option.getD_some,r_gtr,decide_eq_true_eq]
   by_cases e1:q=[0]
   ·simp [e1]
   ·by_cases e2:(-1:Int)∈r
    ·by_cases e3:(0:Int)∈q
     ·simp [e1,e2,e3]
     ·by_cases e4:1 < r.length
      ·have:(1:Int) < (r.length:Int):=by omega
       simp [e1,e2,e3,e4,this]
      ·have:¬ (1:Int) < (r.length:Int):=by omega
       simp [e1,e2,e3,e4,this]
    ·simp [e1,e2]
  cases q with
  | nil =>
   simp only [List.length_nil]
   rw [if_neg (by simp)]
   exact rest false (by simp)
  | cons v t =>
   cases t with
   | nil =>
    rw [if_pos (by simp),row0]
    simp only [rI,r_cell0,r_eql]
    exact rest (decide (v=0)) (by simp)
   | cons w t =>
    rw [if_neg (by simp;omega)]
    exact rest false (by simp)
end Go.VE
namespace Go.VE
open Go.RowKit Go.Proofs
def walkOf (a c:List E9) (o:List E5) (d p:Int):Int:=walkI (barB d p o) (homesL d p a) (awaysL d p c)
def byI (a c:List E9) (o:List E5) (d z:Int):Int:=if 0 < z then walkOf a c o d z else if z=0 then 0 else 1
set_option maxRecDepth 20000 in
theorem l85 (n:Nat) (a c:Option (List E9)) (o:Option (List E5)) (b:D) (d:Int) (hd:0≤d∧d≤4166) (ha:(a.getD []).length≤1000) (hc:(c.getD []).length≤1000) (ho:(o.getD []).length≤1000) (r:List Int) (hr:r.length≤100000) (m0:Bool) :
  loopR [L85_0 (RP (n+6))] M0 0 [.d (il d),.d (d9 a),.d b,.d (d9 c),.d (d5 o),.d (bl false),.d (bl m0),.d (dI (some r)),.d (il r.length),.d (il 0)] =
   some (0,[.d (bl (r.any fun z=>decide (byI (a.getD []) (c.getD []) (o.getD []) d z≠0))),.d (bl (m0||r.any fun z=>decide (byI (a.getD []) (c.getD []) (o.getD []) d z≠1)))]):=by
 have:=range_loop (β:=Bool×Bool) r (by omega) (L85_0 (RP (n+6))) (fun i s=>[.d (il d),.d (d9 a),.d b,.d (d9 c),.d (d5 o),.d (bl s.1),.d (bl s.2),.d (dI (some r)),.d (il r.length),.d (il i)]) (fun _ _=>True)
  (fun _ q s=>some (0,[.d (bl (s.1||q.any fun z=>decide (byI (a.getD []) (c.getD []) (o.getD []) d z≠0))),.d (bl (s.2||q.any fun z=>decide (byI (a.getD []) (c.getD []) (o.getD []) d z≠1)))]))
  (fun s k _=>by simp [L85_0]) ?_ M0 (false,m0) trivial (M0_big (by omega))
 ·simpa using this
 ·rintro i z q ⟨y,m⟩ k hi hd' hlt hw _ ih
  have hlt':(i:Int) < (r.length:Int):=by omega
  have hi':((some r).getD [])[i]?=some z:=hi
  have hb0:∀ x:Int,byI (a.getD []) (c.getD []) (o.getD []) d z=x→(some (0,[.d (bl (y||(z::q).any fun z=>decide (byI (a.getD []) (c.getD []) (o.getD []) d z≠0))),.d (bl (m||(z::q).any fun z=>decide (byI (a.getD []) (c.getD []) (o.getD []) d z≠1)))]):Out)=some (0,[.d (bl ((y||decide (x≠0))||q.any fun z=>decide (byI (a.getD []) (c.getD []) (o.getD []) d z≠0))),.d (bl ((m||decide (x≠1))||q.any fun z=>decide (byI (a.getD []) (c.getD []) (o.getD []) d z≠1)))]):=by
   intro x hx
   simp only [List.any_cons,hx,Bool.or_assoc]
  simp only [L85_0,r_ld0,r_lds,r_lss,r_cond,hlt',decide_true,if_true,rowI hi',rI,r_cell0,r_eql,r_liti,r_out,r_bnd_ite,r_bnd0,r_gtr,decide_eq_true_eq,r_call,s166 n a c o b d z hd ha hc ho,r_litb,r_neq,r_add,hw]
  by_cases h0:z=0
  ·have hx:byI (a.getD []) (c.getD []) (o.getD []) d z=0:=by simp [byI,h0]
   rw [hb0 0 hx,← ih ((y||decide ((0:Int)≠0)),(m||decide ((0:Int)≠1))) trivial]
   subst h0
   cases y<;>cases m<;>simp
  ·by_cases h1:0 < z
   ·have hx:byI (a.getD []) (c.getD []) (o.getD []) d z=walkOf (a.getD []) (c.getD []) (o.getD []) d z:=by simp [byI,h1]
    rw [hb0 _ hx,← ih ((y||decide (walkOf (a.getD []) (c.getD []) (o.getD []) d z≠0)),(m||decide (walkOf (a.getD []) (c.getD []) (o.getD []) d z≠1))) trivial]
    unfold walkOf
    generalize walkI (barB d z (o.getD [])) (homesL d z (a.getD [])) (awaysL d z (c.getD []))=w
    cases y<;>cases m<;>simp [h0,h1]
   ·have hx:byI (a.getD []) (c.getD []) (o.getD []) d z=1:=by simp [byI,h0,h1]
    rw [hb0 1 hx,← ih ((y||decide ((1:Int)≠0)),(m||decide ((1:Int)≠1))) trivial]
    cases y<;>cases m<;>simp [h0,h1]
end Go.VE
namespace Go.VE
open Go.RowKit Go.Proofs
def gleansI (a c:List E9) (o:List E5) (d who:Int):Int :=
 if (barB d who o||decide (homesL d who a=[0]))=true then 0 else ansB ((awaysL d who c).any fun z=>decide (byI a c o d z≠0)) (decide (0∈homesL d who a)||(awaysL d who c).any fun z=>decide (byI a c o d z≠1))
set_option maxRecDepth 20000 in
theorem s85 (n:Nat) (a c:Option (List E9)) (o:Option (List E5)) (b:D) (d who:Int) (hd:0≤d∧d≤4166) (ha:(a.getD []).length≤1000) (hc:(c.getD []).length≤1000) (ho:(o.getD []).length≤1000) :
  FN (n+7) 85 [d9 a,b,d9 c,d5 o,il who,il d]=some (0,[.d (il (gleansI (a.getD []) (c.getD []) (o.getD []) d who))]):=by
 rw [F85]
 have l1:=len_homes d who (a.getD [])
 have l2:=len_aways d who (c.getD [])
 have h165:=s165 (n+1) c (d9 a) b (d5 o) d who (by omega)
 have h85:=l85 n a c o b d hd ha hc ho (awaysL d who (c.getD [])) (by omega)
 simp only [G85,r_call,s78 (n+1) a b (d9 c) (d5 o) d who (by omega),s164 (n+5) (d9 a) b (d9 c) o d who hd (by omega),r_bnd0,r_ld0,r_cond,r_liti,r_out,lenI,Option.getD_some,r_eql,r_litb]
 unfold gleansI
 generalize homesL d who (a.getD [])=q at l1 ⊢
 generalize awaysL d who (c.getD [])=r at l2 h165 h85 ⊢
 have h41b:=s41 (n+5) (some q) 0 (by simp only [Option.getD_some];omega)
 simp only [Option.getD_some] at h41b
 cases barB d who (o.getD []) with
 | true=>simp
 | false =>
  have row0:∀ (v:Int) (t:List Int) (k:List D→Out),(RP (n+6)).rowD 1 (dI (some (v::t))) (il 0) k=k (rI v):=fun v t k=>by
   have:=rowI (Fn:=FN (n+6)) (FnD:=FnDof Tryz.prog (cf3 tb Tryz.prog) (FN (n+6))) (m:=M0) (o:=some (v::t)) (i:=0) (c:=v) rfl k
   exact this
  simp only [Bool.false_eq_true,if_false,Bool.false_or]
  cases q with
  | nil =>
   simp only [List.length_nil]
   rw [if_neg (by simp)]
   simp only [r_bnd0,r_ld0,r_lds,r_cond,Bool.false_eq_true,if_false,h41b,h165,lenI,Option.getD_some,r_loop,h85,s167]
   simp
  | cons v t =>
   cases t with
   | nil =>
    rw [if_pos (by simp),row0]
    simp only [rI,r_cell0,r_eql,r_bnd0,r_ld0,r_lds,r_cond,decide_eq_true_eq]
    by_cases hv:v=0
    ·subst hv;simp
    ·rw [if_neg hv]
     simp only [h41b,r_bnd0,r_ld0,r_lds,h165,lenI,Option.getD_some,r_loop,h85,s167]
     simp [hv]
   | cons w t =>
    rw [if_neg (by simp;omega)]
    simp only [r_bnd0,r_ld0,r_lds,r_cond,Bool.false_eq_true,if_false,h41b,h165,lenI,Option.getD_some,r_loop,h85,s167]
    simp
end Go.VE
namespace Go.VE
open Go.RowKit Go.Proofs
theorem askE_days {ok ps fs:Bool} {p f d k:Int} (h:askE ok ps fs p f [d,k]=0):(0≤d∧d≤4166)∧0≤k∧k≤4166:=by
 unfold askE at h
 split at h
 ·simp at h
 ·split at h
  ·simp at h
  ·split at h
   ·simp at h
   ·split at h
    ·simp at h
    ·rename_i hh
     simp only [List.any_cons,List.any_nil,Bool.or_false,Bool.or_eq_true,Bool.not_eq_true',decide_eq_false_iff_not,not_or,Decidable.not_not] at hh
     exact hh
set_option maxRecDepth 20000 in
theorem s19 (n:Nat) (p f d k:Int) (a b c:Option (List E9)) (o:Option (List E5)) (ha:(a.getD []).length*72≤140737488351232) (hb:(b.getD []).length*72≤140737488351232) (hc:(c.getD []).length*72≤140737488351232) (ho:(o.getD []).length*40≤140737488351232) :
  FN (n+9) 19 [d9 a,d9 b,d9 c,d5 o,il p,il f,il d,il k]=if askE (okKin (a.getD []) (b.getD []) (c.getD []) (o.getD [])) true true p 1 [d,k]=0 then some (0,[.d (il (gleansI (cnt9 k (a.getD [])) (cnt9 k (c.getD [])) (cnt5 k (o.getD [])) d p)),.d (il 0)]) else some (0,[.d (il 0),.d (il (askE (okKin (a.getD []) (b.getD []) (c.getD []) (o.getD [])) true true p 1 [d,k]))]):=by
 rw [F19]
 have h76:=s76 (n+2) p 1 d k a b c o ha hb hc ho
 simp only [G19,r_call,r_litb,s77,r_bnd0,r_ld0,r_lds,if_true,Bool.false_eq_true,if_false,h76,r_liti]
 by_cases he:askE (okKin (a.getD []) (b.getD []) (c.getD []) (o.getD [])) true true p 1 [d,k]=0
 ·rw [if_pos he,if_pos he]
  obtain ⟨h1,_,h3,h4⟩:=okKin_len (askE_ok he)
  have c1:((nzO (cnt9 k (a.getD []))).getD []).length≤1000:=by rw [nzO_getD];have:=List.length_filter_le (fun e=>cnts e.kn e.un k) (a.getD []);unfold cnt9;omega
  have c3:((nzO (cnt9 k (c.getD []))).getD []).length≤1000:=by rw [nzO_getD];have:=List.length_filter_le (fun e=>cnts e.kn e.un k) (c.getD []);unfold cnt9;omega
  have c4:((nzO (cnt5 k (o.getD []))).getD []).length≤1000:=by rw [nzO_getD];have:=List.length_filter_le (fun e=>cnts e.kn e.un k) (o.getD []);unfold cnt5;omega
  simp only [r_bnd0,r_ld0,r_lds,r_neq,ne_eq,not_true_eq_false,decide_false,r_cond,Bool.false_eq_true,if_false,s85 (n+1) _ _ _ _ d p (askE_days he).1 c1 c3 c4,nzO_getD,r_out]
 ·rw [if_neg he,if_neg he]
  simp only [nil5,r_bnd0,r_ld0,r_lds,r_neq,r_cond]
  rw [if_pos (by simpa using he)]
  simp
end Go.VE
namespace Go.VE
open Go.RowKit Go.Proofs
def insAll (acc l:List Int):List Int:=l.foldl (fun acc x=>ins x acc) acc
theorem insAll_cons (acc:List Int) (x:Int) (l:List Int):insAll acc (x::l)=insAll (ins x acc) l:=rfl
theorem up_insAll:∀ (l:List Int) {acc:List Int},Up acc→Up (insAll acc l)
 | [],_,h=>h
 | x::l,_,h=>up_insAll l (up_ins x h)
theorem mem_insAll (z:Int):∀ (l acc:List Int),z∈insAll acc l↔z∈acc∨z∈l
 | [],acc=>by simp [insAll]
 | x::l,acc=>by
  rw [insAll_cons,mem_insAll z l,mem_ins,List.mem_cons]
  constructor
  ·rintro ((h | h) | h)
   ·exact .inr (.inl h)
   ·exact .inl h
   ·exact .inr (.inr h)
  ·rintro (h | h | h)
   ·exact .inl (.inr h)
   ·exact .inl (.inl h)
   ·exact .inr h
theorem len_insAll:∀ (l acc:List Int),(insAll acc l).length≤acc.length+l.length
 | [],acc=>by simp [insAll]
 | x::l,acc=>by
  have h1:=len_insAll l (ins x acc)
  have h2:=ins_len x acc
  rw [insAll_cons];simp only [List.length_cons];omega
def leadB (L:Int→List Int) (f:Int):List (Option Int)→List Int→List Int
 | [],acc=>acc
 | none::os,acc=>leadB L f os (ins f acc)
 | some w::os,acc=>leadB L f os (insAll acc (L w))
theorem leadB_congr {L M:Int→List Int} (f:Int):∀ {os:List (Option Int)} (acc:List Int),(∀ w,some w∈os→L w=M w)→leadB L f os acc=leadB M f os acc
 | [],_,_=>rfl
 | none::os,acc,h=>leadB_congr f (os:=os) _ fun w hw=>h w (List.mem_cons_of_mem _ hw)
 | some w::os,acc,h=>by
  rw [leadB,leadB,h w (by simp)]
  exact leadB_congr f (os:=os) _ fun w hw=>h w (List.mem_cons_of_mem _ hw)
theorem up_leadB (L:Int→List Int) (f:Int):∀ (os:List (Option Int)) {acc:List Int},Up acc→Up (leadB L f os acc)
 | [],_,h=>h
 | none::os,_,h=>up_leadB L f os (up_ins f h)
 | some _::os,_,h=>up_leadB L f os (up_insAll _ h)
theorem mem_leadB (L:Int→List Int) (f z:Int):∀ (os:List (Option Int)) (acc:List Int),z∈leadB L f os acc↔z∈acc∨(none∈os∧z=f)∨∃ w,some w∈os∧z∈L w
 | [],acc=>by simp [leadB]
 | none::os,acc=>by
  rw [leadB,mem_leadB L f z os,mem_ins]
  constructor
  ·rintro ((h | h) | ⟨h1,h2⟩ | ⟨w,hw,h⟩)
   ·exact .inr (.inl ⟨by simp,h⟩)
   ·exact .inl h
   ·exact .inr (.inl ⟨by simp,h2⟩)
   ·exact .inr (.inr ⟨w,by simp [hw],h⟩)
  ·rintro (h | ⟨_,h⟩ | ⟨w,hw,h⟩)
   ·exact .inl (.inr h)
   ·exact .inl (.inl h)
   ·exact .inr (.inr ⟨w,by simpa using hw,h⟩)
 | some v::os,acc=>by
  rw [leadB,mem_leadB L f z os,mem_insAll]
  constructor
  ·rintro ((h | h) | ⟨h1,h2⟩ | ⟨w,hw,h⟩)
   ·exact .inl h
   ·exact .inr (.inr ⟨v,by simp,h⟩)
   ·exact .inr (.inl ⟨by simp [h1],h2⟩)
   ·exact .inr (.inr ⟨w,by simp [hw],h⟩)
  ·rintro (h | ⟨h1,h⟩ | ⟨w,hw,h⟩)
   ·exact .inl (.inl h)
   ·exact .inr (.inl ⟨by simpa using h1,h⟩)
   ·rcases List.mem_cons.1 hw with e | hw
    ·cases e;exact .inl (.inr h)
    ·exact .inr (.inr ⟨w,hw,h⟩)
def leadL (d:Int) (l:List E9):Nat→Int→List Int
 | 0,_=>[]
 | n+1,f=>leadB (leadL d l n) f (opts d f (below l l.length)) []
def leadsL (d:Int) (l:List E9) (f:Int):List Int:=leadL d l f.toNat f
def Less (l:List E9):Prop:=∀ e∈l,1≤e.b∧e.b < e.a∧e.a≤99
theorem opts_mem (d who:Int):∀ (l:List E9) (w:Int),some w∈opts d who l→∃ e∈l,e.a=who∧e.b=w∧mayB e.f1 e.t2 d=true
 | [],w,h=>by simp [opts] at h
 | e::r,w,h=>by
  simp only [opts] at h
  split at h
  ·rename_i h1
   rcases List.mem_cons.1 h with h | h
   ·cases h;exact ⟨e,by simp,h1.1,rfl,h1.2⟩
   ·split at h
    ·simp at h
    ·obtain ⟨e',h2,h3⟩:=opts_mem d who r w h
     exact ⟨e',by simp [h2],h3⟩
  ·obtain ⟨e',h2,h3⟩:=opts_mem d who r w h
   exact ⟨e',by simp [h2],h3⟩
theorem opts_ne (d who:Int):∀ l:List E9,opts d who l≠[]
 | []=>by simp [opts]
 | e::r=>by
  simp only [opts]
  split
  ·simp
  ·exact opts_ne d who r
theorem mem_below {l:List E9} {m:Nat} {e:E9} (h:e∈below l m):e∈l:=by
 unfold below at h
 exact List.mem_of_mem_take (List.mem_reverse.1 h)
theorem opts_less {d f:Int} {l:List E9} {m:Nat} (hl:Less l) {w:Int} (h:some w∈opts d f (below l m)):1≤w∧w < f∧f≤99:=by
 obtain ⟨e,he,h1,h2,_⟩:=opts_mem _ _ _ _ h
 have:=hl e (mem_below he)
 omega
theorem leadL_eq {d:Int} {l:List E9} (hl:Less l):∀ (n:Nat) (f:Int),1≤f→f.toNat≤n→leadL d l n f=leadsL d l f:=by
 intro n
 induction n using Nat.strongRecOn with
 | _ n ih =>
  intro f h1 h2
  cases n with
  | zero=>omega
  | succ n =>
   unfold leadsL
   obtain ⟨m,hm⟩:∃ m,f.toNat=m+1:=⟨f.toNat - 1,by omega⟩
   rw [hm,leadL,leadL]
   refine leadB_congr f _ fun w hw=>?_
   have:=opts_less hl hw
   rw [ih n (by omega) w this.1 (by omega),ih m (by omega) w this.1 (by omega)]
theorem leadsL_eq {d:Int} {l:List E9} (hl:Less l) {f:Int} (h1:1≤f):leadsL d l f=leadB (leadsL d l) f (opts d f (below l l.length)) []:=by
 obtain ⟨m,hm⟩:∃ m,f.toNat=m+1:=⟨f.toNat - 1,by omega⟩
 unfold leadsL
 rw [hm,leadL]
 refine leadB_congr f _ fun w hw=>?_
 have:=opts_less hl hw
 exact leadL_eq hl m w this.1 (by omega)
theorem up_leadsL (d:Int) (l:List E9) (f:Int):Up (leadsL d l f):=by
 unfold leadsL
 cases f.toNat with
 | zero=>simp [leadL]
 | succ m=>exact up_leadB _ _ _ (by simp)
theorem mem_leadsL {d:Int} {l:List E9} (hl:Less l) {f z:Int} (h1:1≤f):z∈leadsL d l f↔(none∈opts d f (below l l.length)∧z=f)∨∃ w,some w∈opts d f (below l l.length)∧z∈leadsL d l w:=by
 rw [leadsL_eq hl h1,mem_leadB];simp
theorem leadsL_range {d:Int} {l:List E9} (hl:Less l):∀ (n:Nat) (f z:Int),f.toNat≤n→1≤f→z∈leadsL d l f→1≤z∧z≤f:=by
 intro n
 induction n with
 | zero=>intro f z h1 h2;omega
 | succ n ih =>
  intro f z h1 h2 h
  rcases (mem_leadsL hl h2).1 h with ⟨_,rfl⟩ | ⟨w,hw,h⟩
  ·exact ⟨h2,Int.le_refl _⟩
  ·have:=opts_less hl hw
   have:=ih w z (by omega) this.1 h
   omega
theorem leadsL_ne {d:Int} {l:List E9} (hl:Less l):∀ (n:Nat) (f:Int),f.toNat≤n→1≤f→∃ z,z∈leadsL d l f:=by
 intro n
 induction n with
 | zero=>intro f h1 h2;omega
 | succ n ih =>
  intro f h1 h2
  have hne:=opts_ne d f (below l l.length)
  revert hne
  generalize hq:opts d f (below l l.length)=q
  intro hne
  cases q with
  | nil=>exact absurd rfl hne
  | cons o os =>
   cases o with
   | none=>exact ⟨f,(mem_leadsL hl h2).2 (.inl ⟨by rw [hq];simp,rfl⟩)⟩
   | some w =>
    have hw:some w∈opts d f (below l l.length):=by rw [hq];simp
    have:=opts_less hl hw
    obtain ⟨z,hz⟩:=ih w (by omega) this.1
    exact ⟨z,(mem_leadsL hl h2).2 (.inr ⟨w,hw,hz⟩)⟩
theorem up_len:∀ (l:List Int) (a b:Int),Up l→(∀ z∈l,a≤z∧z≤b)→(l.length:Int)≤max 0 (b - a+1)
 | [],a,b,_,_=>by simp;omega
 | x::l,a,b,hu,h=>by
  rw [Up,List.pairwise_cons] at hu
  have hx:=h x (by simp)
  have:=up_len l (x+1) b hu.2 fun z hz=>⟨by have:=hu.1 z hz;omega,(h z (by simp [hz])).2⟩
  simp only [List.length_cons,Int.natCast_add,Int.natCast_one]
  omega
theorem len_leadsL {d:Int} {l:List E9} (hl:Less l) {f:Int} (h1:1≤f):((leadsL d l f).length:Int)≤f:=by
 have:=up_len _ 1 f (up_leadsL d l f) fun z hz=>leadsL_range hl _ f z (Nat.le_refl _) h1 hz
 omega
end Go.VE
namespace Go.VE
open Go.RowKit Go.Proofs
def walkP (a c:List E9) (o:List E5) (d p:Int):Bool×Bool:=if barB d p o=true then (false,true) else
 (((opts d p (below a a.length)).any fun x=>decide (f0 x≠0))&&(opts d p (below c c.length)).any Option.isNone,((opts d p (below a a.length)).any fun x=>decide (f0 x=0))||(opts d p (below c c.length)).any Option.isSome)
def goStep (W:Int→Bool×Bool):Option Int→Bool×Bool
 | none=>(true,false)
 | some z=>if z=0 then (false,true) else W z
def goP (a c:List E9) (o:List E5) (d p:Int):Bool×Bool:=if barB d p o=true then (false,true) else
 ((opts d p (below c c.length)).any fun x=>(goStep (walkP a c o d) x).1,(opts d p (below c c.length)).any fun x=>(goStep (walkP a c o d) x).2)
def famStep (L:Int→List Int) (yes no:Bool) (x:Option Int) (acc:List Int):List Int :=
 if f0 x=0∨yes=false then (if f0 x=0∨no=true then ins 0 acc else acc) else insAll (if f0 x=0∨no=true then ins 0 acc else acc) (L (f0 x))
def famB (L:Int→List Int) (yes no:Bool):List (Option Int)→List Int→List Int
 | [],acc=>acc
 | x::os,acc=>famB L yes no os (famStep L yes no x acc)
def famP (a b c:List E9) (o:List E5) (d p:Int):List Int:=famB (leadsL d b) (goP a c o d p).1 (goP a c o d p).2 (opts d p (below a a.length)) []
def famRB (L:Int→List Int):List Int→List Int→List Int
 | [],acc=>acc
 | h::r,acc=>famRB L r (if h=0 then acc else insAll acc (L h))
def famR (a b c:List E9) (o:List E5) (d p:Int):List Int :=
 if gleansI a c o d p=0 then ins 0 [] else famRB (leadsL d b) (homesL d p a) (if gleansI a c o d p=1 then [] else ins 0 [])
theorem up_famStep (L:Int→List Int) (yes no:Bool) (x:Option Int) {acc:List Int} (h:Up acc):Up (famStep L yes no x acc):=by
 unfold famStep
 have h1:Up (if f0 x=0∨no=true then ins 0 acc else acc):=by split;exact up_ins 0 h;exact h
 split
 ·exact h1
 ·exact up_insAll _ h1
theorem up_famB (L:Int→List Int) (yes no:Bool):∀ (os:List (Option Int)) {acc:List Int},Up acc→Up (famB L yes no os acc)
 | [],_,h=>h
 | x::os,_,h=>up_famB L yes no os (up_famStep L yes no x h)
theorem up_famP (a b c:List E9) (o:List E5) (d p:Int):Up (famP a b c o d p):=up_famB _ _ _ _ (by simp)
theorem mem_famStep (L:Int→List Int) (yes no:Bool) (x:Option Int) (acc:List Int) (z:Int):z∈famStep L yes no x acc↔z∈acc∨(z=0∧(f0 x=0∨no=true))∨(yes=true∧f0 x≠0∧z∈L (f0 x)):=by
 unfold famStep
 by_cases h0:f0 x=0
 ·simp only [h0,true_or,if_true,mem_ins,and_true,ne_eq,not_true_eq_false,false_and,and_false,or_false]
  exact Or.comm
 ·cases yes with
  | false =>
   cases no with
   | false=>simp [h0]
   | true=>simp [h0,mem_ins];exact Or.comm
  | true =>
   cases no with
   | false=>simp [h0,mem_insAll]
   | true =>
    simp only [h0,false_or,Bool.true_eq_false,if_false,if_true,mem_insAll,mem_ins,and_true,true_and,ne_eq,not_false_eq_true]
    constructor
    ·rintro ((h | h) | h)
     ·exact .inr (.inl h)
     ·exact .inl h
     ·exact .inr (.inr h)
    ·rintro (h | h | h)
     ·exact .inl (.inr h)
     ·exact .inl (.inl h)
     ·exact .inr h
theorem mem_famB (L:Int→List Int) (yes no:Bool) (z:Int):∀ (os:List (Option Int)) (acc:List Int),z∈famB L yes no os acc↔z∈acc∨(z=0∧∃ x∈os,f0 x=0∨no=true)∨(yes=true∧∃ x∈os,f0 x≠0∧z∈L (f0 x))
 | [],acc=>by simp [famB]
 | x::os,acc=>by
  rw [famB,mem_famB L yes no z os,mem_famStep]
  constructor
  ·rintro ((h | ⟨h1,h2⟩ | ⟨h1,h2,h3⟩) | ⟨h1,y,hy,h2⟩ | ⟨h1,y,hy,h2⟩)
   ·exact .inl h
   ·exact .inr (.inl ⟨h1,x,by simp,h2⟩)
   ·exact .inr (.inr ⟨h1,x,by simp,h2,h3⟩)
   ·exact .inr (.inl ⟨h1,y,by simp [hy],h2⟩)
   ·exact .inr (.inr ⟨h1,y,by simp [hy],h2⟩)
  ·rintro (h | ⟨h1,y,hy,h2⟩ | ⟨h1,y,hy,h2⟩)
   ·exact .inl (.inl h)
   ·rcases List.mem_cons.1 hy with rfl | hy
    ·exact .inl (.inr (.inl ⟨h1,h2⟩))
    ·exact .inr (.inl ⟨h1,y,hy,h2⟩)
   ·rcases List.mem_cons.1 hy with rfl | hy
    ·exact .inl (.inr (.inr ⟨h1,h2⟩))
    ·exact .inr (.inr ⟨h1,y,hy,h2⟩)
theorem up_famRB (L:Int→List Int):∀ (r:List Int) {acc:List Int},Up acc→Up (famRB L r acc)
 | [],_,h=>h
 | x::r,acc,h=>up_famRB L r (by split;exact h;exact up_insAll _ h)
theorem mem_famRB (L:Int→List Int) (z:Int):∀ (r acc:List Int),z∈famRB L r acc↔z∈acc∨∃ h∈r,h≠0∧z∈L h
 | [],acc=>by simp [famRB]
 | x::r,acc=>by
  rw [famRB,mem_famRB L z r]
  have e:z∈(if x=0 then acc else insAll acc (L x))↔z∈acc∨(x≠0∧z∈L x):=by
   by_cases h:x=0
   ·simp [h]
   ·simp [h,mem_insAll]
  rw [e]
  constructor
  ·rintro ((h | ⟨h1,h2⟩) | ⟨y,hy,h⟩)
   ·exact .inl h
   ·exact .inr ⟨x,by simp,h1,h2⟩
   ·exact .inr ⟨y,by simp [hy],h⟩
  ·rintro (h | ⟨y,hy,h⟩)
   ·exact .inl (.inl h)
   ·rcases List.mem_cons.1 hy with rfl | hy
    ·exact .inl (.inr h)
    ·exact .inr ⟨y,hy,h⟩
theorem up_famR (a b c:List E9) (o:List E5) (d p:Int):Up (famR a b c o d p):=by
 unfold famR
 split
 ·simp [ins]
 ·exact up_famRB _ _ (by split<;>simp [ins])
theorem mem_homesL (d p z:Int) (a:List E9):z∈homesL d p a↔∃ x∈opts d p (below a a.length),z=f0 x:=by
 unfold homesL;rw [mem_putAll];simp
theorem mem_awaysL (d p z:Int) (c:List E9):z∈awaysL d p c↔∃ x∈opts d p (below c c.length),z=fm x:=by
 unfold awaysL;rw [mem_putAll];simp
theorem any_iff {α:Type} (p:α→Bool) (l:List α):l.any p=true↔∃ x∈l,p x=true:=List.any_eq_true
def By0 (c:List E9):Prop:=∀ e∈c,0≤e.b
theorem by0_opt {d p:Int} {c:List E9} (hc:By0 c) {m:Nat} {w:Int} (h:some w∈opts d p (below c m)):0≤w:=by
 obtain ⟨e,he,_,h2,_⟩:=opts_mem _ _ _ _ h
 have:=hc e (mem_below he)
 omega
theorem two_len {l:List Int} {x:Int} (hx:x∈l) (hu:Up l):1 < l.length↔∃ z∈l,z≠x:=by
 cases l with
 | nil=>simp at hx
 | cons u r =>
  cases r with
  | nil =>
   simp at hx;subst hx
   constructor
   ·intro h;simp at h
   ·rintro ⟨z,hz,h⟩;simp at hz;exact absurd hz h
  | cons v r =>
   refine ⟨fun _=>?_,fun _=>by simp⟩
   rw [Up,List.pairwise_cons] at hu
   have:=hu.1 v (by simp)
   by_cases h:u=x
   ·exact ⟨v,by simp,by omega⟩
   ·exact ⟨u,by simp,h⟩
theorem one_eq {l:List Int} {x:Int} (hu:Up l) (hne:∃ z,z∈l):l=[x]↔∀ z∈l,z=x:=by
 constructor
 ·rintro rfl z hz;simpa using hz
 ·intro h
  refine up_ext hu (by simp) fun z=>?_
  obtain ⟨y,hy⟩:=hne
  have:=h y hy;subst this
  constructor
  ·intro hz;simp [h z hz]
  ·intro hz;simp at hz;subst hz;exact hy
theorem homes_ne (d p:Int) (a:List E9):∃ z,z∈homesL d p a:=by
 have:=opts_ne d p (below a a.length)
 cases hq:opts d p (below a a.length) with
 | nil=>exact absurd hq this
 | cons x q=>exact ⟨f0 x,(mem_homesL ..).2 ⟨x,by rw [hq];simp,rfl⟩⟩
theorem aways_none {d p:Int} {c:List E9} (hc:By0 c):-1∈awaysL d p c↔none∈opts d p (below c c.length):=by
 rw [mem_awaysL]
 constructor
 ·rintro ⟨x,hx,h⟩
  cases x with
  | none=>exact hx
  | some w=>have:=by0_opt hc hx;simp [fm] at h;omega
 ·intro h;exact ⟨none,h,rfl⟩
theorem aways_some {d p:Int} {c:List E9} (hc:By0 c):(∃ z∈awaysL d p c,z≠-1)↔∃ w,some w∈opts d p (below c c.length):=by
 constructor
 ·rintro ⟨z,hz,h⟩
  obtain ⟨x,hx,rfl⟩:=(mem_awaysL ..).1 hz
  cases x with
  | none=>simp [fm] at h
  | some w=>exact ⟨w,hx⟩
 ·rintro ⟨w,hw⟩
  have:=by0_opt hc hw
  exact ⟨w,(mem_awaysL ..).2 ⟨some w,hw,rfl⟩,by omega⟩
theorem isSome_any (l:List (Option Int)):l.any Option.isSome=true↔∃ w,some w∈l:=by
 rw [any_iff]
 constructor
 ·rintro ⟨x,hx,h⟩;cases x with
  | none=>simp at h
  | some w=>exact ⟨w,hx⟩
 ·rintro ⟨w,h⟩;exact ⟨_,h,rfl⟩
theorem isNone_any (l:List (Option Int)):l.any Option.isNone=true↔none∈l:=by
 rw [any_iff]
 constructor
 ·rintro ⟨x,hx,h⟩;cases x with
  | none=>exact hx
  | some w=>simp at h
 ·intro h;exact ⟨_,h,rfl⟩
theorem walkP_no (a c:List E9) (o:List E5) (d p:Int) (h:(walkP a c o d p).1=false):(walkP a c o d p).2=true:=by
 revert h
 unfold walkP
 split
 ·intro _;rfl
 ·simp only
  intro h
  rw [Bool.and_eq_false_iff] at h
  rw [Bool.or_eq_true]
  rcases h with h | h
  ·left
   obtain ⟨z,hz⟩:=homes_ne d p a
   obtain ⟨x,hx,rfl⟩:=(mem_homesL ..).1 hz
   have h3:=(List.any_eq_false.1 h) x hx
   exact (any_iff _ _).2 ⟨x,hx,by simpa using h3⟩
  ·right
   have:=opts_ne d p (below c c.length)
   rw [isSome_any]
   cases hq:opts d p (below c c.length) with
   | nil=>exact absurd hq this
   | cons x q =>
    rw [hq] at h
    cases x with
    | none=>simp at h
    | some w=>exact ⟨w,by simp⟩
theorem walk_eq (a c:List E9) (o:List E5) (d p:Int) (hc:By0 c):walkOf a c o d p=ansB (walkP a c o d p).1 (walkP a c o d p).2:=by
 unfold walkOf walkI walkP
 cases hb:barB d p o with
 | true=>simp [ansB]
 | false =>
  simp only [Bool.false_or,Bool.false_eq_true,if_false]
  have e1:homesL d p a=[0]↔((opts d p (below a a.length)).any fun x=>decide (f0 x≠0))=false:=by
   rw [one_eq (up_homes ..) (homes_ne ..),List.any_eq_false]
   constructor
   ·intro h x hx;have:=h _ ((mem_homesL ..).2 ⟨x,hx,rfl⟩);simp [this]
   ·intro h z hz
    obtain ⟨x,hx,rfl⟩:=(mem_homesL ..).1 hz
    have:=h x hx;simpa using this
  have e2:0∈homesL d p a↔((opts d p (below a a.length)).any fun x=>decide (f0 x=0))=true:=by
   rw [mem_homesL,any_iff]
   constructor
   ·rintro ⟨x,hx,h⟩;exact ⟨x,hx,by simp [←h]⟩
   ·rintro ⟨x,hx,h⟩;exact ⟨x,hx,by simpa using (of_decide_eq_true h).symm⟩
  have e3:-1∈awaysL d p c↔(opts d p (below c c.length)).any Option.isNone=true:=by rw [aways_none hc,isNone_any]
  have e4:-1∈awaysL d p c→(1 < (awaysL d p c).length↔(opts d p (below c c.length)).any Option.isSome=true):=fun h=>by
   rw [two_len h (up_aways ..),aways_some hc,isSome_any]
  revert e1 e2 e3 e4
  generalize (opts d p (below a a.length)).any (fun x=>decide (f0 x≠0))=q1
  generalize (opts d p (below a a.length)).any (fun x=>decide (f0 x=0))=q2
  generalize (opts d p (below c c.length)).any Option.isNone=q3
  generalize (opts d p (below c c.length)).any Option.isSome=q4
  intro e1 e2 e3 e4
  cases q1 with
  | false=>simp [e1.2 rfl,ansB]
  | true =>
   have n1:¬ homesL d p a=[0]:=fun h=>by have:=e1.1 h;cases this
   cases q3 with
   | false =>
    have n3:¬ -1∈awaysL d p c:=fun h=>by have:=e3.1 h;cases this
    simp [n1,n3,ansB]
   | true =>
    have n3:=e3.2 rfl
    have e4:=e4 n3
    rw [if_neg (by simp [n1,n3])]
    by_cases h2:0∈homesL d p a
    ·have:=e2.1 h2;subst this
     rw [if_pos (.inl h2)];simp [ansB]
    ·have:q2=false:=by cases q2;rfl;exact absurd (e2.2 rfl) h2
     subst this
     cases q4 with
     | true=>rw [if_pos (.inr (e4.2 rfl))];simp [ansB]
     | false =>
      rw [if_neg]
      ·simp [ansB]
      ·rintro (h | h)
       ·exact h2 h
       ·have:=e4.1 h;cases this
theorem ansB_ne (y n:Bool):ansB y n≠0↔y=true:=by cases y<;>cases n<;>simp [ansB]
theorem ansB_one (y n:Bool):ansB y n≠1↔(y=false∨n=true):=by cases y<;>cases n<;>simp [ansB]
theorem byI_step (a c:List E9) (o:List E5) (d:Int) (hc:By0 c) (x:Option Int) (hx:∀ w,x=some w→0≤w):(byI a c o d (fm x)≠0↔(goStep (walkP a c o d) x).1=true)∧(byI a c o d (fm x)≠1↔(goStep (walkP a c o d) x).2=true):=by
 cases x with
 | none=>simp [byI,fm,goStep]
 | some w =>
  have:=hx w rfl
  by_cases h:w=0
  ·subst h;simp [byI,fm,goStep]
  ·have h2:0 < w:=by omega
   simp only [byI,fm,Option.getD_some,h2,if_true,goStep,h,if_false]
   rw [walk_eq a c o d w hc,ansB_ne,ansB_one]
   refine ⟨Iff.rfl,⟨fun h=>?_,fun h=>.inr h⟩⟩
   rcases h with h | h
   ·exact walkP_no _ _ _ _ _ h
   ·exact h
theorem any_by (a c:List E9) (o:List E5) (d p:Int) (hc:By0 c):((awaysL d p c).any fun z=>decide (byI a c o d z≠0))=((opts d p (below c c.length)).any fun x=>(goStep (walkP a c o d) x).1)∧((awaysL d p c).any fun z=>decide (byI a c o d z≠1))=((opts d p (below c c.length)).any fun x=>(goStep (walkP a c o d) x).2):=by
 have key:∀ x∈opts d p (below c c.length),∀ w,x=some w→0≤w:=fun x hx w h=>by subst h;exact by0_opt hc hx
 constructor
 ·rw [Bool.eq_iff_iff,any_iff,any_iff]
  constructor
  ·rintro ⟨z,hz,h⟩
   obtain ⟨x,hx,rfl⟩:=(mem_awaysL ..).1 hz
   exact ⟨x,hx,(byI_step a c o d hc x (key x hx)).1.1 (by simpa using h)⟩
  ·rintro ⟨x,hx,h⟩
   exact ⟨fm x,(mem_awaysL ..).2 ⟨x,hx,rfl⟩,by simpa using (byI_step a c o d hc x (key x hx)).1.2 h⟩
 ·rw [Bool.eq_iff_iff,any_iff,any_iff]
  constructor
  ·rintro ⟨z,hz,h⟩
   obtain ⟨x,hx,rfl⟩:=(mem_awaysL ..).1 hz
   exact ⟨x,hx,(byI_step a c o d hc x (key x hx)).2.1 (by simpa using h)⟩
  ·rintro ⟨x,hx,h⟩
   exact ⟨fm x,(mem_awaysL ..).2 ⟨x,hx,rfl⟩,by simpa using (byI_step a c o d hc x (key x hx)).2.2 h⟩
theorem goP_no (a c:List E9) (o:List E5) (d p:Int) (h:(goP a c o d p).1=false):(goP a c o d p).2=true:=by
 revert h
 unfold goP
 split
 ·intro _;rfl
 ·simp only
  intro h
  have:=opts_ne d p (below c c.length)
  cases hq:opts d p (below c c.length) with
  | nil=>exact absurd hq this
  | cons x q =>
   rw [hq] at h
   have h1:=List.any_eq_false.1 h x (by simp)
   have h2:(goStep (walkP a c o d) x).2=true:=by
    cases x with
    | none=>simp [goStep] at h1
    | some w =>
     simp only [goStep] at h1 ⊢
     split
     ·rfl
     ·rename_i hw
      rw [if_neg hw] at h1
      exact walkP_no _ _ _ _ _ (by simpa using h1)
   exact (any_iff _ _).2 ⟨x,by simp,h2⟩
theorem gleans_eq (a c:List E9) (o:List E5) (d p:Int) (hc:By0 c):gleansI a c o d p=ansB ((goP a c o d p).1&&!decide (homesL d p a=[0])) ((goP a c o d p).2||decide (0∈homesL d p a)):=by
 unfold gleansI goP
 cases hb:barB d p o with
 | true=>simp [ansB]
 | false =>
  simp only [Bool.false_or,Bool.false_eq_true,if_false]
  rw [(any_by a c o d p hc).1,(any_by a c o d p hc).2]
  by_cases h:homesL d p a=[0]
  ·simp [h,ansB]
  ·simp [h,Bool.or_comm]
theorem mem_famP {a b c:List E9} {o:List E5} {d p z:Int}:z∈famP a b c o d p↔(z=0∧(0∈homesL d p a∨(goP a c o d p).2=true))∨((goP a c o d p).1=true∧∃ h∈homesL d p a,h≠0∧z∈leadsL d b h):=by
 unfold famP
 rw [mem_famB]
 simp only [List.not_mem_nil,false_or]
 constructor
 ·rintro (⟨h1,x,hx,h2⟩ | ⟨h1,x,hx,h2,h3⟩)
  ·refine .inl ⟨h1,?_⟩
   rcases h2 with h2 | h2
   ·exact .inl ((mem_homesL ..).2 ⟨x,hx,h2.symm⟩)
   ·exact .inr h2
  ·exact .inr ⟨h1,f0 x,(mem_homesL ..).2 ⟨x,hx,rfl⟩,h2,h3⟩
 ·rintro (⟨h1,h2⟩ | ⟨h1,h,hh,h2,h3⟩)
  ·refine .inl ⟨h1,?_⟩
   rcases h2 with h2 | h2
   ·obtain ⟨x,hx,h2⟩:=(mem_homesL ..).1 h2
    exact ⟨x,hx,.inl h2.symm⟩
   ·obtain ⟨z,hz⟩:=homes_ne d p a
    obtain ⟨x,hx,_⟩:=(mem_homesL ..).1 hz
    exact ⟨x,hx,.inr h2⟩
  ·obtain ⟨x,hx,rfl⟩:=(mem_homesL ..).1 hh
   exact .inr ⟨h1,x,hx,h2,h3⟩
theorem homes0 {d p:Int} {a:List E9}:homesL d p a=[0]↔∀ h∈homesL d p a,h=0:=one_eq (up_homes ..) (homes_ne ..)
theorem fam_eq (a b c:List E9) (o:List E5) (d p:Int) (hc:By0 c):famP a b c o d p=famR a b c o d p:=by
 refine up_ext (up_famP ..) (up_famR ..) fun z=>?_
 rw [mem_famP]
 unfold famR
 have hg:=gleans_eq a c o d p hc
 have hno:=goP_no a c o d p
 by_cases h0:gleansI a c o d p=0
 ·rw [if_pos h0]
  have h1:((goP a c o d p).1&&!decide (homesL d p a=[0]))=false:=by
   cases hq:((goP a c o d p).1&&!decide (homesL d p a=[0]))
   ·rfl
   ·rw [hq] at hg;rw [h0] at hg;exfalso;revert hg;cases ((goP a c o d p).2||decide (0∈homesL d p a))<;>simp [ansB]
  simp only [ins,List.mem_singleton]
  rw [Bool.and_eq_false_iff] at h1
  rcases h1 with h1 | h1
  ·simp [h1,hno h1]
  ·have h2:homesL d p a=[0]:=by simpa using h1
   simp [h2]
 ·rw [if_neg h0,mem_famRB]
  have h1:(goP a c o d p).1=true∧¬ homesL d p a=[0]:=by
   cases hq:((goP a c o d p).1&&!decide (homesL d p a=[0]))
   ·rw [hq] at hg;exact absurd (by rw [hg];simp [ansB]) h0
   ·simpa using hq
  have h2:gleansI a c o d p=1↔¬ (0∈homesL d p a∨(goP a c o d p).2=true):=by
   rw [hg]
   simp only [h1.1,h1.2,decide_false,Bool.not_false,Bool.and_self]
   cases hq:((goP a c o d p).2||decide (0∈homesL d p a)) with
   | false =>
    rw [Bool.or_eq_false_iff] at hq
    simp [ansB,hq.1];simpa using hq.2
   | true =>
    rw [Bool.or_eq_true] at hq
    simp only [ansB,if_true]
    constructor
    ·intro h;simp at h
    ·intro h;exfalso;apply h;rcases hq with hq | hq
     ·exact .inr hq
     ·exact .inl (of_decide_eq_true hq)
  by_cases h3:0∈homesL d p a∨(goP a c o d p).2=true
  ·rw [if_neg (fun h=>h2.1 h h3)]
   simp only [h3,and_true,h1.1,true_and,ins,List.mem_singleton]
  ·rw [if_pos (h2.2 h3)]
   simp only [h3,and_false,h1.1,true_and,List.not_mem_nil,false_or]
end Go.VE
namespace Go.VE
open Go.RowKit Go.Proofs
def Fam1 (a:List E9):Prop:=∀ e∈a,1≤e.b∧e.b≤99
theorem homes_range {d p:Int} {a:List E9} (ha:Fam1 a) {h:Int} (hh:h∈homesL d p a):0≤h∧h≤99:=by
 obtain ⟨x,hx,rfl⟩:=(mem_homesL ..).1 hh
 cases x with
 | none=>simp [f0]
 | some w =>
  obtain ⟨e,he,_,h2,_⟩:=opts_mem _ _ _ _ hx
  have:=ha e (mem_below he)
  simp only [f0,Option.getD_some];omega
theorem fam_range {a b c:List E9} {o:List E5} {d p z:Int} (ha:Fam1 a) (hb:Less b) (hz:z∈famP a b c o d p):0≤z∧z≤99:=by
 rcases mem_famP.1 hz with ⟨rfl,_⟩ | ⟨_,h,hh,h0,hl⟩
 ·omega
 ·have:=homes_range ha hh
  have:=leadsL_range hb _ h z (Nat.le_refl _) (by omega) hl
  omega
theorem fam_zero {a b c:List E9} {o:List E5} {d p:Int} (ha:Fam1 a) (hb:Less b):0∈famP a b c o d p↔(0∈homesL d p a∨(goP a c o d p).2=true):=by
 rw [mem_famP]
 constructor
 ·rintro (⟨_,h⟩ | ⟨_,h,hh,h0,hl⟩)
  ·exact h
  ·have:=homes_range ha hh
   have:=leadsL_range hb _ h 0 (Nat.le_refl _) (by omega) hl
   omega
 ·intro h;exact .inl ⟨rfl,h⟩
theorem fam_pos {a b c:List E9} {o:List E5} {d p:Int} (ha:Fam1 a) (hb:Less b):(∃ z∈famP a b c o d p,z≠0)↔((goP a c o d p).1=true∧homesL d p a≠[0]):=by
 constructor
 ·rintro ⟨z,hz,h0⟩
  rcases mem_famP.1 hz with ⟨rfl,_⟩ | ⟨h1,h,hh,h2,_⟩
  ·exact absurd rfl h0
  ·exact ⟨h1,fun e=>h2 (homes0.1 e h hh)⟩
 ·rintro ⟨h1,h2⟩
  rw [Ne,homes0] at h2
  have:∃ h∈homesL d p a,h≠0:=by
   apply Classical.byContradiction;intro hn
   exact h2 fun h hh=>Classical.byContradiction fun h0=>hn ⟨h,hh,h0⟩
  obtain ⟨h,hh,h0⟩:=this
  have:=homes_range ha hh
  obtain ⟨z,hz⟩:=leadsL_ne hb _ h (Nat.le_refl _) (by omega)
  have:=leadsL_range hb _ h z (Nat.le_refl _) (by omega) hz
  exact ⟨z,mem_famP.2 (.inr ⟨h1,h,hh,h0,hz⟩),by omega⟩
theorem fam_ne {a b c:List E9} {o:List E5} {d p:Int} (ha:Fam1 a) (hb:Less b):∃ z,z∈famP a b c o d p:=by
 by_cases h:0∈famP a b c o d p
 ·exact ⟨0,h⟩
 ·rw [fam_zero ha hb,not_or] at h
  have h1:(goP a c o d p).1=true:=by
   cases hq:(goP a c o d p).1
   ·exact absurd (goP_no _ _ _ _ _ hq) h.2
   ·rfl
  have h2:homesL d p a≠[0]:=fun e=>h.1 (by rw [e];simp)
  obtain ⟨z,hz,_⟩:=(fam_pos (c:=c) (o:=o) ha hb).2 ⟨h1,h2⟩
  exact ⟨z,hz⟩
theorem up_head {l:List Int} (hu:Up l) (hr:∀ z∈l,0≤z) (hne:∃ z,z∈l):∃ x r,l=x::r∧(x=0↔0∈l):=by
 cases l with
 | nil=>obtain ⟨z,hz⟩:=hne;simp at hz
 | cons x r =>
  refine ⟨x,r,rfl,fun h=>by simp [h],fun h=>?_⟩
  rw [Up,List.pairwise_cons] at hu
  rcases List.mem_cons.1 h with h | h
  ·exact h.symm
  ·have:=hu.1 0 h
   have:=hr x (by simp)
   omega
theorem up_last:∀ {l:List Int},Up l→(∀ z∈l,0≤z)→∀ {y:Int},l[l.length - 1]?=some y→(y≠0↔∃ z∈l,z≠0)
 | [],_,_,y,h=>by simp at h
 | [x],_,_,y,h=>by simp at h;subst h;simp
 | x::w::r,hu,hr,y,h=>by
  rw [Up,List.pairwise_cons] at hu
  have h':(w::r)[(w::r).length - 1]?=some y:=by simpa using h
  have ih:=up_last (l:=w::r) hu.2 (fun z hz=>hr z (List.mem_cons_of_mem _ hz)) h'
  have hm:y∈w::r:=List.mem_of_getElem? h'
  have h1:=hu.1 y hm
  have h2:=hr x (by simp)
  exact ⟨fun _=>⟨y,List.mem_cons_of_mem _ hm,by omega⟩,fun _=>by omega⟩
theorem gleansP {a b c:List E9} {o:List E5} {d p:Int} (ha:Fam1 a) (hb:Less b) (hc:By0 c) {x y:Int} {r:List Int} (hx:famP a b c o d p=x::r) (hy:(famP a b c o d p)[(famP a b c o d p).length - 1]?=some y):ansB (decide (y≠0)) (decide (x=0))=gleansI a c o d p:=by
 have hr:∀ z∈famP a b c o d p,0≤z:=fun z hz=>(fam_range ha hb hz).1
 have h1:=up_last (up_famP a b c o d p) hr hy
 obtain ⟨x',r',e,h2⟩:=up_head (up_famP a b c o d p) hr (fam_ne ha hb)
 rw [hx] at e;cases e
 rw [fam_pos ha hb] at h1
 rw [fam_zero ha hb] at h2
 rw [gleans_eq a c o d p hc]
 have e1:decide (y≠0)=((goP a c o d p).1&&!decide (homesL d p a=[0])):=by
  rw [Bool.eq_iff_iff,decide_eq_true_iff,h1];simp
 have e2:decide (x=0)=((goP a c o d p).2||decide (0∈homesL d p a)):=by
  rw [Bool.eq_iff_iff,decide_eq_true_iff,h2];simp [or_comm]
 rw [e1,e2]
def forI (l:List Int) (f:Int):Int:=if f∈l then (if 1 < l.length then 2 else 1) else 0
theorem forP (l:List Int) (f x:Int) (r:List Int) (h:l=x::r):ansB (decide (f∈l)) (decide (1 < l.length)||decide (x≠f))=forI l f:=by
 unfold forI ansB
 subst h
 by_cases h1:f∈x::r
 ·simp only [h1,decide_true,if_true]
  by_cases h2:1 < (x::r).length
  ·simp only [h2,decide_true,Bool.true_or,if_true]
  ·have:r=[]:=by cases r;rfl;simp at h2
   subst this
   have:f=x:=by simpa using h1
   subst this
   simp
 ·simp [h1]
end Go.VE
namespace Go.VE
open Go.RowKit Go.Proofs
def optR {σ:Type} (step:σ→Int→σ) (stopO noneO:σ→Out):σ→List (Option Int)→Out
 | s,[]=>stopO s
 | s,none::_=>noneO s
 | s,some w::os=>optR step stopO noneO (step s w) os
def LastN:List (Option Int)→Prop
 | []=>True
 | none::r=>r=[]
 | some _::r=>LastN r
theorem opts_last (d who:Int):∀ l:List E9,LastN (opts d who l)
 | []=>rfl
 | e::r=>by
  simp only [opts]
  split
  ·split
   ·trivial
   ·exact opts_last d who r
  ·exact opts_last d who r
theorem opt_loop {σ:Type} (l:List E9) (hl:l.length≤1000000) (d who:Int) (bs:List ((Nat→List Yr→Out)→List Yr→Out)) (en:Nat→σ→Nat×List Yr) (I:Nat→σ→Prop) (step:σ→Int→σ) (stopO noneO:σ→Out)
  (h0:∀ s k,I 0 s→∃ b,bs[(en 0 s).1]?=some b∧b k (en 0 s).2=noneO s)
  (h1:∀ (m:Nat) e s (k:Nat→List Yr→Out),l[m]?=some e→m < l.length→IntKind.i64.wrap (((m:Nat):Int) - 1)=((m:Nat):Int) - 1→(((m+1:Nat):Int) - 1)=((m:Nat):Int)→I (m+1) s →
   I m s∧(e.a=who→mayB e.f1 e.t2 d=true→I m (step s e.b))∧∃ b,bs[(en (m+1) s).1]?=some b∧b k (en (m+1) s).2=if e.a=who∧mayB e.f1 e.t2 d=true then (if sureB e.f2 e.t1 d=true then stopO (step s e.b) else k (en m (step s e.b)).1 (en m (step s e.b)).2) else k (en m s).1 (en m s).2)
  (s:σ) (hs:I l.length s):loopR bs M0 (en l.length s).1 (en l.length s).2=optR step stopO noneO s (opts d who (below l l.length)):=by
 refine loop_ms (σ:=Nat×σ) bs (fun s=>en s.1 s.2) (fun s=>s.1) (fun s=>s.1≤l.length∧I s.1 s.2) (fun s=>optR step stopO noneO s.2 (opts d who (below l s.1))) ?_ M0 (l.length,s) ⟨Nat.le_refl _,hs⟩ (by unfold M0;simp only;omega)
 rintro ⟨m,s⟩ k ⟨g1,g2⟩ ih
 simp only at g1 g2 ih ⊢
 cases m with
 | zero=>exact h0 s k g2
 | succ m =>
  obtain ⟨e,he⟩:∃ e,l[m]?=some e:=⟨_,List.getElem?_eq_getElem (by omega)⟩
  obtain ⟨i1,i2,b,hb,hr⟩:=h1 m e s k he (by omega) (wrap_id (by omega) (by omega)) (by omega) g2
  refine ⟨b,hb,?_⟩
  rw [hr,below_succ he,opts]
  split
  ·rename_i hc
   split
   ·rfl
   ·exact ih (m,step s e.b) ⟨by simp only;omega,i2 hc.1 hc.2⟩ (by simp only;omega)
  ·exact ih (m,s) ⟨by simp only;omega,i1⟩ (by simp only;omega)
theorem optR_congr {σ:Type} {step:σ→Int→σ} {stopO noneO:σ→Out} (R:σ→List (Option Int)→Out) (h0:∀ s,stopO s=R s []) (h1:∀ s,noneO s=R s [none]) (h2:∀ s w os,R (step s w) os=R s (some w::os)):∀ (os:List (Option Int)) (s:σ),LastN os→optR step stopO noneO s os=R s os
 | [],s,_=>h0 s
 | none::r,s,h=>by have:r=[]:=h;subst this;exact h1 s
 | some w::os,s,h=>by
  have:=optR_congr R h0 h1 h2 os (step s w) h
  rw [optR,this,h2]
section
variable {Fn:Nat→List D→Out} {FnD:D→List Sh→List D→Out} {m:Nat}
end
end Go.VE
namespace Go.VE
open Go.RowKit Go.Proofs
def hB:Option Int→Bool
 | some w=>decide (w≠0)
 | none=>false
def zB:Option Int→Bool
 | some w=>decide (w=0)
 | none=>false
def R196 (x0 x1:D) (s:Bool×Bool) (os:List (Option Int)):Out:=some (if os.any Option.isNone=true then 0 else 1,[.d (bl false),.d (bl (s.1||os.any hB)),.d (bl (s.2||os.any zB)),.d x0,.d x1])
set_option maxRecDepth 20000 in
theorem l196_0 (n:Nat) (a b c:Option (List E9)) (o:Option (List E5)) (d who:Int) (hl:(a.getD []).length≤1000000) (s:Bool×Bool) :
  loopR [L196_0 (RP (n+4))] M0 0 [.d (il d),.d (il (((a.getD []).length:Int) - 1)),.d (bl false),.d (bl s.1),.d (bl s.2),.d (dKin a b c o),.d (il who)]=R196 (dKin a b c o) (il who) s (opts d who (below (a.getD []) (a.getD []).length)):=by
 have:=opt_loop (σ:=Bool×Bool) (a.getD []) hl d who [L196_0 (RP (n+4))] (fun m s=>(0,[.d (il d),.d (il ((m:Int) - 1)),.d (bl false),.d (bl s.1),.d (bl s.2),.d (dKin a b c o),.d (il who)])) (fun _ _=>True) (fun s w=>(s.1||decide (w≠0),s.2||decide (w=0)))
  (fun s=>some (1,[.d (bl false),.d (bl s.1),.d (bl s.2),.d (dKin a b c o),.d (il who)])) (fun s=>some (0,[.d (bl false),.d (bl s.1),.d (bl s.2),.d (dKin a b c o),.d (il who)])) ?_ ?_ s trivial
 ·refine Eq.trans this (optR_congr (R196 (dKin a b c o) (il who)) ?_ ?_ ?_ _ s (opts_last _ _ _))
  ·intro s;simp [R196]
  ·intro s;simp [R196,hB,zB]
  ·intro s w os;simp only [R196,List.any_cons,hB,zB,Option.isNone_some,Bool.false_or,Bool.or_assoc]
 ·intro s k _
  exact ⟨_,rfl,by simp [L196_0]⟩
 ·intro m e s k he hm hw hm1 _
  refine ⟨trivial,fun _ _=>trivial,_,rfl,?_⟩
  have h157:=s157 (n+3) a b c o m e who he
  simp only [hm1,L196_0,r_ld0,r_lds,r_liti,r_geq,r_cond]
  rw [if_pos (by simp)]
  simp only [r_call,h157,r_bnd0,r_ld0,r_lds,r_not,r_cond,r_sub,hw,s208,r_litb,r_out,r_neq]
  obtain ⟨s1,s2⟩:=s
  by_cases h1:e.a=who
  ·by_cases h2:mayB e.f1 e.t2 d=true
   ·rw [if_pos (⟨h1,h2⟩:e.a=who∧mayB e.f1 e.t2 d=true)]
    cases s1<;>cases s2<;>cases hq:sureB e.f2 e.t1 d<;>simp [h1,h2,s209,hq]
   ·rw [if_neg (fun h=>h2 h.2:¬ (e.a=who∧mayB e.f1 e.t2 d=true))]
    simp [h1,h2]
  ·rw [if_neg (fun h=>h1 h.1:¬ (e.a=who∧mayB e.f1 e.t2 d=true))]
   simp [h1]
def R196b (x0 x1 x2 x3:D) (h:Bool) (s:Bool) (os:List (Option Int)):Out:=some (if os.any Option.isNone=true then 0 else 1,[.d (bl false),.d (bl h),.d (bl (s||os.any Option.isSome)),.d x0,.d x1,.d x2,.d x3])
set_option maxRecDepth 20000 in
theorem l196_1 (n:Nat) (a b c:Option (List E9)) (o:Option (List E5)) (d who:Int) (x0 x1:D) (hl:(c.getD []).length≤1000000) (h s:Bool) :
  loopR [L196_1 (RP (n+4))] M0 0 [.d (il d),.d (il (((c.getD []).length:Int) - 1)),.d (bl false),.d (bl h),.d (bl s),.d x0,.d x1,.d (dKin a b c o),.d (il who)]=R196b x0 x1 (dKin a b c o) (il who) h s (opts d who (below (c.getD []) (c.getD []).length)):=by
 have:=opt_loop (σ:=Bool) (c.getD []) hl d who [L196_1 (RP (n+4))] (fun m s=>(0,[.d (il d),.d (il ((m:Int) - 1)),.d (bl false),.d (bl h),.d (bl s),.d x0,.d x1,.d (dKin a b c o),.d (il who)])) (fun _ _=>True) (fun _ _=>true)
  (fun s=>some (1,[.d (bl false),.d (bl h),.d (bl s),.d x0,.d x1,.d (dKin a b c o),.d (il who)])) (fun s=>some (0,[.d (bl false),.d (bl h),.d (bl s),.d x0,.d x1,.d (dKin a b c o),.d (il who)])) ?_ ?_ s trivial
 ·refine Eq.trans this (optR_congr (R196b x0 x1 (dKin a b c o) (il who) h) ?_ ?_ ?_ _ s (opts_last _ _ _))
  ·intro s;simp [R196b]
  ·intro s;simp [R196b]
  ·intro s w os;simp [R196b]
 ·intro s k _
  exact ⟨_,rfl,by simp [L196_1]⟩
 ·intro m e s k he hm hw hm1 _
  refine ⟨trivial,fun _ _=>trivial,_,rfl,?_⟩
  have h195:=s195 (n+3) a b c o m e who he
  have hnn:¬ ((m:Nat):Int) < 0:=by omega
  simp only [hm1,L196_1,r_ld0,r_lds,r_liti,r_geq,r_cond]
  rw [if_pos (by simp)]
  simp only [r_call,h195,r_bnd0,r_ld0,r_lds,r_not,r_cond,r_sub,hw,s208,r_litb,r_out,r_lss]
  by_cases h1:e.a=who
  ·by_cases h2:mayB e.f1 e.t2 d=true
   ·rw [if_pos (⟨h1,h2⟩:e.a=who∧mayB e.f1 e.t2 d=true)]
    cases s<;>cases hq:sureB e.f2 e.t1 d<;>simp [h1,h2,hnn,s209,hq]
   ·rw [if_neg (fun h=>h2 h.2:¬ (e.a=who∧mayB e.f1 e.t2 d=true))]
    simp [h1,h2]
  ·rw [if_neg (fun h=>h1 h.1:¬ (e.a=who∧mayB e.f1 e.t2 d=true))]
   simp [h1]
theorem L196_2e (n:Nat):L196_2 (RP n)=L196_1 (RP n):=rfl
theorem L196_3e (n:Nat):L196_3 (RP n)=L196_1 (RP n):=rfl
theorem hB_any (os:List (Option Int)):(os.any fun x=>decide (f0 x≠0))=os.any hB:=by
 congr 1;funext x;cases x<;>rfl
theorem zB_any (os:List (Option Int)):(os.any fun x=>decide (f0 x=0))=(os.any zB||os.any Option.isNone):=by
 induction os with
 | nil=>rfl
 | cons x os ih =>
  rw [List.any_cons,ih,List.any_cons,List.any_cons]
  cases x with
  | none=>simp [f0,zB]
  | some w=>simp only [zB,Option.isNone_some,Bool.false_or,Bool.or_assoc];rfl
set_option maxRecDepth 20000 in
theorem s196 (n:Nat) (a b c:Option (List E9)) (o:Option (List E5)) (d who:Int) (hd:0≤d∧d≤4166) (ha:(a.getD []).length≤1000000) (hc:(c.getD []).length≤1000000) (ho:(o.getD []).length≤1000000) :
  FN (n+6) 196 [d9 a,d9 b,d9 c,d5 o,il who,il d]=some (0,[.d (bl (walkP (a.getD []) (c.getD []) (o.getD []) d who).1),.d (bl (walkP (a.getD []) (c.getD []) (o.getD []) d who).2)]):=by
 rw [F196]
 have h0:=l196_0 (n+1) a b c o d who ha (false,false)
 have h1:=fun h s=>l196_1 (n+1) a b c o d who (dKin a b c o) (il who) hc h s
 simp only [dKin] at h0 h1
 simp only [G196,r_call,s214 n (d9 a) (d9 b) (d9 c) o d who hd (by omega),r_bnd0,r_ld0,r_cond,r_litb,r_out,r_dpD,r_isPtr]
 unfold walkP
 cases barB d who (o.getD []) with
 | true=>simp
 | false =>
  simp only [Bool.false_eq_true,if_false]
  have hp:∀ k:List D→Out,(RP (n+5)).ptrW 4 (.dp [d9 a,d9 b,d9 c,d5 o] 0) k=k [d9 a,d9 b,d9 c,d5 o]:=fun k=>r_ptrW _ 4 k rfl
  have w1:IntKind.i64.wrap (((a.getD []).length:Int) - 1)=((a.getD []).length:Int) - 1:=wrap_id (by omega) (by omega)
  have w2:IntKind.i64.wrap (((c.getD []).length:Int) - 1)=((c.getD []).length:Int) - 1:=wrap_id (by omega) (by omega)
  simp only [hp,r_cell0,r_cells,len9,r_liti,r_sub,w1,w2,r_loop]
  rw [show (RP (n+5))=RP (n+1+4) from rfl] at *
  rw [h0,hB_any,zB_any]
  simp only [R196,Bool.false_or]
  generalize opts d who (below (a.getD []) (a.getD []).length)=q at *
  cases hn:q.any Option.isNone with
  | true =>
   simp only [if_true,r_bnd0,r_ld0,r_lds,r_cond,r_neq,ne_eq,not_true_eq_false,decide_false]
   cases hh:q.any hB<;>cases hz:q.any zB<;>simp only [Bool.false_eq_true,if_true,if_false,r_bnd0,r_ld0,r_lds,r_cond,L196_2e,h1,R196b] <;>
    (cases hn2:(opts d who (below (c.getD []) (c.getD []).length)).any Option.isNone<;>cases hn3:(opts d who (below (c.getD []) (c.getD []).length)).any Option.isSome<;>simp [h1,R196b,hn2,hn3])
  | false =>
   simp only [Bool.false_eq_true,if_false,r_bndg,r_bnd0,r_ld0,r_lds,L196_3e,h1,R196b]
   cases hh:q.any hB<;>cases hz:q.any zB <;>
    (cases hn2:(opts d who (below (c.getD []) (c.getD []).length)).any Option.isNone<;>cases hn3:(opts d who (below (c.getD []) (c.getD []).length)).any Option.isSome<;>simp [])
end Go.VE
