/- The statement FamilyGleans: whatever the kin, the person, the family and the days are, Homes, Leads, Families, Gleans and For agree with the specification. -/
import Derived.Test.YtobeabinccohlaaGreatMg4
namespace Go.VE
open Go.RowKit Go.Proofs
theorem a3 {Fn:Nat→List D→Out} {FnD:D→List Sh→List D→Out} {m:Nat} (A B C O L1 L2 L3:D) (p f d k e1 e2 e3 e4 e5 g q:Int)
  (h12:Fn 12 [A,B,C,O,il p,il d,il k]=some (0,[.d L1,.d (il e1)])) (h13:Fn 13 [A,B,C,O,il p,il f,il d,il k]=some (0,[.d L1,.d (il e1)]))
  (h14:Fn 14 [A,B,C,O,il f,il d,il k]=some (0,[.d L2,.d (il e2)])) (h15:Fn 15 [A,B,C,O,il p,il f,il d,il k]=some (0,[.d L2,.d (il e2)]))
  (h16:Fn 16 [A,B,C,O,il p,il d,il k]=some (0,[.d L3,.d (il e3)])) (h17:Fn 17 [A,B,C,O,il p,il f,il d,il k]=some (0,[.d L3,.d (il e3)]))
  (h18:Fn 18 [A,B,C,O,il p,il d,il k]=some (0,[.d (il g),.d (il e4)])) (h19:Fn 19 [A,B,C,O,il p,il f,il d,il k]=some (0,[.d (il g),.d (il e4)]))
  (h20:Fn 20 [A,B,C,O,il p,il f,il d,il k]=some (0,[.d (il q),.d (il e5)])) (h21:Fn 21 [A,B,C,O,il p,il f,il d,il k]=some (0,[.d (il q),.d (il e5)]))
  (q1:Fn 22 [L1,L1]=some (0,[.d (bl true)])) (q2:Fn 22 [L2,L2]=some (0,[.d (bl true)])) (q3:Fn 22 [L3,L3]=some (0,[.d (bl true)])) (h23:Fn 23 []=some (0,[.d (bl true)])) :
  G3 (real Fn FnD m) A B C O (il p) (il f) (il d) (il k)=some (0,[.d (bl true)]):=by
 simp only [G3,r_call,h12,h13,h14,h15,h16,h17,h18,h19,h20,h21,r_bnd0,r_ld0,r_lds,q1,q2,q3,h23,r_cond,r_eql,decide_true,if_true,r_out]
theorem same22o (n:Nat) (l:Option (List Int)) (hl:(l.getD []).length≤1000):FN (n+1) 22 [dI l,dI l]=some (0,[.d (bl true)]):=by
 rw [s22 n l l (by omega)];simp
theorem two {c:Prop} [Decidable c] {u v:Out} {L M:D} {e:Int} (hu:u=if c then some (0,[.d L,.d (il 0)]) else some (0,[.d M,.d (il e)])) (hv:v=if c then some (0,[.d L,.d (il 0)]) else some (0,[.d M,.d (il e)])) :
  u=some (0,[.d (if c then L else M),.d (il (if c then 0 else e))])∧v=some (0,[.d (if c then L else M),.d (il (if c then 0 else e))]):=by
 subst hu hv;split<;>exact ⟨rfl,rfl⟩
theorem two_il {c:Prop} [Decidable c] {u v:Out} {g h e:Int} (hu:u=if c then some (0,[.d (il g),.d (il 0)]) else some (0,[.d (il h),.d (il e)])) (hv:v=if c then some (0,[.d (il g),.d (il 0)]) else some (0,[.d (il h),.d (il e)])) :
  u=some (0,[.d (il (if c then g else h)),.d (il (if c then 0 else e))])∧v=some (0,[.d (il (if c then g else h)),.d (il (if c then 0 else e))]):=by
 subst hu hv;split<;>exact ⟨rfl,rfl⟩
theorem same_if {n:Nat} {c:Prop} [Decidable c] {l m:Option (List Int)} (hl:c→(l.getD []).length≤1000) (hm:(m.getD []).length≤1000):FN (n+1) 22 [if c then dI l else dI m,if c then dI l else dI m]=some (0,[.d (bl true)]):=by
 split
 ·rename_i h;exact same22o n l (hl h)
 ·exact same22o n m hm
set_option maxRecDepth 20000 in
theorem s3 (n:Nat) (p f d k:Int) (a b c:Option (List E9)) (o:Option (List E5)) (ha:(a.getD []).length*72≤140737488351232) (hb:(b.getD []).length*72≤140737488351232) (hc:(c.getD []).length*72≤140737488351232) (ho:(o.getD []).length*40≤140737488351232) :
  G3 (RP (n+111)) (d9 a) (d9 b) (d9 c) (d5 o) (il p) (il f) (il d) (il k)=some (0,[.d (bl true)]):=by
 have h12:=s12 (n+100) p d k a b c o ha hb hc ho
 have h13:=s13 (n+104) p f d k a b c o ha hb hc ho
 have h14:=s14 (n+6) f d k a b c o ha hb hc ho
 have h15:=s15 (n+104) p f d k a b c o ha hb hc ho
 have h16:=s16 (n+5) p d k a b c o ha hb hc ho
 have h17:=s17 (n+102) p f d k a b c o ha hb hc ho
 have h18:=s18 (n+4) p d k a b c o ha hb hc ho
 have h19:=s19 (n+102) p f d k a b c o ha hb hc ho
 have h20:=s20 (n+4) p f d k a b c o ha hb hc ho
 have h21:=s21 (n+102) p f d k a b c o ha hb hc ho
 rw [askE_fam] at h13 h17 h19
 rw [askE_per] at h15
 obtain ⟨h12,h13⟩:=two h12 h13
 obtain ⟨h14,h15⟩:=two h14 h15
 obtain ⟨h16,h17⟩:=two h16 h17
 obtain ⟨h18,h19⟩:=two_il h18 h19
 obtain ⟨h20,h21⟩:=two_il h20 h21
 refine a3 _ _ _ _ _ _ _ _ _ _ _ _ _ _ _ _ _ _ h12 h13 h14 h15 h16 h17 h18 h19 h20 h21 (same_if (n:=n+110) (fun he=>?_) (by simp)) (same_if (n:=n+110) (fun he=>?_) (by simp)) (same_if (n:=n+110) (fun he=>?_) (by simp)) (s23 n)
 ·have g:=(good_of (askE_ok he)).cnt k
  have:=len_homes d p (cnt9 k (a.getD []))
  have:=g.la
  simp only [Option.getD_some];omega
 ·have g:=(good_of (askE_ok he)).cnt k
  have:=up_len _ 1 99 (up_leadsL d (cnt9 k (b.getD [])) f) fun z hz=>by
   by_cases hf:1≤f∧f≤99
   ·have:=leadsL_range g.less _ f z (Nat.le_refl _) hf.1 hz;omega
   ·exfalso
    unfold askE at he
    split at he
    ·simp at he
    ·split at he
     ·simp at he
     ·split at he
      ·simp at he
      ·rename_i h2;exact h2 ⟨rfl,hf⟩
  simp only [Option.getD_some];omega
 ·have g:=(good_of (askE_ok he)).cnt k
  have hlen:(famL k a b c o d p).length≤100:=acc_len0 (up_famP ..) fun z hz=>fam_range g.fam g.less hz
  simp only [Option.getD_some];omega
end Go.VE
namespace Go.VE
open Go.RowKit Go.Proofs Go.Proofs.YtobeabinccohlaaGreat
set_option maxRecDepth 100000
theorem familyGleans_sc (vds:List VD) (h:VTs Tryz.prog 8 [27,29] vds):SC Tryz.prog 3 vds (.one (.d (bl true))):=by
 obtain ⟨_,_,rfl,h1,h⟩:=VTs_cons h
 obtain ⟨_,_,rfl,h2,h⟩:=VTs_cons h
 cases VTs_nil h
 obtain ⟨_,rfl,k1⟩:=h1.agg_ Tryz.underlying27
 obtain ⟨_,rfl,k2⟩:=h2.agg_ Tryz.underlying29
 obtain ⟨a,b,c,o,rfl,ha,hb,hc,ho⟩:=o27 k1
 obtain ⟨p,f,d,k,rfl⟩:=o29 k2
 refine lawSC (T:=tb) (fuel:=400) (m0:=M0) (xs:=[d9 a,d9 b,d9 c,d5 o,il p,il f,il d,il k]) mixP (FN_ok 111) (FN_okM 111) spOK (by decide) (sh:=[.agg 4,.agg 4]) rfl rfl rfl ?_
 rw [G3_eq]
 exact s3 0 p f d k a b c o ha hb hc ho
end Go.VE
namespace Go.Proofs.YtobeabinccohlaaGreat
open Go.VE Go.RowKit
set_option maxRecDepth 100000
theorem familyGleans_lifted (os:Os) (started:os.Started) (H:Type) (enc:TypeId×Value→H) :
  ReturnsInHanded {} Tryz.checked os 3 .any (Rows.familyGleansSpec.pre6 enc Tryz.prog Tryz.f3 Rows.familyGleansRow.domain false) (Rows.familyGleansSpec.post enc Tryz.prog Tryz.f3 false true false false) :=
 lawIn (C:=Tryz.checked) (n:=8) (tb:=4) own started (by kernel_rfl) Tryz.func3
  (ChangeSpec.witness6 (enc:=enc) (C:=Tryz.checked) false ⟨#[],#[.agg #[.slice none 0 0,.slice none 0 0,.slice none 0 0,.slice none 0 0],.agg #[.int .i64 0,.int .i64 0,.int .i64 0,.int .i64 0]],[]⟩ 8 (by kernel_rfl) (by kernel_rfl) (by kernel_rfl) (by kernel_rfl))
  laidOut (by kernel_rfl) (by kernel_rfl) Tryz.underlying4 rfl
  (fun ds hd=>by
   rw [show Tryz.f3.params.toList=[27,29] by kernel_rfl] at hd
   match ds,hd with
   | [a,b],_=>rfl)
  (fun vds h=>familyGleans_sc vds h)
theorem familyGleans_over:Rows.familyGleansRow.holds Tryz.pinned (OpenSpec.ofChange Rows.familyGleansSpec) :=
 OpenClaim.holds_of_wide 3 Tryz.f3 rfl rfl rfl rfl rfl rfl rfl ⟨rfl,rfl,rfl,rfl,rfl⟩ rfl rfl rfl rfl rfl (by kernel_rfl) Tryz.func3 (by kernel_rfl)
  (of_decide_eq_true (by kernel_rfl)) (by unfold Func.isWrapper;first | (rw [if_pos (by decide +kernel)];kernel_rfl) | (rw [if_neg (by decide +kernel)];exact ⟨rfl,rfl⟩))
  (fun os started H enc _=>familyGleans_lifted os started H enc)
theorem familyGleans_holds:Rows.FamilyGleansSaid:=familyGleans_over
#print axioms familyGleans_holds
end Go.Proofs.YtobeabinccohlaaGreat
