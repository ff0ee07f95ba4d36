/- The statement BellActs: Want, Ring, Shut, Serve and Hear agree with the reference, for all watches, peals and fields, valid or not; the package-level variables that the card lists lie as the program's text lays them. -/
import Derived.Test.YtaagapoglhndjaaDoorMg4
import Derived.Test.YtaagapoglhndjaaDoorMg2
import Derived.Test.YtaagapoglhndjaaDoorMg1
import Derived.Test.YtaagapoglhndjaaDoorMh
import Derived.Test.YtaagapoglhndjaaDoorCards
import Derived.Test.YtaagapoglhndjaaDoorTie
import Derived.SevenTiedAt
import Derived.ProofKit
import Derived.LaidMore
import Derived.Stop.Joined
namespace Go.VE
open Go.RowKit Go.Proofs
set_option maxRecDepth 100000
def accE3 (en0:Nat→List Yr) (en1:Nat→Rr→List Yr) (i:Nat) (acc:Rr) (j:Nat):Nat×List Yr:=match acc with
 | []=>(0,en0 i)
 | a::t=>(j,en1 i (a::t))
section
variable {Fn:Nat→List D→Out} {FnD:D→List Sh→List D→Out} {m:Nat}
theorem r_max (x y:Int) (k:D→Out):(real Fn FnD m).mm true (il x) (il y) k=k (il (max x y)):=r_mm true x y k
end
theorem hearT_at {me a:Int} {bs:List Brd} {ss:List Stk} {t:Tld} {j:Nat} {e:Brd} (hx:bix t.1 bs=some j) (hg:bs.getD j (0,0)=e) (hh:hasP e.2 a=true):hearT me a bs ss t=(if (fl me bs ss j).ask a.toNat < t.2.2 then [(3,t.1,a,t.2.2)] else [])++(if (fl me bs ss j).no a.toNat < t.2.1∧isWith me a t.2.1=true∧(fl me bs ss j).opn=false then [(1,t.1,a,t.2.1)] else []):=by
 unfold hearT
 rw [hx]
 simp only [hg,hh,if_true]
 rfl
theorem st28_0 (n:Nat) {me h a to:Int} (b:Option (List Brd)) (o:Option (List Stk)) (h1:okP me (b.getD []) (o.getD []) h=true) (tl:Option (List Tld)) (hpa:par a=true) (hne:a≠me) (c3 z1 z2:D) {i:Nat} {t:Tld} (hi:(tl.getD [])[i]?=some t) (hlti:(i:Int) < ((tl.getD []).length:Int)) (hw:IntKind.i64.wrap ((i:Int)+1)=(i:Int)+1) :
  ∃ (l:List Stk) (j:Nat),(j=1∨j=2)∧l=hearT me a (b.getD []) (o.getD []) t∧∀ k:Nat→List Yr→Out,L28_0 (RP (n+7)) k [.d (il me),.d (dB b),.d (dS o),.d c3,.d (il a),.d (il to),.d (dT tl),.d (il i),.d z1,.d z2]=k (accE3 (fun i=>[.d (il me),.d (dB b),.d (dS o),.d c3,.d (il a),.d (il to),.d (dT tl),.d (il i),.d z1,.d z2]) (fun i acc=>[.d (il me),.d (dB b),.d (dS o),.d c3,.d (il a),.d (il to),.d (dT tl),.n acc.length,.n acc.length,.d (il i),.r acc,.d z1,.d z2]) (i+1) (([]:Rr)++l.map rS) j).1 (accE3 (fun i=>[.d (il me),.d (dB b),.d (dS o),.d c3,.d (il a),.d (il to),.d (dT tl),.d (il i),.d z1,.d z2]) (fun i acc=>[.d (il me),.d (dB b),.d (dS o),.d c3,.d (il a),.d (il to),.d (dT tl),.n acc.length,.n acc.length,.d (il i),.r acc,.d z1,.d z2]) (i+1) (([]:Rr)++l.map rS) j).2:=by
 have hbb:(b.getD []).length≤4611686018427387904:=by have:=okP_b4 h1;omega
 have hl:=okP_len h1
 have hm:=okP_par h1
 have hlt:=par_lt hpa
 have hW:=h1
 rw [okP_W] at hW
 have hok:=(okW_strokes hW).2.2
 have f1:=fitB (a:=0) (b:=1) (c:=32) (by omega) (by omega) (by omega)
 have f2:=fitB (a:=1) (b:=1) (c:=32) (by omega) (by omega) (by omega)
 cases hx:bix t.1 (b.getD []) with
 | none =>
  have hT:hearT me a (b.getD []) (o.getD []) t=[]:=by unfold hearT;rw [hx]
  have hneg:ixI t.1 (b.getD []) < 0:=ixI_neg.2 hx
  refine ⟨_,1,.inl rfl,rfl,fun k=>?_⟩
  rw [hT]
  simp only [L28_0,r_ld0,r_lds,lenL,r_lss,hlti,decide_true,r_cond,if_true,rowT hi,cT0,r_call,s74 _ _ hbb,r_bnd0,hneg,r_liti,r_add,hw,List.map_nil,List.append_nil,accE3,cast1]
 | some j =>
  obtain ⟨e,he,hfld,hg,hj⟩:=bord_at hx
  have h6:=okP_six h1 e (List.mem_of_getElem? he)
  have hnn:¬ ((j:Int) < 0):=by omega
  have hix:ixI t.1 (b.getD [])=(j:Int):=ixI_at hx
  have hmax:max (j:Int) 0=(j:Int):=by omega
  cases hh:hasP e.2 a with
  | false =>
   have hT:hearT me a (b.getD []) (o.getD []) t=[]:=by unfold hearT;rw [hx];simp [he,hh]
   refine ⟨_,1,.inl rfl,rfl,fun k=>?_⟩
   rw [hT]
   simp only [L28_0,r_ld0,r_lds,lenL,r_lss,hlti,decide_true,r_cond,if_true,rowT hi,cT0,r_call,s74 _ _ hbb,r_bnd0,hnn,decide_false,Bool.false_eq_true,if_false,hix,r_liti,r_max,hmax,rowB he,cB0,cB1,s71 _ _ h6,hh,r_not,Bool.not_false,r_add,hw,List.map_nil,List.append_nil,accE3,cast1]
  | true =>
   have hT:=hearT_at (me:=me) (ss:=o.getD []) hx hg hh
   have h75:=s75 (n+1) e h6 hm o (by omega) hok
   rw [show (fread me e fd0 (o.getD [])).1=fl me (b.getD []) (o.getD []) j by unfold fl;rw [hg]] at h75
   rw [hT]
   generalize fl me (b.getD []) (o.getD []) j=f at h75 ⊢
   have hu:∀ q:Nat,(RP (n+7)).updN a.toNat q (il t.2.1) (il (f.no q))=il (upN f.no a.toNat t.2.1 q):=fun q=>by rw [r_updN,ite_il];rfl
   have ha':((a.toNat:Nat):Int)=a:=by have:=(par_iff.1 hpa).1;omega
   have h88:FN (n+7) 88 [il e.1,il e.2,il (upN f.no a.toNat t.2.1 0),il (upN f.no a.toNat t.2.1 1),il (upN f.no a.toNat t.2.1 2),il (upN f.no a.toNat t.2.1 3),il (upN f.no a.toNat t.2.1 4),il (upN f.no a.toNat t.2.1 5),bl (f.af 0),bl (f.af 1),bl (f.af 2),bl (f.af 3),bl (f.af 4),bl (f.af 5),il (wan me f 0),il (wan me f 1),il (wan me f 2),il (wan me f 3),il (wan me f 4),il (wan me f 5),bl f.opn,il me,il ((a.toNat:Nat):Int)]=some (0,[.d (bl (isWith me ((a.toNat:Nat):Int) (upN f.no a.toNat t.2.1 a.toNat)))]):=s88 (n+6) e me { f with no:=upN f.no a.toNat t.2.1 } hlt
   rw [ha',show upN f.no a.toNat t.2.1 a.toNat=t.2.1 by simp [upN]] at h88
   simp only [r21,List.cons_append,List.nil_append,List.map_cons,List.map_nil] at h75
   by_cases w1:f.ask a.toNat < t.2.2
   ·by_cases w2:f.no a.toNat < t.2.1
    ·cases w3:isWith me a t.2.1 with
     | false =>
      refine ⟨_,2,by simp,rfl,fun k=>?_⟩
      simp only [L28_0,hlti,hnn,hix,hh,Bool.not_true,decide_false,Bool.false_eq_true,if_false,r_ld0,r_lds,r_ln0,r_lns,r_lr0,r_lrs,r_liti,lenL,r_lss,decide_true,r_cond,if_true,r_call,r_bnd0,r_not,r_natN,r_inx6 hpa,r_addN,r_le6 hlt,r_selN,sel6 _ hlt,r_gtr,r_rows,r_len,List.length_cons,List.length_nil,Nat.zero_add,r_eqN,r_seg0,List.take,r_fitsg,and_self,r_add,hw,rowT hi,cT0,cT1,cT2,cB0,cB1,s74 _ _ hbb,s71 _ _ h6,r_max,hmax,rowB he,h75,hu,wan_ne hpa hne,r_bnd1,r_out,w1,r_isNil1,f1,f2,w2,h88,w3]
      simp [accE3,rS]
     | true =>
      cases w4:f.opn with
      | true =>
       rw [w4] at h75 h88
       refine ⟨_,2,by simp,rfl,fun k=>?_⟩
       simp only [L28_0,hlti,hnn,hix,hh,Bool.not_true,decide_false,Bool.false_eq_true,if_false,r_ld0,r_lds,r_ln0,r_lns,r_lr0,r_lrs,r_liti,lenL,r_lss,decide_true,r_cond,if_true,r_call,r_bnd0,r_not,r_natN,r_inx6 hpa,r_addN,r_le6 hlt,r_selN,sel6 _ hlt,r_gtr,r_rows,r_len,List.length_cons,List.length_nil,Nat.zero_add,r_eqN,r_seg0,List.take,r_fitsg,and_self,r_add,hw,rowT hi,cT0,cT1,cT2,cB0,cB1,s74 _ _ hbb,s71 _ _ h6,r_max,hmax,rowB he,h75,hu,wan_ne hpa hne,r_bnd1,r_out,w1,r_isNil1,f1,f2,w2,h88,w3]
       simp [accE3,rS]
      | false =>
       rw [w4] at h75 h88
       refine ⟨_,2,by simp,rfl,fun k=>?_⟩
       simp only [L28_0,hlti,hnn,hix,hh,Bool.not_true,decide_false,Bool.false_eq_true,if_false,r_ld0,r_lds,r_ln0,r_lns,r_lr0,r_lrs,r_liti,lenL,r_lss,decide_true,r_cond,if_true,r_call,r_bnd0,r_not,r_natN,r_inx6 hpa,r_addN,r_le6 hlt,r_selN,sel6 _ hlt,r_gtr,r_rows,r_len,List.length_cons,List.length_nil,Nat.zero_add,r_eqN,r_seg0,List.take,r_fitsg,and_self,r_add,hw,rowT hi,cT0,cT1,cT2,cB0,cB1,s74 _ _ hbb,s71 _ _ h6,r_max,hmax,rowB he,h75,hu,wan_ne hpa hne,r_bnd1,r_out,w1,r_isNil1,f1,f2,w2,h88,w3,Bool.not_false]
       simp [accE3,rS]
    ·refine ⟨_,2,by simp,rfl,fun k=>?_⟩
     simp only [L28_0,hlti,hnn,hix,hh,Bool.not_true,decide_false,Bool.false_eq_true,if_false,r_ld0,r_lds,r_ln0,r_lns,r_lr0,r_lrs,r_liti,lenL,r_lss,decide_true,r_cond,if_true,r_call,r_bnd0,r_not,r_natN,r_inx6 hpa,r_addN,r_le6 hlt,r_selN,sel6 _ hlt,r_gtr,r_rows,r_len,List.length_cons,List.length_nil,Nat.zero_add,r_eqN,r_seg0,List.take,r_fitsg,and_self,r_add,hw,rowT hi,cT0,cT1,cT2,cB0,cB1,s74 _ _ hbb,s71 _ _ h6,r_max,hmax,rowB he,h75,hu,wan_ne hpa hne,r_bnd1,r_out,w1,r_isNil1,f1,f2,w2,h88]
     simp [accE3,rS]
   ·by_cases w2:f.no a.toNat < t.2.1
    ·cases w3:isWith me a t.2.1 with
     | false =>
      refine ⟨_,1,by simp,rfl,fun k=>?_⟩
      simp only [L28_0,hlti,hnn,hix,hh,Bool.not_true,decide_false,Bool.false_eq_true,if_false,r_ld0,r_lds,r_liti,lenL,r_lss,decide_true,r_cond,if_true,r_call,r_bnd0,r_not,r_natN,r_inx6 hpa,r_addN,r_le6 hlt,r_selN,sel6 _ hlt,r_gtr,r_rows,r_len,List.length_cons,List.length_nil,Nat.zero_add,r_eqN,r_seg0,List.take,r_fitsg,and_self,r_add,hw,rowT hi,cT0,cT1,cT2,cB0,cB1,s74 _ _ hbb,s71 _ _ h6,r_max,hmax,rowB he,h75,hu,wan_ne hpa hne,r_out,w1,r_isNil1,f1,w2,h88,w3]
      simp [accE3]
     | true =>
      cases w4:f.opn with
      | true =>
       rw [w4] at h75 h88
       refine ⟨_,1,by simp,rfl,fun k=>?_⟩
       simp only [L28_0,hlti,hnn,hix,hh,Bool.not_true,decide_false,Bool.false_eq_true,if_false,r_ld0,r_lds,r_liti,lenL,r_lss,decide_true,r_cond,if_true,r_call,r_bnd0,r_not,r_natN,r_inx6 hpa,r_addN,r_le6 hlt,r_selN,sel6 _ hlt,r_gtr,r_rows,r_len,List.length_cons,List.length_nil,Nat.zero_add,r_eqN,r_seg0,List.take,r_fitsg,and_self,r_add,hw,rowT hi,cT0,cT1,cT2,cB0,cB1,s74 _ _ hbb,s71 _ _ h6,r_max,hmax,rowB he,h75,hu,wan_ne hpa hne,r_out,w1,r_isNil1,f1,w2,h88,w3]
       simp [accE3]
      | false =>
       rw [w4] at h75 h88
       refine ⟨_,1,by simp,rfl,fun k=>?_⟩
       simp only [L28_0,hlti,hnn,hix,hh,Bool.not_true,decide_false,Bool.false_eq_true,if_false,r_ld0,r_lds,r_liti,lenL,r_lss,decide_true,r_cond,if_true,r_call,r_bnd0,r_not,r_natN,r_inx6 hpa,r_addN,r_le6 hlt,r_selN,sel6 _ hlt,r_gtr,r_rows,r_len,List.length_cons,List.length_nil,Nat.zero_add,r_eqN,r_seg0,List.take,r_fitsg,and_self,r_add,hw,rowT hi,cT0,cT1,cT2,cB0,cB1,s74 _ _ hbb,s71 _ _ h6,r_max,hmax,rowB he,h75,hu,wan_ne hpa hne,r_out,w1,r_isNil1,f1,w2,h88,w3,Bool.not_false]
       simp [accE3,rS]
    ·refine ⟨_,1,by simp,rfl,fun k=>?_⟩
     simp only [L28_0,hlti,hnn,hix,hh,Bool.not_true,decide_false,Bool.false_eq_true,if_false,r_ld0,r_lds,r_liti,lenL,r_lss,decide_true,r_cond,if_true,r_call,r_bnd0,r_not,r_natN,r_inx6 hpa,r_addN,r_le6 hlt,r_selN,sel6 _ hlt,r_gtr,r_rows,r_len,List.length_cons,List.length_nil,Nat.zero_add,r_eqN,r_seg0,List.take,r_fitsg,and_self,r_add,hw,rowT hi,cT0,cT1,cT2,cB0,cB1,s74 _ _ hbb,s71 _ _ h6,r_max,hmax,rowB he,h75,hu,wan_ne hpa hne,r_out,w1,r_isNil1,f1,w2,h88]
     simp [accE3]
theorem st28_1 (n:Nat) {me h a to:Int} (b:Option (List Brd)) (o:Option (List Stk)) (h1:okP me (b.getD []) (o.getD []) h=true) (tl:Option (List Tld)) (hpa:par a=true) (hne:a≠me) (c3 z1 z2:D) {i:Nat} {t:Tld} (hi:(tl.getD [])[i]?=some t) (hlti:(i:Int) < ((tl.getD []).length:Int)) (hw:IntKind.i64.wrap ((i:Int)+1)=(i:Int)+1) (acc:Rr) (hacc:acc.length≤1000) :
  ∀ k:Nat→List Yr→Out,L28_1 (RP (n+7)) k [.d (il me),.d (dB b),.d (dS o),.d c3,.d (il a),.d (il to),.d (dT tl),.n acc.length,.n acc.length,.d (il i),.r acc,.d z1,.d z2]=k 1 ((fun (i:Nat) (acc:Rr)=>[.d (il me),.d (dB b),.d (dS o),.d c3,.d (il a),.d (il to),.d (dT tl),.n acc.length,.n acc.length,.d (il i),.r acc,.d z1,.d z2]) (i+1) (acc++(hearT me a (b.getD []) (o.getD []) t).map rS)):=by
 have hbb:(b.getD []).length≤4611686018427387904:=by have:=okP_b4 h1;omega
 have hl:=okP_len h1
 have hm:=okP_par h1
 have hlt:=par_lt hpa
 have hW:=h1
 rw [okP_W] at hW
 have hok:=(okW_strokes hW).2.2
 have f1:=fitB (a:=acc.length) (b:=1) (c:=32) (by omega) (by omega) (by omega)
 have f2:=fitB (a:=acc.length+1) (b:=1) (c:=32) (by omega) (by omega) (by omega)
 have q1:acc.length≤9223372036854775806:=by omega
 have q2:acc.length+1≤9223372036854775806:=by omega
 have q3:acc.length≤9223372036854775805:=by omega
 cases hx:bix t.1 (b.getD []) with
 | none =>
  have hT:hearT me a (b.getD []) (o.getD []) t=[]:=by unfold hearT;rw [hx]
  have hneg:ixI t.1 (b.getD []) < 0:=ixI_neg.2 hx
  intro k
  rw [hT]
  simp only [L28_1,r_ld0,r_lds,r_ln0,r_lns,r_lr0,r_lrs,lenL,r_lss,hlti,decide_true,r_cond,if_true,rowT hi,cT0,r_call,s74 _ _ hbb,r_bnd0,hneg,r_liti,r_add,hw,List.map_nil,List.append_nil,cast1]
 | some j =>
  obtain ⟨e,he,hfld,hg,hj⟩:=bord_at hx
  have h6:=okP_six h1 e (List.mem_of_getElem? he)
  have hnn:¬ ((j:Int) < 0):=by omega
  have hix:ixI t.1 (b.getD [])=(j:Int):=ixI_at hx
  have hmax:max (j:Int) 0=(j:Int):=by omega
  cases hh:hasP e.2 a with
  | false =>
   have hT:hearT me a (b.getD []) (o.getD []) t=[]:=by unfold hearT;rw [hx];simp [he,hh]
   intro k
   rw [hT]
   simp only [L28_1,r_ld0,r_lds,r_ln0,r_lns,r_lr0,r_lrs,lenL,r_lss,hlti,decide_true,r_cond,if_true,rowT hi,cT0,r_call,s74 _ _ hbb,r_bnd0,hnn,decide_false,Bool.false_eq_true,if_false,hix,r_liti,r_max,hmax,rowB he,cB0,cB1,s71 _ _ h6,hh,r_not,Bool.not_false,r_add,hw,List.map_nil,List.append_nil,cast1]
  | true =>
   have hT:=hearT_at (me:=me) (ss:=o.getD []) hx hg hh
   have h75:=s75 (n+1) e h6 hm o (by omega) hok
   rw [show (fread me e fd0 (o.getD [])).1=fl me (b.getD []) (o.getD []) j by unfold fl;rw [hg]] at h75
   rw [hT]
   generalize fl me (b.getD []) (o.getD []) j=f at h75 ⊢
   have hu:∀ q:Nat,(RP (n+7)).updN a.toNat q (il t.2.1) (il (f.no q))=il (upN f.no a.toNat t.2.1 q):=fun q=>by rw [r_updN,ite_il];rfl
   have ha':((a.toNat:Nat):Int)=a:=by have:=(par_iff.1 hpa).1;omega
   have h88:FN (n+7) 88 [il e.1,il e.2,il (upN f.no a.toNat t.2.1 0),il (upN f.no a.toNat t.2.1 1),il (upN f.no a.toNat t.2.1 2),il (upN f.no a.toNat t.2.1 3),il (upN f.no a.toNat t.2.1 4),il (upN f.no a.toNat t.2.1 5),bl (f.af 0),bl (f.af 1),bl (f.af 2),bl (f.af 3),bl (f.af 4),bl (f.af 5),il (wan me f 0),il (wan me f 1),il (wan me f 2),il (wan me f 3),il (wan me f 4),il (wan me f 5),bl f.opn,il me,il ((a.toNat:Nat):Int)]=some (0,[.d (bl (isWith me ((a.toNat:Nat):Int) (upN f.no a.toNat t.2.1 a.toNat)))]):=s88 (n+6) e me { f with no:=upN f.no a.toNat t.2.1 } hlt
   rw [ha',show upN f.no a.toNat t.2.1 a.toNat=t.2.1 by simp [upN]] at h88
   simp only [r21,List.cons_append,List.nil_append,List.map_cons,List.map_nil] at h75
   by_cases w1:f.ask a.toNat < t.2.2
   ·by_cases w2:f.no a.toNat < t.2.1
    ·cases w3:isWith me a t.2.1 with
     | false =>
      intro k
      simp only [L28_1,hlti,hnn,hix,hh,Bool.not_true,decide_false,Bool.false_eq_true,if_false,r_ld0,r_lds,r_ln0,r_lns,r_lr0,r_lrs,r_liti,lenL,r_lss,decide_true,r_cond,if_true,r_call,r_bnd0,r_not,r_natN,r_inx6 hpa,r_addN,r_le6 hlt,r_selN,sel6 _ hlt,r_gtr,r_rows,r_len,List.length_cons,List.length_nil,Nat.zero_add,r_eqN,r_seg0,List.take,r_fitsg,and_self,r_add,hw,rowT hi,cT0,cT1,cT2,cB0,cB1,s74 _ _ hbb,s71 _ _ h6,r_max,hmax,rowB he,h75,hu,wan_ne hpa hne,r_out,w1,r_app,f1,f2,w2,h88,w3]
      simp [rS]
     | true =>
      cases w4:f.opn with
      | true =>
       rw [w4] at h75 h88
       intro k
       simp only [L28_1,hlti,hnn,hix,hh,Bool.not_true,decide_false,Bool.false_eq_true,if_false,r_ld0,r_lds,r_ln0,r_lns,r_lr0,r_lrs,r_liti,lenL,r_lss,decide_true,r_cond,if_true,r_call,r_bnd0,r_not,r_natN,r_inx6 hpa,r_addN,r_le6 hlt,r_selN,sel6 _ hlt,r_gtr,r_rows,r_len,List.length_cons,List.length_nil,Nat.zero_add,r_eqN,r_seg0,List.take,r_fitsg,and_self,r_add,hw,rowT hi,cT0,cT1,cT2,cB0,cB1,s74 _ _ hbb,s71 _ _ h6,r_max,hmax,rowB he,h75,hu,wan_ne hpa hne,r_out,w1,r_app,f1,f2,w2,h88,w3]
       simp [rS]
      | false =>
       rw [w4] at h75 h88
       intro k
       simp only [L28_1,hlti,hnn,hix,hh,Bool.not_true,decide_false,Bool.false_eq_true,if_false,r_ld0,r_lds,r_ln0,r_lns,r_lr0,r_lrs,r_liti,lenL,r_lss,decide_true,r_cond,if_true,r_call,r_bnd0,r_not,r_natN,r_inx6 hpa,r_addN,r_le6 hlt,r_selN,sel6 _ hlt,r_gtr,r_rows,r_len,List.length_cons,List.length_nil,Nat.zero_add,r_eqN,r_seg0,List.take,r_fitsg,and_self,r_add,hw,rowT hi,cT0,cT1,cT2,cB0,cB1,s74 _ _ hbb,s71 _ _ h6,r_max,hmax,rowB he,h75,hu,wan_ne hpa hne,r_out,w1,r_app,f1,f2,w2,h88,w3,Bool.not_false]
       simp [rS]
    ·intro k
     simp only [L28_1,hlti,hnn,hix,hh,Bool.not_true,decide_false,Bool.false_eq_true,if_false,r_ld0,r_lds,r_ln0,r_lns,r_lr0,r_lrs,r_liti,lenL,r_lss,decide_true,r_cond,if_true,r_call,r_bnd0,r_not,r_natN,r_inx6 hpa,r_addN,r_le6 hlt,r_selN,sel6 _ hlt,r_gtr,r_rows,r_len,List.length_cons,List.length_nil,Nat.zero_add,r_eqN,r_seg0,List.take,r_fitsg,and_self,r_add,hw,rowT hi,cT0,cT1,cT2,cB0,cB1,s74 _ _ hbb,s71 _ _ h6,r_max,hmax,rowB he,h75,hu,wan_ne hpa hne,r_out,w1,r_app,f1,f2,w2,h88]
     simp [rS]
   ·by_cases w2:f.no a.toNat < t.2.1
    ·cases w3:isWith me a t.2.1 with
     | false =>
      intro k
      simp only [L28_1,hlti,hnn,hix,hh,Bool.not_true,decide_false,Bool.false_eq_true,if_false,r_ld0,r_lds,r_ln0,r_lns,r_lr0,r_lrs,r_liti,lenL,r_lss,decide_true,r_cond,if_true,r_call,r_bnd0,r_not,r_natN,r_inx6 hpa,r_addN,r_le6 hlt,r_selN,sel6 _ hlt,r_gtr,r_rows,r_len,List.length_cons,List.length_nil,Nat.zero_add,r_eqN,r_seg0,List.take,r_fitsg,and_self,r_add,hw,rowT hi,cT0,cT1,cT2,cB0,cB1,s74 _ _ hbb,s71 _ _ h6,r_max,hmax,rowB he,h75,hu,wan_ne hpa hne,r_out,w1,r_app,f1,w2,h88,w3]
      simp []
     | true =>
      cases w4:f.opn with
      | true =>
       rw [w4] at h75 h88
       intro k
       simp only [L28_1,hlti,hnn,hix,hh,Bool.not_true,decide_false,Bool.false_eq_true,if_false,r_ld0,r_lds,r_ln0,r_lns,r_lr0,r_lrs,r_liti,lenL,r_lss,decide_true,r_cond,if_true,r_call,r_bnd0,r_not,r_natN,r_inx6 hpa,r_addN,r_le6 hlt,r_selN,sel6 _ hlt,r_gtr,r_rows,r_len,List.length_cons,List.length_nil,Nat.zero_add,r_eqN,r_seg0,List.take,r_fitsg,and_self,r_add,hw,rowT hi,cT0,cT1,cT2,cB0,cB1,s74 _ _ hbb,s71 _ _ h6,r_max,hmax,rowB he,h75,hu,wan_ne hpa hne,r_out,w1,r_app,f1,w2,h88,w3]
       simp []
      | false =>
       rw [w4] at h75 h88
       intro k
       simp only [L28_1,hlti,hnn,hix,hh,Bool.not_true,decide_false,Bool.false_eq_true,if_false,r_ld0,r_lds,r_ln0,r_lns,r_lr0,r_lrs,r_liti,lenL,r_lss,decide_true,r_cond,if_true,r_call,r_bnd0,r_not,r_natN,r_inx6 hpa,r_addN,r_le6 hlt,r_selN,sel6 _ hlt,r_gtr,r_rows,r_len,List.length_cons,List.length_nil,Nat.zero_add,r_eqN,r_seg0,List.take,r_fitsg,and_self,r_add,hw,rowT hi,cT0,cT1,cT2,cB0,cB1,s74 _ _ hbb,s71 _ _ h6,r_max,hmax,rowB he,h75,hu,wan_ne hpa hne,r_out,w1,r_app,f1,w2,h88,w3,Bool.not_false]
       simp [rS]
    ·intro k
     simp only [L28_1,hlti,hnn,hix,hh,Bool.not_true,decide_false,Bool.false_eq_true,if_false,r_ld0,r_lds,r_ln0,r_lns,r_lr0,r_lrs,r_liti,lenL,r_lss,decide_true,r_cond,if_true,r_call,r_bnd0,r_not,r_natN,r_inx6 hpa,r_addN,r_le6 hlt,r_selN,sel6 _ hlt,r_gtr,r_rows,r_len,List.length_cons,List.length_nil,Nat.zero_add,r_eqN,r_seg0,List.take,r_fitsg,and_self,r_add,hw,rowT hi,cT0,cT1,cT2,cB0,cB1,s74 _ _ hbb,s71 _ _ h6,r_max,hmax,rowB he,h75,hu,wan_ne hpa hne,r_out,w1,r_app,f1,w2,h88]
     simp []
theorem st28_2 (n:Nat) {me h a to:Int} (b:Option (List Brd)) (o:Option (List Stk)) (h1:okP me (b.getD []) (o.getD []) h=true) (tl:Option (List Tld)) (hpa:par a=true) (hne:a≠me) (c3 z1 z2:D) {i:Nat} {t:Tld} (hi:(tl.getD [])[i]?=some t) (hlti:(i:Int) < ((tl.getD []).length:Int)) (hw:IntKind.i64.wrap ((i:Int)+1)=(i:Int)+1) (acc:Rr) (hacc:acc.length≤1000) :
  ∀ k:Nat→List Yr→Out,L28_2 (RP (n+7)) k [.d (il me),.d (dB b),.d (dS o),.d c3,.d (il a),.d (il to),.d (dT tl),.n acc.length,.n acc.length,.d (il i),.r acc,.d z1,.d z2]=k 2 ((fun (i:Nat) (acc:Rr)=>[.d (il me),.d (dB b),.d (dS o),.d c3,.d (il a),.d (il to),.d (dT tl),.n acc.length,.n acc.length,.d (il i),.r acc,.d z1,.d z2]) (i+1) (acc++(hearT me a (b.getD []) (o.getD []) t).map rS)):=by
 have hbb:(b.getD []).length≤4611686018427387904:=by have:=okP_b4 h1;omega
 have hl:=okP_len h1
 have hm:=okP_par h1
 have hlt:=par_lt hpa
 have hW:=h1
 rw [okP_W] at hW
 have hok:=(okW_strokes hW).2.2
 have f1:=fitB (a:=acc.length) (b:=1) (c:=32) (by omega) (by omega) (by omega)
 have f2:=fitB (a:=acc.length+1) (b:=1) (c:=32) (by omega) (by omega) (by omega)
 have q1:acc.length≤9223372036854775806:=by omega
 have q2:acc.length+1≤9223372036854775806:=by omega
 have q3:acc.length≤9223372036854775805:=by omega
 cases hx:bix t.1 (b.getD []) with
 | none =>
  have hT:hearT me a (b.getD []) (o.getD []) t=[]:=by unfold hearT;rw [hx]
  have hneg:ixI t.1 (b.getD []) < 0:=ixI_neg.2 hx
  intro k
  rw [hT]
  simp only [L28_2,r_ld0,r_lds,r_ln0,r_lns,r_lr0,r_lrs,lenL,r_lss,hlti,decide_true,r_cond,if_true,rowT hi,cT0,r_call,s74 _ _ hbb,r_bnd0,hneg,r_liti,r_add,hw,List.map_nil,List.append_nil,cast1]
 | some j =>
  obtain ⟨e,he,hfld,hg,hj⟩:=bord_at hx
  have h6:=okP_six h1 e (List.mem_of_getElem? he)
  have hnn:¬ ((j:Int) < 0):=by omega
  have hix:ixI t.1 (b.getD [])=(j:Int):=ixI_at hx
  have hmax:max (j:Int) 0=(j:Int):=by omega
  cases hh:hasP e.2 a with
  | false =>
   have hT:hearT me a (b.getD []) (o.getD []) t=[]:=by unfold hearT;rw [hx];simp [he,hh]
   intro k
   rw [hT]
   simp only [L28_2,r_ld0,r_lds,r_ln0,r_lns,r_lr0,r_lrs,lenL,r_lss,hlti,decide_true,r_cond,if_true,rowT hi,cT0,r_call,s74 _ _ hbb,r_bnd0,hnn,decide_false,Bool.false_eq_true,if_false,hix,r_liti,r_max,hmax,rowB he,cB0,cB1,s71 _ _ h6,hh,r_not,Bool.not_false,r_add,hw,List.map_nil,List.append_nil,cast1]
  | true =>
   have hT:=hearT_at (me:=me) (ss:=o.getD []) hx hg hh
   have h75:=s75 (n+1) e h6 hm o (by omega) hok
   rw [show (fread me e fd0 (o.getD [])).1=fl me (b.getD []) (o.getD []) j by unfold fl;rw [hg]] at h75
   rw [hT]
   generalize fl me (b.getD []) (o.getD []) j=f at h75 ⊢
   have hu:∀ q:Nat,(RP (n+7)).updN a.toNat q (il t.2.1) (il (f.no q))=il (upN f.no a.toNat t.2.1 q):=fun q=>by rw [r_updN,ite_il];rfl
   have ha':((a.toNat:Nat):Int)=a:=by have:=(par_iff.1 hpa).1;omega
   have h88:FN (n+7) 88 [il e.1,il e.2,il (upN f.no a.toNat t.2.1 0),il (upN f.no a.toNat t.2.1 1),il (upN f.no a.toNat t.2.1 2),il (upN f.no a.toNat t.2.1 3),il (upN f.no a.toNat t.2.1 4),il (upN f.no a.toNat t.2.1 5),bl (f.af 0),bl (f.af 1),bl (f.af 2),bl (f.af 3),bl (f.af 4),bl (f.af 5),il (wan me f 0),il (wan me f 1),il (wan me f 2),il (wan me f 3),il (wan me f 4),il (wan me f 5),bl f.opn,il me,il ((a.toNat:Nat):Int)]=some (0,[.d (bl (isWith me ((a.toNat:Nat):Int) (upN f.no a.toNat t.2.1 a.toNat)))]):=s88 (n+6) e me { f with no:=upN f.no a.toNat t.2.1 } hlt
   rw [ha',show upN f.no a.toNat t.2.1 a.toNat=t.2.1 by simp [upN]] at h88
   simp only [r21,List.cons_append,List.nil_append,List.map_cons,List.map_nil] at h75
   by_cases w1:f.ask a.toNat < t.2.2
   ·by_cases w2:f.no a.toNat < t.2.1
    ·cases w3:isWith me a t.2.1 with
     | false =>
      intro k
      simp only [L28_2,hlti,hnn,hix,hh,Bool.not_true,decide_false,Bool.false_eq_true,if_false,r_ld0,r_lds,r_ln0,r_lns,r_lr0,r_lrs,r_liti,lenL,r_lss,decide_true,r_cond,if_true,r_call,r_bnd0,r_not,r_natN,r_inx6 hpa,r_addN,r_le6 hlt,r_selN,sel6 _ hlt,r_gtr,r_rows,r_len,List.length_cons,List.length_nil,Nat.zero_add,r_eqN,r_seg0,List.take,r_fitsg,and_self,r_add,hw,rowT hi,cT0,cT1,cT2,cB0,cB1,s74 _ _ hbb,s71 _ _ h6,r_max,hmax,rowB he,h75,hu,wan_ne hpa hne,r_out,w1,r_app,f1,f2,w2,h88,w3]
      simp [rS]
     | true =>
      cases w4:f.opn with
      | true =>
       rw [w4] at h75 h88
       intro k
       simp only [L28_2,hlti,hnn,hix,hh,Bool.not_true,decide_false,Bool.false_eq_true,if_false,r_ld0,r_lds,r_ln0,r_lns,r_lr0,r_lrs,r_liti,lenL,r_lss,decide_true,r_cond,if_true,r_call,r_bnd0,r_not,r_natN,r_inx6 hpa,r_addN,r_le6 hlt,r_selN,sel6 _ hlt,r_gtr,r_rows,r_len,List.length_cons,List.length_nil,Nat.zero_add,r_eqN,r_seg0,List.take,r_fitsg,and_self,r_add,hw,rowT hi,cT0,cT1,cT2,cB0,cB1,s74 _ _ hbb,s71 _ _ h6,r_max,hmax,rowB he,h75,hu,wan_ne hpa hne,r_out,w1,r_app,f1,f2,w2,h88,w3]
       simp [rS]
      | false =>
       rw [w4] at h75 h88
       intro k
       simp only [L28_2,hlti,hnn,hix,hh,Bool.not_true,decide_false,Bool.false_eq_true,if_false,r_ld0,r_lds,r_ln0,r_lns,r_lr0,r_lrs,r_liti,lenL,r_lss,decide_true,r_cond,if_true,r_call,r_bnd0,r_not,r_natN,r_inx6 hpa,r_addN,r_le6 hlt,r_selN,sel6 _ hlt,r_gtr,r_rows,r_len,List.length_cons,List.length_nil,Nat.zero_add,r_eqN,r_seg0,List.take,r_fitsg,and_self,r_add,hw,rowT hi,cT0,cT1,cT2,cB0,cB1,s74 _ _ hbb,s71 _ _ h6,r_max,hmax,rowB he,h75,hu,wan_ne hpa hne,r_out,w1,r_app,f1,f2,w2,h88,w3,Bool.not_false]
       simp [rS]
    ·intro k
     simp only [L28_2,hlti,hnn,hix,hh,Bool.not_true,decide_false,Bool.false_eq_true,if_false,r_ld0,r_lds,r_ln0,r_lns,r_lr0,r_lrs,r_liti,lenL,r_lss,decide_true,r_cond,if_true,r_call,r_bnd0,r_not,r_natN,r_inx6 hpa,r_addN,r_le6 hlt,r_selN,sel6 _ hlt,r_gtr,r_rows,r_len,List.length_cons,List.length_nil,Nat.zero_add,r_eqN,r_seg0,List.take,r_fitsg,and_self,r_add,hw,rowT hi,cT0,cT1,cT2,cB0,cB1,s74 _ _ hbb,s71 _ _ h6,r_max,hmax,rowB he,h75,hu,wan_ne hpa hne,r_out,w1,r_app,f1,f2,w2,h88]
     simp [rS]
   ·by_cases w2:f.no a.toNat < t.2.1
    ·cases w3:isWith me a t.2.1 with
     | false =>
      intro k
      simp only [L28_2,hlti,hnn,hix,hh,Bool.not_true,decide_false,Bool.false_eq_true,if_false,r_ld0,r_lds,r_ln0,r_lns,r_lr0,r_lrs,r_liti,lenL,r_lss,decide_true,r_cond,if_true,r_call,r_bnd0,r_not,r_natN,r_inx6 hpa,r_addN,r_le6 hlt,r_selN,sel6 _ hlt,r_gtr,r_rows,r_len,List.length_cons,List.length_nil,Nat.zero_add,r_eqN,r_seg0,List.take,r_fitsg,and_self,r_add,hw,rowT hi,cT0,cT1,cT2,cB0,cB1,s74 _ _ hbb,s71 _ _ h6,r_max,hmax,rowB he,h75,hu,wan_ne hpa hne,r_out,w1,r_app,f1,w2,h88,w3]
      simp []
     | true =>
      cases w4:f.opn with
      | true =>
       rw [w4] at h75 h88
       intro k
       simp only [L28_2,hlti,hnn,hix,hh,Bool.not_true,decide_false,Bool.false_eq_true,if_false,r_ld0,r_lds,r_ln0,r_lns,r_lr0,r_lrs,r_liti,lenL,r_lss,decide_true,r_cond,if_true,r_call,r_bnd0,r_not,r_natN,r_inx6 hpa,r_addN,r_le6 hlt,r_selN,sel6 _ hlt,r_gtr,r_rows,r_len,List.length_cons,List.length_nil,Nat.zero_add,r_eqN,r_seg0,List.take,r_fitsg,and_self,r_add,hw,rowT hi,cT0,cT1,cT2,cB0,cB1,s74 _ _ hbb,s71 _ _ h6,r_max,hmax,rowB he,h75,hu,wan_ne hpa hne,r_out,w1,r_app,f1,w2,h88,w3]
       simp []
      | false =>
       rw [w4] at h75 h88
       intro k
       simp only [L28_2,hlti,hnn,hix,hh,Bool.not_true,decide_false,Bool.false_eq_true,if_false,r_ld0,r_lds,r_ln0,r_lns,r_lr0,r_lrs,r_liti,lenL,r_lss,decide_true,r_cond,if_true,r_call,r_bnd0,r_not,r_natN,r_inx6 hpa,r_addN,r_le6 hlt,r_selN,sel6 _ hlt,r_gtr,r_rows,r_len,List.length_cons,List.length_nil,Nat.zero_add,r_eqN,r_seg0,List.take,r_fitsg,and_self,r_add,hw,rowT hi,cT0,cT1,cT2,cB0,cB1,s74 _ _ hbb,s71 _ _ h6,r_max,hmax,rowB he,h75,hu,wan_ne hpa hne,r_out,w1,r_app,f1,w2,h88,w3,Bool.not_false]
       simp [rS]
    ·intro k
     simp only [L28_2,hlti,hnn,hix,hh,Bool.not_true,decide_false,Bool.false_eq_true,if_false,r_ld0,r_lds,r_ln0,r_lns,r_lr0,r_lrs,r_liti,lenL,r_lss,decide_true,r_cond,if_true,r_call,r_bnd0,r_not,r_natN,r_inx6 hpa,r_addN,r_le6 hlt,r_selN,sel6 _ hlt,r_gtr,r_rows,r_len,List.length_cons,List.length_nil,Nat.zero_add,r_eqN,r_seg0,List.take,r_fitsg,and_self,r_add,hw,rowT hi,cT0,cT1,cT2,cB0,cB1,s74 _ _ hbb,s71 _ _ h6,r_max,hmax,rowB he,h75,hu,wan_ne hpa hne,r_out,w1,r_app,f1,w2,h88]
     simp []
end Go.VE
namespace Go.VE
open Go.RowKit Go.Proofs
set_option maxRecDepth 100000
theorem hearT_len (me a:Int) (bs:List Brd) (ss:List Stk) (t:Tld):(hearT me a bs ss t).length≤2:=by
 unfold hearT
 split
 ·simp
 ·split
  ·exact hearF_len ..
  ·simp
theorem hearX_len (me a:Int) (bs:List Brd) (ss:List Stk):∀ l:List Tld,(hearX me a bs ss l).length≤2*l.length
 | []=>by simp [hearX]
 | t::r=>by
  have h1:=hearT_len me a bs ss t
  have h2:=hearX_len me a bs ss r
  unfold hearX at h2 ⊢
  rw [List.flatMap_cons,List.length_append,List.length_cons]
  omega
theorem l28 (n:Nat) {me h a to:Int} (b:Option (List Brd)) (o:Option (List Stk)) (h1:okP me (b.getD []) (o.getD []) h=true) (tl:Option (List Tld)) (hpa:par a=true) (hne:a≠me) (hl4:(tl.getD []).length≤4) (c3 z1 z2:D) (k0 k1:List Yr→Out) :
  (RP (n+7)).bnd (loopR [L28_0 (RP (n+7)),L28_1 (RP (n+7)),L28_2 (RP (n+7))] M0 0 [.d (il me),.d (dB b),.d (dS o),.d c3,.d (il a),.d (il to),.d (dT tl),.d (il 0),.d z1,.d z2]) [k0,k1,k1] =
   (RP (n+7)).bnd (accO (some (0,[.d (il me),.d (dB b),.d (dS o),.d c3,.d z1,.d z2])) (fun acc=>some (1,[.d (il me),.d (dB b),.d (dS o),.d c3,.n acc.length,.n acc.length,.r acc,.d z1,.d z2])) ((hearX me a (b.getD []) (o.getD []) (tl.getD [])).map rS)) [k0,k1,k1]:=by
 have hln:∀ k:D→Out,(RP (n+7)).lenD (dT tl) k=k (il (tl.getD []).length):=fun k=>lenL _ _ _ k
 have:=loop_pr (σ:=Nat×Rr×Nat) [L28_0 (RP (n+7)),L28_1 (RP (n+7)),L28_2 (RP (n+7))] (fun s=>accE3 (fun i=>[.d (il me),.d (dB b),.d (dS o),.d c3,.d (il a),.d (il to),.d (dT tl),.d (il i),.d z1,.d z2]) (fun i acc=>[.d (il me),.d (dB b),.d (dS o),.d c3,.d (il a),.d (il to),.d (dT tl),.n acc.length,.n acc.length,.d (il i),.r acc,.d z1,.d z2]) s.1 s.2.1 s.2.2) (fun s=>(tl.getD []).length - s.1)
  (fun s=>s.1≤(tl.getD []).length∧(s.2.2=1∨s.2.2=2)∧s.2.1=(hearX me a (b.getD []) (o.getD []) ((tl.getD []).take s.1)).map rS)
  (fun out=>(RP (n+7)).bnd out [k0,k1,k1]=(RP (n+7)).bnd (accO (some (0,[.d (il me),.d (dB b),.d (dS o),.d c3,.d z1,.d z2])) (fun acc=>some (1,[.d (il me),.d (dB b),.d (dS o),.d c3,.n acc.length,.n acc.length,.r acc,.d z1,.d z2])) ((hearX me a (b.getD []) (o.getD []) (tl.getD [])).map rS)) [k0,k1,k1]) ?_ M0 (0,[],1) ⟨by simp,.inl rfl,rfl⟩ (by simp only [M0];omega)
 ·exact this
 ·rintro ⟨i,acc,j⟩ k ⟨hi,hj,hacc⟩ ih
  simp only at hi hj hacc
  by_cases hN:i=(tl.getD []).length
  ·subst hN
   rw [List.take_length] at hacc
   rw [←hacc]
   have hlt:¬ (((tl.getD []).length:Int) < ((tl.getD []).length:Int)):=by omega
   cases acc with
   | nil =>
    refine ⟨_,rfl,?_⟩
    simp only [accE3,accO,L28_0,r_ld0,r_lds,hln,r_lss,hlt,decide_false,r_cond,Bool.false_eq_true,if_false,r_out]
   | cons x r =>
    rcases hj with rfl | rfl
    ·refine ⟨_,rfl,?_⟩
     simp only [accE3,accO,L28_1,r_ld0,r_lds,r_ln0,r_lns,r_lr0,r_lrs,hln,r_lss,hlt,decide_false,r_cond,Bool.false_eq_true,if_false,r_out]
    ·refine ⟨_,rfl,?_⟩
     simp only [accE3,accO,L28_2,r_ld0,r_lds,r_ln0,r_lns,r_lr0,r_lrs,hln,r_lss,hlt,decide_false,r_cond,Bool.false_eq_true,if_false,r_out,r_bnd1,r_bnd2]
  ·have hi':i < (tl.getD []).length:=by omega
   have hw:=wrap_succ hi' (by omega)
   obtain ⟨t,ht⟩:∃ t,(tl.getD [])[i]?=some t:=⟨_,List.getElem?_eq_getElem hi'⟩
   have hlti:(i:Int) < ((tl.getD []).length:Int):=by omega
   have hta:hearX me a (b.getD []) (o.getD []) ((tl.getD []).take (i+1))=hearX me a (b.getD []) (o.getD []) ((tl.getD []).take i)++hearT me a (b.getD []) (o.getD []) t:=by
    rw [take_snoc ht,hearX,List.flatMap_append]
    simp [hearX]
   have hal:acc.length≤1000:=by
    have:=hearX_len me a (b.getD []) (o.getD []) ((tl.getD []).take i)
    have h2:((tl.getD []).take i).length≤4:=by rw [List.length_take];omega
    rw [hacc,List.length_map]
    omega
   have ihj:=fun j' (hj':j'=1∨j'=2)=>ih (i+1,acc++(hearT me a (b.getD []) (o.getD []) t).map rS,j') ⟨hi',hj',by simp only;rw [hta,List.map_append,hacc]⟩ (by simp only;omega)
   cases acc with
   | nil =>
    obtain ⟨l,j',hj',rfl,hk⟩:=st28_0 n b o h1 tl (to:=to) hpa hne c3 z1 z2 ht hlti hw
    refine ⟨_,rfl,?_⟩
    have hk':=hk k
    simp only [accE3] at hk' ⊢
    rw [hk']
    exact ihj j' hj'
   | cons x r =>
    rcases hj with rfl | rfl
    ·refine ⟨_,rfl,?_⟩
     have hk':=st28_1 n b o h1 tl (to:=to) hpa hne c3 z1 z2 ht hlti hw (x::r) hal k
     simp only [accE3] at hk' ⊢
     rw [hk']
     exact ihj 1 (.inl rfl)
    ·refine ⟨_,rfl,?_⟩
     have hk':=st28_2 n b o h1 tl (to:=to) hpa hne c3 z1 z2 ht hlti hw (x::r) hal k
     simp only [accE3] at hk' ⊢
     rw [hk']
     exact ihj 2 (.inr rfl)
theorem hearX_no {me a to:Int} {bs:List Brd} {ss:List Stk} {l:List Tld} (h2:okPl a to l=true):tooB (hearX me a bs ss l)=false:=by
 simp only [okPl,Bool.and_eq_true] at h2
 unfold tooB
 rw [List.any_eq_false]
 intro s hs
 simp only [hearX,List.mem_flatMap] at hs
 obtain ⟨t,ht,hs⟩:=hs
 have htd:=(okL_mem h2.2.2.2.2 t ht).1
 simp only [okTd,inn,Bool.and_eq_true,decide_eq_true_eq] at htd
 have hx:s.2.2.2≤99999:=by
  unfold hearT at hs
  split at hs
  ·cases hs
  ·split at hs
   ·unfold hearF at hs
    rw [List.mem_append] at hs
    rcases hs with hs | hs
    ·split at hs
     ·rw [List.mem_singleton] at hs;subst hs;exact htd.2.2.2
     ·cases hs
    ·split at hs
     ·rw [List.mem_singleton] at hs;subst hs;exact htd.2.1.2
     ·cases hs
   ·cases hs
 simp only [decide_eq_true_eq]
 omega
theorem s28 (n:Nat) (me h a to:Int) (b:Option (List Brd)) (o:Option (List Stk)) (t:Option (List Tld)) (hl:(o.getD []).length≤4611686018427387904) (hb:(b.getD []).length≤4611686018427387904) (ht:(t.getD []).length≤4611686018427387904) :
  FN (n+8) 28 [il me,dB b,dS o,il h,il a,il to,dT t]=if okP me (b.getD []) (o.getD []) h=true then (if okPl a to (t.getD [])=true∧to=me then finW me h (some (b.getD [])) (o.getD []) (0,hearX me a (b.getD []) (o.getD []) (t.getD [])) else noW 93) else noW 92:=by
 rw [F28]
 simp only [G28,r_call,s15 _ _ _ _ _ hl hb,← okP_W,s17 _ _ _ _ ht,r_bnd0,r_ld0,r_liti,r_neq,ite_ne _ 92 (by omega),ite_ne _ 93 (by omega),r_cond,r_out]
 by_cases h1:okP me (b.getD []) (o.getD []) h=true
 ·by_cases h2:okPl a to (t.getD [])=true
  ·by_cases h3:to=me
   ·have hb4:=okP_b4 h1
    have hl4:=okP_len h1
    have hno:=hearX_no (me:=me) (bs:=b.getD []) (ss:=o.getD []) h2
    have h2':=h2
    simp only [okPl,Bool.and_eq_true,decide_eq_true_eq,Bool.not_eq_true',decide_eq_false_iff_not] at h2'
    have h8:=hearX_len me a (b.getD []) (o.getD []) (t.getD [])
    have h24:(hearX me a (b.getD []) (o.getD []) (t.getD [])).length≤8:=by omega
    have h2m:okPl a me (t.getD [])=true:=h3 ▸ h2
    simp only [h1,h3,h2m,ne_eq,not_true,decide_false,Bool.not_true,Bool.false_eq_true,if_false,if_true,and_self,r_loop]
    rw [l28 n b o h1 t h2'.1 (h3 ▸ h2'.2.2.1) h2'.2.2.2.1]
    generalize hearX me a (b.getD []) (o.getD []) (t.getD [])=w at h24 hno ⊢
    have hc:=s82 (n+5) me h b o (match w with | []=>none | a::t=>some (a::t)) (by omega) hl4 (by
     cases w with
     | nil=>simp
     | cons a t=>simp only [Option.getD_some];omega)
    cases w with
    | nil =>
     simp only [dS_none,nilS,Option.getD_none,finR_1 hno] at hc
     simp only [List.map_nil,accO,r_bnd0,r_ld0,r_lds,r_litNil,hc]
     unfold finW
     simp [show ¬ (120 < (o.getD []).length) by omega]
    | cons x t =>
     have htk:((x::t).map rS).take (t.length+1)=(x::t).map rS:=List.take_of_length_le (by simp)
     simp only [dS_some,Option.getD_some,finR_1 hno] at hc
     simp only [List.map_cons] at hc htk
     simp only [List.map_cons,accO,r_bnd1,r_ld0,r_lds,r_ln0,r_lns,r_lr0,r_lrs,r_len,List.length_cons,List.length_map,r_eqN,if_true,r_seg0,htk,r_slD,hc]
     unfold finW
     by_cases g:120 < (o.getD []).length+(t.length+1)
     ·simp [g,noW]
     ·simp [g]
   ·simp [h1,h2,h3,noW,nilS]
  ·simp [h1,h2,noW,nilS]
 ·simp [h1,noW,nilS]
end Go.VE
namespace Go.VE
open Go.RowKit Go.Proofs
set_option maxRecDepth 100000
def newZ (me:Int) (l:List Brd):Int:=if par me=true then (if bords me l=true then 0 else 90) else 1
def rW (z me:Int) (o:Option (List Brd)):Out:=if z=0 then some (0,[.d (il me),.d (dB o),.d (dS none),.d (il 0),.d (il z)]) else some (0,[.d (il 0),.d (dB none),.d (dS none),.d (il 0),.d (il z)])
theorem t9 (n:Nat) (me:Int) (o:Option (List Brd)) (hl:(o.getD []).length≤4611686018427387904):FN (n+5) 9 [il me,dB o]=rW (newZ me (o.getD [])) me o:=by
 rw [s9 _ _ _ hl];unfold rW newZ
 by_cases h1:par me=true
 ·by_cases h2:bords me (o.getD [])=true
  ·simp only [h1,h2,if_true];rfl
  ·simp only [h1,h2,if_true];rfl
 ·simp only [h1];rfl
abbrev BB:Nat:=4611686018427387904
end Go.VE
namespace Go.VE
open Go.RowKit Go.Proofs
set_option maxRecDepth 100000
def sameW (x y:Out):Prop:=∃ m b1 b2 s h e,x=some (0,[.d (il m),.d (dB b1),.d (dS s),.d (il h),.d (il e)])∧y=some (0,[.d (il m),.d (dB b2),.d (dS s),.d (il h),.d (il e)])∧b1.getD []=b2.getD []∧(b1.getD []).length≤BB∧(s.getD []).length≤BB
theorem same_no (e:Int):sameW (noW e) (noW e):=⟨0,none,none,none,0,e,rfl,rfl,rfl,by simp,by simp⟩
theorem same_fin {me h:Int} {b:Option (List Brd)} {ss:List Stk} {q:Wrt} (hb:(b.getD []).length≤BB):sameW (finW me h b ss q) (finW me h (some (b.getD [])) ss q):=by
 unfold finW
 split
 ·split
  ·exact same_no 2
  ·refine ⟨me,b,some (b.getD []),some (ss++q.2),h,0,rfl,rfl,rfl,hb,?_⟩
   simp only [Option.getD_some,List.length_append,BB]
   omega
 ·exact same_no _
theorem same_of {me h fld:Int} {b:Option (List Brd)} {ss:List Stk} {g:Nat→Wrt} (hb:(b.getD []).length≤BB):sameW (ofR me (b.getD []) ss h fld noW fun j=>finW me h b ss (g j)) (ofR me (b.getD []) ss h fld noW fun j=>finW me h (some (b.getD [])) ss (g j)):=by
 unfold ofR
 split
 ·split
  ·exact same_no _
  ·exact same_fin hb
 ·exact same_no _
theorem lawActs {Fn:Nat→List D→Out} {FnD:D→List Sh→List D→Out} (h18:Fn 18 []=some (0,[.d (bl true)]))
  (h11:∀ a b h k o q s t,(o.getD []).length≤BB→(s.getD []).length≤BB→Fn 11 [il a,dB o,dS s,il h,il b,dB q,dS t,il k]=some (0,[.d (bl (decide (a=b∧h=k∧o.getD []=q.getD []∧s.getD []=t.getD [])))]))
  {me h fld a to:Int} {b:Option (List Brd)} {s:Option (List Stk)} {tl:Option (List Tld)}
  (h1:sameW (Fn 19 [il me,dB b,dS s,il h,il fld]) (Fn 20 [il me,dB b,dS s,il h,il fld])) (h2:sameW (Fn 21 [il me,dB b,dS s,il h,il fld]) (Fn 22 [il me,dB b,dS s,il h,il fld])) (h3:sameW (Fn 23 [il me,dB b,dS s,il h,il fld]) (Fn 24 [il me,dB b,dS s,il h,il fld])) (h4:sameW (Fn 25 [il me,dB b,dS s,il h]) (Fn 26 [il me,dB b,dS s,il h])) (h5:sameW (Fn 27 [il me,dB b,dS s,il h,il a,il to,dT tl]) (Fn 28 [il me,dB b,dS s,il h,il a,il to,dT tl])) :
  G4 (real Fn FnD M0) (il me) (dB b) (dS s) (il h) (il a) (il to) (dT tl) (il fld)=some (0,[.d (bl true)]):=by
 obtain ⟨m1,b1,c1,s1,k1,e1,p1,r1,q1,l1,n1⟩:=h1
 have z1:=h11 m1 m1 k1 k1 b1 c1 s1 s1 l1 n1
 simp only [q1,and_self,decide_true] at z1
 obtain ⟨m2,b2,c2,s2,k2,e2,p2,r2,q2,l2,n2⟩:=h2
 have z2:=h11 m2 m2 k2 k2 b2 c2 s2 s2 l2 n2
 simp only [q2,and_self,decide_true] at z2
 obtain ⟨m3,b3,c3,s3,k3,e3,p3,r3,q3,l3,n3⟩:=h3
 have z3:=h11 m3 m3 k3 k3 b3 c3 s3 s3 l3 n3
 simp only [q3,and_self,decide_true] at z3
 obtain ⟨m4,b4,c4,s4,k4,e4,p4,r4,q4,l4,n4⟩:=h4
 have z4:=h11 m4 m4 k4 k4 b4 c4 s4 s4 l4 n4
 simp only [q4,and_self,decide_true] at z4
 obtain ⟨m5,b5,c5,s5,k5,e5,p5,r5,q5,l5,n5⟩:=h5
 have z5:=h11 m5 m5 k5 k5 b5 c5 s5 s5 l5 n5
 simp only [q5,and_self,decide_true] at z5
 simp only [G4,r_call,p1,r1,z1,p2,r2,z2,p3,r3,z3,p4,r4,z4,p5,r5,z5,h18,r_bnd0,r_ld0,r_lds,r_eql,decide_true,r_cond,if_true,r_out]
theorem bellActs_sc (vds:List VD) (h:VTs Tryd.prog 8 [25,28,3] vds):SC Tryd.prog 4 vds (.one (.d (bl true))):=by
 obtain ⟨_,_,rfl,h1,h⟩:=VTs_cons h
 obtain ⟨_,_,rfl,h2,h⟩:=VTs_cons h
 obtain ⟨_,_,rfl,h3,h⟩:=VTs_cons h
 cases VTs_nil h
 obtain ⟨_,rfl,k1⟩:=h1.agg_ Tryd.underlying25
 obtain ⟨_,rfl,k2⟩:=h2.agg_ Tryd.underlying28
 obtain ⟨_,rfl,k3⟩:=h3.int_ Tryd.underlying3
 obtain ⟨fld,e3,_⟩:=o3 k3
 cases e3
 obtain ⟨me,b,s,x,rfl,hb,hs⟩:=o25 k1
 obtain ⟨c,d,t,rfl,ht⟩:=o28 k2
 refine lawSC (T:=tb) (fuel:=400) (m0:=M0) (xs:=[il me,dB b,dS s,il x,il c,il d,dT t,il fld]) mixP (FnS_ok 20) (FnS_okM 20) spOK (by decide) (sh:=[.agg 4,.agg 3,.one]) rfl rfl rfl ?_
 rw [G4_eq]
 have hb':(b.getD []).length≤BB:=by simp only [BB];omega
 have hs':(s.getD []).length≤BB:=by simp only [BB];omega
 have ht':(t.getD []).length≤BB:=by simp only [BB];omega
 refine lawActs (FnS_18 20) (fun a b h k o q s t h1 h2=>FnS_ne (s11 18 a b h k o q s t h1 h2) (by decide)) ?_ ?_ ?_ ?_ ?_
 ·rw [FnS_ne (s19 14 me x b s fld hs' hb') (by decide),FnS_ne (s20 11 me x b s fld hs' hb') (by decide)]
  exact same_of hb'
 ·rw [FnS_ne (s21 14 me x b s fld hs' hb') (by decide),FnS_ne (s22 11 me x b s fld hs' hb') (by decide)]
  exact same_of hb'
 ·rw [FnS_ne (s23 14 me x b s fld hs' hb') (by decide),FnS_ne (s24 11 me x b s fld hs' hb') (by decide)]
  exact same_of hb'
 ·rw [FnS_ne (s25 14 me x b s hs' hb') (by decide),FnS_ne (s26 12 me x b s hs' hb') (by decide)]
  split
  ·exact same_fin hb'
  ·exact same_no _
 ·rw [FnS_ne (s27 14 me x c d b s t hs' hb' ht') (by decide),FnS_ne (s28 12 me x c d b s t hs' hb' ht') (by decide)]
  split
  ·split
   ·exact same_fin hb'
   ·exact same_no _
  ·exact same_no _
end Go.VE
namespace Go.Proofs.YtaagapoglhndjaaDoor
open Go.VE Go.RowKit Go.ChangeShapes Go.WideShapes
set_option maxRecDepth 100000
theorem own:ownKnob Tryd.prog.godebug=none:=by kernel_rfl
theorem laidOut:laidOutB Tryd.prog=true:=by kernel_rfl
abbrev laid3:List (String×DataW Unit):=[("math/bits.deBruijn32tab",Rows.laid_math_bits_deBruijn32tab),("math/bits.deBruijn64tab",Rows.laid_math_bits_deBruijn64tab),("internal/strconv.uint64pow10",Rows.laid_internal_strconv_uint64pow10)]
theorem door_met (os:Os) (args:Array Value):laidMetH Tryd.prog laid3 ((World.doorLaid Tryd.prog 400 os).forCall (fun _ _=>0) ⟨#[],args,[]⟩).memory :=
 laidMetH_of_parts3 (fuel:=8) (laidMet_of_run' 8 (by kernel_rfl) (by kernel_rfl)) (by kernel_rfl) (by kernel_rfl)
theorem bellActs_lifted (hsc:∀ vds,VTs Tryd.prog 8 Tryd.f4.params.toList vds→SC Tryd.prog 4 vds (.one (.d (bl true)))) (os:Os) (started:os.Started) (H:Type) (enc:TypeId×Value→H) :
  ReturnsInHanded {} Tryd.checked os 4 .any (fun w args=>(Rows.bellActsSpec.pre enc Tryd.prog Tryd.f4 [] false w args∧laidMetH Tryd.prog laid3 w)∧sizedMet enc Tryd.prog Tryd.f4 (OpenSpec.ofChange Rows.bellActsSpec) false w args) (Rows.bellActsSpec.post enc Tryd.prog Tryd.f4 false true false false) :=
 lawInX (C:=Tryd.checked) (n:=8) (tb:=4) (X:=fun w _=>laidMetH Tryd.prog laid3 w) (fun _ _ _ hh h=>h.of_heap hh) own started (by kernel_rfl) Tryd.func4
  (ChangeSpec.witness_shaped (enc:=enc) (C:=Tryd.checked) (os:=os) (X:=fun w _=>laidMetH Tryd.prog laid3 w) false (World.doorLaid Tryd.prog 400 os) #[.agg #[.int .i64 0,.slice none 0 0,.slice none 0 0,.int .i64 0],.agg #[.int .i64 0,.int .i64 0,.slice none 0 0],.int .i64 0] 8 rfl (World.shaped_of_RefB (by kernel_rfl) (by kernel_rfl)) (by kernel_rfl) (by kernel_rfl) (by kernel_rfl) (door_met os _))
  laidOut (by kernel_rfl) (by kernel_rfl) Tryd.underlying4 rfl
  (fun ds hd=>by
   rw [show Tryd.f4.params.toList=[25,28,3] by kernel_rfl] at hd
   match ds,hd with
   | [a,b,c],_=>rfl)
  hsc
theorem bellActs_row (hsc:∀ vds,VTs Tryd.prog 8 Tryd.f4.params.toList vds→SC Tryd.prog 4 vds (.one (.d (bl true)))):Rows.BellActsSaid :=
 OpenClaim.holds_of_wide 4 Tryd.f4 rfl rfl rfl rfl rfl rfl rfl ⟨rfl,rfl,rfl,rfl,rfl⟩ rfl rfl rfl rfl rfl (by kernel_rfl) Tryd.func4 (by kernel_rfl)
  (of_decide_eq_true (by kernel_rfl)) (by unfold Func.isWrapper;first | (rw [if_pos (by decide +kernel)];kernel_rfl) | (rw [if_neg (by decide +kernel)];exact ⟨rfl,rfl⟩))
  (fun os started H enc _=>bellActs_lifted hsc os started H enc)
theorem bellActs_card (hsc:∀ vds,VTs Tryd.prog 8 Tryd.f4.params.toList vds→SC Tryd.prog 4 vds (.one (.d (bl true)))):Rows.BellActsCardSaid :=
 Claim7.holds_tied_plain_at .later [] [.data,.data,.data] true (true, "c63727e6b2ca268bab9231e264516db7b1e83e0cab08a551e4a85ab0b113b8db") false
  (bellActs_row hsc) (fun _ h=>by cases h) (by kernel_rfl) (fun _ h=>by cases h) bellActs_row_tie rfl ⟨rfl,rfl⟩ (by kernel_rfl) rfl
  (fun f fn hf hfn=>by
   obtain rfl:f=4:=Option.some.inj ((show Tryd.prog.funcNamed "leazing/leazinglaw09.BellActs" = some 4 by kernel_rfl).symm.trans hf) |>.symm
   obtain rfl:fn=Tryd.f4:=(Option.some.inj (Tryd.func4.symm.trans hfn)).symm
   exact ⟨by kernel_rfl,fun j t ht=>by
    rw [Tryd.params4] at ht
    have hm:t∈[25,28,3]:=by simpa using Array.mem_of_getElem? ht
    have hall:([25,28,3].all fun u=>!Tryd.prog.wantsStandIn u)=true:=by kernel_rfl
    exact (show Tryd.prog.wantsStandIn t=false by simpa using List.all_eq_true.1 hall t hm)⟩)
  (by kernel_rfl)
theorem bellActs_holds:Rows.BellActsCardSaid:=bellActs_card fun vds h=>bellActs_sc vds (by
 have e:Tryd.f4.params.toList=[25,28,3]:=by kernel_rfl
 rw [e] at h;exact h)
#print axioms bellActs_holds
end Go.Proofs.YtaagapoglhndjaaDoor
