/- Bell: reading more strokes, the book at hand. -/
import Derived.Test.YtaagapoglhndjaaDoorMg2
namespace Go.VE
open Go.RowKit Go.Proofs
theorem e97_3:@L1300095_3=@L1000095_0:=rfl
theorem e97_4:@L1300095_4=@L1000095_1:=rfl
theorem e97_5:@L1300095_5=@L1000095_2:=rfl
def enQ (l:List Stk) (bs:List Brd) (r:Rr) (c1 c2 c5:D) (c3 c4:Nat) (i:Nat) (fs:List Fld):List Yr:=[.d (dS (some l)),.d (il l.length),.d (il i),.m (mapM bs fs),.r r,.d c1,.d c2,.n c3,.n c4,.d c5]
set_option maxRecDepth 20000 in
theorem l97 (n:Nat) (b:Option (List Brd)) (hb:(b.getD []).length≤4611686018427387904) (h6:∀ c∈b.getD [],six c.2) (l:List Stk) (hl:l.length≤4611686018427387904) (r0:Rr) (me:Int) (c5:D) (c3 c4:Nat) (fs:List Fld) (hf:fs.length=(b.getD []).length) :
  loopR [L1300095_6 (RP (n+3))] M0 0 (enQ l (b.getD []) r0 (il me) (dB b) c5 c3 c4 0 fs)=outL (b.getD []) r0 (il me) (dB b) c5 c3 c4 (pread me (b.getD []) fs l):=by
 have:=range_loop (β:=List Fld) l hl (L1300095_6 (RP (n+3))) (fun i fs=>enQ l (b.getD []) r0 (il me) (dB b) c5 c3 c4 i fs) (fun _ fs=>fs.length=(b.getD []).length)
  (fun _ r fs=>outL (b.getD []) r0 (il me) (dB b) c5 c3 c4 (pread me (b.getD []) fs r)) ?_ ?_ M0 fs hf (M0_big hl)
 ·exact this
 ·intro fs k _
  simp [L1300095_6,enQ,outL,pread]
 ·intro i s r fs k hi hd hlt hw hfs ih
  have hlt':(i:Int) < (l.length:Int):=by omega
  have hin:0≤(i:Int)∧(i:Int) < (l.length:Nat):=by omega
  rw [pread]
  by_cases hs:okS s=true
  ·rw [if_pos hs]
   cases hx:bix s.2.1 (b.getD []) with
   | none =>
    have hneg:ixI s.2.1 (b.getD []) < 0:=ixI_neg.2 hx
    simp only [enQ,L1300095_6,r_ld0,r_lds,r_lm0,r_lms,r_ln0,r_lns,r_lr0,r_lrs,r_lss,hlt',decide_true,r_cond,if_true,rowS (o:=some l) hi,cS0,cS1,cS2,cS3,r_call,s107,r_bnd0,hs,r_not,Bool.not_true,Bool.false_eq_true,if_false,r_fnD113,s112 _ _ hb,r_liti,hneg,r_litb,r_out,r_eql,r_bnd_ite,outL]
    simp
   | some j =>
    obtain ⟨hj1,hj2⟩:=bix_some hx
    have hnn:¬ (ixI s.2.1 (b.getD []) < 0):=by rw [ixI_neg,hx];simp
    have hix:ixI s.2.1 (b.getD [])=(j:Int):=by simp [ixI,hx]
    obtain ⟨e,he⟩:∃ e,(b.getD [])[j]?=some e:=⟨_,List.getElem?_eq_getElem hj1⟩
    have hP:six e.2:=h6 e (List.mem_of_getElem? he)
    have hge:(b.getD []).getD j (0,0)=e:=by simp [List.getD_eq_getElem?_getD,he]
    obtain ⟨f,hf⟩:∃ f,fs[j]?=some f:=⟨_,List.getElem?_eq_getElem (by omega)⟩
    have hgf:fs.getD j fd0=f:=by simp [List.getD_eq_getElem?_getD,hf]
    simp only
    rw [hge,hgf]
    have ihs:∀ g,k 0 (enQ l (b.getD []) r0 (il me) (dB b) c5 c3 c4 (i+1) (fs.set j g))=outL (b.getD []) r0 (il me) (dB b) c5 c3 c4 (pread me (b.getD []) (fs.set j g) r):=fun g=>ih _ (by rw [set_len];exact hfs)
    simp only [enQ,cast1] at ihs
    simp only [enQ,L1300095_6,r_ld0,r_lds,r_lm0,r_lms,r_ln0,r_lns,r_lr0,r_lrs,r_lss,hlt',decide_true,r_cond,if_true,rowS (o:=some l) hi,cS0,cS1,cS2,cS3,r_call,s107,r_bnd0,hs,r_not,Bool.not_true,Bool.false_eq_true,if_false,r_fnD113,s112 _ _ hb,r_liti,hnn,decide_false,r_litb,r_out]
    rw [hix,rowB he]
    simp only [cB0,cB1,r_bnd0,r_ld0,r_lds,r_lm0,r_lms,r_ln0,r_lns,r_lr0,r_lrs]
    rcases okS_kind hs with ⟨h1,ho⟩ | h1 | ⟨h1,ho⟩ | h1
    ·have hp:=par_lt ho
     have hq:0≤s.2.2.1∧s.2.2.1 < (6:Nat):=by have:=par_iff.1 ho;omega
     have k1:3*s.2.2.1.toNat+1≤20:=by omega
     have k2:3*s.2.2.1.toNat+1+1≤20:=by omega
     unfold fstep
     simp only [h1,r_eql,decide_true,if_true,r_bnd0,r_ld0,r_lds,r_lm0,r_lms,r_ln0,r_lns,r_lr0,r_lrs,r_not,r_cond,Bool.not_true,Bool.false_eq_true,if_false,s91 _ _ hP,mapM,r_natN,r_inxg,hq,and_self,r_mrows,r_row20 hf,r_addN,r_mulN,r_leN,r_cellN,Nat.zero_add,Nat.add_zero,get_opn,get_no f hp,r_leq,r_selK1,r_find,hx,r_mset,r_setRC,set_no hf hp,r_row20 (set_at hf _),set_af (set_at hf _) hp,List.set_set,r_add,hw,k1,k2,show 19+1≤20 by decide,decide_eq_true_eq]
     by_cases g1:s.2.2.1=me
     ·simp [g1,outL,mapM]
     ·by_cases g2:hasP e.2 s.2.2.1=true
      ·by_cases g3:f.opn=true
       ·simp [g1,g2,g3,outL,mapM]
       ·by_cases g4:s.2.2.2≤f.no s.2.2.1.toNat
        ·simp [g1,g2,g3,g4,outL,mapM]
        ·have ih':=ihs { f with no:=upN f.no s.2.2.1.toNat s.2.2.2,af:=upN f.af s.2.2.1.toNat true }
         have g3':f.opn=false:=by simpa using g3
         simp only [mapM,g3'] at ih'
         simp only [g1,g2,g3',g4,if_false,r_bnd0,r_ld0,r_lds,r_lm0,r_lms,r_ln0,r_lns,r_lr0,r_lrs,r_not,r_cond,Bool.not_true,Bool.false_eq_true,decide_false,Bool.or_false]
         exact ih'
      ·simp [g1,g2,outL,mapM]
    ·unfold fstep
     simp only [h1,r_eql,show ¬ ((2:Int)=1) by decide,show ¬ ((2:Int)=3) by decide,decide_false,if_true,r_bnd0,r_ld0,r_lds,r_lm0,r_lms,r_ln0,r_lns,r_lr0,r_lrs,r_not,r_cond,Bool.not_true,Bool.false_eq_true,if_false,mapM,r_natN,r_mrows,r_row20 hf,r_addN,r_mulN,r_leN,r_cellN,Nat.zero_add,Nat.add_zero,get_wants,r_leq,r_selK2,r_find,hx,r_mset,r_setRC,set_wants hf,r_loop,e97_3,r_add,hw,show 18+1≤20 by decide,decide_eq_true_eq]
     by_cases g1:s.2.2.2≤f.wants
     ·simp [g1,outL,mapM]
     ·have ih':=ihs { f with wants:=s.2.2.2,af:=fun _=>false }
      have h0:=l95_0 (n+3) (b.getD []) (fs.set j { f with wants:=s.2.2.2 }) (set_at hf _) (il me) (dB b) c5 c3 c4 r0
      simp only [mapM,List.set_set] at ih' h0
      simp only [g1,if_false,h0,r_bnd0,r_ld0,r_lds,r_lm0,r_lms,r_ln0,r_lns,r_lr0,r_lrs]
      exact ih'
    ·have hp:=par_lt ho
     have hq:0≤s.2.2.1∧s.2.2.1 < (6:Nat):=by have:=par_iff.1 ho;omega
     have k2:3*s.2.2.1.toNat+2+1≤20:=by omega
     unfold fstep
     simp only [h1,r_eql,show ¬ ((3:Int)=1) by decide,show ¬ ((3:Int)=2) by decide,decide_true,decide_false,if_true,r_bnd0,r_ld0,r_lds,r_lm0,r_lms,r_ln0,r_lns,r_lr0,r_lrs,r_not,r_cond,Bool.not_true,Bool.false_eq_true,if_false,s91 _ _ hP,mapM,r_natN,r_inxg,hq,and_self,r_mrows,r_row20 hf,r_addN,r_mulN,r_leN,r_cellN,Nat.zero_add,Nat.add_zero,get_ask f hp,r_leq,r_selK3,r_find,hx,r_mset,r_setRC,set_ask hf hp,r_add,hw,k2,decide_eq_true_eq]
     by_cases g1:s.2.2.1=me
     ·simp [g1,outL,mapM]
     ·by_cases g2:hasP e.2 s.2.2.1=true
      ·by_cases g4:s.2.2.2≤f.ask s.2.2.1.toNat
       ·simp [g1,g2,g4,outL,mapM]
       ·have ih':=ihs { f with ask:=upN f.ask s.2.2.1.toNat s.2.2.2 }
        simp only [mapM] at ih'
        simp only [g1,g2,g4,if_false,r_bnd0,r_ld0,r_lds,r_lm0,r_lms,r_ln0,r_lns,r_lr0,r_lrs,Bool.not_true,Bool.false_eq_true,decide_false,Bool.or_false]
        exact ih'
      ·simp [g1,g2,outL,mapM]
    ·unfold fstep
     have he1:e.1=s.2.1:=by rw [←hge];exact hj2
     have hj0:¬ ((j:Int) < 0):=by omega
     simp only [h1,r_eql,show ¬ ((4:Int)=1) by decide,show ¬ ((4:Int)=2) by decide,show ¬ ((4:Int)=3) by decide,decide_false,if_true,r_bnd0,r_ld0,r_lds,r_lm0,r_lms,r_ln0,r_lns,r_lr0,r_lrs,r_not,r_cond,Bool.not_true,Bool.false_eq_true,if_false,mapM,r_natN,r_selK4,r_find,hx,r_fnD113,s112 _ _ hb,hix,hj0,rowB he,cB0,cB1,r_lss,r_mrows,r_row20 hf,r_addN,r_mulN,r_leN,r_cellN,Nat.zero_add,Nat.add_zero,get_opn,r_eqlB,r_mset,r_setRC,r_loop,e97_4,e97_5,r_add,hw,show 19+1≤20 by decide,he1,decide_eq_true_eq]
     by_cases g1:s.2.2.2=1
     ·cases g2:f.opn with
      | true=>simp [g1,outL,mapM]
      | false =>
       have h0:=fun y hy=>l95_m (n:=n) hf hx hP me y hy (il s.2.1) (dB b) c5 c3 c4 r0
       simp only [mapM] at h0
       simp only [g1,decide_true,show ((false==true)=true)=False by simp,if_false,if_true]
       rw [h0 _ (by simp)]
       cases hm:missL me e.2 f with
       | nil =>
        have ih':=ihs { f with opn:=true }
        simp only [mapM] at ih'
        simp only [outM,r_bnd0,r_ld0,r_lds,r_lm0,r_lms,r_ln0,r_lns,r_lr0,r_lrs,r_gtr,r_cond,show ¬ ((0:Int) < 0) by decide,decide_false,Bool.false_eq_true,if_false,r_row20 hf,set_opn hf,r_not,Bool.not_true,List.isEmpty_nil,Bool.and_false,Bool.or_false,show ((false==true)=true)=False by simp]
        exact ih'
       | cons a t =>
        have:(0:Int) < ((t.length+1:Nat):Int):=by omega
        simp only [outM,r_bnd0,r_bnd1,r_ld0,r_lds,r_lm0,r_lms,r_ln0,r_lns,r_lr0,r_lrs,r_gtr,r_cond,r_natD,this,decide_true,if_true,r_not,Bool.not_false]
        simp [outL,mapM]
     ·cases g2:f.opn with
      | true =>
       have ih':=ihs { f with opn:=false }
       simp only [mapM] at ih'
       simp only [g1,decide_false,show ((true==false)=true)=False by simp,if_false,Bool.false_eq_true,set_opn hf,r_bnd0,r_ld0,r_lds,r_lm0,r_lms,r_ln0,r_lns,r_lr0,r_lrs,r_not,r_cond,Bool.not_true,Bool.false_and,Bool.or_false]
       exact ih'
      | false=>simp [g1,outL,mapM]
  ·simp only [enQ,L1300095_6,r_ld0,r_lds,r_lm0,r_lms,r_ln0,r_lns,r_lr0,r_lrs,r_lss,hlt',decide_true,r_cond,if_true,rowS (o:=some l) hi,cS0,cS1,cS2,cS3,r_call,s107,r_bnd0,hs,r_not,r_out,r_litb]
   simp [outL]
theorem s1300095 (n:Nat) (b:Option (List Brd)) (hb:(b.getD []).length≤4611686018427387904) (h6:∀ c∈b.getD [],six c.2) (l:List Stk) (hl:l.length≤4611686018427387904) (r0:Rr) (me:Int) (c5:D) (c3 c4:Nat) (fs:List Fld) (hf:fs.length=(b.getD []).length) :
  FN (n+4) 1300095 [il me,dB b,il c3,il c4,c5,.sl 4 r0,.mp true (keysB (b.getD [])) (fs.map row20),.sl 4 (l.map rS)] =
   some (0,[.d (bl (pread me (b.getD []) fs l).2),.d (il me),.d (dB b),.d (il c3),.d (il c4),.d c5,.d (.sl 4 r0),.d (.mp true (keysB (b.getD [])) ((pread me (b.getD []) fs l).1.map row20))]):=by
 rw [F1300095]
 have h:=l97 n b hb h6 l hl r0 me c5 c3 c4 fs hf
 have ha:∀ k:Mr→Out,(RP (n+3)).asM true (.mp true (keysB (b.getD [])) (fs.map row20)) k=k (mapM (b.getD []) fs):=fun _=>rfl
 have hd:(D.sl 4 (l.map rS))=dS (some l):=rfl
 have hn:(RP (n+3)).lenD (dS (some l))=fun k=>k (il l.length):=by funext k;exact lenL _ _ _ k
 simp only [enQ,Int.natCast_zero] at h
 simp only [G1300095,r_rowsD,hd,hn,ha,r_loop,r_liti,r_dN,h,outL]
 cases (pread me (b.getD []) fs l).2<;>simp [r_mpD,mapM]
end Go.VE
namespace Go.VE
open Go.RowKit Go.Proofs
set_option maxRecDepth 100000
section
variable {Δ N R W M E Ω:Type} (p:Pr Δ N R W M E Ω)
def opn9 (a0 a1 a2 a3 a4: Δ):Ω:=(p.bnd (p.call 61 [a0]) [fun y0=>p.un .not (p.ld y0 0) fun x1=>p.cond x1 (p.out 0 [.d a4,.d (p.lit (.int .i64 92)),.d (p.lit (.int .i64 0)),.d (p.lit (.int .i64 0)),.d (p.lit (.int .i64 0)),.d (p.lit (.int .i64 0))]) (p.bnd (p.call 62 [a0,a1]) [fun y2=>p.un .not (p.ld y2 0) fun x3=>p.cond x3 (p.out 0 [.d a4,.d (p.lit (.int .i64 92)),.d (p.lit (.int .i64 0)),.d (p.lit (.int .i64 0)),.d (p.lit (.int .i64 0)),.d (p.lit (.int .i64 0))]) (p.lenD a2 fun x4=>p.bin .gtr false x4 (p.lit (.int .i64 120)) fun x5=>p.cond x5 (p.out 0 [.d a4,.d (p.lit (.int .i64 92)),.d (p.lit (.int .i64 0)),.d (p.lit (.int .i64 0)),.d (p.lit (.int .i64 0)),.d (p.lit (.int .i64 0))]) (p.lenD a2 fun x6=>p.bnd (p.call 68 [a3,(p.lit (.int .i64 0)),x6]) [fun y7=>p.un .not (p.ld y7 0) fun x8=>p.cond x8 (p.out 0 [.d a4,.d (p.lit (.int .i64 92)),.d (p.lit (.int .i64 0)),.d (p.lit (.int .i64 0)),.d (p.lit (.int .i64 0)),.d (p.lit (.int .i64 0))]) (p.bnd (p.call 63 [a1]) [fun y9=>p.lenD a2 fun x10=>p.mkN 32 x10 x10 fun n11=>p.rowsD 4 a2 fun r12=>p.eqN n11 (p.len (p.repl n11 [(p.lit (.int .i64 0)),(p.lit (.int .i64 0)),(p.lit (.int .i64 0)),(p.lit (.int .i64 0))])) (p.eqN n11 (p.len (p.repl n11 [(p.lit (.int .i64 0)),(p.lit (.int .i64 0)),(p.lit (.int .i64 0)),(p.lit (.int .i64 0))])) (p.lenD (p.ld y9 0) fun x13=>p.bnd (p.loop [(L19_0 p)] 0 [.d (p.ld y9 0),.d x13,.d (p.lit (.int .i64 0)),.m p.emp,.d a0,.d (p.ld y9 0),.n n11,.n n11,.d a3,.d (p.lit (.int .i64 0)),.d (p.lit (.int .i64 0)),.d a0,.d a1,.d a2,.d a3,.d (p.lit (.int .i64 0)),.d (p.lit (.int .i64 0)),.r (p.app (p.seg r12 none n11) (p.seg (p.repl n11 [(p.lit (.int .i64 0)),(p.lit (.int .i64 0)),(p.lit (.int .i64 0)),(p.lit (.int .i64 0))]) (some (p.len r12)) n11)),.d a0,.d (p.ld y9 0),.n n11,.n n11,.d a3]) [fun y14=>p.eqN n11 (p.len (p.lr y14 14)) (p.eqN n11 (p.len (p.lr y14 14)) (p.bnd (p.call 1000095 [p.ld y14 1,p.ld y14 2,(p.natD (p.ln y14 3)),(p.natD (p.ln y14 4)),p.ld y14 5,(p.slD 4 (p.lr y14 14)),(p.mpD true (p.lm y14 0))]) [fun y15=>p.rowsD 4 (p.ld y15 6) fun r16=>p.asM true (p.ld y15 7) fun q17=>p.un .not (p.ld y15 0) fun x18=>p.cond x18 (p.out 0 [.d a4,.d (p.lit (.int .i64 92)),.d (p.ld y14 12),.d (p.ld y14 13),.d (p.ld y14 6),.d (p.ld y14 7)]) (p.out 1 [.d a4,.d (p.lit (.int .i64 0)),.m q17,.r r16,.d (p.ld y15 1),.d (p.ld y15 2),.n (p.dN (p.ld y15 3)),.n (p.dN (p.ld y15 4)),.d (p.ld y15 5),.d (p.ld y14 12),.d (p.ld y14 13),.d (p.ld y14 6),.d (p.ld y14 7)])]))]))])]))])])
def opn25 (a0 a1 a2 a3: Δ):Ω:=(p.bnd (p.call 61 [a0]) [fun y0=>p.un .not (p.ld y0 0) fun x1=>p.cond x1 (p.out 0 [.d (p.lit (.int .i64 92)),.d (p.lit (.int .i64 0)),.d (p.lit (.int .i64 0))]) (p.bnd (p.call 62 [a0,a1]) [fun y2=>p.un .not (p.ld y2 0) fun x3=>p.cond x3 (p.out 0 [.d (p.lit (.int .i64 92)),.d (p.lit (.int .i64 0)),.d (p.lit (.int .i64 0))]) (p.lenD a2 fun x4=>p.bin .gtr false x4 (p.lit (.int .i64 120)) fun x5=>p.cond x5 (p.out 0 [.d (p.lit (.int .i64 92)),.d (p.lit (.int .i64 0)),.d (p.lit (.int .i64 0))]) (p.lenD a2 fun x6=>p.bnd (p.call 68 [a3,(p.lit (.int .i64 0)),x6]) [fun y7=>p.un .not (p.ld y7 0) fun x8=>p.cond x8 (p.out 0 [.d (p.lit (.int .i64 92)),.d (p.lit (.int .i64 0)),.d (p.lit (.int .i64 0))]) (p.bnd (p.call 63 [a1]) [fun y9=>p.lenD a2 fun x10=>p.mkN 32 x10 x10 fun n11=>p.rowsD 4 a2 fun r12=>p.eqN n11 (p.len (p.repl n11 [(p.lit (.int .i64 0)),(p.lit (.int .i64 0)),(p.lit (.int .i64 0)),(p.lit (.int .i64 0))])) (p.eqN n11 (p.len (p.repl n11 [(p.lit (.int .i64 0)),(p.lit (.int .i64 0)),(p.lit (.int .i64 0)),(p.lit (.int .i64 0))])) (p.lenD (p.ld y9 0) fun x13=>p.bnd (p.loop [(L43_0 p)] 0 [.d (p.ld y9 0),.d x13,.d (p.lit (.int .i64 0)),.m p.emp,.d a0,.d (p.ld y9 0),.n n11,.n n11,.d a3,.d (p.lit (.int .i64 0)),.d (p.lit (.int .i64 0)),.r (p.app (p.seg r12 none n11) (p.seg (p.repl n11 [(p.lit (.int .i64 0)),(p.lit (.int .i64 0)),(p.lit (.int .i64 0)),(p.lit (.int .i64 0))]) (some (p.len r12)) n11)),.d a0,.d (p.ld y9 0),.n n11,.n n11,.d a3]) [fun y14=>p.eqN n11 (p.len (p.lr y14 8)) (p.eqN n11 (p.len (p.lr y14 8)) (p.bnd (p.call 1000095 [p.ld y14 1,p.ld y14 2,(p.natD (p.ln y14 3)),(p.natD (p.ln y14 4)),p.ld y14 5,(p.slD 4 (p.lr y14 8)),(p.mpD true (p.lm y14 0))]) [fun y15=>p.rowsD 4 (p.ld y15 6) fun r16=>p.asM true (p.ld y15 7) fun q17=>p.un .not (p.ld y15 0) fun x18=>p.cond x18 (p.out 0 [.d (p.lit (.int .i64 92)),.d (p.ld y14 6),.d (p.ld y14 7)]) (p.out 1 [.d (p.lit (.int .i64 0)),.m q17,.r r16,.d (p.ld y15 1),.d (p.ld y15 2),.n (p.dN (p.ld y15 3)),.n (p.dN (p.ld y15 4)),.d (p.ld y15 5),.d (p.ld y14 6),.d (p.ld y14 7)])]))]))])]))])])
def opn27 (a0 a1 a2 a3 a4 a5 a6: Δ):Ω:=(p.bnd (p.call 61 [a0]) [fun y0=>p.un .not (p.ld y0 0) fun x1=>p.cond x1 (p.out 0 [.d a4,.d a5,.d a6,.d (p.lit (.int .i64 92)),.d (p.lit (.int .i64 0)),.d (p.lit (.int .i64 0))]) (p.bnd (p.call 62 [a0,a1]) [fun y2=>p.un .not (p.ld y2 0) fun x3=>p.cond x3 (p.out 0 [.d a4,.d a5,.d a6,.d (p.lit (.int .i64 92)),.d (p.lit (.int .i64 0)),.d (p.lit (.int .i64 0))]) (p.lenD a2 fun x4=>p.bin .gtr false x4 (p.lit (.int .i64 120)) fun x5=>p.cond x5 (p.out 0 [.d a4,.d a5,.d a6,.d (p.lit (.int .i64 92)),.d (p.lit (.int .i64 0)),.d (p.lit (.int .i64 0))]) (p.lenD a2 fun x6=>p.bnd (p.call 68 [a3,(p.lit (.int .i64 0)),x6]) [fun y7=>p.un .not (p.ld y7 0) fun x8=>p.cond x8 (p.out 0 [.d a4,.d a5,.d a6,.d (p.lit (.int .i64 92)),.d (p.lit (.int .i64 0)),.d (p.lit (.int .i64 0))]) (p.bnd (p.call 63 [a1]) [fun y9=>p.lenD a2 fun x10=>p.mkN 32 x10 x10 fun n11=>p.rowsD 4 a2 fun r12=>p.eqN n11 (p.len (p.repl n11 [(p.lit (.int .i64 0)),(p.lit (.int .i64 0)),(p.lit (.int .i64 0)),(p.lit (.int .i64 0))])) (p.eqN n11 (p.len (p.repl n11 [(p.lit (.int .i64 0)),(p.lit (.int .i64 0)),(p.lit (.int .i64 0)),(p.lit (.int .i64 0))])) (p.lenD (p.ld y9 0) fun x13=>p.bnd (p.loop [(L43_0 p)] 0 [.d (p.ld y9 0),.d x13,.d (p.lit (.int .i64 0)),.m p.emp,.d a0,.d (p.ld y9 0),.n n11,.n n11,.d a3,.d (p.lit (.int .i64 0)),.d (p.lit (.int .i64 0)),.r (p.app (p.seg r12 none n11) (p.seg (p.repl n11 [(p.lit (.int .i64 0)),(p.lit (.int .i64 0)),(p.lit (.int .i64 0)),(p.lit (.int .i64 0))]) (some (p.len r12)) n11)),.d a0,.d (p.ld y9 0),.n n11,.n n11,.d a3]) [fun y14=>p.eqN n11 (p.len (p.lr y14 8)) (p.eqN n11 (p.len (p.lr y14 8)) (p.bnd (p.call 1000095 [p.ld y14 1,p.ld y14 2,(p.natD (p.ln y14 3)),(p.natD (p.ln y14 4)),p.ld y14 5,(p.slD 4 (p.lr y14 8)),(p.mpD true (p.lm y14 0))]) [fun y15=>p.rowsD 4 (p.ld y15 6) fun r16=>p.asM true (p.ld y15 7) fun q17=>p.un .not (p.ld y15 0) fun x18=>p.cond x18 (p.out 0 [.d a4,.d a5,.d a6,.d (p.lit (.int .i64 92)),.d (p.ld y14 6),.d (p.ld y14 7)]) (p.out 1 [.d a4,.d a5,.d a6,.d (p.lit (.int .i64 0)),.m q17,.r r16,.d (p.ld y15 1),.d (p.ld y15 2),.n (p.dN (p.ld y15 3)),.n (p.dN (p.ld y15 4)),.d (p.ld y15 5),.d (p.ld y14 6),.d (p.ld y14 7)])]))]))])]))])])
end
theorem l19 (n:Nat) (o:Option (List Brd)) (hl:(o.getD []).length≤4611686018427387904) (hr:Rise (o.getD [])) (c0:D) (c1:D) (c2:Nat) (c3:Nat) (c4:D) (c5:D) (c6:D) (c7:D) (c8:D) (c9:D) (c10:D) (c11:D) (c12:D) (c13:Rr) (c14:D) (c15:D) (c16:Nat) (c17:Nat) (c18:D) :
  loopR [L19_0 (RP n)] M0 0 [.d (dB o),.d (il (o.getD []).length),.d (il 0),.m ([],[]),.d c0,.d c1,.n c2,.n c3,.d c4,.d c5,.d c6,.d c7,.d c8,.d c9,.d c10,.d c11,.d c12,.r c13,.d c14,.d c15,.n c16,.n c17,.d c18] =
   some (0,[.m (mapM (o.getD []) (new (o.getD []))),.d c0,.d c1,.n c2,.n c3,.d c4,.d c5,.d c6,.d c7,.d c8,.d c9,.d c10,.d c11,.d c12,.r c13,.d c14,.d c15,.n c16,.n c17,.d c18]):=by
 have:=range_loop (β:=Unit) (o.getD []) hl (L19_0 (RP n)) (fun i _=>[.d (dB o),.d (il (o.getD []).length),.d (il i),.m (mapM ((o.getD []).take i) (new ((o.getD []).take i))),.d c0,.d c1,.n c2,.n c3,.d c4,.d c5,.d c6,.d c7,.d c8,.d c9,.d c10,.d c11,.d c12,.r c13,.d c14,.d c15,.n c16,.n c17,.d c18]) (fun _ _=>True)
  (fun _ _ _=>some (0,[.m (mapM (o.getD []) (new (o.getD []))),.d c0,.d c1,.n c2,.n c3,.d c4,.d c5,.d c6,.d c7,.d c8,.d c9,.d c10,.d c11,.d c12,.r c13,.d c14,.d c15,.n c16,.n c17,.d c18])) ?_ ?_ M0 () trivial (M0_big hl)
 ·exact this
 ·intro _ k _
  simp [L19_0,List.take_length]
 ·intro i e r _ k hi hd hlt hw _ ih
  have hlt':(i:Int) < ((o.getD []).length:Int):=by omega
  have ih':=ih () trivial
  rw [cast1,take_snoc hi,new_snoc] at ih'
  have hadd:=fun k=>r_addK (Fn:=FN n) (FnD:=FnDof Tryd.prog (cf3 tb Tryd.prog) (FN n)) (m:=M0) (new_len ((o.getD []).take i)) (bix_new hr hi) fd0 k
  have hlen:((o.getD []).take i).length=i:=by simp;omega
  simp only [row20_0,hlen] at hadd
  simp only [L19_0,mapM,r_ld0,r_lds,r_lm0,r_lms,r_ln0,r_lns,r_lr0,r_lrs,r_lss,hlt',decide_true,r_cond,if_true,rowB hi,cB0,r_natN,r_eqN,r_mset,r_app,r_mrows,r_rows,r_liti,r_litb,r_len,List.length_map,new_len,hlen,hadd,r_add,hw]
  exact ih'
theorem op9 (n:Nat) (me h:Int) (b:Option (List Brd)) (o:Option (List Stk)) (a:D) (hl:(o.getD []).length≤4611686018427387904) (hb:(b.getD []).length≤4611686018427387904) :
  opn9 (RP (n+4)) (il me) (dB b) (dS o) (il h) a=if okP me (b.getD []) (o.getD []) h=true then some (1,[.d a,.d (il 0),.m (mapM (b.getD []) (pg me (b.getD []) (o.getD []))),.r ((o.getD []).map rS),.d (il me),.d (dB b),.n (o.getD []).length,.n (o.getD []).length,.d (il h),.d (il 0),.d (il 0),.d (il 0),.d (il 0)]) else some (0,[.d a,.d (il 92),.d (il 0),.d (il 0),.d (il 0),.d (il 0)]):=by
 simp only [opn9,r_call,s61,s62 _ _ _ hb,s68,lenL,r_bnd0,r_ld0,r_not,r_cond,r_out,r_liti,r_gtr,okP]
 by_cases h1:par me=true
 ·by_cases h2:bords me (b.getD [])=true
  ·have h2':=h2
   simp only [bords,Bool.and_eq_true,decide_eq_true_eq] at h2'
   by_cases h3:(o.getD []).length≤120
   ·have h3':¬ ((120:Int) < (o.getD []).length):=by omega
    by_cases h4:inn h 0 (o.getD []).length=true
    ·have hmk:0≤((o.getD []).length:Int)∧((32:Nat):Int)*((o.getD []).length:Int)≤140737488355328∧((o.getD []).length:Int)≤9223372036854775807:=by omega
     simp only [h1,h2,h3,h3',h4,Bool.not_true,Bool.false_eq_true,if_false,if_true,decide_true,decide_false,Bool.true_and,s63 _ _ h2'.2,r_bnd0,r_ld0,r_mkNg,hmk,and_self,Int.toNat_natCast,rowsL,r_repl,r_len,List.length_replicate,r_eqN,lenL,r_emp,r_app,r_seg0,r_seg1,r_loop,List.length_map]
     have hseg:=seg_copy ((o.getD []).map rS) [il 0,il 0,il 0,il 0]
     rw [List.length_map] at hseg
     rw [hseg,l19 _ _ hb (okL_rise h2'.1)]
     simp only [r_bnd0,r_ld0,r_lds,r_lm0,r_ln0,r_lns,r_lr0,r_lrs,List.length_map,if_true,r_natD,r_slD,r_mpD,mapM]
     rw [s1000095 _ _ hb (bords_six h2) _ (by omega) _ _ _ _ _ (new_len _)]
     simp only [r_bnd0,r_ld0,r_lds,r_rowsD,r_not,r_cond,r_dN]
     have ha:∀ (a:List Value) (b:Rr) (k:Mr→Out),(RP (n+4)).asM true (.mp true a b) k=k (a,b):=fun _ _ _=>rfl
     rw [ha]
     simp only [pg]
     rw [show (b.getD []).map (fun _=>fd0)=new (b.getD []) from rfl]
     cases (pread me (b.getD []) (new (b.getD [])) (o.getD [])).2<;>rfl
    ·simp [h1,h2,h3,h3',h4]
   ·have h3':((120:Int) < (o.getD []).length):=by omega
    simp [h1,h2,h3,h3']
  ·simp [h1,h2]
 ·simp [h1]
theorem op25 (n:Nat) (me h:Int) (b:Option (List Brd)) (o:Option (List Stk)) (hl:(o.getD []).length≤4611686018427387904) (hb:(b.getD []).length≤4611686018427387904) :
  opn25 (RP (n+4)) (il me) (dB b) (dS o) (il h)=if okP me (b.getD []) (o.getD []) h=true then some (1,[.d (il 0),.m (mapM (b.getD []) (pg me (b.getD []) (o.getD []))),.r ((o.getD []).map rS),.d (il me),.d (dB b),.n (o.getD []).length,.n (o.getD []).length,.d (il h),.d (il 0),.d (il 0)]) else some (0,[.d (il 92),.d (il 0),.d (il 0)]):=by
 simp only [opn25,r_call,s61,s62 _ _ _ hb,s68,lenL,r_bnd0,r_ld0,r_not,r_cond,r_out,r_liti,r_gtr,okP]
 by_cases h1:par me=true
 ·by_cases h2:bords me (b.getD [])=true
  ·have h2':=h2
   simp only [bords,Bool.and_eq_true,decide_eq_true_eq] at h2'
   by_cases h3:(o.getD []).length≤120
   ·have h3':¬ ((120:Int) < (o.getD []).length):=by omega
    by_cases h4:inn h 0 (o.getD []).length=true
    ·have hmk:0≤((o.getD []).length:Int)∧((32:Nat):Int)*((o.getD []).length:Int)≤140737488355328∧((o.getD []).length:Int)≤9223372036854775807:=by omega
     simp only [h1,h2,h3,h3',h4,Bool.not_true,Bool.false_eq_true,if_false,if_true,decide_true,decide_false,Bool.true_and,s63 _ _ h2'.2,r_bnd0,r_ld0,r_mkNg,hmk,and_self,Int.toNat_natCast,rowsL,r_repl,r_len,List.length_replicate,r_eqN,lenL,r_emp,r_app,r_seg0,r_seg1,r_loop,List.length_map]
     have hseg:=seg_copy ((o.getD []).map rS) [il 0,il 0,il 0,il 0]
     rw [List.length_map] at hseg
     rw [hseg,l43 _ _ hb (okL_rise h2'.1)]
     simp only [r_bnd0,r_ld0,r_lds,r_lm0,r_ln0,r_lns,r_lr0,r_lrs,List.length_map,if_true,r_natD,r_slD,r_mpD,mapM]
     rw [s1000095 _ _ hb (bords_six h2) _ (by omega) _ _ _ _ _ (new_len _)]
     simp only [r_bnd0,r_ld0,r_lds,r_rowsD,r_not,r_cond,r_dN]
     have ha:∀ (a:List Value) (b:Rr) (k:Mr→Out),(RP (n+4)).asM true (.mp true a b) k=k (a,b):=fun _ _ _=>rfl
     rw [ha]
     simp only [pg]
     rw [show (b.getD []).map (fun _=>fd0)=new (b.getD []) from rfl]
     cases (pread me (b.getD []) (new (b.getD [])) (o.getD [])).2<;>rfl
    ·simp [h1,h2,h3,h3',h4]
   ·have h3':((120:Int) < (o.getD []).length):=by omega
    simp [h1,h2,h3,h3']
  ·simp [h1,h2]
 ·simp [h1]
theorem op27 (n:Nat) (me h:Int) (b:Option (List Brd)) (o:Option (List Stk)) (x:D) (y:D) (z:D) (hl:(o.getD []).length≤4611686018427387904) (hb:(b.getD []).length≤4611686018427387904) :
  opn27 (RP (n+4)) (il me) (dB b) (dS o) (il h) x y z=if okP me (b.getD []) (o.getD []) h=true then some (1,[.d x,.d y,.d z,.d (il 0),.m (mapM (b.getD []) (pg me (b.getD []) (o.getD []))),.r ((o.getD []).map rS),.d (il me),.d (dB b),.n (o.getD []).length,.n (o.getD []).length,.d (il h),.d (il 0),.d (il 0)]) else some (0,[.d x,.d y,.d z,.d (il 92),.d (il 0),.d (il 0)]):=by
 simp only [opn27,r_call,s61,s62 _ _ _ hb,s68,lenL,r_bnd0,r_ld0,r_not,r_cond,r_out,r_liti,r_gtr,okP]
 by_cases h1:par me=true
 ·by_cases h2:bords me (b.getD [])=true
  ·have h2':=h2
   simp only [bords,Bool.and_eq_true,decide_eq_true_eq] at h2'
   by_cases h3:(o.getD []).length≤120
   ·have h3':¬ ((120:Int) < (o.getD []).length):=by omega
    by_cases h4:inn h 0 (o.getD []).length=true
    ·have hmk:0≤((o.getD []).length:Int)∧((32:Nat):Int)*((o.getD []).length:Int)≤140737488355328∧((o.getD []).length:Int)≤9223372036854775807:=by omega
     simp only [h1,h2,h3,h3',h4,Bool.not_true,Bool.false_eq_true,if_false,if_true,decide_true,decide_false,Bool.true_and,s63 _ _ h2'.2,r_bnd0,r_ld0,r_mkNg,hmk,and_self,Int.toNat_natCast,rowsL,r_repl,r_len,List.length_replicate,r_eqN,lenL,r_emp,r_app,r_seg0,r_seg1,r_loop,List.length_map]
     have hseg:=seg_copy ((o.getD []).map rS) [il 0,il 0,il 0,il 0]
     rw [List.length_map] at hseg
     rw [hseg,l43 _ _ hb (okL_rise h2'.1)]
     simp only [r_bnd0,r_ld0,r_lds,r_lm0,r_ln0,r_lns,r_lr0,r_lrs,List.length_map,if_true,r_natD,r_slD,r_mpD,mapM]
     rw [s1000095 _ _ hb (bords_six h2) _ (by omega) _ _ _ _ _ (new_len _)]
     simp only [r_bnd0,r_ld0,r_lds,r_rowsD,r_not,r_cond,r_dN]
     have ha:∀ (a:List Value) (b:Rr) (k:Mr→Out),(RP (n+4)).asM true (.mp true a b) k=k (a,b):=fun _ _ _=>rfl
     rw [ha]
     simp only [pg]
     rw [show (b.getD []).map (fun _=>fd0)=new (b.getD []) from rfl]
     cases (pread me (b.getD []) (new (b.getD [])) (o.getD [])).2<;>rfl
    ·simp [h1,h2,h3,h3',h4]
   ·have h3':((120:Int) < (o.getD []).length):=by omega
    simp [h1,h2,h3,h3']
  ·simp [h1,h2]
 ·simp [h1]
end Go.VE
namespace Go.VE
open Go.RowKit Go.Proofs
set_option maxRecDepth 100000
theorem eL23:@L23_0=@L19_0:=rfl
theorem eL21:@L21_0=@L19_0:=rfl
theorem eL25:@L25_0=@L43_0:=rfl
theorem eL27:@L27_0=@L43_0:=rfl
theorem fitA {a b:Nat} (ha:a≤120000) (hb:b≤120000):(a+b)*32≤140737488355328∧a+b≤9223372036854775807:=by omega
section
variable {n:Nat}
theorem r_asM_mp (a:List Value) (b:Rr) (k:Mr→Out):(RP n).asM true (.mp true a b) k=k (a,b):=rfl
end
theorem app_take (l:List Stk) (s:List Stk):(l.map rS++s.map rS).take (l.length+s.length)=(l++s).map rS:=by
 rw [List.map_append];exact List.take_of_length_le (by simp)
theorem dS_some (l:List Stk):dS (some l)=.sl 4 (l.map rS):=rfl
theorem okP_len {me h:Int} {bs:List Brd} {ss:List Stk} (ho:okP me bs ss h=true):ss.length≤120:=by
 simp only [okP,Bool.and_eq_true,decide_eq_true_eq] at ho
 exact ho.2.2.1
theorem okP_six {me h:Int} {bs:List Brd} {ss:List Stk} (ho:okP me bs ss h=true):∀ c∈bs,six c.2:=by
 simp only [okP,Bool.and_eq_true] at ho
 exact bords_six ho.2.1
theorem s19 (n:Nat) (me h:Int) (b:Option (List Brd)) (o:Option (List Stk)) (fld:Int) (hl:(o.getD []).length≤4611686018427387904) (hb:(b.getD []).length≤4611686018427387904) :
  FN (n+6) 19 [il me,dB b,dS o,il h,il fld]=ofR me (b.getD []) (o.getD []) h fld noW fun j=>finW me h b (o.getD []) (wantX fld (fl me (b.getD []) (o.getD []) j)):=by
 rw [F19]
 have hop:opn9 (RP (n+5)) (il me) (dB b) (dS o) (il h) (il fld)=_:=op9 (n+1) me h b o (il fld) hl hb
 unfold G19
 refine bnd_eq hop ?_
 unfold ofR
 by_cases h1:okP me (b.getD []) (o.getD []) h=true
 ·simp only [h1,if_true,r_bnd0,r_bnd1,r_ld0,r_lds,r_lm0,r_lms,r_ln0,r_lns,r_lr0,r_lrs,r_liti,r_neq,r_lss,ne_eq,not_true,decide_false,r_cond,Bool.false_eq_true,if_false,if_true,r_out,r_call,r_fnD113,s112 _ _ hb,ixI_neg,decide_eq_true_eq]
  cases hx:bix fld (b.getD []) with
  | none=>simp [noW,nilS]
  | some j =>
   obtain ⟨e,he,hfld,hg,hj⟩:=bord_at hx
   have h6:=okP_six h1 e (List.mem_of_getElem? he)
   have hf:=pg_at h1 hj
   have hr:=fl_rng h1 j
   have hlen:=okP_len h1
   have hN:¬ ((120:Int) < ((o.getD []).length:Int)):=by omega
   have hN1:((120:Int) < (((o.getD []).length+1:Nat):Int))↔120 < (o.getD []).length+1:=by omega
   have hsl:((o.getD []).map rS).take (o.getD []).length=(o.getD []).map rS:=List.take_of_length_le (by simp)
   simp only [reduceCtorEq,if_false,ixI_at hx,rowB he,r_findM,hx,r_mrowsM,r_row20 hf,r_addN,r_natN,r_leN,r_cellN,Nat.reduceAdd,Nat.reduceLeDiff,if_true,Nat.zero_add,get_opn,get_wants]
   generalize hf0:fl me (b.getD []) (o.getD []) j=f at hf hr ⊢
   by_cases g1:f.opn=true
   ·simp [wantX,g1,finW,noW,nilS]
   ·have g1':f.opn=false:=by simpa using g1
    have hw:IntKind.i64.wrap (f.wants+1)=f.wants+1:=by have:=hr.1;exact wrap_id (by omega) (by omega)
    have hc:=s1300095 (n+1) b hb (okP_six h1) [(2,fld,0,f.wants+1)] (by simp) ((o.getD []).map rS) me (il h) (o.getD []).length (o.getD []).length (pg me (b.getD []) (o.getD [])) (pg_len (okP_rise h1) _)
    have hap:=app_take (o.getD []) [(2,fld,0,f.wants+1)]
    have hfit:=fitA (a:=(o.getD []).length) (b:=1) (by omega) (by omega)
    simp only [List.length_cons,List.length_nil,Nat.zero_add,List.map_cons,List.map_nil,rS] at hc hap
    by_cases g2:f.wants.tmod 2=1
    ·have g3:odd f.wants=true:=by simp [odd,g2]
     have g5:¬ (120 < (o.getD []).length):=by omega
     simp [wantX,g1',g2,g3,finW,hN,g5,dS_some,r_rem _ _ _ _ (show (2:Int)≠0 by decide)]
     exact hsl
    ·have g3:odd f.wants=false:=by simp [odd,g2]
     simp only [wantX,g1',g3,Bool.false_eq_true,if_false,finW,r_rem _ _ _ _ (show (2:Int)≠0 by decide),r_eql,g2,decide_false,r_cond,r_add,hw,List.length_cons,List.length_nil,Nat.zero_add,if_true]
     simp only [r_natD,r_slD,r_mpD,mapM,r_rows,hc,r_bnd0,r_ld0,r_lds,r_rowsD,r_asM_mp,r_dN,r_len,List.length_map,List.length_cons,List.length_nil,Nat.zero_add,r_eqN,if_true,r_fitsg,hfit,and_self,r_gtr,hN1,r_cond,decide_eq_true_eq,r_app,r_seg0,List.length_append,hap]
     by_cases g4:120 < (o.getD []).length+1
     ·simp [g4,noW,nilS]
     ·simp [g4,dS_some,rS]
 ·simp [h1,noW,nilS]
theorem s23 (n:Nat) (me h:Int) (b:Option (List Brd)) (o:Option (List Stk)) (fld:Int) (hl:(o.getD []).length≤4611686018427387904) (hb:(b.getD []).length≤4611686018427387904) :
  FN (n+6) 23 [il me,dB b,dS o,il h,il fld]=ofR me (b.getD []) (o.getD []) h fld noW fun j=>finW me h b (o.getD []) (shutX fld (fl me (b.getD []) (o.getD []) j)):=by
 rw [F23]
 have hop:opn9 (RP (n+5)) (il me) (dB b) (dS o) (il h) (il fld)=_:=op9 (n+1) me h b o (il fld) hl hb
 unfold G23
 rw [eL23]
 refine bnd_eq hop ?_
 unfold ofR
 by_cases h1:okP me (b.getD []) (o.getD []) h=true
 ·simp only [h1,if_true,r_bnd0,r_bnd1,r_ld0,r_lds,r_lm0,r_lms,r_ln0,r_lns,r_lr0,r_lrs,r_liti,r_neq,r_lss,ne_eq,not_true,decide_false,r_cond,Bool.false_eq_true,if_false,if_true,r_out,r_call,r_fnD113,s112 _ _ hb,ixI_neg,decide_eq_true_eq]
  cases hx:bix fld (b.getD []) with
  | none=>simp [noW,nilS]
  | some j =>
   obtain ⟨e,he,hfld,hg,hj⟩:=bord_at hx
   have h6:=okP_six h1 e (List.mem_of_getElem? he)
   have hf:=pg_at h1 hj
   have hr:=fl_rng h1 j
   have hlen:=okP_len h1
   have hN:¬ ((120:Int) < ((o.getD []).length:Int)):=by omega
   have hN1:((120:Int) < (((o.getD []).length+1:Nat):Int))↔120 < (o.getD []).length+1:=by omega
   have hsl:((o.getD []).map rS).take (o.getD []).length=(o.getD []).map rS:=List.take_of_length_le (by simp)
   simp only [reduceCtorEq,if_false,ixI_at hx,rowB he,r_findM,hx,r_mrowsM,r_row20 hf,r_addN,r_natN,r_leN,r_cellN,Nat.reduceAdd,Nat.reduceLeDiff,if_true,Nat.zero_add,get_opn]
   generalize hf0:fl me (b.getD []) (o.getD []) j=f at hf hr ⊢
   by_cases g1:f.opn=true
   ·have hc:=s1300095 (n+1) b hb (okP_six h1) [(4,fld,0,0)] (by simp) ((o.getD []).map rS) me (il h) (o.getD []).length (o.getD []).length (pg me (b.getD []) (o.getD [])) (pg_len (okP_rise h1) _)
    have hap:=app_take (o.getD []) [(4,fld,0,0)]
    have hfit:=fitA (a:=(o.getD []).length) (b:=1) (by omega) (by omega)
    simp only [List.length_cons,List.length_nil,Nat.zero_add,List.map_cons,List.map_nil,rS] at hc hap
    simp only [shutX,g1,if_true,finW,r_not,Bool.not_true,Bool.false_eq_true,if_false,r_cond,List.length_cons,List.length_nil,Nat.zero_add]
    simp only [r_natD,r_slD,r_mpD,mapM,r_rows,hc,r_bnd0,r_ld0,r_lds,r_rowsD,r_asM_mp,r_dN,r_len,List.length_map,List.length_cons,List.length_nil,Nat.zero_add,r_eqN,if_true,r_fitsg,hfit,and_self,r_gtr,hN1,r_cond,decide_eq_true_eq,r_app,r_seg0,List.length_append,hap]
    by_cases g4:120 < (o.getD []).length+1
    ·simp [g4,noW,nilS]
    ·simp [g4,dS_some,rS]
   ·simp [shutX,g1,finW,noW,nilS,r_not]
 ·simp [h1,noW,nilS]
end Go.VE
namespace Go.VE
open Go.RowKit Go.Proofs
set_option maxRecDepth 100000
theorem pread_one {me:Int} {bs:List Brd} {fs:List Fld} {s:Stk} {j:Nat} {f g:Fld} (hs:okS s=true) (hx:bix s.2.1 bs=some j) (hf:fs[j]?=some f) (hg:fstep me (bs.getD j (0,0)).2 f s=some g):pread me bs fs [s]=(fs.set j g,true):=by
 have e:fs.getD j fd0=f:=getD_at _ hf
 simp only [pread,hs,if_true,hx,e,hg]
theorem okP_fld {me h:Int} {bs:List Brd} {ss:List Stk} (ho:okP me bs ss h=true) {fld:Int} {j:Nat} (hx:bix fld bs=some j):inn fld 1 99=true:=by
 obtain ⟨e,he,rfl,-,-⟩:=bord_at hx
 simp only [okP,bords,Bool.and_eq_true] at ho
 have:=(okL_mem ho.2.1.1 e (List.mem_of_getElem? he)).1
 simp only [okBm,okB,Bool.and_eq_true] at this
 exact this.1.1
theorem l21 (n:Nat) {e:Brd} (me:Int) {bs:List Brd} {fs:List Fld} {j:Nat} {f:Fld} (hx:bix e.1 bs=some j) (hf:fs[j]?=some f) (h6:six e.2) (c1 c2 cB ch z1 z2:D) (R:Rr) (n1 n2:Nat) :
  loopR [L21_1 (RP (n+3)) (rB e),L21_2 (RP (n+3)) (rB e)] M0 0 [.d (il e.1),.d (il e.2),.d (il 0),.d c1,.d c2,.m (mapM bs fs),.r R,.d (il me),.d cB,.n n1,.n n2,.d ch,.d z1,.d z2]=accO (some (0,[.d c1,.d c2,.m (mapM bs fs),.r R,.d (il me),.d cB,.n n1,.n n2,.d ch,.d z1,.d z2])) (fun acc=>some (1,[.r acc,.n acc.length,.n acc.length,.d c1,.d c2,.m (mapM bs fs),.r R,.d (il me),.d cB,.n n1,.n n2,.d ch,.d z1,.d z2])) ((missL me e.2 f).map rN):=by
 have hmm:=missR_L me e.2 f
 unfold missR at hmm
 have:=acc_loop 6 (by omega) (rowIf (fun (o:Nat)=>!decide ((o:Int)=me)&&(e.2.toNat.testBit o&&!isWith me o (f.no o))) rN) (L21_1 (RP (n+3)) (rB e)) (L21_2 (RP (n+3)) (rB e)) (fun i=>[.d (il e.1),.d (il e.2),.d (il i),.d c1,.d c2,.m (mapM bs fs),.r R,.d (il me),.d cB,.n n1,.n n2,.d ch,.d z1,.d z2])
  (fun i acc=>[.d (il e.1),.d (il e.2),.d (il i),.r acc,.n acc.length,.n acc.length,.d c1,.d c2,.m (mapM bs fs),.r R,.d (il me),.d cB,.n n1,.n n2,.d ch,.d z1,.d z2]) (some (0,[.d c1,.d c2,.m (mapM bs fs),.r R,.d (il me),.d cB,.n n1,.n n2,.d ch,.d z1,.d z2])) (fun acc=>some (1,[.r acc,.n acc.length,.n acc.length,.d c1,.d c2,.m (mapM bs fs),.r R,.d (il me),.d cB,.n n1,.n n2,.d ch,.d z1,.d z2])) ?_ ?_ ?_ ?_
 ·rw [filterMap_rowIf,hmm] at this
  exact this
 ·intro k;simp [L21_1]
 ·intro k a t _;simp [L21_2]
 ·intro i k hi hw
  have hle:3*i+1≤20:=by omega
  simp only [L21_1,show ((i:Int) < 6) by omega,fit0 8 (by decide),hle,get_no _ hi,s86,cB0,r_ld0,r_lds,r_lm0,r_lms,r_ln0,r_lns,r_lr0,r_lrs,r_liti,r_lss,decide_true,r_cond,if_true,r_neq,r_call,r_bnd0,r_not,r_natN,r_inx6n hi,r_addN,r_mulN,r_leN,r_mrowsM,r_findM,r_row20 hf,r_cellN,Nat.zero_add,Nat.add_zero,r_rows,r_len,List.length_cons,List.length_nil,r_eqN,r_seg0,List.take,r_fitsg,and_self,r_add,hw,cast1,hx,rowIf,rN,s91 _ _ h6,hasP_nat hi,r_isNil1]
  by_cases h1:(i:Int)=me
  ·simp [h1]
  ·by_cases h2:e.2.toNat.testBit i=true
   ·by_cases h3:isWith me i (f.no i)=true<;>simp [h1,h2,h3]
   ·simp [h1,h2]
 ·intro i k a t hi ha hw
  simp only [List.length_cons] at ha
  have hfit:=fit1 (n:=t.length) 8 (by decide) (by omega)
  have hle:3*i+1≤20:=by omega
  simp only [L21_2,show ((i:Int) < 6) by omega,hfit,r_app,hle,get_no _ hi,s86,cB0,r_ld0,r_lds,r_lm0,r_lms,r_ln0,r_lns,r_lr0,r_lrs,r_liti,r_lss,decide_true,r_cond,if_true,r_neq,r_call,r_bnd0,r_not,r_natN,r_inx6n hi,r_addN,r_mulN,r_leN,r_mrowsM,r_findM,r_row20 hf,r_cellN,Nat.zero_add,Nat.add_zero,r_rows,r_len,List.length_cons,List.length_nil,r_eqN,r_seg0,List.take,r_fitsg,and_self,r_add,hw,cast1,hx,rowIf,rN,s91 _ _ h6,hasP_nat hi]
  by_cases h1:(i:Int)=me
  ·simp [h1]
  ·by_cases h2:e.2.toNat.testBit i=true
   ·by_cases h3:isWith me i (f.no i)=true<;>simp [h1,h2,h3]
   ·simp [h1,h2]
theorem s21 (n:Nat) (me h:Int) (b:Option (List Brd)) (o:Option (List Stk)) (fld:Int) (hl:(o.getD []).length≤4611686018427387904) (hb:(b.getD []).length≤4611686018427387904) :
  FN (n+6) 21 [il me,dB b,dS o,il h,il fld]=ofR me (b.getD []) (o.getD []) h fld noW fun j=>finW me h b (o.getD []) (ringX me ((b.getD []).getD j (0,0)).2 fld (fl me (b.getD []) (o.getD []) j)):=by
 rw [F21]
 have hop:opn9 (RP (n+5)) (il me) (dB b) (dS o) (il h) (il fld)=_:=op9 (n+1) me h b o (il fld) hl hb
 unfold G21
 rw [eL21]
 refine bnd_eq hop ?_
 unfold ofR
 by_cases h1:okP me (b.getD []) (o.getD []) h=true
 ·simp only [h1,if_true,r_bnd0,r_bnd1,r_ld0,r_lds,r_lm0,r_lms,r_ln0,r_lns,r_lr0,r_lrs,r_liti,r_neq,r_lss,ne_eq,not_true,decide_false,r_cond,Bool.false_eq_true,if_false,if_true,r_out,r_call,r_fnD113,s112 _ _ hb,ixI_neg,decide_eq_true_eq]
  cases hx:bix fld (b.getD []) with
  | none=>simp [noW,nilS]
  | some j =>
   obtain ⟨e,he,hfld,hg,hj⟩:=bord_at hx
   have h6:=okP_six h1 e (List.mem_of_getElem? he)
   have hf:=pg_at h1 hj
   have hr:=fl_rng h1 j
   have hlen:=okP_len h1
   have hN:¬ ((120:Int) < ((o.getD []).length:Int)):=by omega
   have hN1:((120:Int) < (((o.getD []).length+1:Nat):Int))↔120 < (o.getD []).length+1:=by omega
   have hsl:((o.getD []).map rS).take (o.getD []).length=(o.getD []).map rS:=List.take_of_length_le (by simp)
   simp only [reduceCtorEq,if_false,ixI_at hx,rowB he,r_findM,hx,r_mrowsM,r_row20 hf,r_addN,r_natN,r_leN,r_cellN,Nat.reduceAdd,Nat.reduceLeDiff,if_true,Nat.zero_add,get_opn]
   have h21:=l21 (n+2) me (e:=e) (by rw [hfld];exact hx) hf h6 (il e.1) (il e.2) (dB b) (il h) (il 0) (il 0) ((o.getD []).map rS) (o.getD []).length (o.getD []).length
   rw [hg]
   generalize hf0:fl me (b.getD []) (o.getD []) j=f at hf hr h21 ⊢
   by_cases g1:f.opn=true
   ·simp [ringX,g1,finW,noW,nilS]
   ·have g1':f.opn=false:=by simpa using g1
    have hw:IntKind.i64.wrap (f.wants+1)=f.wants+1:=by have:=hr.1;exact wrap_id (by omega) (by omega)
    simp only [g1,cB0,cB1,r_loop]
    rw [h21]
    cases hm:missL me e.2 f with
    | cons a t =>
     simp [ringX,g1',hm,accO,finW,noW,nilS]
    | nil =>
     simp only [List.map_nil,accO,r_bnd0,r_gtr,show ¬ ((0:Int) < 0) by decide,decide_false,r_cond,Bool.false_eq_true,if_false,r_ld0,r_lds,r_lm0,r_lms,r_ln0,r_lns,r_lr0,r_lrs,r_mrowsM,r_row20 hf,get_wants,r_eql]
     by_cases g2:f.wants=99999
     ·simp [ringX,g1',hm,g2,finW,noW,nilS]
     ·simp only [g2,decide_false,Bool.false_eq_true,if_false]
      have hok:okS (4,fld,0,1)=true:=by
       simpa [okS,inn] using okP_fld h1 hx
      have hst:fstep me ((b.getD []).getD j (0,0)).2 f (4,fld,0,1)=some { f with opn:=true }:=by
       rw [hg];simp [fstep,g1',hm]
      have hp:=pread_one hok hx hf hst
      have hc:=s1300095 (n+1) b hb (okP_six h1) [(4,fld,0,1)] (by simp) ((o.getD []).map rS) me (il h) (o.getD []).length (o.getD []).length (pg me (b.getD []) (o.getD [])) (pg_len (okP_rise h1) _)
      have hc2:=s1300095 (n+1) b hb (okP_six h1) [(2,fld,0,f.wants+1)] (by simp) ((o.getD []++[(4,fld,0,1)]).map rS) me (il h) ((o.getD []).length+1) ((o.getD []).length+1) ((pg me (b.getD []) (o.getD [])).set j { f with opn:=true }) (by rw [set_len];exact pg_len (okP_rise h1) _)
      have hap:=app_take (o.getD []) [(4,fld,0,1)]
      have hap2:=app_take (o.getD []) [(4,fld,0,1),(2,fld,0,f.wants+1)]
      have hfit:=fitA (a:=(o.getD []).length) (b:=1) (by omega) (by omega)
      have hfit2:=fitA (a:=(o.getD []).length+1) (b:=1) (by omega) (by omega)
      have hq1:(o.getD []).length≤9223372036854775806:=by omega
      have hq2:(o.getD []).length+1≤9223372036854775806:=by omega
      have hrow:∀ k:List D→Out,(RP (n+5)).rowAt 20 (((pg me (b.getD []) (o.getD [])).set j { f with opn:=true }).map row20) j k=k (row20 { f with opn:=true }):=fun k=>r_row20 (set_at hf _) k
      rw [hp] at hc
      simp only [List.length_cons,List.length_nil,Nat.zero_add,List.map_cons,List.map_nil,rS,List.map_append] at hc hc2 hap hap2
      simp only [r_natD,r_slD,r_mpD,mapM,r_rows,r_bnd0,r_ld0,r_lds,r_rowsD,r_asM_mp,r_dN,r_len,List.length_map,List.length_cons,List.length_nil,Nat.zero_add,r_eqN,if_true,r_fitsg,and_self,r_gtr,r_cond,decide_eq_true_eq,r_app,r_seg0,hc,hfit,hq1,r_mrows,hrow,Nat.reduceLeDiff,get_wants,r_rem _ _ _ _ (show (2:Int)≠0 by decide),r_eql]
      by_cases g3:f.wants.tmod 2=1
      ·have g4:odd f.wants=true:=by simp [odd,g3]
       have hN2:((120:Int) < (((o.getD []).length+1+1:Nat):Int))↔120 < (o.getD []).length+2:=by omega
       have hap3:(((o.getD []).map rS)++[[il 4,il fld,il 0,il 1],[il 2,il fld,il 0,il (f.wants+1)]]).take ((o.getD []).length+1+1)=(o.getD []).map rS++[[il 4,il fld,il 0,il 1],[il 2,il fld,il 0,il (f.wants+1)]]:=List.take_of_length_le (by simp)
       simp only [g3,if_true,r_bnd0,r_ld0,r_lds,r_ln0,r_lns,r_lr0,r_lrs,r_rowsD,r_asM_mp,r_dN,List.length_map,List.length_cons,List.length_nil,Nat.zero_add,if_true,and_self,List.length_append,r_add,hw,hc2,hfit2,hq2,hN2,hap3,List.append_assoc,List.cons_append,List.nil_append]
       by_cases g5:120 < (o.getD []).length+2
       ·simp [g5,ringX,g1',hm,g2,g4,finW,noW,nilS]
       ·simp [g5,ringX,g1',hm,g2,g4,finW,dS_some,rS]
      ·have g4:odd f.wants=false:=by simp [odd,g3]
       simp only [g3,if_false,r_bnd0,r_ld0,r_lds,r_ln0,r_lns,r_lr0,r_lrs,List.length_map,List.length_cons,List.length_nil,Nat.zero_add,if_true,List.length_append,hN1,hap]
       by_cases g5:120 < (o.getD []).length+1
       ·simp [g5,ringX,g1',hm,g2,g4,finW,noW,nilS]
       ·simp [g5,ringX,g1',hm,g2,g4,finW,dS_some,rS]
 ·simp [h1,noW,nilS]
end Go.VE
namespace Go.VE
open Go.RowKit Go.Proofs
set_option maxRecDepth 100000
def giveF (f:Fld) (o:Nat):Fld:={ f with no:=upN f.no o (f.no o+1),af:=upN f.af o true }
def srvG (me:Int) (e:Brd):List Nat→Fld→Fld
 | [],f=>f
 | o::r,f=>if gives me e.2 f o=true then srvG me e r (giveF f o) else srvG me e r f
def srvS (me:Int) (e:Brd):List Nat→Fld→List Stk
 | [],_=>[]
 | o::r,f=>if gives me e.2 f o=true then (1,e.1,(o:Int),f.no o+1)::srvS me e r (giveF f o) else srvS me e r f
theorem gives_eq {me P:Int} {f g:Fld} {o:Nat} (h:f.no o=g.no o∧f.af o=g.af o∧f.ask o=g.ask o) (h4:f.wants=g.wants):gives me P f o=gives me P g o:=by
 simp only [gives,cleanF,Int.toNat_natCast,h.1,h.2.1,h.2.2,h4]
theorem srvS_eq {me:Int} {e:Brd}:∀ (l:List Nat) (f g:Fld),l.Nodup→(∀ o∈l,f.no o=g.no o∧f.af o=g.af o∧f.ask o=g.ask o)→f.wants=g.wants→srvS me e l f=(l.filter (gives me e.2 g)).map fun (o:Nat)=>(1,e.1,(o:Int),g.no o+1)
 | [],_,_,_,_,_=>rfl
 | o::r,f,g,hd,h,hw=>by
  have h0:=h o List.mem_cons_self
  have hr:=fun q (hq:q∈r)=>h q (List.mem_cons_of_mem _ hq)
  obtain ⟨hn,hd⟩:=List.nodup_cons.1 hd
  rw [srvS,gives_eq h0 hw,List.filter_cons]
  by_cases hg:gives me e.2 g o=true
  ·rw [if_pos hg,if_pos hg,List.map_cons,h0.1]
   refine congrArg _ (srvS_eq r (giveF f o) g hd (fun q hq=>?_) hw)
   have hne:o≠q:=fun he=>hn (he ▸ hq)
   simpa [giveF,upN,hne] using hr q hq
  ·rw [if_neg hg,if_neg hg]
   exact srvS_eq r f g hd hr hw
theorem srvS_len (me:Int) (e:Brd):∀ (l:List Nat) (f:Fld),(srvS me e l f).length≤l.length
 | [],_=>by simp [srvS]
 | o::r,f=>by
  rw [srvS]
  split
  ·simpa using srvS_len me e r (giveF f o)
  ·exact Nat.le_succ_of_le (srvS_len me e r f)
theorem gives_step {me P:Int} {f:Fld} {o:Nat} (ho:o < 6) (hg:gives me P f o=true) (hn:f.opn=false) (fld:Int):fstep me P f (1,fld,(o:Int),f.no o+1)=some (giveF f o):=by
 simp only [gives,Bool.and_eq_true,Bool.not_eq_true',decide_eq_false_iff_not] at hg
 have h1:hasP P (o:Int)=true:=by rw [hasP_nat ho];exact hg.2.1
 simp [fstep,giveF,hn,h1,hg.1]
 omega
theorem gives_okS {me P:Int} {f:Fld} {o:Nat} (ho:o < 6) (hg:gives me P f o=true) (hr:rngF f) {fld:Int} (hf:inn fld 1 99=true):okS (1,fld,(o:Int),f.no o+1)=true:=by
 simp only [gives,Bool.and_eq_true,decide_eq_true_eq] at hg
 have:=(hr.2 o).1
 simp only [inn,Bool.and_eq_true,decide_eq_true_eq] at hf
 simp [okS,inn,par]
 omega
theorem l25_1 (n:Nat) {e:Brd} (me:Int) (b:Option (List Brd)) (hb:(b.getD []).length≤4611686018427387904) (h66:∀ c∈b.getD [],six c.2) (fs0:List Fld) (hlen:fs0.length=(b.getD []).length) {j:Nat} {f0:Fld} (hx:bix e.1 (b.getD [])=some j) (he:(b.getD []).getD j (0,0)=e) (hf0:fs0[j]?=some f0) (h6:six e.2) (hfl:inn e.1 1 99=true) (ho:f0.opn=false) (hr:rngF f0) (c2 ch z1 z2:D) (ss:List Stk) (hl:ss.length≤60000) :
  loopR [L25_1 (RP (n+5))] M0 0 [.d (il e.1),.d (il e.2),.d (il 0),.n j,.n 0,.d (il e.1),.d c2,.m (mapM (b.getD []) fs0),.r (ss.map rS),.d (il me),.d (dB b),.n ss.length,.n ss.length,.d ch,.d z1,.d z2] =
   some (0,[.n j,.n 0,.d (il e.1),.d c2,.m (mapM (b.getD []) (fs0.set j (srvG me e (rg 0) f0))),.r ((ss++srvS me e (rg 0) f0).map rS),.d (il me),.d (dB b),.n (ss++srvS me e (rg 0) f0).length,.n (ss++srvS me e (rg 0) f0).length,.d ch,.d z1,.d z2]):=by
 have:=cnt_loop (β:=Fld×List Stk) 6 (by omega) (L25_1 (RP (n+5))) (fun i g=>[.d (il e.1),.d (il e.2),.d (il i),.n j,.n 0,.d (il e.1),.d c2,.m (mapM (b.getD []) (fs0.set j g.1)),.r (g.2.map rS),.d (il me),.d (dB b),.n g.2.length,.n g.2.length,.d ch,.d z1,.d z2]) (fun i g=>rngF g.1∧g.1.opn=false∧g.2.length≤60000+i)
  (fun i g=>some (0,[.n j,.n 0,.d (il e.1),.d c2,.m (mapM (b.getD []) (fs0.set j (srvG me e (rg i) g.1))),.r ((g.2++srvS me e (rg i) g.1).map rS),.d (il me),.d (dB b),.n (g.2++srvS me e (rg i) g.1).length,.n (g.2++srvS me e (rg i) g.1).length,.d ch,.d z1,.d z2])) ?_ ?_ (f0,ss) ⟨hr,ho,hl⟩
 ·have e0:fs0.set j f0=fs0:=by
   apply List.ext_getElem?
   intro i
   rw [List.getElem?_set]
   split
   ·subst_vars;split<;>simp_all
   ·rfl
  simp only [e0] at this
  exact this
 ·intro g k _
  simp [L25_1,rg,srvG,srvS]
 ·rintro i ⟨f,l⟩ k hi ⟨hrf,hof,hll⟩ hw ih
  simp only at hrf hof hll
  have hf:=set_at hf0 f
  have hle3:3*i≤17:=by omega
  have hlt:(i:Int) < 6:=by omega
  simp only [rg_succ hi,srvG,srvS]
  have hgd:gives me e.2 f i=(!decide ((i:Int)=me)&&(e.2.toNat.testBit i&&(odd (f.ask i)&&(isWith me i (f.no i)&&(!(isWith me i (f.no i)&&(odd f.wants&&f.af i))&&decide (f.no i < 99999)))))):=by simp only [gives,cleanF,Int.toNat_natCast]
  have ih0:=ih (f,l) ⟨hrf,hof,by simp only;omega⟩
  simp only [cast1] at ih0
  simp only [L25_1,r_ld0,r_lds,r_lm0,r_lms,r_ln0,r_lns,r_lr0,r_lrs,r_liti,r_litb,r_lss,decide_true,r_cond,if_true,r_neq,r_call,r_bnd0,r_natN,r_inx6n hi,r_addN,r_mulN,r_leN,r_mrowsM,r_findM,r_cellN,Nat.zero_add,Nat.add_zero,r_row20 hf,get_ask f hi,get_no f hi,get_af f hi,get_wants,hlt,s91 _ _ h6,hasP_nat hi,s86,hx,hle3,Nat.reduceAdd,Nat.reduceLeDiff,r_rem _ _ _ _ (show (2:Int)≠0 by decide),r_eql,r_add,hw]
  by_cases h1:(i:Int)=me
  ·have hg:gives me e.2 f i=false:=by rw [hgd];simp [h1]
   simp only [h1,hg,ne_eq,not_true,decide_false,Bool.false_eq_true,if_false] at ih0 ⊢
   exact ih0
  ·cases h2:e.2.toNat.testBit i with
   | false =>
    have hg:gives me e.2 f i=false:=by rw [hgd];simp [h2]
    simp only [h1,hg,ne_eq,not_false_eq_true,decide_true,if_true,Bool.false_eq_true,if_false] at ih0 ⊢
    exact ih0
   | true =>
    by_cases h3:(f.ask i).tmod 2=1
    ·have h3':odd (f.ask i)=true:=by simp [odd,h3]
     cases h4:isWith me i (f.no i) with
     | false =>
      have hg:gives me e.2 f i=false:=by rw [hgd];simp [h4]
      simp only [h1,h3,hg,ne_eq,not_false_eq_true,decide_true,if_true,Bool.false_eq_true,if_false] at ih0 ⊢
      exact ih0
     | true =>
      by_cases h5:f.wants.tmod 2=1∧f.af i=true
      ·have hg:gives me e.2 f i=false:=by rw [hgd];simp [h4,odd,h5.1,h5.2]
       simp only [h1,h3,h5.1,h5.2,hg,ne_eq,not_false_eq_true,decide_true,if_true,Bool.not_true,Bool.false_eq_true,if_false,r_out,r_ld0,r_lds,r_lm0,r_lms,r_ln0,r_lns,r_lr0,r_lrs,decide_true,r_cond,if_true,r_bnd0,r_not] at ih0 ⊢
       exact ih0
      ·have h5':∀ k:Out→Out,(k (if decide (f.wants.tmod 2=1)=true then some (0,[.d (bl (f.af i)),.m (mapM (b.getD []) (fs0.set j f)),.r (l.map rS),.d (il me),.d (dB b),.n l.length,.n l.length,.d ch]) else some (0,[.d (bl false),.m (mapM (b.getD []) (fs0.set j f)),.r (l.map rS),.d (il me),.d (dB b),.n l.length,.n l.length,.d ch])))=k (some (0,[.d (bl false),.m (mapM (b.getD []) (fs0.set j f)),.r (l.map rS),.d (il me),.d (dB b),.n l.length,.n l.length,.d ch])):=by
        intro k
        by_cases q1:f.wants.tmod 2=1
        ·have q2:f.af i=false:=by cases hq:f.af i<;>simp_all
         simp [q2]
        ·simp [q1]
       simp only [h1,h3,ne_eq,not_false_eq_true,decide_true,if_true,r_out]
       rw [h5' (fun o=>(RP (n+5)).bnd o _)]
       simp only [r_ld0,r_lds,r_lm0,r_lms,r_ln0,r_lns,r_lr0,r_lrs,r_cond,if_true,r_bnd0,r_not,Bool.not_false,if_true]
       by_cases h7:f.no i < 99999
       ·have hg:gives me e.2 f i=true:=by
         rw [hgd]
         cases q1:odd f.wants<;>cases q2:f.af i<;>simp_all [odd]
        have hwn:IntKind.i64.wrap (f.no i+1)=f.no i+1:=by have:=(hrf.2 i).1;exact wrap_id (by omega) (by omega)
        have hp:=pread_one (me:=me) (bs:=b.getD []) (gives_okS hi hg hrf hfl) hx hf (by rw [he];exact gives_step hi hg hof e.1)
        have hc:=s1300095 (n+1) b hb h66 [(1,e.1,(i:Int),f.no i+1)] (by simp) (l.map rS) me ch l.length l.length (fs0.set j f) (by rw [set_len];exact hlen)
        rw [hp,List.set_set] at hc
        have ih1:=ih (giveF f i,l++[(1,e.1,(i:Int),f.no i+1)]) ⟨?_,hof,by simp only [List.length_append,List.length_cons,List.length_nil];omega⟩
        ·have hq1:l.length≤9223372036854775806:=by omega
         have hfit:=fitA (a:=l.length) (b:=1) (by omega) (by omega)
         simp only [cast1,List.map_append,List.map_cons,List.map_nil,rS,List.length_append,List.length_cons,List.length_nil,Nat.zero_add,List.append_assoc,List.cons_append,List.nil_append] at hc ih1
         simp only [h7,decide_true,if_true,hwn,r_natD,r_slD,r_mpD,mapM,r_rows,hc,r_ld0,r_lds,decide_true,if_true,r_bnd0,Nat.zero_add,r_rowsD,r_asM_mp,r_dN,r_len,List.length_map,List.length_cons,List.length_nil,r_eqN,r_fitsg,hfit,and_self,r_app,hg]
         simp only [mapM] at ih1
         rw [ih1]
         simp [rS]
        ·refine ⟨hrf.1,fun q=>⟨?_,(hrf.2 q).2⟩⟩
         simp only [giveF,upN]
         have:=hrf.2 i
         split
         ·omega
         ·exact (hrf.2 q).1
       ·have hg:gives me e.2 f i=false:=by rw [hgd];simp [h7]
        simp only [h7,decide_false,hg,Bool.false_eq_true,if_false] at ih0 ⊢
        exact ih0
    ·have hg:gives me e.2 f i=false:=by rw [hgd];simp [odd,h3]
     simp only [h1,h3,hg,ne_eq,not_false_eq_true,decide_true,decide_false,if_true,Bool.false_eq_true,if_false] at ih0 ⊢
     exact ih0
end Go.VE
