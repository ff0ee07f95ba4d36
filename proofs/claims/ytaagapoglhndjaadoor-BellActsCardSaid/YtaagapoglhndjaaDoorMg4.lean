/- Bell: Serve, by the program. -/
import Derived.Test.YtaagapoglhndjaaDoorMg3
namespace Go.VE
open Go.RowKit Go.Proofs
set_option maxRecDepth 100000
def srvB (me:Int):Nat→List Brd→List Fld→List Fld×List Stk
 | _,[],fs=>(fs,[])
 | i,e::r,fs=>if (fs.getD i fd0).opn=true then srvB me (i+1) r fs else
  ((srvB me (i+1) r (fs.set i (srvG me e (rg 0) (fs.getD i fd0)))).1,srvS me e (rg 0) (fs.getD i fd0)++(srvB me (i+1) r (fs.set i (srvG me e (rg 0) (fs.getD i fd0)))).2)
theorem srvS_serve (me:Int) (e:Brd) (f:Fld) (h:f.opn=false):srvS me e (rg 0) f=serveF me e f:=by
 rw [serveF,h,srvS_eq (rg 0) f f (List.nodup_range' ..) (fun _ _=>⟨rfl,rfl,rfl⟩) rfl]
 rfl
theorem srvB_eq {me:Int} {bs:List Brd} {ss:List Stk}:∀ (r:List Brd) (i:Nat) (fs:List Fld),bs.drop i=r→(∀ k,i≤k→k < bs.length→fs[k]?=some (fl me bs ss k))→(srvB me i r fs).2=r.flatMap fun e=>serveF me e (fread me e fd0 ss).1
 | [],_,_,_,_=>rfl
 | e::r,i,fs,hd,hf=>by
  have hi:i < bs.length:=by
   rcases Nat.lt_or_ge i bs.length with h | h
   ·exact h
   ·rw [List.drop_eq_nil_of_le h] at hd;cases hd
  rw [List.drop_eq_getElem_cons hi] at hd
  injection hd with h1 h2
  have h3:=hf i (Nat.le_refl _) hi
  have he:fl me bs ss i=(fread me e fd0 ss).1:=by
   simp only [fl,List.getD_eq_getElem?_getD,List.getElem?_eq_getElem hi,Option.getD_some,h1]
  have hg:fs.getD i fd0=(fread me e fd0 ss).1:=by rw [getD_at _ h3,he]
  rw [srvB,hg,List.flatMap_cons]
  by_cases ho:(fread me e fd0 ss).1.opn=true
  ·rw [if_pos ho,srvB_eq r (i+1) fs h2 (fun k hk hk2=>hf k (by omega) hk2)]
   simp [serveF,ho]
  ·rw [if_neg ho,srvS_serve _ _ _ (by simpa using ho)]
   refine congrArg _ (srvB_eq r (i+1) _ h2 fun k hk hk2=>?_)
   rw [List.getElem?_set_ne (by omega)]
   exact hf k (by omega) hk2
theorem l25_2 (n:Nat) {me h:Int} (b:Option (List Brd)) {ss:List Stk} (h1:okP me (b.getD []) ss h=true) (z1 z2:D) :
  loopR [L25_2 (RP (n+5))] M0 0 [.d (dB b),.d (il (b.getD []).length),.d (il 0),.m (mapM (b.getD []) (pg me (b.getD []) ss)),.r (ss.map rS),.d (il me),.d (dB b),.n ss.length,.n ss.length,.d (il h),.d z1,.d z2] =
   some (0,[.m (mapM (b.getD []) (srvB me 0 (b.getD []) (pg me (b.getD []) ss)).1),.r ((ss++serveX me (b.getD []) ss).map rS),.d (il me),.d (dB b),.n (ss++serveX me (b.getD []) ss).length,.n (ss++serveX me (b.getD []) ss).length,.d (il h),.d z1,.d z2]):=by
 have hb4:(b.getD []).length≤4:=by
  simp only [okP,bords,Bool.and_eq_true,decide_eq_true_eq] at h1
  exact h1.2.1.2
 have hl:=okP_len h1
 have hr:=okP_rise h1
 have h66:=okP_six h1
 have:=range_loop (β:=List Fld×List Stk) (b.getD []) (by omega) (L25_2 (RP (n+5))) (fun i g=>[.d (dB b),.d (il (b.getD []).length),.d (il i),.m (mapM (b.getD []) g.1),.r (g.2.map rS),.d (il me),.d (dB b),.n g.2.length,.n g.2.length,.d (il h),.d z1,.d z2])
  (fun i g=>g.1.length=(b.getD []).length∧(∀ k,i≤k→k < (b.getD []).length→g.1[k]?=some (fl me (b.getD []) ss k))∧g.2.length≤120+6*i)
  (fun i r g=>some (0,[.m (mapM (b.getD []) (srvB me i r g.1).1),.r ((g.2++(srvB me i r g.1).2).map rS),.d (il me),.d (dB b),.n (g.2++(srvB me i r g.1).2).length,.n (g.2++(srvB me i r g.1).2).length,.d (il h),.d z1,.d z2])) ?_ ?_ M0 (pg me (b.getD []) ss,ss) ⟨pg_len hr ss,fun k _ hk=>pg_at h1 hk,by omega⟩ (M0_big (by omega))
 ·simp only [srvB_eq (ss:=ss) (b.getD []) 0 (pg me (b.getD []) ss) (by simp) (fun k _ hk=>pg_at h1 hk)] at this
  exact this
 ·intro g k _
  simp [L25_2,srvB]
 ·rintro i e r ⟨fs,l⟩ k hi hd hlt hw ⟨hlen,hfs,hll⟩ ih
  simp only at hlen hfs hll
  have hlt':(i:Int) < ((b.getD []).length:Int):=by omega
  have hf:=hfs i (Nat.le_refl _) hlt
  have hx:=bix_e hr hi
  have hge:(b.getD []).getD i (0,0)=e:=getD_at _ hi
  have h6:=h66 e (List.mem_of_getElem? hi)
  have hfl:=okP_fld h1 hx
  have hrng:=fl_rng h1 i
  have hgf:fs.getD i fd0=fl me (b.getD []) ss i:=getD_at _ hf
  generalize fl me (b.getD []) ss i=f at hf hrng hgf
  simp only [srvB,hgf]
  simp only [L25_2,r_ld0,r_lds,r_lm0,r_lms,r_ln0,r_lns,r_lr0,r_lrs,r_liti,r_lss,decide_true,r_cond,if_true,r_natN,r_addN,r_leN,r_mrowsM,r_findM,r_cellN,Nat.zero_add,Nat.add_zero,hlt',rowB hi,cB0,cB1,hx,r_row20 hf,Nat.reduceAdd,Nat.reduceLeDiff,get_opn,r_add,hw]
  cases ho:f.opn with
  | true =>
   have ih0:=ih (fs,l) ⟨hlen,fun k hk hk2=>hfs k (by omega) hk2,by simp only;omega⟩
   simp only [cast1] at ih0
   simp only [if_true]
   exact ih0
  | false =>
   have h25:=l25_1 n me b (by omega) h66 fs hlen hx hge hf h6 hfl ho hrng (il e.2) (il h) z1 z2 l (by omega)
   have ih1:=ih (fs.set i (srvG me e (rg 0) f),l++srvS me e (rg 0) f) ⟨by rw [set_len];exact hlen,fun k hk hk2=>by
    simp only
    rw [List.getElem?_set_ne (by omega)]
    exact hfs k (by omega) hk2,by
    have:=srvS_len me e (rg 0) f
    have h6':(rg 0).length=6:=rfl
    simp only [List.length_append]
    omega⟩
   simp only [cast1,List.append_assoc] at ih1
   simp only [Bool.false_eq_true,if_false,r_loop]
   rw [h25]
   simp only [r_ld0,r_lds,r_lm0,r_lms,r_ln0,r_lns,r_lr0,r_lrs,r_bnd0]
   exact ih1
theorem s25 (n:Nat) (me h:Int) (b:Option (List Brd)) (o:Option (List Stk)) (hl:(o.getD []).length≤4611686018427387904) (hb:(b.getD []).length≤4611686018427387904) :
  FN (n+6) 25 [il me,dB b,dS o,il h]=if okP me (b.getD []) (o.getD []) h=true then finW me h b (o.getD []) (0,serveX me (b.getD []) (o.getD [])) else noW 92:=by
 rw [F25]
 have hop:opn25 (RP (n+5)) (il me) (dB b) (dS o) (il h)=_:=op25 (n+1) me h b o hl hb
 unfold G25
 rw [eL25]
 refine bnd_eq hop ?_
 by_cases h1:okP me (b.getD []) (o.getD []) h=true
 ·have h25:=l25_2 n b h1 (il 0) (il 0)
  simp only [h1,if_true,r_bnd1,r_ld0,r_lds,r_lm0,r_lms,r_ln0,r_lns,r_lr0,r_lrs,r_liti,r_cond,if_true,r_neq,ne_eq,not_true,decide_false,Bool.false_eq_true,if_false,lenL,r_loop]
  rw [h25]
  have hN:((120:Int) < (((o.getD []++serveX me (b.getD []) (o.getD [])).length:Nat):Int))↔120 < (o.getD []).length+(serveX me (b.getD []) (o.getD [])).length:=by rw [List.length_append];omega
  have htk:((o.getD []++serveX me (b.getD []) (o.getD [])).map rS).take (o.getD []++serveX me (b.getD []) (o.getD [])).length=(o.getD []++serveX me (b.getD []) (o.getD [])).map rS:=List.take_of_length_le (by rw [List.length_map];exact Nat.le_refl _)
  simp only [r_ld0,r_lds,r_ln0,r_lns,r_lr0,r_lrs,r_cond,if_true,r_bnd0,r_gtr,r_natD,hN,decide_eq_true_eq,r_len,List.length_map,r_eqN,r_out,r_seg0,r_slD,htk,finW]
  by_cases g:120 < (o.getD []).length+(serveX me (b.getD []) (o.getD [])).length
  ·simp [g,noW,nilS]
  ·simp [g,dS_some]
 ·simp [h1,noW,nilS]
end Go.VE
namespace Go.VE
open Go.RowKit Go.Proofs
set_option maxRecDepth 100000
theorem okL_pair {α:Type} {ok:α→Bool} {src:α→Int}:∀ {l:List α} {p:Option Int},okL ok src p l=true→l.Pairwise fun a b=>src a < src b
 | [],_,_=>.nil
 | b::r,p,h=>by
  simp only [okL,Bool.and_eq_true] at h
  refine .cons (fun c hc=>?_) (okL_pair h.2.2)
  simpa [ltO] using (okL_mem h.2.2 c hc).2
def hearG1 (a:Int) (t:Tld) (f:Fld):Fld:=if f.ask a.toNat < t.2.2 then { f with ask:=upN f.ask a.toNat t.2.2 } else f
def hearG (me a:Int) (t:Tld) (f:Fld):Fld:=if f.no a.toNat < t.2.1∧isWith me a t.2.1=true∧f.opn=false then { hearG1 a t f with no:=upN f.no a.toNat t.2.1,af:=upN f.af a.toNat true } else hearG1 a t f
def hrB (me a:Int) (bs:List Brd):List Tld→List Fld→List Fld×List Stk
 | [],fs=>(fs,[])
 | t::r,fs=>match bix t.1 bs with
  | none=>hrB me a bs r fs
  | some j=>if hasP (bs.getD j (0,0)).2 a=true then ((hrB me a bs r (fs.set j (hearG me a t (fs.getD j fd0)))).1,hearF me a t (fs.getD j fd0)++(hrB me a bs r (fs.set j (hearG me a t (fs.getD j fd0)))).2) else hrB me a bs r fs
theorem bix_ne {bs:List Brd} {x y:Int} {i j:Nat} (hx:bix x bs=some i) (hy:bix y bs=some j) (h:x≠y):i≠j:=by
 rintro rfl
 exact h ((bix_some hx).2.symm.trans (bix_some hy).2)
theorem hrB_eq {me a:Int} {bs:List Brd} {ss:List Stk}:∀ (l:List Tld) (fs:List Fld),(l.Pairwise fun a b=>a.1 < b.1)→(∀ t∈l,∀ j,bix t.1 bs=some j→fs[j]?=some (fl me bs ss j))→(hrB me a bs l fs).2=hearX me a bs ss l
 | [],_,_,_=>rfl
 | t::r,fs,hp,hf=>by
  obtain ⟨h1,h2⟩:=List.pairwise_cons.1 hp
  have h0:=hf t List.mem_cons_self
  have hr:=fun q (hq:q∈r)=>hf q (List.mem_cons_of_mem _ hq)
  rw [hrB,hearX,List.flatMap_cons,hearT]
  cases hx:bix t.1 bs with
  | none=>exact hrB_eq r fs h2 hr
  | some j =>
   have hj:=h0 j hx
   have hg:fs.getD j fd0=fl me bs ss j:=getD_at _ hj
   simp only
   by_cases hh:hasP (bs.getD j (0,0)).2 a=true
   ·rw [if_pos hh,if_pos hh,hg]
    refine congrArg _ (hrB_eq r _ h2 fun q hq i hi=>?_)
    have hlt:=h1 q hq
    rw [List.getElem?_set_ne (bix_ne hx hi (by omega))]
    exact hr q hq i hi
   ·rw [if_neg hh,if_neg hh]
    exact hrB_eq r fs h2 hr
theorem hearF_len (me a:Int) (t:Tld) (f:Fld):(hearF me a t f).length≤2:=by
 unfold hearF
 split<;>split<;>simp
theorem hear1_step {me P a:Int} {f:Fld} {t:Tld} (hne:a≠me) (hP:hasP P a=true) (hw:f.ask a.toNat < t.2.2) (fld:Int):fstep me P f (3,fld,a,t.2.2)=some { f with ask:=upN f.ask a.toNat t.2.2 }:=by
 simp [fstep,hne,hP]
 omega
theorem hear2_step {me P a:Int} {f:Fld} {x:Int} (hne:a≠me) (hP:hasP P a=true) (hw:f.no a.toNat < x) (ho:f.opn=false) (fld:Int):fstep me P f (1,fld,a,x)=some { f with no:=upN f.no a.toNat x,af:=upN f.af a.toNat true }:=by
 simp [fstep,hne,hP,ho]
 omega
theorem hear_okS {k fld a x:Int} (hk:k=1∨k=3) (hf:inn fld 1 99=true) (hp:par a=true) (h1:1≤x) (h2:x≤99999):okS (k,fld,a,x)=true:=by
 simp only [okS,hf,hp,hk,if_true,Bool.true_and]
 simp only [inn,Bool.and_eq_true,decide_eq_true_eq]
 exact ⟨h1,h2⟩
theorem set_self {fs:List Fld} {j:Nat} {f:Fld} (h:fs[j]?=some f):fs.set j f=fs:=by
 apply List.ext_getElem?
 intro i
 rw [List.getElem?_set]
 split
 ·subst_vars;split<;>simp_all
 ·rfl
theorem hear1_same (a:Int) (t:Tld) (f:Fld):(hearG1 a t f).no=f.no∧(hearG1 a t f).af=f.af∧(hearG1 a t f).opn=f.opn:=by
 unfold hearG1;split<;>exact ⟨rfl,rfl,rfl⟩
theorem l27 (n:Nat) {me h a to:Int} (b:Option (List Brd)) {ss:List Stk} (h1:okP me (b.getD []) ss h=true) (o:Option (List Tld)) (hpl:okPl a to (o.getD [])=true) (hto:to=me) (z1 z2:D) :
  loopR [L27_1 (RP (n+5))] M0 0 [.d (il a),.d (il to),.d (dT o),.d (dT o),.d (il (o.getD []).length),.d (il 0),.m (mapM (b.getD []) (pg me (b.getD []) ss)),.r (ss.map rS),.d (il me),.d (dB b),.n ss.length,.n ss.length,.d (il h),.d z1,.d z2] =
   some (0,[.m (mapM (b.getD []) (hrB me a (b.getD []) (o.getD []) (pg me (b.getD []) ss)).1),.r ((ss++hearX me a (b.getD []) ss (o.getD [])).map rS),.d (il me),.d (dB b),.n (ss++hearX me a (b.getD []) ss (o.getD [])).length,.n (ss++hearX me a (b.getD []) ss (o.getD [])).length,.d (il h),.d z1,.d z2]):=by
 have hb4:(b.getD []).length≤4:=by
  simp only [okP,bords,Bool.and_eq_true,decide_eq_true_eq] at h1
  exact h1.2.1.2
 have hl:=okP_len h1
 have hr:=okP_rise h1
 have h66:=okP_six h1
 simp only [okPl,Bool.and_eq_true,decide_eq_true_eq,Bool.not_eq_true',decide_eq_false_iff_not] at hpl
 obtain ⟨hpa,-,hne,hl4,hpl⟩:=hpl
 have hne':a≠me:=hto ▸ hne
 have hlt:=par_lt hpa
 have hpair:=okL_pair hpl
 have:=range_loop (β:=List Fld×List Stk) (o.getD []) (by omega) (L27_1 (RP (n+5))) (fun i g=>[.d (il a),.d (il to),.d (dT o),.d (dT o),.d (il (o.getD []).length),.d (il i),.m (mapM (b.getD []) g.1),.r (g.2.map rS),.d (il me),.d (dB b),.n g.2.length,.n g.2.length,.d (il h),.d z1,.d z2])
  (fun i g=>g.1.length=(b.getD []).length∧(∀ t∈(o.getD []).drop i,∀ j,bix t.1 (b.getD [])=some j→g.1[j]?=some (fl me (b.getD []) ss j))∧g.2.length≤120+2*i)
  (fun _ r g=>some (0,[.m (mapM (b.getD []) (hrB me a (b.getD []) r g.1).1),.r ((g.2++(hrB me a (b.getD []) r g.1).2).map rS),.d (il me),.d (dB b),.n (g.2++(hrB me a (b.getD []) r g.1).2).length,.n (g.2++(hrB me a (b.getD []) r g.1).2).length,.d (il h),.d z1,.d z2])) ?_ ?_ M0 (pg me (b.getD []) ss,ss) ⟨pg_len hr ss,fun t _ j hj=>pg_at h1 (bix_some hj).1,by omega⟩ (M0_big (by omega))
 ·simp only [hrB_eq (ss:=ss) (o.getD []) (pg me (b.getD []) ss) hpair (fun t _ j hj=>pg_at h1 (bix_some hj).1)] at this
  exact this
 ·intro g k _
  simp [L27_1,hrB]
 ·rintro i t r ⟨fs,l⟩ k hi hd hlti hw ⟨hlen,hfs,hll⟩ ih
  simp only at hlen hfs hll
  have hlt':(i:Int) < ((o.getD []).length:Int):=by omega
  have hdr:(o.getD []).drop (i+1)=r:=by
   have:=List.drop_eq_getElem_cons hlti
   rw [hd] at this
   exact (List.cons.inj this).2.symm
  have hpr:∀ q∈r,t.1 < q.1:=by
   have hp2:=List.Pairwise.drop (i:=i) hpair
   rw [hd] at hp2
   exact (List.pairwise_cons.1 hp2).1
  have htd:=(okL_mem hpl t (List.mem_of_getElem? hi)).1
  simp only [okTd,inn,Bool.and_eq_true,decide_eq_true_eq] at htd
  have hfs':∀ q∈(o.getD []).drop (i+1),∀ j,bix q.1 (b.getD [])=some j→fs[j]?=some (fl me (b.getD []) ss j):=fun q hq=>by
   rw [hdr] at hq
   exact hfs q (by rw [hd];exact List.mem_cons_of_mem _ hq)
  have ih0:=ih (fs,l) ⟨hlen,hfs',by simp only;omega⟩
  simp only [cast1] at ih0
  rw [hrB]
  simp only [L27_1,r_ld0,r_lds,r_lm0,r_lms,r_ln0,r_lns,r_lr0,r_lrs,r_liti,r_lss,decide_true,r_cond,if_true,r_call,r_bnd0,r_natN,r_addN,r_mulN,r_leN,r_mrowsM,r_findM,r_cellN,Nat.zero_add,Nat.add_zero,hlt',rowT hi,cT0,cT1,cT2,r_fnD113,s112 _ _ (show (b.getD []).length≤4611686018427387904 by omega),ixI_neg,decide_eq_true_eq,r_add,hw]
  cases hx:bix t.1 (b.getD []) with
  | none=>simpa using ih0
  | some j =>
   obtain ⟨e,he,hfld,hg,hj⟩:=bord_at hx
   have h6:=h66 e (List.mem_of_getElem? he)
   have hfl:=okP_fld h1 hx
   have hrng:=fl_rng h1 j
   have hf:=hfs t (by rw [hd];exact List.mem_cons_self) j hx
   have hgf:fs.getD j fd0=fl me (b.getD []) ss j:=getD_at _ hf
   have hfs2:∀ g:Fld,∀ q∈(o.getD []).drop (i+1),∀ j',bix q.1 (b.getD [])=some j'→(fs.set j g)[j']?=some (fl me (b.getD []) ss j'):=fun g q hq j' hj'=>by
    have hq':=hq
    rw [hdr] at hq'
    have hlt:=hpr q hq'
    rw [List.getElem?_set_ne (bix_ne hx hj' (by omega))]
    exact hfs' q hq j' hj'
   generalize fl me (b.getD []) ss j=f at hf hrng hgf
   simp only [reduceCtorEq,if_false,ixI_at hx,rowB he,cB0,cB1,r_ld0,r_cond,r_bnd0,r_not,s91 _ _ h6,hg,hgf]
   cases hh:hasP e.2 a with
   | false=>simpa using ih0
   | true =>
    have hle0:3*a.toNat≤19:=by omega
    have hle2:3*a.toNat≤17:=by omega
    have hq1:l.length≤9223372036854775806:=by omega
    have hfit:=fitA (a:=l.length) (b:=1) (by omega) (by omega)
    simp only [Bool.not_true,Bool.false_eq_true,if_false,if_true,r_inx6 hpa,r_row20 hf,r_gtr,get_ask f hlt,r_cond,if_true,Nat.reduceLeDiff,hle2]
    have hc0:=s1300095 (n+1) b (by omega) h66 [(3,t.1,a,t.2.2)] (by simp) (l.map rS) me (il h) l.length l.length fs hlen
    refine bnd_eq (X':=some (0,[.d (il a),.d (il to),.d (dT o),.n j,.n 0,.d (dT o),.d (il (o.getD []).length),.d (il i),.r ((l++(if f.ask a.toNat < t.2.2 then [(3,t.1,a,t.2.2)] else [])).map rS),.m (mapM (b.getD []) (fs.set j (hearG1 a t f))),.d (il t.1),.d (il t.2.1),.d (il t.2.2),.d (il me),.d (dB b),.n (l++(if f.ask a.toNat < t.2.2 then [(3,t.1,a,t.2.2)] else [])).length,.n (l++(if f.ask a.toNat < t.2.2 then [(3,t.1,a,t.2.2)] else [])).length,.d (il h),.d z1,.d z2])) ?_ ?_
    ·by_cases w1:f.ask a.toNat < t.2.2
     ·have hp:=pread_one (me:=me) (bs:=b.getD []) (hear_okS (x:=t.2.2) (.inr rfl) hfl hpa (by have:=(hrng.2 a.toNat).2;omega) (by omega)) hx hf (by rw [hg];exact hear1_step hne' hh w1 t.1)
      rw [hp] at hc0
      simp only [List.map_cons,List.map_nil,rS] at hc0
      simp only [w1,decide_true,if_true,mapM,r_natD,r_slD,r_mpD,mapM,r_rows,r_rowsD,r_asM_mp,r_dN,r_len,List.length_map,List.length_cons,List.length_nil,r_eqN,r_fitsg,and_self,r_app,r_out,hc0,r_ld0,r_lds,decide_true,if_true,r_bnd0,Nat.zero_add,hfit,hearG1]
      simp [rS]
     ·simp only [w1,decide_false,Bool.false_eq_true,if_false,hearG1,set_self hf,List.append_nil,r_out]
    ·generalize hl1:l++(if f.ask a.toNat < t.2.2 then [(3,t.1,a,t.2.2)] else [])=l1
     have hll1:l1.length≤l.length+1:=by rw [←hl1];split<;>simp
     obtain ⟨g1,g2,g3⟩:=hear1_same a t f
     have hF:hearF me a t f=(if f.ask a.toNat < t.2.2 then [(3,t.1,a,t.2.2)] else [])++(if f.no a.toNat < t.2.1∧isWith me a t.2.1=true∧f.opn=false then [(1,t.1,a,t.2.1)] else []):=rfl
     have hG:hearG me a t f=if f.no a.toNat < t.2.1∧isWith me a t.2.1=true∧f.opn=false then { hearG1 a t f with no:=upN f.no a.toNat t.2.1,af:=upN f.af a.toNat true } else hearG1 a t f:=rfl
     generalize hearG1 a t f=f1 at g1 g2 g3 hG ⊢
     have hf1:=set_at hf f1
     have ihn:=fun hc=>ih (fs.set j f1,l1) ⟨by rw [set_len];exact hlen,hfs2 f1,hc⟩
     have ih1:=ihn (by simp only;omega)
     simp only [cast1] at ih1
     simp only [r_ld0,r_lds,r_lm0,r_lms,r_ln0,r_lns,r_lr0,r_lrs,r_cond,if_true,r_bnd0,r_not,r_mrowsM,Nat.zero_add,r_inx6 hpa,r_row20 hf1,get_no _ hlt,get_opn,r_gtr,g1,g3,hle0,Nat.le_refl,s86]
     by_cases c1:f.no a.toNat < t.2.1
     ·cases c2:isWith me a t.2.1 with
      | false =>
       have hn:¬ (f.no a.toNat < t.2.1∧isWith me a t.2.1=true∧f.opn=false):=by simp [c2]
       rw [if_neg hn] at hF hG
       rw [hF,hG,List.append_nil,← List.append_assoc,hl1]
       simp only [c1,decide_true,if_true,Bool.false_eq_true,if_false,r_add,hw]
       exact ih1
      | true =>
       cases c3:f.opn with
       | true =>
        have hn:¬ (f.no a.toNat < t.2.1∧isWith me a t.2.1=true∧f.opn=false):=by simp [c3]
        rw [if_neg hn] at hF hG
        rw [hF,hG,List.append_nil,← List.append_assoc,hl1]
        simp only [c1,decide_true,if_true,Bool.not_true,Bool.false_eq_true,if_false,r_add,hw]
        exact ih1
       | false =>
        have hy:(f.no a.toNat < t.2.1∧isWith me a t.2.1=true∧f.opn=false):=⟨c1,c2,c3⟩
        rw [if_pos hy] at hF hG
        have hp:=pread_one (me:=me) (bs:=b.getD []) (hear_okS (x:=t.2.1) (.inl rfl) hfl hpa (by have:=(hrng.2 a.toNat).1;omega) (by omega)) hx hf1 (by rw [hg];exact hear2_step hne' hh (by rw [g1];exact c1) (by rw [g3];exact c3) t.1)
        have hc1:=s1300095 (n+1) b (by omega) h66 [(1,t.1,a,t.2.1)] (by simp) (l1.map rS) me (il h) l1.length l1.length (fs.set j f1) (by rw [set_len];exact hlen)
        rw [hp,List.set_set,g1,g2,← hG] at hc1
        have hq2:l1.length≤9223372036854775806:=by omega
        have hfit1:=fitA (a:=l1.length) (b:=1) (by omega) (by omega)
        have ih2:=ih (fs.set j (hearG me a t f),l1++[(1,t.1,a,t.2.1)]) ⟨by rw [set_len];exact hlen,hfs2 _,by simp only [List.length_append,List.length_cons,List.length_nil];omega⟩
        simp only [cast1,List.map_append,List.map_cons,List.map_nil,rS,List.length_append,List.length_cons,List.length_nil,Nat.zero_add,mapM] at hc1 ih2
        rw [hF,← List.append_assoc,← List.append_assoc,hl1]
        simp only [c1,decide_true,if_true,Bool.not_false,mapM,r_natD,r_slD,r_mpD,mapM,r_rows,r_rowsD,r_asM_mp,r_dN,r_len,List.length_map,List.length_cons,List.length_nil,r_eqN,r_fitsg,and_self,r_app,hc1,r_ld0,r_lds,decide_true,if_true,r_bnd0,Nat.zero_add,hfit1,r_add,hw]
        rw [ih2]
        simp [rS]
        omega
     ·have hn:¬ (f.no a.toNat < t.2.1∧isWith me a t.2.1=true∧f.opn=false):=fun hh=>c1 hh.1
      rw [if_neg hn] at hF hG
      rw [hF,hG,List.append_nil,← List.append_assoc,hl1]
      simp only [c1,decide_false,Bool.false_eq_true,if_false,r_add,hw]
      exact ih1
theorem s27 (n:Nat) (me h a to:Int) (b:Option (List Brd)) (o:Option (List Stk)) (t:Option (List Tld)) (hl:(o.getD []).length≤4611686018427387904) (hb:(b.getD []).length≤4611686018427387904) (ht:(t.getD []).length≤4611686018427387904) :
  FN (n+6) 27 [il me,dB b,dS o,il h,il a,il to,dT t]=if okP me (b.getD []) (o.getD []) h=true then (if okPl a to (t.getD [])=true∧to=me then finW me h b (o.getD []) (0,hearX me a (b.getD []) (o.getD []) (t.getD [])) else noW 93) else noW 92:=by
 rw [F27]
 have hop:opn27 (RP (n+5)) (il me) (dB b) (dS o) (il h) (il a) (il to) (dT t)=_:=op27 (n+1) me h b o (il a) (il to) (dT t) hl hb
 unfold G27
 rw [eL27]
 refine bnd_eq hop ?_
 have hln:∀ k:D→Out,(RP (n+5)).lenD (dT t) k=k (il (t.getD []).length):=fun k=>lenL _ _ _ k
 by_cases h1:okP me (b.getD []) (o.getD []) h=true
 ·by_cases h2:okPl a to (t.getD [])=true
  ·by_cases h3:to=me
   ·have h27:=l27 n b h1 t h2 h3 (il 0) (il 0)
    simp only [h1,h2,if_true,r_bnd1,r_ld0,r_lds,r_lm0,r_lms,r_ln0,r_lns,r_lr0,r_lrs,r_liti,r_cond,if_true,r_neq,r_call,r_bnd0,s16 _ _ _ _ ht,ne_eq,not_true,decide_false,Bool.false_eq_true,if_false,hln,r_loop]
    simp only [h3,not_true,decide_false,Bool.false_eq_true,if_false,and_self,if_true]
    rw [h3] at h27
    rw [h27]
    generalize hearX me a (b.getD []) (o.getD []) (t.getD [])=w
    have hN:((120:Int) < (((o.getD []++w).length:Nat):Int))↔120 < (o.getD []).length+w.length:=by rw [List.length_append];omega
    have htk:((o.getD []++w).map rS).take (o.getD []++w).length=(o.getD []++w).map rS:=List.take_of_length_le (by rw [List.length_map];exact Nat.le_refl _)
    simp only [r_ld0,r_lds,r_ln0,r_lns,r_lr0,r_lrs,r_cond,if_true,r_bnd0,r_gtr,r_natD,hN,decide_eq_true_eq,r_len,List.length_map,r_eqN,r_out,r_seg0,r_slD,htk,finW]
    by_cases g:120 < (o.getD []).length+w.length
    ·simp [g,noW,nilS]
    ·simp [g,dS_some]
   ·simp only [h1,h2,if_true,r_bnd1,r_ld0,r_lds,r_lm0,r_lms,r_ln0,r_lns,r_lr0,r_lrs,r_liti,r_cond,if_true,r_neq,r_call,r_bnd0,s16 _ _ _ _ ht]
    simp [h3,noW,nilS]
  ·simp only [h1,h2,if_true,r_bnd1,r_ld0,r_lds,r_lm0,r_lms,r_ln0,r_lns,r_lr0,r_lrs,r_liti,r_cond,if_true,r_neq,r_call,r_bnd0,s16 _ _ _ _ ht]
   simp [noW,nilS]
 ·simp [h1,noW,nilS]
end Go.VE
namespace Go.VE
open Go.RowKit Go.Proofs
set_option maxRecDepth 100000
def tooB (l:List Stk):Bool:=l.any fun s=>decide (99999 < s.2.2.2)
def finR (me h:Int) (b:Option (List Brd)) (ss l:List Stk):Out:=finW me h (some (b.getD [])) ss (if tooB l=true then (2,[]) else (0,l))
theorem fitB {a b c:Nat} (ha:a≤120000) (hb:b≤120000) (hc:c≤32):(a+b)*c≤140737488355328∧a+b≤9223372036854775807:=by
 have:(a+b)*c≤240000*32:=Nat.mul_le_mul (by omega) hc
 omega
theorem s81 (n:Nat) (me h:Int) (b:Option (List Brd)) (o:Option (List Stk)) (hb:(b.getD []).length≤120) (hl:(o.getD []).length≤120) :
  FN (n+1) 81 [il me,dB b,dS o,il h]=some (0,[.d (il me),.d (dB (some (b.getD []))),.r ((o.getD []).map rS),.d (il h)]):=by
 rw [F81]
 have f1:=fitB (a:=0) (b:=(b.getD []).length) (c:=16) (by omega) (by omega) (by omega)
 have f2:=fitB (a:=0) (b:=(o.getD []).length) (c:=32) (by omega) (by omega) (by omega)
 have t1:((b.getD []).map rB).take (b.getD []).length=(b.getD []).map rB:=List.take_of_length_le (by simp)
 have t2:((o.getD []).map rS).take (o.getD []).length=(o.getD []).map rS:=List.take_of_length_le (by simp)
 simp only [Nat.zero_add] at f1 f2
 simp only [G81,rowsL,r_natN,r_rows,r_len,List.length_nil,r_eqN,if_true,r_addN,Nat.zero_add,List.length_map,r_fitsg,f1,f2,and_self,r_app,List.nil_append,r_leN,Nat.le_refl,r_seg0,t1,t2,r_slD,r_out]
 rfl
theorem l82 (n:Nat) (l:Option (List Stk)) (hl:(l.getD []).length≤120000) (c1 c2 c3 c4 c5 c6:D) :
  loopR [L82_0 (RP n)] M0 0 [.d (dS l),.d c1,.d c2,.d c3,.d c4,.d (il 0),.d c5,.d c6]=if tooB (l.getD [])=true then some (0,[.d (il 2),.d (il 0),.d (il 0)]) else some (1,[.d (dS l),.d c1,.d c2,.d c3,.d c4,.d c5,.d c6]):=by
 have:=range_loop (β:=Unit) (l.getD []) (by omega) (L82_0 (RP n)) (fun i _=>[.d (dS l),.d c1,.d c2,.d c3,.d c4,.d (il i),.d c5,.d c6]) (fun _ _=>True)
  (fun _ r _=>if tooB r=true then some (0,[.d (il 2),.d (il 0),.d (il 0)]) else some (1,[.d (dS l),.d c1,.d c2,.d c3,.d c4,.d c5,.d c6])) ?_ ?_ M0 () trivial (M0_big (by omega))
 ·exact this
 ·intro _ k _
  simp [L82_0,lenL,tooB]
 ·intro i s r _ k hi hd hlt hw _ ih
  have ih':=ih () trivial
  rw [cast1] at ih'
  have hlt':(i:Int) < ((l.getD []).length:Int):=by omega
  simp only [L82_0,lenL,r_ld0,r_lds,r_lss,hlt',decide_true,r_cond,if_true,rowS hi,cS3,r_gtr,r_liti,r_out,r_add,hw]
  by_cases h1:99999 < s.2.2.2
  ·simp [h1,tooB]
  ·simp only [h1,decide_false,Bool.false_eq_true,if_false]
   rw [show tooB (s::r)=tooB r by simp [tooB,h1]]
   exact ih'
theorem s82 (n:Nat) (me h:Int) (b:Option (List Brd)) (o l:Option (List Stk)) (hb:(b.getD []).length≤120) (hl:(o.getD []).length≤120) (hll:(l.getD []).length≤120000) :
  FN (n+2) 82 [il me,dB b,dS o,il h,dS l]=finR me h b (o.getD []) (l.getD []):=by
 rw [F82]
 have hw:IntKind.i64.wrap (((o.getD []).length:Int)+((l.getD []).length:Int))=((o.getD []).length:Int)+((l.getD []).length:Int):=wrap_id (by omega) (by omega)
 have hN:((120:Int) < ((o.getD []).length:Int)+((l.getD []).length:Int))↔120 < (o.getD []).length+(l.getD []).length:=by omega
 have hfit:=fitB (a:=(o.getD []).length) (b:=(l.getD []).length) (c:=32) (by omega) (by omega) (by omega)
 have hap:=app_take (o.getD []) (l.getD [])
 simp only [G82,lenL,r_add,hw,r_gtr,r_liti,hN,r_cond,decide_eq_true_eq,r_loop,l82 _ _ hll,finR]
 by_cases g:120 < (o.getD []).length+(l.getD []).length
 ·by_cases g2:tooB (l.getD [])=true
  ·simp [g,g2,finW,noW,nilS]
  ·simp [g,g2,finW,noW,nilS]
 ·by_cases g2:tooB (l.getD [])=true
  ·simp [g,g2,finW,noW,nilS]
  ·simp only [g,g2,Bool.false_eq_true,if_false,r_bnd1,r_ld0,r_lds,r_call,s81 _ _ _ _ _ hb hl,r_bnd0,r_lr0,r_lrs,rowsL,r_len,List.length_map,r_eqN,if_true,r_addN,r_fitsg,hfit,and_self,r_app,List.length_append,r_seg0,hap,r_slD,r_out,finW]
   rfl
theorem okP_b4 {me h:Int} {bs:List Brd} {ss:List Stk} (h1:okP me bs ss h=true):bs.length≤4:=by
 simp only [okP,bords,Bool.and_eq_true,decide_eq_true_eq] at h1
 exact h1.2.1.2
theorem okP_par {me h:Int} {bs:List Brd} {ss:List Stk} (h1:okP me bs ss h=true):par me=true:=by
 simp only [okP,Bool.and_eq_true] at h1
 exact h1.1
theorem finR_1 {me h:Int} {b:Option (List Brd)} {ss l:List Stk} (hl:tooB l=false):finR me h b ss l=finW me h (some (b.getD [])) ss (0,l):=by simp [finR,hl]
theorem s20 (n:Nat) (me h:Int) (b:Option (List Brd)) (o:Option (List Stk)) (fld:Int) (hl:(o.getD []).length≤4611686018427387904) (hb:(b.getD []).length≤4611686018427387904) :
  FN (n+9) 20 [il me,dB b,dS o,il h,il fld]=ofR me (b.getD []) (o.getD []) h fld noW fun j=>finW me h (some (b.getD [])) (o.getD []) (wantX fld (fl me (b.getD []) (o.getD []) j)):=by
 rw [F20]
 simp only [G20,r_call,s80 _ _ _ _ _ _ hl hb]
 unfold ofR
 by_cases h1:okP me (b.getD []) (o.getD []) h=true
 ·have hp:=okP_par h1
  have hb4:=okP_b4 h1
  have hl4:=okP_len h1
  simp only [h1,if_true]
  cases hx:bix fld (b.getD []) with
  | none=>simp [bad21,z21,noW,nilS]
  | some j =>
   have hr:=fl_rng h1 j
   simp only
   generalize fl me (b.getD []) (o.getD []) j=f at hr ⊢
   have hw:IntKind.i64.wrap (f.wants+1)=f.wants+1:=by have:=hr.1;exact wrap_id (by omega) (by omega)
   simp only [r21,List.cons_append,List.nil_append,List.map_cons,List.map_nil,r_bnd0,r_ld0,r_lds,r_liti,r_neq,ne_eq,not_true,decide_false,r_cond,Bool.false_eq_true,if_false,r_out,r_natN,r_inx6 hp,r_addN,r_le6 (par_lt hp),r_selN,sel6 _ (par_lt hp),wan_me hp,r_rem _ _ _ _ (show (2:Int)≠0 by decide),r_eql,s81 _ _ _ _ _ (show (b.getD []).length≤120 by omega) hl4,r_lr0,r_lrs,r_len,r_eqN,if_true,r_seg0,List.take_length,r_slD,r_add,hw,r_rows]
   have hc:=s82 (n+6) me h b o (some [(2,fld,0,f.wants+1)]) (by omega) hl4 (by simp)
   simp only [Option.getD_some,dS_some,List.map_cons,List.map_nil,rS] at hc
   by_cases g1:f.opn=true
   ·simp [g1,wantX,finW,noW,nilS]
   ·have g1':f.opn=false:=by simpa using g1
    by_cases g2:f.wants.tmod 2=1
    ·have g3:odd f.wants=true:=by simp [odd,g2]
     have g5:¬ (120 < (o.getD []).length):=by omega
     simp [g1',g2,g3,wantX,finW,g5,dS_some]
    ·have g3:odd f.wants=false:=by simp [odd,g2]
     have g6:tooB [(2,fld,0,f.wants+1)]=false:=by
      have:f.wants≠99999:=by rintro hh;rw [hh] at g2;exact g2 rfl
      have:=hr.1
      simp [tooB];omega
     rw [finR_1 g6] at hc
     simp only [g1',g2,g3,decide_false,Bool.false_eq_true,if_false,wantX,hc]
     unfold finW
     by_cases g4:120 < (o.getD []).length+1
     ·simp [g4,noW]
     ·simp [g4]
 ·simp [h1,bad21,z21,noW,nilS]
theorem s24 (n:Nat) (me h:Int) (b:Option (List Brd)) (o:Option (List Stk)) (fld:Int) (hl:(o.getD []).length≤4611686018427387904) (hb:(b.getD []).length≤4611686018427387904) :
  FN (n+9) 24 [il me,dB b,dS o,il h,il fld]=ofR me (b.getD []) (o.getD []) h fld noW fun j=>finW me h (some (b.getD [])) (o.getD []) (shutX fld (fl me (b.getD []) (o.getD []) j)):=by
 rw [F24]
 simp only [G24,r_call,s80 _ _ _ _ _ _ hl hb]
 unfold ofR
 by_cases h1:okP me (b.getD []) (o.getD []) h=true
 ·have hb4:=okP_b4 h1
  have hl4:=okP_len h1
  simp only [h1,if_true]
  cases hx:bix fld (b.getD []) with
  | none=>simp [bad21,z21,noW,nilS]
  | some j =>
   simp only
   generalize fl me (b.getD []) (o.getD []) j=f
   simp only [r21,List.cons_append,List.nil_append,List.map_cons,List.map_nil,r_bnd0,r_ld0,r_lds,r_liti,r_neq,ne_eq,not_true,decide_false,r_cond,Bool.false_eq_true,if_false,r_out,r_not,r_slD,r_rows]
   have hc:=s82 (n+6) me h b o (some [(4,fld,0,0)]) (by omega) hl4 (by simp)
   rw [Option.getD_some,finR_1 (show tooB [(4,fld,0,0)]=false by simp [tooB])] at hc
   simp only [dS_some,List.map_cons,List.map_nil,rS] at hc
   cases g1:f.opn with
   | false=>simp [g1,shutX,noW,finW,nilS]
   | true =>
    simp only [g1,shutX,Bool.not_true,Bool.false_eq_true,if_false,if_true,hc]
    unfold finW
    by_cases g4:120 < (o.getD []).length+1
    ·simp [g4,noW]
    ·simp [g4]
 ·simp [h1,bad21,z21,noW,nilS]
theorem s22 (n:Nat) (me h:Int) (b:Option (List Brd)) (o:Option (List Stk)) (fld:Int) (hl:(o.getD []).length≤4611686018427387904) (hb:(b.getD []).length≤4611686018427387904) :
  FN (n+9) 22 [il me,dB b,dS o,il h,il fld]=ofR me (b.getD []) (o.getD []) h fld noW fun j=>finW me h (some (b.getD [])) (o.getD []) (ringX me ((b.getD []).getD j (0,0)).2 fld (fl me (b.getD []) (o.getD []) j)):=by
 rw [F22]
 simp only [G22,r_call,s80 _ _ _ _ _ _ hl hb]
 unfold ofR
 by_cases h1:okP me (b.getD []) (o.getD []) h=true
 ·have hp:=okP_par h1
  have hb4:=okP_b4 h1
  have hl4:=okP_len h1
  simp only [h1,if_true]
  cases hx:bix fld (b.getD []) with
  | none=>simp [bad21,z21,noW,nilS]
  | some j =>
   obtain ⟨e,he,-,hg,hj⟩:=bord_at hx
   have h6:=okP_six h1 e (List.mem_of_getElem? he)
   have hr:=fl_rng h1 j
   simp only [hg]
   generalize fl me (b.getD []) (o.getD []) j=f at hr ⊢
   have h84:=s84 (n+4) e h6 me f
   have hw:IntKind.i64.wrap (f.wants+1)=f.wants+1:=by have:=hr.1;exact wrap_id (by omega) (by omega)
   have hf2:=fitB (a:=1) (b:=1) (c:=32) (by omega) (by omega) (by omega)
   simp only [r21,List.cons_append,List.nil_append] at h84
   simp only [r21,List.cons_append,List.nil_append,List.map_cons,List.map_nil,r_bnd0,r_ld0,r_lds,r_liti,r_neq,ne_eq,not_true,decide_false,r_cond,Bool.false_eq_true,if_false,r_out,r_natN,r_inx6 hp,r_addN,r_le6 (par_lt hp),r_selN,sel6 _ (par_lt hp),wan_me hp,r_rem _ _ _ _ (show (2:Int)≠0 by decide),r_eql,h84,r_not,r_len,List.length_cons,List.length_nil,Nat.zero_add,r_eqN,if_true,r_seg0,List.take,r_slD,r_add,hw,r_rows,r_fitsg,hf2,and_self,r_app]
   by_cases g1:f.opn=true
   ·simp [g1,ringX,finW,noW,nilS]
   ·have g1':f.opn=false:=by simpa using g1
    cases hm:(missL me e.2 f).isEmpty with
    | false=>simp [g1',hm,ringX,finW,noW,nilS]
    | true =>
     by_cases g2:f.wants.tmod 2=1
     ·have g3:odd f.wants=true:=by simp [odd,g2]
      have hc:=s82 (n+6) me h b o (some [(4,fld,0,1),(2,fld,0,f.wants+1)]) (by omega) hl4 (by simp)
      by_cases g4:f.wants=99999
      ·have g6:tooB [(4,fld,0,1),(2,fld,0,f.wants+1)]=true:=by simp [tooB,g4]
       rw [Option.getD_some,finR,if_pos g6] at hc
       simp only [dS_some,List.map_cons,List.map_nil,rS] at hc
       simp only [g1',g2,hm,ringX,decide_true,Bool.not_true,Bool.false_eq_true,if_false,if_true,r_bnd0,r_ld0,r_lds,hc]
       simp [g4,finW,noW]
      ·have g6:tooB [(4,fld,0,1),(2,fld,0,f.wants+1)]=false:=by
        have:=hr.1
        simp [tooB];omega
       rw [Option.getD_some,finR_1 g6] at hc
       simp only [dS_some,List.map_cons,List.map_nil,rS] at hc
       simp only [g1',g2,hm,hc,ringX,g4,g3,r_bnd0,r_ld0,r_lds,decide_true,Bool.not_true,Bool.false_eq_true,if_false,if_true]
       unfold finW
       by_cases g5:120 < (o.getD []).length+2
       ·simp [g5,noW]
       ·simp [g5]
     ·have g3:odd f.wants=false:=by simp [odd,g2]
      have g4:f.wants≠99999:=by rintro hh;rw [hh] at g2;exact g2 rfl
      have hc:=s82 (n+6) me h b o (some [(4,fld,0,1)]) (by omega) hl4 (by simp)
      rw [Option.getD_some,finR_1 (show tooB [(4,fld,0,1)]=false by simp [tooB])] at hc
      simp only [dS_some,List.map_cons,List.map_nil,rS] at hc
      simp only [g1',g2,hm,hc,ringX,g4,g3,r_bnd0,r_ld0,r_lds,decide_false,Bool.not_true,Bool.false_eq_true,if_false,if_true]
      unfold finW
      by_cases g5:120 < (o.getD []).length+1
      ·simp [g5,noW]
      ·simp [g5]
 ·simp [h1,bad21,z21,noW,nilS]
end Go.VE
namespace Go.VE
open Go.RowKit Go.Proofs
set_option maxRecDepth 100000
theorem tm01 {x:Int} (h:0≤x):x.tmod 2=0∨x.tmod 2=1:=by
 have:=Int.tmod_eq_emod_of_nonneg h (b:=2)
 omega
theorem accL_loop (N K:Nat) (hN:N≤4611686018427387904) (rows:Nat→Rr) (hK:∀ i,(rows i).length≤K) (b0 b1:(Nat→List Yr→Out)→List Yr→Out) (en0:Nat→List Yr) (en1:Nat→Rr→List Yr) (o0:Out) (o1:Rr→Out)
  (h0:∀ k,b0 k (en0 N)=o0) (h1:∀ k a t,(a::t).length≤N*K→b1 k (en1 N (a::t))=o1 (a::t))
  (s0:∀ i k,i < N→IntKind.i64.wrap ((i:Int)+1)=(i:Int)+1→b0 k (en0 i)=k (accE en0 en1 (i+1) (rows i)).1 (accE en0 en1 (i+1) (rows i)).2)
  (s1:∀ i k a t,i < N→(a::t).length≤i*K→IntKind.i64.wrap ((i:Int)+1)=(i:Int)+1→b1 k (en1 i (a::t))=k 1 (en1 (i+1) (a::t++rows i))) :
  loopR [b0,b1] M0 0 (en0 0)=accO o0 o1 ((List.range N).flatMap rows):=by
 have:=loop_ms (σ:=Nat×Rr) [b0,b1] (fun s=>accE en0 en1 s.1 s.2) (fun s=>N - s.1) (fun s=>s.1≤N∧s.2.length≤s.1*K)
  (fun s=>accO o0 o1 (s.2++(List.range' s.1 (N - s.1)).flatMap rows)) ?_ M0 (0,[]) ⟨by simp,by simp⟩ (by simp only [M0];omega)
 ·simpa [accE,List.range_eq_range'] using this
 ·rintro ⟨i,acc⟩ k ⟨hi,ha⟩ ih
  simp only at hi ha
  by_cases hN':i=N
  ·subst hN'
   cases acc with
   | nil=>exact ⟨b0,rfl,by simp [accE,accO,h0]⟩
   | cons a t=>exact ⟨b1,rfl,by simp [accE,accO,h1 k a t ha]⟩
  ·have hi':i < N:=by omega
   have hw:=wrap_succ hi' hN
   have ih1:=ih (i+1,acc++rows i) ⟨hi',by have:=hK i;rw [List.length_append,Nat.succ_mul];omega⟩ (by simp only;omega)
   simp only [List.append_assoc] at ih1
   have e:List.range' i (N - i)=i::List.range' (i+1) (N - (i+1)):=by
    rw [show N - i=(N - (i+1))+1 by omega,List.range'_succ]
   rw [e]
   simp only [List.flatMap_cons]
   cases acc with
   | nil =>
    refine ⟨b0,rfl,?_⟩
    simp only [accE,List.nil_append] at ih1 ⊢
    rw [s0 i k hi' hw]
    exact ih1
   | cons a t =>
    refine ⟨b1,rfl,?_⟩
    simp only [accE] at ih1 ⊢
    rw [s1 i k a t hi' ha hw]
    exact ih1
def rowG (me:Int) (e:Brd) (f:Fld):Nat→Option (List D):=rowIf (fun (o:Nat)=>!f.opn&&gives me e.2 f o) (fun (o:Nat)=>[il 1,il e.1,il o,il (f.no o+1)])
theorem rowG_all (me:Int) (e:Brd) (f:Fld):(List.range 6).filterMap (rowG me e f)=(serveF me e f).map rS:=by
 rw [rowG,filterMap_rowIf]
 unfold serveF
 cases f.opn with
 | true=>simp
 | false =>
  simp only [Bool.not_false,Bool.true_and,Bool.false_eq_true,if_false,List.map_map]
  rfl
theorem l26_0 (n:Nat) (e:Brd) (hb:six e.2) {me:Int} (hm:par me=true) (f:Fld) (hr:rngF f) (c1 c2 c3 c4 z1 z2:D) :
  loopR [L26_0 (RP (n+5)),L26_1 (RP (n+5))] M0 0 (.d (il me)::.d c1::.d c2::.d c3::.d c4::.d (il 0)::((r21 e me f).map .d++[.d z1,.d z2]))=accO (some (0,[.d (il me),.d c1,.d c2,.d c3,.d c4,.d z1,.d z2])) (fun acc=>some (1,[.d (il me),.d c1,.d c2,.d c3,.n acc.length,.n acc.length,.d c4,.r acc,.d z1,.d z2])) ((serveF me e f).map rS):=by
 have:=acc_loop 6 (by omega) (rowG me e f) (L26_0 (RP (n+5))) (L26_1 (RP (n+5))) (fun i=>.d (il me)::.d c1::.d c2::.d c3::.d c4::.d (il i)::((r21 e me f).map .d++[.d z1,.d z2]))
  (fun i acc=>.d (il me)::.d c1::.d c2::.d c3::.n acc.length::.n acc.length::.d c4::.d (il i)::((r21 e me f).map .d++[.r acc,.d z1,.d z2])) (some (0,[.d (il me),.d c1,.d c2,.d c3,.d c4,.d z1,.d z2])) (fun acc=>some (1,[.d (il me),.d c1,.d c2,.d c3,.n acc.length,.n acc.length,.d c4,.r acc,.d z1,.d z2])) ?_ ?_ ?_ ?_
 ·rw [rowG_all] at this
  exact this
 ·intro k;simp [L26_0,r21]
 ·intro k a t _;simp [L26_1,r21]
 ·intro i k hi hw
  have hfit:=fitB (a:=0) (b:=1) (c:=32) (by omega) (by omega) (by omega)
  have h88:=s88 (n+4) e me f hi
  have h89:=s89 (n+3) e me hm f (o:=(i:Int)) (par_iff.2 ⟨by omega,by omega⟩)
  have hask:=(hr.2 i).2.1
  have hwn:IntKind.i64.wrap (f.no i+1)=f.no i+1:=by have:=(hr.2 i).1;exact wrap_id (by omega) (by omega)
  simp only [r21,List.map_cons,List.map_nil,List.cons_append,List.nil_append] at h88 h89 ⊢
  simp only [L26_0,r_isNil1,r_ld0,r_lds,r_liti,r_lss,show ((i:Int) < 6) by omega,decide_true,r_cond,if_true,r_eql,r_call,s71 _ _ hb,h88,h89,r_bnd0,hasP_nat hi,r_not,r_natN,r_inx6n hi,r_addN,r_le6 hi,r_selN,sel6 _ hi,r_rem _ _ _ _ (show (2:Int)≠0 by decide),r_geq,r_rows,r_len,List.length_cons,List.length_nil,Nat.zero_add,r_eqN,r_seg0,List.take,r_fitsg,hfit,and_self,r_add,hw,hwn,cast1,rowG,rowIf]
  have hgd:gives me e.2 f i=(!decide ((i:Int)=me)&&(e.2.toNat.testBit i&&(odd (f.ask i)&&(isWith me i (f.no i)&&(!cleanF me i f&&decide (f.no i < 99999)))))):=rfl
  by_cases h1:(i:Int)=me
  ·simp [h1,hgd]
  ·by_cases h2:e.2.toNat.testBit i=true
   ·cases h3:f.opn with
    | true=>simp [h1,h2]
    | false =>
     have hwan:wan me f i=f.ask i:=by simp [wan,h1]
     rcases tm01 hask with h4 | h4
     ·have h4':odd (f.ask i)=false:=by simp [odd,h4]
      simp [h1,h2,hwan,h4,h4',hgd]
     ·have h4':odd (f.ask i)=true:=by simp [odd,h4]
      cases h5:isWith me i (f.no i) with
      | false=>simp [h1,h2,hwan,h4,h4',h5,hgd]
      | true =>
       cases h6:cleanF me i f with
       | true=>simp [h1,h2,hwan,h4,h4',h5,h6,hgd]
       | false =>
        by_cases h7:f.no i < 99999
        ·have h7':¬ (99999≤f.no i):=by omega
         simp [h1,h2,hwan,h4,h4',h5,h6,h7,h7',hgd]
        ·have h7':99999≤f.no i:=by omega
         simp [h1,h2,hwan,h4,h4',h5,h6,h7,h7',hgd]
   ·simp [h1,h2,hgd]
 ·intro i k a t hi ha hw
  simp only [List.length_cons] at ha
  have hfit:=fit1 (n:=t.length) 32 (by decide) (by omega)
  have hq:t.length≤9223372036854775805:=by omega
  have h88:=s88 (n+4) e me f hi
  have h89:=s89 (n+3) e me hm f (o:=(i:Int)) (par_iff.2 ⟨by omega,by omega⟩)
  have hask:=(hr.2 i).2.1
  have hwn:IntKind.i64.wrap (f.no i+1)=f.no i+1:=by have:=(hr.2 i).1;exact wrap_id (by omega) (by omega)
  simp only [r21,List.map_cons,List.map_nil,List.cons_append,List.nil_append] at h88 h89 ⊢
  simp only [L26_1,r_app,r_ld0,r_lds,r_ln0,r_lns,r_lr0,r_lrs,r_liti,r_lss,show ((i:Int) < 6) by omega,decide_true,r_cond,if_true,r_eql,r_call,s71 _ _ hb,h88,h89,r_bnd0,hasP_nat hi,r_not,r_natN,r_inx6n hi,r_addN,r_le6 hi,r_selN,sel6 _ hi,r_rem _ _ _ _ (show (2:Int)≠0 by decide),r_geq,r_rows,r_len,List.length_cons,List.length_nil,Nat.zero_add,r_eqN,r_seg0,List.take,r_fitsg,hfit,and_self,r_add,hw,hwn,cast1,rowG,rowIf]
  have hgd:gives me e.2 f i=(!decide ((i:Int)=me)&&(e.2.toNat.testBit i&&(odd (f.ask i)&&(isWith me i (f.no i)&&(!cleanF me i f&&decide (f.no i < 99999)))))):=rfl
  by_cases h1:(i:Int)=me
  ·simp [h1,hgd]
  ·by_cases h2:e.2.toNat.testBit i=true
   ·cases h3:f.opn with
    | true=>simp [h1,h2]
    | false =>
     have hwan:wan me f i=f.ask i:=by simp [wan,h1]
     rcases tm01 hask with h4 | h4
     ·have h4':odd (f.ask i)=false:=by simp [odd,h4]
      simp [h1,h2,hwan,h4,h4',hgd]
     ·have h4':odd (f.ask i)=true:=by simp [odd,h4]
      cases h5:isWith me i (f.no i) with
      | false=>simp [h1,h2,hwan,h4,h4',h5,hgd]
      | true =>
       cases h6:cleanF me i f with
       | true=>simp [h1,h2,hwan,h4,h4',h5,h6,hgd]
       | false =>
        by_cases h7:f.no i < 99999
        ·have h7':¬ (99999≤f.no i):=by omega
         simp [h1,h2,hwan,h4,h4',h5,h6,h7,h7',hgd]
        ·have h7':99999≤f.no i:=by omega
         simp [h1,h2,hwan,h4,h4',h5,h6,h7,h7',hgd]
   ·simp [h1,h2,hgd]
theorem l26_3 (n:Nat) (e:Brd) (hb:six e.2) {me:Int} (hm:par me=true) (f:Fld) (hr:rngF f) (c1 c2 c3 c4 z1 z2:D) (acc0:Rr) (hl0:acc0.length≤60000) :
  loopR [L26_3 (RP (n+5))] M0 0 (.d (il me)::.d c1::.d c2::.d c3::.n acc0.length::.n acc0.length::.d c4::.d (il 0)::((r21 e me f).map .d++[.r acc0,.d z1,.d z2]))=(fun (acc:Rr)=>some (0,[.d (il me),.d c1,.d c2,.d c3,.n acc.length,.n acc.length,.d c4,.r acc,.d z1,.d z2])) (acc0++(serveF me e f).map rS):=by
 have:=cnt_loop (β:=Rr) 6 (by omega) (L26_3 (RP (n+5))) (fun i acc=>.d (il me)::.d c1::.d c2::.d c3::.n acc.length::.n acc.length::.d c4::.d (il i)::((r21 e me f).map .d++[.r acc,.d z1,.d z2])) (fun i acc=>acc.length≤60000+i)
  (fun i acc=>(fun (acc:Rr)=>some (0,[.d (il me),.d c1,.d c2,.d c3,.n acc.length,.n acc.length,.d c4,.r acc,.d z1,.d z2])) (acc++(rg i).filterMap (rowG me e f))) ?_ ?_ acc0 hl0
 ·rw [←rg_zero,rowG_all] at this
  exact this
 ·intro acc k _
  simp [L26_3,r21,rg]
 ·intro i acc k hi ha hw ih
  have ih0:=ih acc (by omega)
  have ih1:=ih (acc++[[il 1,il e.1,il i,il (f.no i+1)]]) (by simp;omega)
  rw [rg_succ hi,List.filterMap_cons]
  generalize (rg (i+1)).filterMap (rowG me e f)=T at ih0 ih1 ⊢
  have hfit:=fitB (a:=acc.length) (b:=1) (c:=32) (by omega) (by omega) (by omega)
  have hq:acc.length≤9223372036854775806:=by omega
  have h88:=s88 (n+4) e me f hi
  have h89:=s89 (n+3) e me hm f (o:=(i:Int)) (par_iff.2 ⟨by omega,by omega⟩)
  have hask:=(hr.2 i).2.1
  have hwn:IntKind.i64.wrap (f.no i+1)=f.no i+1:=by have:=(hr.2 i).1;exact wrap_id (by omega) (by omega)
  simp only [r21,List.map_cons,List.map_nil,List.cons_append,List.nil_append] at h88 h89 ih0 ih1 ⊢
  simp only [cast1,List.length_append,List.length_cons,List.length_nil,Nat.zero_add,List.append_assoc,List.cons_append,List.nil_append] at ih0 ih1
  simp only [L26_3,r_app,r_ld0,r_lds,r_ln0,r_lns,r_lr0,r_lrs,r_liti,r_lss,show ((i:Int) < 6) by omega,decide_true,r_cond,if_true,r_eql,r_call,s71 _ _ hb,h88,h89,r_bnd0,hasP_nat hi,r_not,r_natN,r_inx6n hi,r_addN,r_le6 hi,r_selN,sel6 _ hi,r_rem _ _ _ _ (show (2:Int)≠0 by decide),r_geq,r_rows,r_len,List.length_cons,List.length_nil,Nat.zero_add,r_eqN,r_seg0,List.take,r_fitsg,hfit,and_self,r_add,hw,hwn,rowG,rowIf]
  have hgd:gives me e.2 f i=(!decide ((i:Int)=me)&&(e.2.toNat.testBit i&&(odd (f.ask i)&&(isWith me i (f.no i)&&(!cleanF me i f&&decide (f.no i < 99999)))))):=rfl
  by_cases h1:(i:Int)=me
  ·subst h1
   simp [hgd]
   simpa using ih0
  ·by_cases h2:e.2.toNat.testBit i=true
   ·cases h3:f.opn with
    | true=>simp [h1,h2];simpa [h3] using ih0
    | false =>
     have hwan:wan me f i=f.ask i:=by simp [wan,h1]
     rcases tm01 hask with h4 | h4
     ·have h4':odd (f.ask i)=false:=by simp [odd,h4]
      simp [h1,h2,hwan,h4,h4',hgd];simpa [h3] using ih0
     ·have h4':odd (f.ask i)=true:=by simp [odd,h4]
      cases h5:isWith me i (f.no i) with
      | false=>simp [h1,h2,hwan,h4,h4',h5,hgd];simpa [h3] using ih0
      | true =>
       cases h6:cleanF me i f with
       | true=>simp [h1,h2,hwan,h4,h4',h5,h6,hgd];simpa [h3] using ih0
       | false =>
        by_cases h7:f.no i < 99999
        ·have h7':¬ (99999≤f.no i):=by omega
         simp [h1,h2,hwan,h4,h4',h5,h6,h7,h7',hgd];simpa [h3] using ih1
        ·have h7':99999≤f.no i:=by omega
         simp [h1,h2,hwan,h4,h4',h5,h6,h7,h7',hgd];simpa [h3] using ih0
   ·simp [h1,h2,hgd];simpa using ih0
end Go.VE
namespace Go.VE
open Go.RowKit Go.Proofs
set_option maxRecDepth 100000
theorem serveF_len (me:Int) (e:Brd) (f:Fld):(serveF me e f).length≤6:=by
 unfold serveF
 split
 ·simp
 ·rw [List.length_map];exact List.length_filter_le _ (List.range 6)
def rowsX {α:Type} (g:α→List Stk) (l:List α) (i:Nat):Rr:=((l[i]?).elim [] g).map rS
theorem rowsX_all {α:Type} (g:α→List Stk):∀ l:List α,(List.range l.length).flatMap (rowsX g l)=(l.flatMap g).map rS
 | []=>rfl
 | a::t=>by
  have:=rowsX_all g t
  rw [List.length_cons,List.range_succ_eq_map,List.flatMap_cons,List.flatMap_map,List.flatMap_cons,List.map_append,← this]
  rfl
theorem rowsX_at {α:Type} {g:α→List Stk} {l:List α} {i:Nat} {e:α} (h:l[i]?=some e):rowsX g l i=(g e).map rS:=by simp [rowsX,h]
def servR (me:Int) (ss:List Stk) (e:Brd):List Stk:=serveF me e (fread me e fd0 ss).1
theorem l26_2 (n:Nat) {me h:Int} (b:Option (List Brd)) (o:Option (List Stk)) (h1:okP me (b.getD []) (o.getD []) h=true) (c3 z1 z2:D) :
  loopR [L26_2 (RP (n+7)),L26_4 (RP (n+7))] M0 0 [.d (il me),.d (dB b),.d (dS o),.d c3,.d (il 0),.d z1,.d z2] =
   accO (some (0,[.d (il me),.d (dB b),.d (dS o),.d c3,.d z1,.d z2])) (fun acc=>some (1,[.d (il me),.d (dB b),.d (dS o),.d c3,.n acc.length,.n acc.length,.r acc,.d z1,.d z2])) ((serveX me (b.getD []) (o.getD [])).map rS):=by
 have hb4:=okP_b4 h1
 have hl:=okP_len h1
 have h66:=okP_six h1
 have hm:=okP_par h1
 have hW:=h1
 rw [okP_W] at hW
 have hok:=(okW_strokes hW).2.2
 have:=accL_loop (b.getD []).length 6 (by omega) (rowsX (servR me (o.getD [])) (b.getD [])) (fun i=>by
   unfold rowsX
   cases (b.getD [])[i]? with
   | none=>simp
   | some e=>rw [List.length_map];exact serveF_len ..) (L26_2 (RP (n+7))) (L26_4 (RP (n+7)))
  (fun i=>[.d (il me),.d (dB b),.d (dS o),.d c3,.d (il i),.d z1,.d z2]) (fun i acc=>[.d (il me),.d (dB b),.d (dS o),.d c3,.n acc.length,.n acc.length,.d (il i),.r acc,.d z1,.d z2])
  (some (0,[.d (il me),.d (dB b),.d (dS o),.d c3,.d z1,.d z2])) (fun acc=>some (1,[.d (il me),.d (dB b),.d (dS o),.d c3,.n acc.length,.n acc.length,.r acc,.d z1,.d z2])) ?_ ?_ ?_ ?_
 ·rw [rowsX_all] at this
  exact this
 ·intro k;simp [L26_2,lenL]
 ·intro k a t _;simp [L26_4,lenL]
 ·intro i k hi hw
  obtain ⟨e,he⟩:∃ e,(b.getD [])[i]?=some e:=⟨_,List.getElem?_eq_getElem hi⟩
  have h6:=h66 e (List.mem_of_getElem? he)
  have hlt':(i:Int) < ((b.getD []).length:Int):=by omega
  have h75:=s75 (n+1) e h6 hm o (by omega) hok
  have hr:rngF (fread me e fd0 (o.getD [])).1:=fread_rng _ _ hok rng_0
  rw [rowsX_at he,servR]
  generalize (fread me e fd0 (o.getD [])).1=f at h75 hr ⊢
  have h26:=l26_0 (n+2) e h6 hm f hr (dB b) (dS o) c3 (il i) z1 z2
  simp only [r21,List.cons_append,List.nil_append,List.map_cons,List.map_nil] at h75 h26
  simp only [L26_2,r_ld0,r_lds,lenL,r_lss,hlt',decide_true,r_cond,if_true,rowB he,cB0,cB1,r_call,h75,r_bnd0,r_loop,r_liti]
  rw [h26]
  cases serveF me e f with
  | nil=>simp only [List.map_nil,accO,r_bnd0,r_ld0,r_lds,r_add,hw,accE,cast1]
  | cons a t=>simp only [List.map_cons,accO,r_bnd1,r_ld0,r_lds,r_ln0,r_lns,r_lr0,r_lrs,r_add,hw,accE,cast1,List.length_cons]
 ·intro i k a t hi ha hw
  obtain ⟨e,he⟩:∃ e,(b.getD [])[i]?=some e:=⟨_,List.getElem?_eq_getElem hi⟩
  have h6:=h66 e (List.mem_of_getElem? he)
  have hlt':(i:Int) < ((b.getD []).length:Int):=by omega
  have h75:=s75 (n+1) e h6 hm o (by omega) hok
  have hr:rngF (fread me e fd0 (o.getD [])).1:=fread_rng _ _ hok rng_0
  rw [rowsX_at he,servR]
  generalize (fread me e fd0 (o.getD [])).1=f at h75 hr ⊢
  have h26:=l26_3 (n+2) e h6 hm f hr (dB b) (dS o) c3 (il i) z1 z2 (a::t) (by omega)
  simp only [r21,List.cons_append,List.nil_append,List.map_cons,List.map_nil] at h75 h26
  simp only [L26_4,r_ld0,r_lds,r_ln0,r_lns,r_lr0,r_lrs,lenL,r_lss,hlt',decide_true,r_cond,if_true,rowB he,cB0,cB1,r_call,h75,r_bnd0,r_loop,r_liti]
  rw [h26]
  simp only [r_bnd0,r_ld0,r_lds,r_ln0,r_lns,r_lr0,r_lrs,r_add,hw,cast1,List.cons_append]
theorem serveX_no {me h:Int} {bs:List Brd} {ss:List Stk} (_:okP me bs ss h=true):tooB (serveX me bs ss)=false:=by
 unfold tooB
 rw [List.any_eq_false]
 intro s hs
 simp only [serveX,List.mem_flatMap] at hs
 obtain ⟨e,-,hs⟩:=hs
 unfold serveF at hs
 split at hs
 ·cases hs
 ·simp only [List.mem_map,List.mem_filter] at hs
  obtain ⟨q,⟨-,hq⟩,rfl⟩:=hs
  simp only [gives,Bool.and_eq_true,decide_eq_true_eq] at hq
  simp only [decide_eq_true_eq]
  omega
theorem serveX_len {me h:Int} {bs:List Brd} {ss:List Stk} (h1:okP me bs ss h=true):(serveX me bs ss).length≤24:=by
 have hb4:=okP_b4 h1
 have:∀ l:List Brd,(l.flatMap fun e=>serveF me e (fread me e fd0 ss).1).length≤6*l.length:=by
  intro l
  induction l with
  | nil=>simp
  | cons e r ih =>
   rw [List.flatMap_cons,List.length_append,List.length_cons]
   have:=serveF_len me e (fread me e fd0 ss).1
   omega
 have:=this bs
 unfold serveX
 omega
theorem s26 (n:Nat) (me h:Int) (b:Option (List Brd)) (o:Option (List Stk)) (hl:(o.getD []).length≤4611686018427387904) (hb:(b.getD []).length≤4611686018427387904) :
  FN (n+8) 26 [il me,dB b,dS o,il h]=if okP me (b.getD []) (o.getD []) h=true then finW me h (some (b.getD [])) (o.getD []) (0,serveX me (b.getD []) (o.getD [])) else noW 92:=by
 rw [F26]
 simp only [G26,r_call,s15 _ _ _ _ _ hl hb,← okP_W,r_bnd0,r_ld0,r_liti,r_neq,ite_ne _ 92 (by omega),r_cond,r_out]
 by_cases h1:okP me (b.getD []) (o.getD []) h=true
 ·have hb4:=okP_b4 h1
  have hl4:=okP_len h1
  have h24:=serveX_len h1
  have hno:=serveX_no h1
  simp only [h1,Bool.not_true,Bool.false_eq_true,if_false,if_true,r_loop]
  rw [l26_2 n b o h1]
  generalize serveX me (b.getD []) (o.getD [])=w at h24 hno ⊢
  have hc:=s82 (n+5) me h b o (match w with | []=>none | a::t=>some (a::t)) (by omega) hl4 (by
   cases w with
   | nil=>simp
   | cons a t=>simp only [Option.getD_some];omega)
  cases w with
  | nil =>
   simp only [dS_none,nilS,Option.getD_none,finR_1 hno] at hc
   simp only [List.map_nil,accO,r_bnd0,r_ld0,r_lds,r_litNil,hc]
   unfold finW
   simp [show ¬ (120 < (o.getD []).length) by omega]
  | cons a t =>
   have htk:((a::t).map rS).take (t.length+1)=(a::t).map rS:=List.take_of_length_le (by simp)
   simp only [dS_some,Option.getD_some,finR_1 hno] at hc
   simp only [List.map_cons] at hc htk
   simp only [List.map_cons,accO,r_bnd1,r_ld0,r_lds,r_ln0,r_lns,r_lr0,r_lrs,r_len,List.length_cons,List.length_map,r_eqN,if_true,r_seg0,htk,r_slD,hc]
   unfold finW
   by_cases g:120 < (o.getD []).length+(t.length+1)
   ·simp [g,noW]
   ·simp [g]
 ·simp [h1,noW,nilS]
end Go.VE
