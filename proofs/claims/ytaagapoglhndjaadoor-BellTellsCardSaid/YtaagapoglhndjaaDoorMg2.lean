/- Bell: the examples are so. -/
import Derived.Test.YtaagapoglhndjaaDoorMg1
import Derived.Test.YtaagapoglhndjaaDoorMh
namespace Go.VE
open Go.RowKit Go.Proofs
set_option maxRecDepth 100000
set_option maxHeartbeats 0
open Classical in
noncomputable def FnP (f:Nat) (xs:List D):Out:=if f=76∧xs=[.sl 4 two] then some (0,[.d twoS,.d (il 0)]) else FN 14 f xs
theorem pE {f:Nat} {xs:List D} (h:f≠76):FnP f xs=FN 14 f xs:=if_neg fun e=>h e.1
theorem pP:FnP 76 [.sl 4 two]=some (0,[.d twoS,.d (il 0)]):=if_pos ⟨rfl,rfl⟩
theorem FnP_ok:FnOK Tryd.prog (cf3 tb Tryd.prog) FnP:=by
 intro f sh xs vs j ys rs h1 h2 h3 h4
 unfold FnP at h3
 split at h3
 ·rename_i hc
  obtain ⟨rfl,rfl⟩:=hc
  simp only [Option.some.injEq,Prod.mk.injEq] at h3
  obtain ⟨rfl,rfl⟩:=h3
  have e1:(cf3 tb Tryd.prog).ash 76=some [.one]:=rfl
  rw [e1] at h1
  cases h1
  cases h2
  have e2:((cf3 tb Tryd.prog).rsk 76)[0]?=some [(false,[.d]),(false,[.d])]:=rfl
  rw [e2] at h4
  cases h4
  exact print_sc
 ·exact FnT_ok mixP spOK 14 f sh xs vs j ys rs h1 h2 h3 h4
theorem FnP_okM:FmOK Tryd.prog (cf3 tb Tryd.prog) FnP:=fun f ms xs zs h1 h2=>by
 rw [pE (by omega)] at h2
 exact FnT_okM mixP spOK 14 f ms xs zs h1 h2
theorem e45a:FN 14 45 [.sl 1 [[il 0],[il 1]],.sl 1 [[il 0],[il 1]]]=some (0,[.d (bl true)]):=by kernel_rfl
theorem e45b:FN 14 45 [.sl 1 [[il 1]],.sl 1 [[il 1]]]=some (0,[.d (bl true)]):=by kernel_rfl
theorem e46a:FN 14 46 [il 1,il 0,.sl 3 [[il 7,il 0,il 0]],il 1,il 0,.sl 3 [[il 7,il 0,il 0]]]=some (0,[.d (bl true)]):=by kernel_rfl
theorem e46b:FN 14 46 [il 1,il 0,.sl 3 [[il 7,il 0,il 1]],il 1,il 0,.sl 3 [[il 7,il 0,il 1]]]=some (0,[.d (bl true)]):=by kernel_rfl
theorem e46c:FN 14 46 [il 0,il 1,.sl 3 [[il 7,il 1,il 0]],il 0,il 1,.sl 3 [[il 7,il 1,il 0]]]=some (0,[.d (bl true)]):=by kernel_rfl
theorem r_eqlS {Fn:Nat→List D→Out} {FnD:D→List Sh→List D→Out} {m:Nat} (s:ByteArray) (k:D→Out):(real Fn FnD m).bin .eql false (.lit (.string s)) (.lit (.string s)) k=k (bl true):=by
 simp [real,binD,aStr,optO,bl]
theorem r_litS {Fn:Nat→List D→Out} {FnD:D→List Sh→List D→Out} {m:Nat} (s:ByteArray):(real Fn FnD m).lit (.string s)=.lit (.string s):=rfl
theorem g18a {Fn:Nat→List D→Out} {FnD:D→List Sh→List D→Out} (e9_0:Fn 9 [il 0,eBs]=ySt 0 eBs eNo 0 0)
  (e9_1:Fn 9 [il 1,eBs]=ySt 1 eBs eNo 0 0)
  (e9_3:Fn 9 [il 3,eBs]=ySt 3 eBs eNo 0 0)
  (e41:Fn 41 (eSt 3 eNo 0++[il 7])=some (0,[.d (.sl 1 [[il 0],[il 1]]),.d (il 0)]))
  (e19:Fn 19 (eSt 1 eNo 0++[il 7])=ySt 1 eBs (.sl 4 [eRow 2 7 0 1]) 0 0)
  (e43_0:Fn 43 (eSt 1 (.sl 4 [eRow 2 7 0 1]) 0++[il 0])=some (0,[.d (il 1),.d (il 0),.d (.sl 3 [[il 7,il 0,il 0]]),.d (il 0)]))
  (e49_1:Fn 49 (eSt 1 (.sl 4 [eRow 2 7 0 1]) 0)=ySt 1 eBs (.sl 4 [eRow 2 7 0 1]) 1 0)
  (e43_1:Fn 43 (eSt 1 (.sl 4 [eRow 2 7 0 1]) 1++[il 0])=some (0,[.d (il 1),.d (il 0),.d (.sl 3 [[il 7,il 0,il 1]]),.d (il 0)]))
  (e27_0:Fn 27 (eSt 0 eNo 0++[il 1,il 0,.sl 3 [[il 7,il 0,il 1]]])=ySt 0 eBs (.sl 4 [eRow 3 7 1 1]) 0 0)
  (e25:Fn 25 (eSt 0 (.sl 4 [eRow 3 7 1 1]) 0)=ySt 0 eBs (.sl 4 [eRow 3 7 1 1,eRow 1 7 1 1]) 0 0)
  (e29:Fn 29 (eSt 0 (.sl 4 [eRow 3 7 1 1,eRow 1 7 1 1]) 0++[il 7,il 1])=some (0,[.d (il 1),.d (il 0)]))
  (e49_2:Fn 49 (eSt 0 (.sl 4 [eRow 3 7 1 1,eRow 1 7 1 1]) 0)=ySt 0 eBs (.sl 4 [eRow 3 7 1 1,eRow 1 7 1 1]) 2 0)
  (e43_2:Fn 43 (eSt 0 (.sl 4 [eRow 3 7 1 1,eRow 1 7 1 1]) 2++[il 1])=some (0,[.d (il 0),.d (il 1),.d (.sl 3 [[il 7,il 1,il 0]]),.d (il 0)]))
  (e27_1:Fn 27 (eSt 1 (.sl 4 [eRow 2 7 0 1]) 1++[il 0,il 1,.sl 3 [[il 7,il 1,il 0]]])=ySt 1 eBs (.sl 4 [eRow 2 7 0 1,eRow 1 7 0 1]) 1 0)
  (e33:Fn 33 (eSt 1 (.sl 4 [eRow 2 7 0 1,eRow 1 7 0 1]) 1++[il 7,il 0])=some (0,[.d (bl true),.d (il 0)]))
  (e21:Fn 21 (eSt 1 (.sl 4 [eRow 2 7 0 1,eRow 1 7 0 1]) 1++[il 7])=ySt 1 eBs (.sl 4 [eRow 2 7 0 1,eRow 1 7 0 1,eRow 4 7 0 1,eRow 2 7 0 2]) 1 0)
  (e47:Fn 47 [.sl 4 [eSt 0 (.sl 4 [eRow 3 7 1 1,eRow 1 7 1 1]) 2,eSt 1 (.sl 4 [eRow 2 7 0 1,eRow 1 7 0 1,eRow 4 7 0 1,eRow 2 7 0 2]) 1,eSt 3 eNo 0],il 7]=some (0,[.d (.sl 1 [[il 1]]),.d (il 0)]))
  (e45a:Fn 45 [.sl 1 [[il 0],[il 1]],.sl 1 [[il 0],[il 1]]]=some (0,[.d (bl true)]))
  (e45b:Fn 45 [.sl 1 [[il 1]],.sl 1 [[il 1]]]=some (0,[.d (bl true)]))
  (e46a:Fn 46 [il 1,il 0,.sl 3 [[il 7,il 0,il 0]],il 1,il 0,.sl 3 [[il 7,il 0,il 0]]]=some (0,[.d (bl true)]))
  (e46b:Fn 46 [il 1,il 0,.sl 3 [[il 7,il 0,il 1]],il 1,il 0,.sl 3 [[il 7,il 0,il 1]]]=some (0,[.d (bl true)]))
  (e46c:Fn 46 [il 0,il 1,.sl 3 [[il 7,il 1,il 0]],il 0,il 1,.sl 3 [[il 7,il 1,il 0]]]=some (0,[.d (bl true)]))
  (pP:Fn 76 [.sl 4 two]=some (0,[.d twoS,.d (il 0)])):G18 (real Fn FnD M0)=some (0,[.d (bl true)]):=by
 simp only [ySt,eBs,eRow,eSt,eNo,two,twoS,List.cons_append,List.nil_append] at e9_0 e9_1 e9_3 e41 e19 e43_0 e49_1 e43_1 e27_0 e25 e29 e49_2 e43_2 e27_1 e33 e21 e47 pP
 simp only [G18,r_natN,r_liti,r_litb,r_rows,r_len,List.length_cons,List.length_nil,r_eqN,Nat.zero_add,if_true,r_seg0,List.take,r_slD,r_call,r_bnd0,r_ld0,r_lds,e9_0,e9_1,e9_3,e41,e19,e43_0,e49_1,e43_1,e27_0,e25,e29,e49_2,e43_2,e27_1,e33,e21,e47,pP,
  r_eql,decide_true,r_cond,r_out,e45a,e45b,e46a,e46b,e46c,r_litsg,List.all_cons,List.all_nil,yl_b,Bool.and_self,r_eqlS,r_litS]
theorem pq {f:Nat} {xs:List D} {o:Out} (h:FN 14 f xs=o) (hf:f≠76):FnP f xs=o:=(pE hf).trans h
theorem g18:G18 (real FnP (FnDof Tryd.prog (cf3 tb Tryd.prog) FnP) M0)=some (0,[.d (bl true)]) :=
 g18a (pq e9_0 (by decide)) (pq e9_1 (by decide)) (pq e9_3 (by decide)) (pq e41 (by decide)) (pq e19 (by decide)) (pq e43_0 (by decide)) (pq e49_1 (by decide)) (pq e43_1 (by decide)) (pq e27_0 (by decide)) (pq e25 (by decide)) (pq e29 (by decide)) (pq e49_2 (by decide)) (pq e43_2 (by decide)) (pq e27_1 (by decide)) (pq e33 (by decide)) (pq e21 (by decide)) (pq e47 (by decide)) (pq e45a (by decide)) (pq e45b (by decide)) (pq e46a (by decide)) (pq e46b (by decide)) (pq e46c (by decide)) pP
theorem sane_sc:SC Tryd.prog 18 [] (.one (.d (bl true))) :=
 fun3_sc (T:=tb) (P:=Tryd.prog) mixP FnP_ok FnP_okM spOK (fuel:=400) (m0:=M0) (xs:=[]) (j:=0) (ys:=[.d (bl true)]) (rs:=[(false,[.d])]) (by rw [prR,G18_eq];exact g18) (by decide) (sh:=[]) rfl rfl rfl
end Go.VE
namespace Go.VE
open Go.RowKit Go.Proofs
set_option maxRecDepth 100000
theorem o3 {n:Nat} {ds:List D} (h:HasT Tryd.prog (n+1) 3 ds):∃ z,ds=[il z]∧-9223372036854775808≤z∧z≤9223372036854775807:=h.int Tryd.underlying3
theorem o30 {n:Nat} {ds:List D} (h:HasT Tryd.prog (n+2) 30 ds):∃ b:Brd,ds=rB b:=by
 obtain ⟨_,_,rfl,h1,_,_,rfl,h2,rfl⟩:=h.struct Tryd.underlying30 rfl
 obtain ⟨x,rfl,_⟩:=o3 h1
 obtain ⟨y,rfl,_⟩:=o3 h2
 exact ⟨(x,y),rfl⟩
theorem o87 {n:Nat} {ds:List D} (h:HasT Tryd.prog (n+2) 87 ds):∃ b:Stk,ds=rS b:=by
 obtain ⟨_,_,rfl,h1,_,_,rfl,h2,_,_,rfl,h3,_,_,rfl,h4,rfl⟩:=h.struct Tryd.underlying87 rfl
 obtain ⟨x,rfl,_⟩:=o3 h1
 obtain ⟨y,rfl,_⟩:=o3 h2
 obtain ⟨z,rfl,_⟩:=o3 h3
 obtain ⟨u,rfl,_⟩:=o3 h4
 exact ⟨(x,y,z,u),rfl⟩
theorem opt_rows {α:Type} {f:α→List D}:∀ {o:Option Rr},(∀ r∈o.getD [],∃ c,r=f c)→∃ q:Option (List α),o=q.map (·.map f)
 | none,_=>⟨none,rfl⟩
 | some rows,h=>by
  obtain ⟨l,hl⟩:=rows_map (f:=f) (rows:=rows) h
  exact ⟨some l,by rw [hl];rfl⟩
theorem oL {α:Type} {f:α→List D} {n t e c b:Nat} {ds:List D} (hu:Tryd.prog.underlying t=some (.slice e)) (hc:Tryd.prog.cellsOf e=c) (hb:Tryd.prog.bytesOf e=b) (he:∀ r,HasT Tryd.prog n e r→∃ x,r=f x) (h:HasT Tryd.prog (n+1) t ds):∃ o,ds=[dL c f o]∧(o.getD []).length*b≤140737488351232:=by
 obtain ⟨o,rfl,h1,h2⟩:=h.sl hu hc hb
 obtain ⟨q,rfl⟩:=opt_rows (f:=f) fun r hr=>he r (h2 r hr)
 refine ⟨q,rfl,?_⟩
 cases q with
 | none=>simp
 | some l=>simpa using h1
theorem o22 {n:Nat} {ds:List D} (h:HasT Tryd.prog (n+3) 22 ds):∃ o,ds=[dB o]∧(o.getD []).length*16≤140737488351232:=oL Tryd.underlying22 (by kernel_rfl) (by kernel_rfl) (fun _ h=>o30 h) h
theorem o23 {n:Nat} {ds:List D} (h:HasT Tryd.prog (n+3) 23 ds):∃ o,ds=[dS o]∧(o.getD []).length*32≤140737488351232:=oL Tryd.underlying23 (by kernel_rfl) (by kernel_rfl) (fun _ h=>o87 h) h
theorem o25 {n:Nat} {ds:List D} (h:HasT Tryd.prog (n+4) 25 ds):∃ me b s h,ds=[il me,dB b,dS s,il h]∧(b.getD []).length*16≤140737488351232∧(s.getD []).length*32≤140737488351232:=by
 obtain ⟨_,_,rfl,h1,_,_,rfl,h2,_,_,rfl,h3,_,_,rfl,h4,rfl⟩:=h.struct Tryd.underlying25 rfl
 obtain ⟨x,rfl,_⟩:=o3 h1
 obtain ⟨y,rfl,hy⟩:=o22 h2
 obtain ⟨z,rfl,hz⟩:=o23 h3
 obtain ⟨u,rfl,_⟩:=o3 h4
 exact ⟨x,y,z,u,rfl,hy,hz⟩
noncomputable def FnS (n:Nat) (f:Nat) (xs:List D):Out:=if f=18∧xs=[] then some (0,[.d (bl true)]) else FN n f xs
theorem FnS_ok (n:Nat):FnOK Tryd.prog (cf3 tb Tryd.prog) (FnS n):=by
 intro f sh xs vs j ys rs h1 h2 h3 h4
 unfold FnS at h3
 split at h3
 ·rename_i hc
  obtain ⟨rfl,rfl⟩:=hc
  simp only [Option.some.injEq,Prod.mk.injEq] at h3
  obtain ⟨rfl,rfl⟩:=h3
  have e1:(cf3 tb Tryd.prog).ash 18=some []:=rfl
  rw [e1] at h1
  cases h1
  cases h2
  have e2:((cf3 tb Tryd.prog).rsk 18)[0]?=some [(false,[.d])]:=rfl
  rw [e2] at h4
  cases h4
  exact sane_sc
 ·exact FnT_ok mixP spOK n f sh xs vs j ys rs h1 h2 h3 h4
theorem FnS_18 (n:Nat):FnS n 18 []=some (0,[.d (bl true)]):=by simp [FnS]
theorem FnS_ne {n f:Nat} {xs:List D} {o:Out} (h:FN n f xs=o) (hf:f≠18):FnS n f xs=o:=by rw [←h];simp [FnS,hf]
theorem FnS_okM (n:Nat):FmOK Tryd.prog (cf3 tb Tryd.prog) (FnS n):=fun f ms xs zs h1 h2=>by
 rw [FnS_ne rfl (by omega)] at h2
 exact FnT_okM mixP spOK n f ms xs zs h1 h2
end Go.VE
namespace Go.VE
open Go.RowKit Go.Proofs
def pg (me:Int) (bs:List Brd) (ss:List Stk):List Fld:=(pread me bs (new bs) ss).1
def fl (me:Int) (bs:List Brd) (ss:List Stk) (j:Nat):Fld:=(fread me (bs.getD j (0,0)) fd0 ss).1
theorem pg_len {me:Int} {bs:List Brd} (hr:Rise bs) (ss:List Stk):(pg me bs ss).length=bs.length:=(pread_at hr ss (new bs) (new_len bs)).1
theorem okP_rise {me:Int} {bs:List Brd} {ss:List Stk} {h:Int} (ho:okP me bs ss h=true):Rise bs:=by
 simp only [okP,bords,Bool.and_eq_true] at ho
 exact okL_rise ho.2.1.1
theorem new_get (bs:List Brd) (i:Nat):(new bs).getD i fd0=fd0:=by
 simp only [new,List.getD_eq_getElem?_getD,List.getElem?_map]
 cases bs[i]?<;>rfl
theorem pg_at {me:Int} {bs:List Brd} {ss:List Stk} {h:Int} (ho:okP me bs ss h=true) {j:Nat} (hj:j < bs.length):(pg me bs ss)[j]?=some (fl me bs ss j):=by
 have hr:=okP_rise ho
 have ho':=ho
 simp only [okP,Bool.and_eq_true] at ho'
 have:=(pread_at (me:=me) hr ss (new bs) (new_len bs)).2.1 ho'.2.2.2.2
 have h1:=this.2 j hj
 rw [new_get] at h1
 have h2:j < (pg me bs ss).length:=by rw [pg_len hr];exact hj
 rw [List.getElem?_eq_getElem h2]
 unfold fl
 rw [h1]
 simp [pg,List.getD_eq_getElem?_getD,List.getElem?_eq_getElem (show j < (pread me bs (new bs) ss).1.length from h2)]
def ofR (me:Int) (bs:List Brd) (ss:List Stk) (h fld:Int) (bad:Int→Out) (k:Nat→Out):Out :=
 if okP me bs ss h=true then (match bix fld bs with
  | none=>bad 94
  | some j=>k j) else bad 92
def withR (me:Int) (bs:List Brd) (other:Int) (bad:Int→Out) (k:Nat→Out) (j:Nat):Out :=
 if decide (other=me)||!hasP (bs.getD j (0,0)).2 other then bad 1 else k j
def badI (e:Int):Out:=some (0,[.d (il 0),.d (il e)])
def badB (e:Int):Out:=some (0,[.d (bl false),.d (il e)])
def badN (e:Int):Out:=some (0,[.d nilS,.d (il e)])
def bad21 (e:Int):Out:=some (0,(z21++[il e]).map .d)
theorem getD_at {α:Type} {l:List α} {j:Nat} {e:α} (d:α) (h:l[j]?=some e):l.getD j d=e:=by simp [List.getD_eq_getElem?_getD,h]
theorem bord_at {bs:List Brd} {fld:Int} {j:Nat} (h:bix fld bs=some j):∃ e,bs[j]?=some e∧e.1=fld∧bs.getD j (0,0)=e∧j < bs.length:=by
 obtain ⟨h1,h2⟩:=bix_some h
 refine ⟨bs[j],List.getElem?_eq_getElem h1,?_,getD_at _ (List.getElem?_eq_getElem h1),h1⟩
 rw [getD_at _ (List.getElem?_eq_getElem h1)] at h2
 exact h2
theorem okW_strokes {me:Int} {bs:List Brd} {ss:List Stk} {h:Int} (ho:okW me bs ss h=true):par me=true∧bords me bs=true∧(∀ s∈ss,okS s=true):=by
 simp only [okW,Bool.and_eq_true] at ho
 exact ⟨ho.1,ho.2.1,all_okS ho.2.2.2.2.1⟩
theorem ixI_at {fld:Int} {bs:List Brd} {j:Nat} (h:bix fld bs=some j):ixI fld bs=(j:Int):=by simp [ixI,h]
theorem s80 (n:Nat) (me h:Int) (b:Option (List Brd)) (o:Option (List Stk)) (fld:Int) (hl:(o.getD []).length≤4611686018427387904) (hb:(b.getD []).length≤4611686018427387904) :
  FN (n+8) 80 [il me,dB b,dS o,il h,il fld]=ofR me (b.getD []) (o.getD []) h fld bad21 fun j=>some (0,(r21 ((b.getD []).getD j (0,0)) me (fl me (b.getD []) (o.getD []) j)++[il 0]).map .d):=by
 rw [F80]
 unfold ofR
 simp only [G80,r_call,s15 _ _ _ _ _ hl hb,← okP_W,r_bnd0,r_ld0,r_liti,r_litb,r_neq,ite_ne _ 92 (by omega),r_cond,r_out,s74 _ _ hb,r_lss,decide_eq_true_eq,ixI_neg]
 by_cases h1:okP me (b.getD []) (o.getD []) h=true
 ·have hW:=h1
  rw [okP_W] at hW
  obtain ⟨w1,w2,w3⟩:=okW_strokes hW
  simp only [h1,Bool.not_true,Bool.false_eq_true,if_false,if_true]
  cases hx:bix fld (b.getD []) with
  | none=>simp [bad21,z21]
  | some j =>
   obtain ⟨e,he,-,hg,hj⟩:=bord_at hx
   simp only [reduceCtorEq,if_false,ixI_at hx,rowB he,cB0,cB1,s75 _ _ (bords_six w2 e (List.mem_of_getElem? he)) w1 _ hl w3,r_bnd0]
   rw [hg]
   simp only [r21,List.cons_append,List.nil_append,List.map_cons,List.map_nil,r_ld0,r_lds,fl,hg]
 ·simp [h1,bad21,z21]
theorem s93 (n:Nat) (me h:Int) (b:Option (List Brd)) (o:Option (List Stk)) (fld other:Int) (hl:(o.getD []).length≤4611686018427387904) (hb:(b.getD []).length≤4611686018427387904) :
  FN (n+9) 93 [il me,dB b,dS o,il h,il fld,il other]=ofR me (b.getD []) (o.getD []) h fld bad21 (withR me (b.getD []) other bad21 fun j=>some (0,(r21 ((b.getD []).getD j (0,0)) me (fl me (b.getD []) (o.getD []) j)++[il 0]).map .d)):=by
 rw [F93]
 simp only [G93,r_call,s80 _ _ _ _ _ _ hl hb]
 unfold ofR
 by_cases h1:okP me (b.getD []) (o.getD []) h=true
 ·have hW:=h1
  rw [okP_W] at hW
  obtain ⟨w1,w2,w3⟩:=okW_strokes hW
  simp only [h1,if_true]
  cases hx:bix fld (b.getD []) with
  | none=>simp [bad21,z21]
  | some j =>
   obtain ⟨e,he,-,hg,hj⟩:=bord_at hx
   have h6:=bords_six w2 e (List.mem_of_getElem? he)
   simp only [hg,r21,List.cons_append,List.nil_append,List.map_cons,List.map_nil,r_bnd0,r_ld0,r_lds,r_liti,r_litb,r_neq,ne_eq,not_true,decide_false,r_cond,Bool.false_eq_true,if_false,r_eql,s71 _ _ h6,r_not,r_out,withR]
   by_cases h2:other=me
   ·simp [h2,bad21,z21]
   ·by_cases h3:hasP e.2 other=true
    ·simp [h2,h3]
    ·simp [h2,h3,bad21,z21]
 ·simp [h1,bad21,z21]
end Go.VE
namespace Go.VE
open Go.RowKit Go.Proofs
theorem or_has {a x:Bool} (h:¬ (a||!x)=true):x=true:=by cases a<;>cases x<;>simp_all
def odd (z:Int):Bool:=decide (z.tmod 2=1)
def cleanF (me o:Int) (f:Fld):Bool:=isWith me o (f.no o.toNat)&&(odd f.wants&&f.af o.toNat)
theorem s30 (n:Nat) (me h:Int) (b:Option (List Brd)) (o:Option (List Stk)) (fld other:Int) (hl:(o.getD []).length≤4611686018427387904) (hb:(b.getD []).length≤4611686018427387904) :
  FN (n+10) 30 [il me,dB b,dS o,il h,il fld,il other]=ofR me (b.getD []) (o.getD []) h fld badI (withR me (b.getD []) other badI fun j=>some (0,[.d (il ((fl me (b.getD []) (o.getD []) j).no other.toNat)),.d (il 0)])):=by
 rw [F30]
 simp only [G30,r_call,s93 _ _ _ _ _ _ _ hl hb]
 unfold ofR withR
 by_cases h1:okP me (b.getD []) (o.getD []) h=true
 ·simp only [h1,if_true]
  cases hx:bix fld (b.getD []) with
  | none=>simp [bad21,z21,badI]
  | some j =>
   simp only
   by_cases h2:(decide (other=me)||!hasP ((b.getD []).getD j (0,0)).2 other)=true
   ·simp only [h2,if_true]
    simp [bad21,z21,badI]
   ·have hp:par other=true:=hasP_par (or_has h2)
    simp only [h2,if_false,r21,List.cons_append,List.nil_append,List.map_cons,List.map_nil,r_bnd0,r_ld0,r_lds,r_liti,r_neq,ne_eq,not_true,decide_false,r_cond,Bool.false_eq_true,r_out,r_natN,r_inx6 hp,r_addN,r_le6 (par_lt hp),r_selN,sel6 _ (par_lt hp)]
 ·simp [h1,bad21,z21,badI]
theorem s32 (n:Nat) (me h:Int) (b:Option (List Brd)) (o:Option (List Stk)) (fld other:Int) (hl:(o.getD []).length≤4611686018427387904) (hb:(b.getD []).length≤4611686018427387904) :
  FN (n+10) 32 [il me,dB b,dS o,il h,il fld,il other]=ofR me (b.getD []) (o.getD []) h fld badB (withR me (b.getD []) other badB fun j=>some (0,[.d (bl (isWith me other ((fl me (b.getD []) (o.getD []) j).no other.toNat))),.d (il 0)])):=by
 rw [F32]
 simp only [G32,r_call,s93 _ _ _ _ _ _ _ hl hb]
 unfold ofR withR
 by_cases h1:okP me (b.getD []) (o.getD []) h=true
 ·simp only [h1,if_true]
  cases hx:bix fld (b.getD []) with
  | none=>simp [bad21,z21,badB]
  | some j =>
   simp only
   by_cases h2:(decide (other=me)||!hasP ((b.getD []).getD j (0,0)).2 other)=true
   ·simp only [h2,if_true]
    simp [bad21,z21,badB]
   ·have hp:par other=true:=hasP_par (or_has h2)
    have h88:=s88 (n+8) ((b.getD []).getD j (0,0)) me (fl me (b.getD []) (o.getD []) j) (par_lt hp)
    rw [Int.toNat_of_nonneg (par_iff.1 hp).1] at h88
    simp only [r21,List.cons_append,List.nil_append] at h88
    simp only [h2,if_false,r21,List.cons_append,List.nil_append,List.map_cons,List.map_nil,r_bnd0,r_ld0,r_lds,r_liti,r_neq,ne_eq,not_true,decide_false,r_cond,Bool.false_eq_true,r_out,h88]
 ·simp [h1,bad21,z21,badB]
theorem s36 (n:Nat) (me h:Int) (b:Option (List Brd)) (o:Option (List Stk)) (fld:Int) (hl:(o.getD []).length≤4611686018427387904) (hb:(b.getD []).length≤4611686018427387904) :
  FN (n+9) 36 [il me,dB b,dS o,il h,il fld]=ofR me (b.getD []) (o.getD []) h fld badB fun j=>some (0,[.d (bl (fl me (b.getD []) (o.getD []) j).opn),.d (il 0)]):=by
 rw [F36]
 simp only [G36,r_call,s80 _ _ _ _ _ _ hl hb]
 unfold ofR
 by_cases h1:okP me (b.getD []) (o.getD []) h=true
 ·simp only [h1,if_true]
  cases hx:bix fld (b.getD []) with
  | none=>simp [bad21,z21,badB]
  | some j=>simp only [r21,List.cons_append,List.nil_append,List.map_cons,List.map_nil,r_bnd0,r_ld0,r_lds,r_out]
 ·simp [h1,bad21,z21,badB]
theorem s38 (n:Nat) (me h:Int) (b:Option (List Brd)) (o:Option (List Stk)) (fld:Int) (hl:(o.getD []).length≤4611686018427387904) (hb:(b.getD []).length≤4611686018427387904) :
  FN (n+9) 38 [il me,dB b,dS o,il h,il fld]=ofR me (b.getD []) (o.getD []) h fld badB fun j=>some (0,[.d (bl (odd (fl me (b.getD []) (o.getD []) j).wants)),.d (il 0)]):=by
 rw [F38]
 simp only [G38,r_call,s80 _ _ _ _ _ _ hl hb]
 unfold ofR
 by_cases h1:okP me (b.getD []) (o.getD []) h=true
 ·have hp:par me=true:=by simp only [okP,Bool.and_eq_true] at h1;exact h1.1
  simp only [h1,if_true]
  cases hx:bix fld (b.getD []) with
  | none=>simp [bad21,z21,badB]
  | some j=>simp only [r21,List.cons_append,List.nil_append,List.map_cons,List.map_nil,r_bnd0,r_ld0,r_lds,r_liti,r_neq,ne_eq,not_true,decide_false,r_cond,Bool.false_eq_true,if_false,r_out,r_natN,r_inx6 hp,r_addN,r_le6 (par_lt hp),r_selN,sel6 _ (par_lt hp),wan_me hp,r_rem _ _ _ _ (show (2:Int)≠0 by decide),r_eql,odd]
 ·simp [h1,bad21,z21,badB]
end Go.VE
namespace Go.VE
open Go.RowKit Go.Proofs
def accE (en0:Nat→List Yr) (en1:Nat→Rr→List Yr) (i:Nat) (acc:Rr):Nat×List Yr:=match acc with
 | []=>(0,en0 i)
 | a::t=>(1,en1 i (a::t))
def accO (o0:Out) (o1:Rr→Out) (acc:Rr):Out:=match acc with
 | []=>o0
 | a::t=>o1 (a::t)
theorem accE_snoc (en0:Nat→List Yr) (en1:Nat→Rr→List Yr) (i:Nat) (acc:Rr) (r:List D):accE en0 en1 i (acc++[r])=(1,en1 i (acc++[r])):=by
 cases acc<;>rfl
theorem acc_loop (N:Nat) (hN:N≤4611686018427387904) (row:Nat→Option (List D)) (b0 b1:(Nat→List Yr→Out)→List Yr→Out) (en0:Nat→List Yr) (en1:Nat→Rr→List Yr) (o0:Out) (o1:Rr→Out)
  (h0:∀ k,b0 k (en0 N)=o0) (h1:∀ k a t,(a::t).length≤N→b1 k (en1 N (a::t))=o1 (a::t))
  (s0:∀ i k,i < N→IntKind.i64.wrap ((i:Int)+1)=(i:Int)+1→b0 k (en0 i)=match row i with
   | none=>k 0 (en0 (i+1))
   | some r=>k 1 (en1 (i+1) [r]))
  (s1:∀ i k a t,i < N→(a::t).length≤i→IntKind.i64.wrap ((i:Int)+1)=(i:Int)+1→b1 k (en1 i (a::t))=match row i with
   | none=>k 1 (en1 (i+1) (a::t))
   | some r=>k 1 (en1 (i+1) (a::t++[r]))) :
  loopR [b0,b1] M0 0 (en0 0)=accO o0 o1 ((List.range N).filterMap row):=by
 have:=loop_ms (σ:=Nat×Rr) [b0,b1] (fun s=>accE en0 en1 s.1 s.2) (fun s=>N - s.1) (fun s=>s.1≤N∧s.2.length≤s.1)
  (fun s=>accO o0 o1 (s.2++(List.range' s.1 (N - s.1)).filterMap row)) ?_ M0 (0,[]) ⟨by simp,by simp⟩ (by simp only [M0];omega)
 ·simpa [accE,List.range_eq_range'] using this
 ·rintro ⟨i,acc⟩ k ⟨hi,ha⟩ ih
  simp only at hi ha
  by_cases hN':i=N
  ·subst hN'
   cases acc with
   | nil=>exact ⟨b0,rfl,by simp [accE,accO,h0]⟩
   | cons a t=>exact ⟨b1,rfl,by simp [accE,accO,h1 k a t ha]⟩
  ·have hi':i < N:=by omega
   have hw:=wrap_succ hi' hN
   have ih0:=ih (i+1,acc) ⟨hi',by simp only;omega⟩ (by simp only;omega)
   have ih1:=fun r=>ih (i+1,acc++[r]) ⟨hi',by simp;omega⟩ (by simp only;omega)
   simp only [accE_snoc,List.append_assoc,List.cons_append,List.nil_append] at ih1
   simp only at ih0
   have e:List.range' i (N - i)=i::List.range' (i+1) (N - (i+1)):=by
    rw [show N - i=(N - (i+1))+1 by omega,List.range'_succ]
   rw [e]
   simp only [List.filterMap_cons]
   cases acc with
   | nil =>
    refine ⟨b0,rfl,?_⟩
    simp only [accE] at ih0 ⊢
    rw [s0 i k hi' hw]
    cases hr:row i with
    | none=>exact ih0
    | some r=>exact ih1 r
   | cons a t =>
    refine ⟨b1,rfl,?_⟩
    simp only [accE] at ih0 ⊢
    rw [s1 i k a t hi' ha hw]
    cases hr:row i with
    | none=>exact ih0
    | some r=>exact ih1 r
def rowIf {α:Type} (p:α→Bool) (g:α→List D) (x:α):Option (List D):=if p x=true then some (g x) else none
theorem filterMap_rowIf {α:Type} (p:α→Bool) (g:α→List D) (l:List α):l.filterMap (rowIf p g)=(l.filter p).map g:=by
 induction l with
 | nil=>rfl
 | cons x r ih =>
  simp only [List.filterMap_cons,rowIf,List.filter_cons]
  cases p x<;>simp [←ih]
def rN (o:Nat):List D:=[il o]
def dN (l:List Nat):D:=match l with
 | []=>nilS
 | a::t=>.sl 1 ((a::t).map rN)
def askR (me:Int) (f:Fld):List Nat:=(List.range 6).filter fun (o:Nat)=>!decide ((o:Int)=me)&&odd (wan me f o)
def missR (me P:Int) (f:Fld):List Nat:=(List.range 6).filter fun (o:Nat)=>!decide ((o:Int)=me)&&(P.toNat.testBit o&&!isWith me o (f.no o))
theorem missR_L (me P:Int) (f:Fld):missR me P f=missL me P f:=by
 unfold missR missL oth
 rw [List.filter_filter]
 congr 1
 funext o
 cases decide ((o:Int)=me)<;>cases P.toNat.testBit o<;>simp
theorem s89 (n:Nat) (b:Brd) (me:Int) (hm:par me=true) (f:Fld) {o:Int} (ho:par o=true):FN (n+2) 89 (r21 b me f++[il me,il o])=some (0,[.d (bl (cleanF me o f))]):=by
 have h88:=s88 n b me f (par_lt ho)
 rw [Int.toNat_of_nonneg (par_iff.1 ho).1] at h88
 have hw:=wan_me hm f
 simp only [r21,List.cons_append,List.nil_append] at h88 ⊢
 rw [F89]
 simp only [G89,r_call,h88,r_bnd0,r_ld0,r_cond,r_selIg,cleanF,odd]
 rw [if_pos (show 0≤me∧me < (6:Nat) by have:=par_iff.1 hm;omega),if_pos (show 0≤o∧o < (6:Nat) by have:=par_iff.1 ho;omega)]
 have key:∀ q:D,q=il f.wants→∀ g:Nat→Bool,(if isWith me o (f.no o.toNat)=true then (RP (n+1)).bin .rem false q ((RP (n+1)).lit (.int .i64 2)) fun x1=>(RP (n+1)).bin .eql false x1 ((RP (n+1)).lit (.int .i64 1)) fun x2=>(RP (n+1)).cond x2 (selR [some (0,[.d (bl (g 0))]),some (0,[.d (bl (g 1))]),some (0,[.d (bl (g 2))]),some (0,[.d (bl (g 3))]),some (0,[.d (bl (g 4))]),some (0,[.d (bl (g 5))])] o.toNat) (some (0,[.d (bl false)])) else (some (0,[.d (bl false)]):Out))=some (0,[.d (bl (isWith me o (f.no o.toNat)&&(decide (f.wants.tmod 2=1)&&g o.toNat)))]):=by
  rintro q rfl g
  have hs:selR [some (0,[.d (bl (g 0))]),some (0,[.d (bl (g 1))]),some (0,[.d (bl (g 2))]),some (0,[.d (bl (g 3))]),some (0,[.d (bl (g 4))]),some (0,[.d (bl (g 5))])] o.toNat=some (0,[.d (bl (g o.toNat))]):=by
   have hlt:=par_lt ho
   generalize o.toNat=t at hlt ⊢
   match t,hlt with
   | 0,_=>rfl
   | 1,_=>rfl
   | 2,_=>rfl
   | 3,_=>rfl
   | 4,_=>rfl
   | 5,_=>rfl
  simp only [r_liti,r_rem _ _ _ _ (show (2:Int)≠0 by decide),r_eql,r_cond,hs,decide_eq_true_eq]
  cases isWith me o (f.no o.toNat) with
  | false=>simp
  | true =>
   by_cases h2:f.wants.tmod 2=1<;>simp [h2]
 have hlt:=par_lt hm
 generalize me.toNat=t at hlt hw ⊢
 match t,hlt with
 | 0,_=>exact key _ (by rw [hw]) f.af
 | 1,_=>exact key _ (by rw [hw]) f.af
 | 2,_=>exact key _ (by rw [hw]) f.af
 | 3,_=>exact key _ (by rw [hw]) f.af
 | 4,_=>exact key _ (by rw [hw]) f.af
 | 5,_=>exact key _ (by rw [hw]) f.af
theorem s34 (n:Nat) (me h:Int) (b:Option (List Brd)) (o:Option (List Stk)) (fld other:Int) (hl:(o.getD []).length≤4611686018427387904) (hb:(b.getD []).length≤4611686018427387904) :
  FN (n+10) 34 [il me,dB b,dS o,il h,il fld,il other]=ofR me (b.getD []) (o.getD []) h fld badB (withR me (b.getD []) other badB fun j=>some (0,[.d (bl (cleanF me other (fl me (b.getD []) (o.getD []) j))),.d (il 0)])):=by
 rw [F34]
 simp only [G34,r_call,s93 _ _ _ _ _ _ _ hl hb]
 unfold ofR withR
 by_cases h1:okP me (b.getD []) (o.getD []) h=true
 ·have hm:par me=true:=by simp only [okP,Bool.and_eq_true] at h1;exact h1.1
  simp only [h1,if_true]
  cases hx:bix fld (b.getD []) with
  | none=>simp [bad21,z21,badB]
  | some j =>
   simp only
   by_cases h2:(decide (other=me)||!hasP ((b.getD []).getD j (0,0)).2 other)=true
   ·simp only [h2,if_true]
    simp [bad21,z21,badB]
   ·have hp:par other=true:=hasP_par (or_has h2)
    have h89:=s89 (n+7) ((b.getD []).getD j (0,0)) me hm (fl me (b.getD []) (o.getD []) j) hp
    simp only [r21,List.cons_append,List.nil_append] at h89
    simp only [h2,if_false,r21,List.cons_append,List.nil_append,List.map_cons,List.map_nil,r_bnd0,r_ld0,r_lds,r_liti,r_neq,ne_eq,not_true,decide_false,r_cond,Bool.false_eq_true,r_out,h89]
 ·simp [h1,bad21,z21,badB]
theorem r_inx6n {Fn:Nat→List D→Out} {FnD:D→List Sh→List D→Out} {m:Nat} {i:Nat} (h:i < 6) (k:Nat→Out):(real Fn FnD m).inx (il i) 6 k=k i:=by
 rw [r_inxg,if_pos (by omega),Int.toNat_natCast]
theorem fit0 (b:Nat) (hb:b≤32):(0+1)*b≤140737488355328∧0+1≤9223372036854775807:=by omega
theorem fit1 {n:Nat} (b:Nat) (hb:b≤32) (hn:n≤4294967296):(n+1+(0+1))*b≤140737488355328∧n+1+(0+1)≤9223372036854775807:=by
 have:(n+1+(0+1))*b≤(n+1+(0+1))*32:=Nat.mul_le_mul_left _ hb
 omega
theorem l40 (n:Nat) (c1 c2 c3:D) (b:Brd) (me:Int) (f:Fld):loopR [L40_0 (RP n),L40_1 (RP n)] M0 0 (.d (il me)::.d c1::.d c2::.d c3::.d (il 0)::(r21 b me f).map .d)=accO (some (0,[])) (fun acc=>some (1,[.n acc.length,.n acc.length,.r acc])) ((askR me f).map rN):=by
 have:=acc_loop 6 (by omega) (rowIf (fun (o:Nat)=>!decide ((o:Int)=me)&&odd (wan me f o)) rN) (L40_0 (RP n)) (L40_1 (RP n)) (fun i=>.d (il me)::.d c1::.d c2::.d c3::.d (il i)::(r21 b me f).map .d)
  (fun i acc=>.d (il me)::.d c1::.d c2::.d c3::.n acc.length::.n acc.length::.d (il i)::.r acc::(r21 b me f).map .d) (some (0,[])) (fun acc=>some (1,[.n acc.length,.n acc.length,.r acc])) ?_ ?_ ?_ ?_
 ·rw [filterMap_rowIf] at this
  exact this
 ·intro k;simp [L40_0,r21]
 ·intro k a t _;simp [L40_1,r21]
 ·intro i k hi hw
  simp only [r21,List.map_cons,List.map_nil]
  simp only [L40_0,r_ld0,r_lds,r_liti,r_lss,show ((i:Int) < 6) by omega,decide_true,r_cond,if_true,r_neq,r_natN,r_inx6n hi,r_addN,r_le6 hi,r_selN,sel6 _ hi,r_rem _ _ _ _ (show (2:Int)≠0 by decide),r_eql,r_rows,r_len,List.length_cons,List.length_nil,r_eqN,r_seg0,List.take,r_isNil1,r_fitsg,fit0 8 (by decide),and_self,r_add,hw,cast1,rowIf,rN]
  by_cases h1:(i:Int)=me
  ·simp [h1]
  ·by_cases h2:(wan me f i).tmod 2=1<;>simp [h1,h2,odd]
 ·intro i k a t hi ha hw
  simp only [List.length_cons] at ha
  have hfit:=fit1 (n:=t.length) 8 (by decide) (by omega)
  simp only [r21,List.map_cons,List.map_nil]
  simp only [L40_1,r_ld0,r_lds,r_ln0,r_lns,r_lr0,r_lrs,r_liti,r_lss,show ((i:Int) < 6) by omega,decide_true,r_cond,if_true,r_neq,r_natN,r_inx6n hi,r_addN,r_le6 hi,r_selN,sel6 _ hi,r_rem _ _ _ _ (show (2:Int)≠0 by decide),r_eql,r_rows,r_len,List.length_cons,List.length_nil,r_eqN,r_seg0,List.take,r_fitsg,hfit,and_self,r_add,hw,cast1,rowIf,rN,r_app]
  by_cases h1:(i:Int)=me
  ·simp [h1]
  ·by_cases h2:(wan me f i).tmod 2=1<;>simp [h1,h2,odd]
theorem s40 (n:Nat) (me h:Int) (b:Option (List Brd)) (o:Option (List Stk)) (fld:Int) (hl:(o.getD []).length≤4611686018427387904) (hb:(b.getD []).length≤4611686018427387904) :
  FN (n+9) 40 [il me,dB b,dS o,il h,il fld]=ofR me (b.getD []) (o.getD []) h fld badN fun j=>some (0,[.d (dN (askR me (fl me (b.getD []) (o.getD []) j))),.d (il 0)]):=by
 rw [F40]
 simp only [G40,r_call,s80 _ _ _ _ _ _ hl hb]
 unfold ofR
 by_cases h1:okP me (b.getD []) (o.getD []) h=true
 ·simp only [h1,if_true]
  cases hx:bix fld (b.getD []) with
  | none=>simp [bad21,z21,badN];rfl
  | some j =>
   have h40:=l40 (n+8) (dB b) (dS o) (il h) ((b.getD []).getD j (0,0)) me (fl me (b.getD []) (o.getD []) j)
   simp only [r21,List.map_cons,List.map_nil] at h40
   simp only [r21,List.cons_append,List.nil_append,List.map_cons,List.map_nil,r_bnd0,r_ld0,r_lds,r_liti,r_neq,ne_eq,not_true,decide_false,r_cond,Bool.false_eq_true,if_false,r_out,r_loop,h40]
   cases askR me (fl me (b.getD []) (o.getD []) j) with
   | nil=>rfl
   | cons a t =>
    simp [accO,dN]
    exact List.take_of_length_le (by simp)
 ·simp [h1,bad21,z21,badN];rfl
theorem l42 (n:Nat) (c1 c2 c3:D) (b:Brd) (hb:six b.2) (me:Int) (f:Fld):loopR [L42_0 (RP (n+3)),L42_1 (RP (n+3))] M0 0 (.d (il me)::.d c1::.d c2::.d c3::.d (il 0)::(r21 b me f).map .d)=accO (some (0,[])) (fun acc=>some (1,[.n acc.length,.n acc.length,.r acc])) ((missR me b.2 f).map rN):=by
 have:=acc_loop 6 (by omega) (rowIf (fun (o:Nat)=>!decide ((o:Int)=me)&&(b.2.toNat.testBit o&&!isWith me o (f.no o))) rN) (L42_0 (RP (n+3))) (L42_1 (RP (n+3))) (fun i=>.d (il me)::.d c1::.d c2::.d c3::.d (il i)::(r21 b me f).map .d)
  (fun i acc=>.d (il me)::.d c1::.d c2::.d c3::.n acc.length::.n acc.length::.d (il i)::.r acc::(r21 b me f).map .d) (some (0,[])) (fun acc=>some (1,[.n acc.length,.n acc.length,.r acc])) ?_ ?_ ?_ ?_
 ·rw [filterMap_rowIf] at this
  exact this
 ·intro k;simp [L42_0,r21]
 ·intro k a t _;simp [L42_1,r21]
 ·intro i k hi hw
  have h88:=s88 (n+2) b me f hi
  simp only [r21,List.map_cons,List.map_nil,List.cons_append,List.nil_append] at h88 ⊢
  simp only [L42_0,r_ld0,r_lds,r_liti,r_lss,show ((i:Int) < 6) by omega,decide_true,r_cond,if_true,r_neq,r_call,s71 _ _ hb,h88,r_bnd0,hasP_nat hi,r_not,r_natN,r_rows,r_len,List.length_cons,List.length_nil,r_eqN,r_seg0,List.take,r_isNil1,r_fitsg,fit0 8 (by decide),and_self,r_add,hw,cast1,rowIf,rN]
  by_cases h1:(i:Int)=me
  ·simp [h1]
  ·by_cases h2:b.2.toNat.testBit i=true
   ·by_cases h3:isWith me i (f.no i)=true<;>simp [h1,h2,h3]
   ·simp [h1,h2]
 ·intro i k a t hi ha hw
  have h88:=s88 (n+2) b me f hi
  simp only [List.length_cons] at ha
  have hfit:=fit1 (n:=t.length) 8 (by decide) (by omega)
  simp only [r21,List.map_cons,List.map_nil,List.cons_append,List.nil_append] at h88 ⊢
  simp only [L42_1,r_ld0,r_lds,r_ln0,r_lns,r_lr0,r_lrs,r_liti,r_lss,show ((i:Int) < 6) by omega,decide_true,r_cond,if_true,r_neq,r_call,s71 _ _ hb,h88,r_bnd0,hasP_nat hi,r_not,r_natN,r_rows,r_len,List.length_cons,List.length_nil,r_eqN,r_seg0,List.take,r_fitsg,hfit,and_self,r_add,hw,cast1,rowIf,rN,r_app,r_addN]
  by_cases h1:(i:Int)=me
  ·simp [h1]
  ·by_cases h2:b.2.toNat.testBit i=true
   ·by_cases h3:isWith me i (f.no i)=true<;>simp [h1,h2,h3]
   ·simp [h1,h2]
theorem s42 (n:Nat) (me h:Int) (b:Option (List Brd)) (o:Option (List Stk)) (fld:Int) (hl:(o.getD []).length≤4611686018427387904) (hb:(b.getD []).length≤4611686018427387904) :
  FN (n+9) 42 [il me,dB b,dS o,il h,il fld]=ofR me (b.getD []) (o.getD []) h fld badN fun j=>some (0,[.d (dN (missL me ((b.getD []).getD j (0,0)).2 (fl me (b.getD []) (o.getD []) j))),.d (il 0)]):=by
 rw [F42]
 simp only [G42,r_call,s80 _ _ _ _ _ _ hl hb]
 unfold ofR
 by_cases h1:okP me (b.getD []) (o.getD []) h=true
 ·have hW:=h1
  rw [okP_W] at hW
  obtain ⟨_,w2,_⟩:=okW_strokes hW
  simp only [h1,if_true]
  cases hx:bix fld (b.getD []) with
  | none=>simp [bad21,z21,badN];rfl
  | some j =>
   obtain ⟨e,he,-,hg,hj⟩:=bord_at hx
   have h42:=l42 (n+5) (dB b) (dS o) (il h) e (bords_six w2 e (List.mem_of_getElem? he)) me (fl me (b.getD []) (o.getD []) j)
   rw [missR_L] at h42
   simp only [hg]
   simp only [r21,List.map_cons,List.map_nil] at h42
   simp only [r21,List.cons_append,List.nil_append,List.map_cons,List.map_nil,r_bnd0,r_ld0,r_lds,r_liti,r_neq,ne_eq,not_true,decide_false,r_cond,Bool.false_eq_true,if_false,r_out,r_loop,h42]
   cases missL me e.2 (fl me (b.getD []) (o.getD []) j) with
   | nil=>rfl
   | cons a t =>
    simp [accO,dN]
    exact List.take_of_length_le (by simp)
 ·simp [h1,bad21,z21,badN];rfl
end Go.VE
namespace Go.VE
open Go.RowKit Go.Proofs
set_option maxRecDepth 100000
section
variable {Δ N R W M E Ω:Type} (p:Pr Δ N R W M E Ω)
def opn8 (a0 a1 a2 a3 a4: Δ):Ω:=(p.bnd (p.call 61 [a0]) [fun y0=>p.un .not (p.ld y0 0) fun x1=>p.cond x1 (p.out 0 [.d a4,.d (p.lit (.int .i64 92)),.d (p.lit (.int .i64 0)),.d (p.lit (.int .i64 0)),.d a0,.d a1,.d a2,.d a3]) (p.bnd (p.call 62 [a0,a1]) [fun y2=>p.un .not (p.ld y2 0) fun x3=>p.cond x3 (p.out 0 [.d a4,.d (p.lit (.int .i64 92)),.d (p.lit (.int .i64 0)),.d (p.lit (.int .i64 0)),.d a0,.d a1,.d a2,.d a3]) (p.lenD a2 fun x4=>p.bin .gtr false x4 (p.lit (.int .i64 120)) fun x5=>p.cond x5 (p.out 0 [.d a4,.d (p.lit (.int .i64 92)),.d (p.lit (.int .i64 0)),.d (p.lit (.int .i64 0)),.d a0,.d a1,.d a2,.d a3]) (p.lenD a2 fun x6=>p.bnd (p.call 68 [a3,(p.lit (.int .i64 0)),x6]) [fun y7=>p.un .not (p.ld y7 0) fun x8=>p.cond x8 (p.out 0 [.d a4,.d (p.lit (.int .i64 92)),.d (p.lit (.int .i64 0)),.d (p.lit (.int .i64 0)),.d a0,.d a1,.d a2,.d a3]) (p.bnd (p.call 63 [a1]) [fun y9=>p.lenD a2 fun x10=>p.mkN 32 x10 x10 fun n11=>p.rowsD 4 a2 fun r12=>p.eqN n11 (p.len (p.repl n11 [(p.lit (.int .i64 0)),(p.lit (.int .i64 0)),(p.lit (.int .i64 0)),(p.lit (.int .i64 0))])) (p.eqN n11 (p.len (p.repl n11 [(p.lit (.int .i64 0)),(p.lit (.int .i64 0)),(p.lit (.int .i64 0)),(p.lit (.int .i64 0))])) (p.lenD (p.ld y9 0) fun x13=>p.bnd (p.loop [(L29_0 p)] 0 [.d (p.ld y9 0),.d x13,.d (p.lit (.int .i64 0)),.m p.emp,.d a0,.d (p.ld y9 0),.n n11,.n n11,.d a3,.d a0,.d a1,.d a2,.d a3,.d a0,.d a1,.d a2,.d a3,.d (p.lit (.int .i64 0)),.d (p.lit (.int .i64 0)),.r (p.app (p.seg r12 none n11) (p.seg (p.repl n11 [(p.lit (.int .i64 0)),(p.lit (.int .i64 0)),(p.lit (.int .i64 0)),(p.lit (.int .i64 0))]) (some (p.len r12)) n11)),.d a0,.d (p.ld y9 0),.n n11,.n n11,.d a3]) [fun y14=>p.eqN n11 (p.len (p.lr y14 16)) (p.eqN n11 (p.len (p.lr y14 16)) (p.bnd (p.call 1000095 [p.ld y14 1,p.ld y14 2,(p.natD (p.ln y14 3)),(p.natD (p.ln y14 4)),p.ld y14 5,(p.slD 4 (p.lr y14 16)),(p.mpD true (p.lm y14 0))]) [fun y15=>p.rowsD 4 (p.ld y15 6) fun r16=>p.asM true (p.ld y15 7) fun q17=>p.un .not (p.ld y15 0) fun x18=>p.cond x18 (p.out 0 [.d a4,.d (p.lit (.int .i64 92)),.d (p.ld y14 14),.d (p.ld y14 15),.d (p.ld y14 6),.d (p.ld y14 7),.d (p.ld y14 8),.d (p.ld y14 9)]) (p.out 1 [.d a4,.d (p.lit (.int .i64 0)),.m q17,.r r16,.d (p.ld y15 1),.d (p.ld y15 2),.n (p.dN (p.ld y15 3)),.n (p.dN (p.ld y15 4)),.d (p.ld y15 5),.d (p.ld y14 14),.d (p.ld y14 15),.d (p.ld y14 6),.d (p.ld y14 7),.d (p.ld y14 8),.d (p.ld y14 9)])]))]))])]))])])
def opn4 (a0 a1 a2 a3 a4: Δ):Ω:=(p.bnd (p.call 61 [a0]) [fun y0=>p.un .not (p.ld y0 0) fun x1=>p.cond x1 (p.out 0 [.d a4,.d (p.lit (.int .i64 92)),.d (p.lit (.int .i64 0)),.d (p.lit (.int .i64 0))]) (p.bnd (p.call 62 [a0,a1]) [fun y2=>p.un .not (p.ld y2 0) fun x3=>p.cond x3 (p.out 0 [.d a4,.d (p.lit (.int .i64 92)),.d (p.lit (.int .i64 0)),.d (p.lit (.int .i64 0))]) (p.lenD a2 fun x4=>p.bin .gtr false x4 (p.lit (.int .i64 120)) fun x5=>p.cond x5 (p.out 0 [.d a4,.d (p.lit (.int .i64 92)),.d (p.lit (.int .i64 0)),.d (p.lit (.int .i64 0))]) (p.lenD a2 fun x6=>p.bnd (p.call 68 [a3,(p.lit (.int .i64 0)),x6]) [fun y7=>p.un .not (p.ld y7 0) fun x8=>p.cond x8 (p.out 0 [.d a4,.d (p.lit (.int .i64 92)),.d (p.lit (.int .i64 0)),.d (p.lit (.int .i64 0))]) (p.bnd (p.call 63 [a1]) [fun y9=>p.lenD a2 fun x10=>p.mkN 32 x10 x10 fun n11=>p.rowsD 4 a2 fun r12=>p.eqN n11 (p.len (p.repl n11 [(p.lit (.int .i64 0)),(p.lit (.int .i64 0)),(p.lit (.int .i64 0)),(p.lit (.int .i64 0))])) (p.eqN n11 (p.len (p.repl n11 [(p.lit (.int .i64 0)),(p.lit (.int .i64 0)),(p.lit (.int .i64 0)),(p.lit (.int .i64 0))])) (p.lenD (p.ld y9 0) fun x13=>p.bnd (p.loop [(L35_0 p)] 0 [.d (p.ld y9 0),.d x13,.d (p.lit (.int .i64 0)),.m p.emp,.d a0,.d (p.ld y9 0),.n n11,.n n11,.d a3,.d a0,.d a1,.d a2,.d a3,.d (p.lit (.int .i64 0)),.d (p.lit (.int .i64 0)),.r (p.app (p.seg r12 none n11) (p.seg (p.repl n11 [(p.lit (.int .i64 0)),(p.lit (.int .i64 0)),(p.lit (.int .i64 0)),(p.lit (.int .i64 0))]) (some (p.len r12)) n11)),.d a0,.d (p.ld y9 0),.n n11,.n n11,.d a3]) [fun y14=>p.eqN n11 (p.len (p.lr y14 12)) (p.eqN n11 (p.len (p.lr y14 12)) (p.bnd (p.call 1000095 [p.ld y14 1,p.ld y14 2,(p.natD (p.ln y14 3)),(p.natD (p.ln y14 4)),p.ld y14 5,(p.slD 4 (p.lr y14 12)),(p.mpD true (p.lm y14 0))]) [fun y15=>p.rowsD 4 (p.ld y15 6) fun r16=>p.asM true (p.ld y15 7) fun q17=>p.un .not (p.ld y15 0) fun x18=>p.cond x18 (p.out 0 [.d a4,.d (p.lit (.int .i64 92)),.d (p.ld y14 10),.d (p.ld y14 11)]) (p.out 1 [.d a4,.d (p.lit (.int .i64 0)),.m q17,.r r16,.d (p.ld y15 1),.d (p.ld y15 2),.n (p.dN (p.ld y15 3)),.n (p.dN (p.ld y15 4)),.d (p.ld y15 5),.d (p.ld y14 10),.d (p.ld y14 11)])]))]))])]))])])
end
theorem bnd_eq {n:Nat} {X X' r:Out} {ks:List (List Yr→Out)} (h:X=X') (h2:(RP n).bnd X' ks=r):(RP n).bnd X ks=r:=h ▸ h2
theorem l29 (n:Nat) (o:Option (List Brd)) (hl:(o.getD []).length≤4611686018427387904) (hr:Rise (o.getD [])) (c0:D) (c1:D) (c2:Nat) (c3:Nat) (c4:D) (c5:D) (c6:D) (c7:D) (c8:D) (c9:D) (c10:D) (c11:D) (c12:D) (c13:D) (c14:D) (c15:Rr) (c16:D) (c17:D) (c18:Nat) (c19:Nat) (c20:D) :
  loopR [L29_0 (RP n)] M0 0 [.d (dB o),.d (il (o.getD []).length),.d (il 0),.m ([],[]),.d c0,.d c1,.n c2,.n c3,.d c4,.d c5,.d c6,.d c7,.d c8,.d c9,.d c10,.d c11,.d c12,.d c13,.d c14,.r c15,.d c16,.d c17,.n c18,.n c19,.d c20] =
   some (0,[.m (mapM (o.getD []) (new (o.getD []))),.d c0,.d c1,.n c2,.n c3,.d c4,.d c5,.d c6,.d c7,.d c8,.d c9,.d c10,.d c11,.d c12,.d c13,.d c14,.r c15,.d c16,.d c17,.n c18,.n c19,.d c20]):=by
 have:=range_loop (β:=Unit) (o.getD []) hl (L29_0 (RP n)) (fun i _=>[.d (dB o),.d (il (o.getD []).length),.d (il i),.m (mapM ((o.getD []).take i) (new ((o.getD []).take i))),.d c0,.d c1,.n c2,.n c3,.d c4,.d c5,.d c6,.d c7,.d c8,.d c9,.d c10,.d c11,.d c12,.d c13,.d c14,.r c15,.d c16,.d c17,.n c18,.n c19,.d c20]) (fun _ _=>True)
  (fun _ _ _=>some (0,[.m (mapM (o.getD []) (new (o.getD []))),.d c0,.d c1,.n c2,.n c3,.d c4,.d c5,.d c6,.d c7,.d c8,.d c9,.d c10,.d c11,.d c12,.d c13,.d c14,.r c15,.d c16,.d c17,.n c18,.n c19,.d c20])) ?_ ?_ M0 () trivial (M0_big hl)
 ·exact this
 ·intro _ k _
  simp [L29_0,List.take_length]
 ·intro i e r _ k hi hd hlt hw _ ih
  have hlt':(i:Int) < ((o.getD []).length:Int):=by omega
  have ih':=ih () trivial
  rw [cast1,take_snoc hi,new_snoc] at ih'
  have hadd:=fun k=>r_addK (Fn:=FN n) (FnD:=FnDof Tryd.prog (cf3 tb Tryd.prog) (FN n)) (m:=M0) (new_len ((o.getD []).take i)) (bix_new hr hi) fd0 k
  have hlen:((o.getD []).take i).length=i:=by simp;omega
  simp only [row20_0,hlen] at hadd
  simp only [L29_0,mapM,r_ld0,r_lds,r_lm0,r_lms,r_ln0,r_lns,r_lr0,r_lrs,r_lss,hlt',decide_true,r_cond,if_true,rowB hi,cB0,r_natN,r_eqN,r_mset,r_app,r_mrows,r_rows,r_liti,r_litb,r_len,List.length_map,new_len,hlen,hadd,r_add,hw]
  exact ih'
theorem op8 (n:Nat) (me h:Int) (b:Option (List Brd)) (o:Option (List Stk)) (a:D) (hl:(o.getD []).length≤4611686018427387904) (hb:(b.getD []).length≤4611686018427387904) :
  opn8 (RP (n+4)) (il me) (dB b) (dS o) (il h) a=if okP me (b.getD []) (o.getD []) h=true then some (1,[.d a,.d (il 0),.m (mapM (b.getD []) (pg me (b.getD []) (o.getD []))),.r ((o.getD []).map rS),.d (il me),.d (dB b),.n (o.getD []).length,.n (o.getD []).length,.d (il h),.d (il 0),.d (il 0),.d (il me),.d (dB b),.d (dS o),.d (il h)]) else some (0,[.d a,.d (il 92),.d (il 0),.d (il 0),.d (il me),.d (dB b),.d (dS o),.d (il h)]):=by
 simp only [opn8,r_call,s61,s62 _ _ _ hb,s68,lenL,r_bnd0,r_ld0,r_not,r_cond,r_out,r_liti,r_gtr,okP]
 by_cases h1:par me=true
 ·by_cases h2:bords me (b.getD [])=true
  ·have h2':=h2
   simp only [bords,Bool.and_eq_true,decide_eq_true_eq] at h2'
   by_cases h3:(o.getD []).length≤120
   ·have h3':¬ ((120:Int) < (o.getD []).length):=by omega
    by_cases h4:inn h 0 (o.getD []).length=true
    ·have hmk:0≤((o.getD []).length:Int)∧((32:Nat):Int)*((o.getD []).length:Int)≤140737488355328∧((o.getD []).length:Int)≤9223372036854775807:=by omega
     simp only [h1,h2,h3,h3',h4,Bool.not_true,Bool.false_eq_true,if_false,if_true,decide_true,decide_false,Bool.true_and,s63 _ _ h2'.2,r_bnd0,r_ld0,r_mkNg,hmk,and_self,Int.toNat_natCast,rowsL,r_repl,r_len,List.length_replicate,r_eqN,lenL,r_emp,r_app,r_seg0,r_seg1,r_loop,List.length_map]
     have hseg:=seg_copy ((o.getD []).map rS) [il 0,il 0,il 0,il 0]
     rw [List.length_map] at hseg
     rw [hseg,l29 _ _ hb (okL_rise h2'.1)]
     simp only [r_bnd0,r_ld0,r_lds,r_lm0,r_ln0,r_lns,r_lr0,r_lrs,List.length_map,if_true,r_natD,r_slD,r_mpD,mapM]
     rw [s1000095 _ _ hb (bords_six h2) _ (by omega) _ _ _ _ _ (new_len _)]
     have hr4:∀ k:Rr→Out,(RP (n+4)).rowsD 4 (.sl 4 ((o.getD []).map rS)) k=k ((o.getD []).map rS):=fun _=>rfl
     simp only [r_bnd0,r_ld0,r_lds,r_rowsD,r_not,r_cond,r_dN]
     have ha:∀ (a:List Value) (b:Rr) (k:Mr→Out),(RP (n+4)).asM true (.mp true a b) k=k (a,b):=fun _ _ _=>rfl
     rw [ha]
     simp only [pg]
     rw [show (b.getD []).map (fun _=>fd0)=new (b.getD []) from rfl]
     cases (pread me (b.getD []) (new (b.getD [])) (o.getD [])).2<;>rfl
    ·simp [h1,h2,h3,h3',h4]
   ·have h3':((120:Int) < (o.getD []).length):=by omega
    simp [h1,h2,h3,h3']
  ·simp [h1,h2]
 ·simp [h1]
theorem l35 (n:Nat) (o:Option (List Brd)) (hl:(o.getD []).length≤4611686018427387904) (hr:Rise (o.getD [])) (c0:D) (c1:D) (c2:Nat) (c3:Nat) (c4:D) (c5:D) (c6:D) (c7:D) (c8:D) (c9:D) (c10:D) (c11:Rr) (c12:D) (c13:D) (c14:Nat) (c15:Nat) (c16:D) :
  loopR [L35_0 (RP n)] M0 0 [.d (dB o),.d (il (o.getD []).length),.d (il 0),.m ([],[]),.d c0,.d c1,.n c2,.n c3,.d c4,.d c5,.d c6,.d c7,.d c8,.d c9,.d c10,.r c11,.d c12,.d c13,.n c14,.n c15,.d c16] =
   some (0,[.m (mapM (o.getD []) (new (o.getD []))),.d c0,.d c1,.n c2,.n c3,.d c4,.d c5,.d c6,.d c7,.d c8,.d c9,.d c10,.r c11,.d c12,.d c13,.n c14,.n c15,.d c16]):=by
 have:=range_loop (β:=Unit) (o.getD []) hl (L35_0 (RP n)) (fun i _=>[.d (dB o),.d (il (o.getD []).length),.d (il i),.m (mapM ((o.getD []).take i) (new ((o.getD []).take i))),.d c0,.d c1,.n c2,.n c3,.d c4,.d c5,.d c6,.d c7,.d c8,.d c9,.d c10,.r c11,.d c12,.d c13,.n c14,.n c15,.d c16]) (fun _ _=>True)
  (fun _ _ _=>some (0,[.m (mapM (o.getD []) (new (o.getD []))),.d c0,.d c1,.n c2,.n c3,.d c4,.d c5,.d c6,.d c7,.d c8,.d c9,.d c10,.r c11,.d c12,.d c13,.n c14,.n c15,.d c16])) ?_ ?_ M0 () trivial (M0_big hl)
 ·exact this
 ·intro _ k _
  simp [L35_0,List.take_length]
 ·intro i e r _ k hi hd hlt hw _ ih
  have hlt':(i:Int) < ((o.getD []).length:Int):=by omega
  have ih':=ih () trivial
  rw [cast1,take_snoc hi,new_snoc] at ih'
  have hadd:=fun k=>r_addK (Fn:=FN n) (FnD:=FnDof Tryd.prog (cf3 tb Tryd.prog) (FN n)) (m:=M0) (new_len ((o.getD []).take i)) (bix_new hr hi) fd0 k
  have hlen:((o.getD []).take i).length=i:=by simp;omega
  simp only [row20_0,hlen] at hadd
  simp only [L35_0,mapM,r_ld0,r_lds,r_lm0,r_lms,r_ln0,r_lns,r_lr0,r_lrs,r_lss,hlt',decide_true,r_cond,if_true,rowB hi,cB0,r_natN,r_eqN,r_mset,r_app,r_mrows,r_rows,r_liti,r_litb,r_len,List.length_map,new_len,hlen,hadd,r_add,hw]
  exact ih'
theorem op4 (n:Nat) (me h:Int) (b:Option (List Brd)) (o:Option (List Stk)) (a:D) (hl:(o.getD []).length≤4611686018427387904) (hb:(b.getD []).length≤4611686018427387904) :
  opn4 (RP (n+4)) (il me) (dB b) (dS o) (il h) a=if okP me (b.getD []) (o.getD []) h=true then some (1,[.d a,.d (il 0),.m (mapM (b.getD []) (pg me (b.getD []) (o.getD []))),.r ((o.getD []).map rS),.d (il me),.d (dB b),.n (o.getD []).length,.n (o.getD []).length,.d (il h),.d (il 0),.d (il 0)]) else some (0,[.d a,.d (il 92),.d (il 0),.d (il 0)]):=by
 simp only [opn4,r_call,s61,s62 _ _ _ hb,s68,lenL,r_bnd0,r_ld0,r_not,r_cond,r_out,r_liti,r_gtr,okP]
 by_cases h1:par me=true
 ·by_cases h2:bords me (b.getD [])=true
  ·have h2':=h2
   simp only [bords,Bool.and_eq_true,decide_eq_true_eq] at h2'
   by_cases h3:(o.getD []).length≤120
   ·have h3':¬ ((120:Int) < (o.getD []).length):=by omega
    by_cases h4:inn h 0 (o.getD []).length=true
    ·have hmk:0≤((o.getD []).length:Int)∧((32:Nat):Int)*((o.getD []).length:Int)≤140737488355328∧((o.getD []).length:Int)≤9223372036854775807:=by omega
     simp only [h1,h2,h3,h3',h4,Bool.not_true,Bool.false_eq_true,if_false,if_true,decide_true,decide_false,Bool.true_and,s63 _ _ h2'.2,r_bnd0,r_ld0,r_mkNg,hmk,and_self,Int.toNat_natCast,rowsL,r_repl,r_len,List.length_replicate,r_eqN,lenL,r_emp,r_app,r_seg0,r_seg1,r_loop,List.length_map]
     have hseg:=seg_copy ((o.getD []).map rS) [il 0,il 0,il 0,il 0]
     rw [List.length_map] at hseg
     rw [hseg,l35 _ _ hb (okL_rise h2'.1)]
     simp only [r_bnd0,r_ld0,r_lds,r_lm0,r_ln0,r_lns,r_lr0,r_lrs,List.length_map,if_true,r_natD,r_slD,r_mpD,mapM]
     rw [s1000095 _ _ hb (bords_six h2) _ (by omega) _ _ _ _ _ (new_len _)]
     have hr4:∀ k:Rr→Out,(RP (n+4)).rowsD 4 (.sl 4 ((o.getD []).map rS)) k=k ((o.getD []).map rS):=fun _=>rfl
     simp only [r_bnd0,r_ld0,r_lds,r_rowsD,r_not,r_cond,r_dN]
     have ha:∀ (a:List Value) (b:Rr) (k:Mr→Out),(RP (n+4)).asM true (.mp true a b) k=k (a,b):=fun _ _ _=>rfl
     rw [ha]
     simp only [pg]
     rw [show (b.getD []).map (fun _=>fd0)=new (b.getD []) from rfl]
     cases (pread me (b.getD []) (new (b.getD [])) (o.getD [])).2<;>rfl
    ·simp [h1,h2,h3,h3',h4]
   ·have h3':((120:Int) < (o.getD []).length):=by omega
    simp [h1,h2,h3,h3']
  ·simp [h1,h2]
 ·simp [h1]
end Go.VE
