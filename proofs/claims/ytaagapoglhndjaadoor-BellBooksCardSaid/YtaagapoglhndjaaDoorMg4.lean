/- BellBooks: the evaluator of the program's functions, its proof, and the law. -/
import Derived.Test.YtaagapoglhndjaaDoorMg3
import Derived.Test.YtaagapoglhndjaaDoorMh
import Derived.Test.YtaagapoglhndjaaDoorMg1
import Derived.Test.YtaagapoglhndjaaDoorMg2
import Derived.Test.YtaagapoglhndjaaDoorCards
import Derived.Test.YtaagapoglhndjaaDoorTie
import Derived.SevenTiedAt
import Derived.ProofKit
import Derived.LaidMore
import Derived.Stop.Joined
namespace Go.VE
open Go.RowKit Go.Proofs
set_option maxRecDepth 100000
set_option maxHeartbeats 0
open Classical in
noncomputable def FnP (f:Nat) (xs:List D):Out:=if f=76∧xs=[.sl 4 two] then some (0,[.d twoS,.d (il 0)]) else FN 14 f xs
theorem pE {f:Nat} {xs:List D} (h:f≠76):FnP f xs=FN 14 f xs:=if_neg fun e=>h e.1
theorem pP:FnP 76 [.sl 4 two]=some (0,[.d twoS,.d (il 0)]):=if_pos ⟨rfl,rfl⟩
theorem FnP_ok:FnOK Tryd.prog (cf3 tb Tryd.prog) FnP:=by
 intro f sh xs vs j ys rs h1 h2 h3 h4
 unfold FnP at h3
 split at h3
 ·rename_i hc
  obtain ⟨rfl,rfl⟩:=hc
  simp only [Option.some.injEq,Prod.mk.injEq] at h3
  obtain ⟨rfl,rfl⟩:=h3
  have e1:(cf3 tb Tryd.prog).ash 76=some [.one]:=rfl
  rw [e1] at h1
  cases h1
  cases h2
  have e2:((cf3 tb Tryd.prog).rsk 76)[0]?=some [(false,[.d]),(false,[.d])]:=rfl
  rw [e2] at h4
  cases h4
  exact print_sc
 ·exact FnT_ok mixP spOK 14 f sh xs vs j ys rs h1 h2 h3 h4
theorem FnP_okM:FmOK Tryd.prog (cf3 tb Tryd.prog) FnP:=fun f ms xs zs h1 h2=>by
 rw [pE (by omega)] at h2
 exact FnT_okM mixP spOK 14 f ms xs zs h1 h2
theorem e45a:FN 14 45 [.sl 1 [[il 0],[il 1]],.sl 1 [[il 0],[il 1]]]=some (0,[.d (bl true)]):=by kernel_rfl
theorem e45b:FN 14 45 [.sl 1 [[il 1]],.sl 1 [[il 1]]]=some (0,[.d (bl true)]):=by kernel_rfl
theorem e46a:FN 14 46 [il 1,il 0,.sl 3 [[il 7,il 0,il 0]],il 1,il 0,.sl 3 [[il 7,il 0,il 0]]]=some (0,[.d (bl true)]):=by kernel_rfl
theorem e46b:FN 14 46 [il 1,il 0,.sl 3 [[il 7,il 0,il 1]],il 1,il 0,.sl 3 [[il 7,il 0,il 1]]]=some (0,[.d (bl true)]):=by kernel_rfl
theorem e46c:FN 14 46 [il 0,il 1,.sl 3 [[il 7,il 1,il 0]],il 0,il 1,.sl 3 [[il 7,il 1,il 0]]]=some (0,[.d (bl true)]):=by kernel_rfl
theorem r_eqlS {Fn:Nat→List D→Out} {FnD:D→List Sh→List D→Out} {m:Nat} (s:ByteArray) (k:D→Out):(real Fn FnD m).bin .eql false (.lit (.string s)) (.lit (.string s)) k=k (bl true):=by
 simp [real,binD,aStr,optO,bl]
theorem r_litS {Fn:Nat→List D→Out} {FnD:D→List Sh→List D→Out} {m:Nat} (s:ByteArray):(real Fn FnD m).lit (.string s)=.lit (.string s):=rfl
theorem g18a {Fn:Nat→List D→Out} {FnD:D→List Sh→List D→Out} (e9_0:Fn 9 [il 0,eBs]=ySt 0 eBs eNo 0 0)
  (e9_1:Fn 9 [il 1,eBs]=ySt 1 eBs eNo 0 0)
  (e9_3:Fn 9 [il 3,eBs]=ySt 3 eBs eNo 0 0)
  (e41:Fn 41 (eSt 3 eNo 0++[il 7])=some (0,[.d (.sl 1 [[il 0],[il 1]]),.d (il 0)]))
  (e19:Fn 19 (eSt 1 eNo 0++[il 7])=ySt 1 eBs (.sl 4 [eRow 2 7 0 1]) 0 0)
  (e43_0:Fn 43 (eSt 1 (.sl 4 [eRow 2 7 0 1]) 0++[il 0])=some (0,[.d (il 1),.d (il 0),.d (.sl 3 [[il 7,il 0,il 0]]),.d (il 0)]))
  (e49_1:Fn 49 (eSt 1 (.sl 4 [eRow 2 7 0 1]) 0)=ySt 1 eBs (.sl 4 [eRow 2 7 0 1]) 1 0)
  (e43_1:Fn 43 (eSt 1 (.sl 4 [eRow 2 7 0 1]) 1++[il 0])=some (0,[.d (il 1),.d (il 0),.d (.sl 3 [[il 7,il 0,il 1]]),.d (il 0)]))
  (e27_0:Fn 27 (eSt 0 eNo 0++[il 1,il 0,.sl 3 [[il 7,il 0,il 1]]])=ySt 0 eBs (.sl 4 [eRow 3 7 1 1]) 0 0)
  (e25:Fn 25 (eSt 0 (.sl 4 [eRow 3 7 1 1]) 0)=ySt 0 eBs (.sl 4 [eRow 3 7 1 1,eRow 1 7 1 1]) 0 0)
  (e29:Fn 29 (eSt 0 (.sl 4 [eRow 3 7 1 1,eRow 1 7 1 1]) 0++[il 7,il 1])=some (0,[.d (il 1),.d (il 0)]))
  (e49_2:Fn 49 (eSt 0 (.sl 4 [eRow 3 7 1 1,eRow 1 7 1 1]) 0)=ySt 0 eBs (.sl 4 [eRow 3 7 1 1,eRow 1 7 1 1]) 2 0)
  (e43_2:Fn 43 (eSt 0 (.sl 4 [eRow 3 7 1 1,eRow 1 7 1 1]) 2++[il 1])=some (0,[.d (il 0),.d (il 1),.d (.sl 3 [[il 7,il 1,il 0]]),.d (il 0)]))
  (e27_1:Fn 27 (eSt 1 (.sl 4 [eRow 2 7 0 1]) 1++[il 0,il 1,.sl 3 [[il 7,il 1,il 0]]])=ySt 1 eBs (.sl 4 [eRow 2 7 0 1,eRow 1 7 0 1]) 1 0)
  (e33:Fn 33 (eSt 1 (.sl 4 [eRow 2 7 0 1,eRow 1 7 0 1]) 1++[il 7,il 0])=some (0,[.d (bl true),.d (il 0)]))
  (e21:Fn 21 (eSt 1 (.sl 4 [eRow 2 7 0 1,eRow 1 7 0 1]) 1++[il 7])=ySt 1 eBs (.sl 4 [eRow 2 7 0 1,eRow 1 7 0 1,eRow 4 7 0 1,eRow 2 7 0 2]) 1 0)
  (e47:Fn 47 [.sl 4 [eSt 0 (.sl 4 [eRow 3 7 1 1,eRow 1 7 1 1]) 2,eSt 1 (.sl 4 [eRow 2 7 0 1,eRow 1 7 0 1,eRow 4 7 0 1,eRow 2 7 0 2]) 1,eSt 3 eNo 0],il 7]=some (0,[.d (.sl 1 [[il 1]]),.d (il 0)]))
  (e45a:Fn 45 [.sl 1 [[il 0],[il 1]],.sl 1 [[il 0],[il 1]]]=some (0,[.d (bl true)]))
  (e45b:Fn 45 [.sl 1 [[il 1]],.sl 1 [[il 1]]]=some (0,[.d (bl true)]))
  (e46a:Fn 46 [il 1,il 0,.sl 3 [[il 7,il 0,il 0]],il 1,il 0,.sl 3 [[il 7,il 0,il 0]]]=some (0,[.d (bl true)]))
  (e46b:Fn 46 [il 1,il 0,.sl 3 [[il 7,il 0,il 1]],il 1,il 0,.sl 3 [[il 7,il 0,il 1]]]=some (0,[.d (bl true)]))
  (e46c:Fn 46 [il 0,il 1,.sl 3 [[il 7,il 1,il 0]],il 0,il 1,.sl 3 [[il 7,il 1,il 0]]]=some (0,[.d (bl true)]))
  (pP:Fn 76 [.sl 4 two]=some (0,[.d twoS,.d (il 0)])):G18 (real Fn FnD M0)=some (0,[.d (bl true)]):=by
 simp only [ySt,eBs,eRow,eSt,eNo,two,twoS,List.cons_append,List.nil_append] at e9_0 e9_1 e9_3 e41 e19 e43_0 e49_1 e43_1 e27_0 e25 e29 e49_2 e43_2 e27_1 e33 e21 e47 pP
 simp only [G18,r_natN,r_liti,r_litb,r_rows,r_len,List.length_cons,List.length_nil,r_eqN,Nat.zero_add,if_true,r_seg0,List.take,r_slD,r_call,r_bnd0,r_ld0,r_lds,e9_0,e9_1,e9_3,e41,e19,e43_0,e49_1,e43_1,e27_0,e25,e29,e49_2,e43_2,e27_1,e33,e21,e47,pP,
  r_eql,decide_true,r_cond,r_out,e45a,e45b,e46a,e46b,e46c,r_litsg,List.all_cons,List.all_nil,yl_b,Bool.and_self,r_eqlS,r_litS]
theorem pq {f:Nat} {xs:List D} {o:Out} (h:FN 14 f xs=o) (hf:f≠76):FnP f xs=o:=(pE hf).trans h
theorem g18:G18 (real FnP (FnDof Tryd.prog (cf3 tb Tryd.prog) FnP) M0)=some (0,[.d (bl true)]) :=
 g18a (pq e9_0 (by decide)) (pq e9_1 (by decide)) (pq e9_3 (by decide)) (pq e41 (by decide)) (pq e19 (by decide)) (pq e43_0 (by decide)) (pq e49_1 (by decide)) (pq e43_1 (by decide)) (pq e27_0 (by decide)) (pq e25 (by decide)) (pq e29 (by decide)) (pq e49_2 (by decide)) (pq e43_2 (by decide)) (pq e27_1 (by decide)) (pq e33 (by decide)) (pq e21 (by decide)) (pq e47 (by decide)) (pq e45a (by decide)) (pq e45b (by decide)) (pq e46a (by decide)) (pq e46b (by decide)) (pq e46c (by decide)) pP
theorem sane_sc:SC Tryd.prog 18 [] (.one (.d (bl true))) :=
 fun3_sc (T:=tb) (P:=Tryd.prog) mixP FnP_ok FnP_okM spOK (fuel:=400) (m0:=M0) (xs:=[]) (j:=0) (ys:=[.d (bl true)]) (rs:=[(false,[.d])]) (by rw [prR,G18_eq];exact g18) (by decide) (sh:=[]) rfl rfl rfl
end Go.VE
namespace Go.VE
open Go.RowKit Go.Proofs
set_option maxRecDepth 100000
theorem o3 {n:Nat} {ds:List D} (h:HasT Tryd.prog (n+1) 3 ds):∃ z,ds=[il z]∧-9223372036854775808≤z∧z≤9223372036854775807:=h.int Tryd.underlying3
theorem o30 {n:Nat} {ds:List D} (h:HasT Tryd.prog (n+2) 30 ds):∃ b:Brd,ds=rB b:=by
 obtain ⟨_,_,rfl,h1,_,_,rfl,h2,rfl⟩:=h.struct Tryd.underlying30 rfl
 obtain ⟨x,rfl,_⟩:=o3 h1
 obtain ⟨y,rfl,_⟩:=o3 h2
 exact ⟨(x,y),rfl⟩
theorem o87 {n:Nat} {ds:List D} (h:HasT Tryd.prog (n+2) 87 ds):∃ b:Stk,ds=rS b:=by
 obtain ⟨_,_,rfl,h1,_,_,rfl,h2,_,_,rfl,h3,_,_,rfl,h4,rfl⟩:=h.struct Tryd.underlying87 rfl
 obtain ⟨x,rfl,_⟩:=o3 h1
 obtain ⟨y,rfl,_⟩:=o3 h2
 obtain ⟨z,rfl,_⟩:=o3 h3
 obtain ⟨u,rfl,_⟩:=o3 h4
 exact ⟨(x,y,z,u),rfl⟩
theorem opt_rows {α:Type} {f:α→List D}:∀ {o:Option Rr},(∀ r∈o.getD [],∃ c,r=f c)→∃ q:Option (List α),o=q.map (·.map f)
 | none,_=>⟨none,rfl⟩
 | some rows,h=>by
  obtain ⟨l,hl⟩:=rows_map (f:=f) (rows:=rows) h
  exact ⟨some l,by rw [hl];rfl⟩
theorem oL {α:Type} {f:α→List D} {n t e c b:Nat} {ds:List D} (hu:Tryd.prog.underlying t=some (.slice e)) (hc:Tryd.prog.cellsOf e=c) (hb:Tryd.prog.bytesOf e=b) (he:∀ r,HasT Tryd.prog n e r→∃ x,r=f x) (h:HasT Tryd.prog (n+1) t ds):∃ o,ds=[dL c f o]∧(o.getD []).length*b≤140737488351232:=by
 obtain ⟨o,rfl,h1,h2⟩:=h.sl hu hc hb
 obtain ⟨q,rfl⟩:=opt_rows (f:=f) fun r hr=>he r (h2 r hr)
 refine ⟨q,rfl,?_⟩
 cases q with
 | none=>simp
 | some l=>simpa using h1
theorem o22 {n:Nat} {ds:List D} (h:HasT Tryd.prog (n+3) 22 ds):∃ o,ds=[dB o]∧(o.getD []).length*16≤140737488351232:=oL Tryd.underlying22 (by kernel_rfl) (by kernel_rfl) (fun _ h=>o30 h) h
theorem o23 {n:Nat} {ds:List D} (h:HasT Tryd.prog (n+3) 23 ds):∃ o,ds=[dS o]∧(o.getD []).length*32≤140737488351232:=oL Tryd.underlying23 (by kernel_rfl) (by kernel_rfl) (fun _ h=>o87 h) h
theorem o25 {n:Nat} {ds:List D} (h:HasT Tryd.prog (n+4) 25 ds):∃ me b s h,ds=[il me,dB b,dS s,il h]∧(b.getD []).length*16≤140737488351232∧(s.getD []).length*32≤140737488351232:=by
 obtain ⟨_,_,rfl,h1,_,_,rfl,h2,_,_,rfl,h3,_,_,rfl,h4,rfl⟩:=h.struct Tryd.underlying25 rfl
 obtain ⟨x,rfl,_⟩:=o3 h1
 obtain ⟨y,rfl,hy⟩:=o22 h2
 obtain ⟨z,rfl,hz⟩:=o23 h3
 obtain ⟨u,rfl,_⟩:=o3 h4
 exact ⟨x,y,z,u,rfl,hy,hz⟩
noncomputable def FnS (n:Nat) (f:Nat) (xs:List D):Out:=if f=18∧xs=[] then some (0,[.d (bl true)]) else FN n f xs
theorem FnS_ok (n:Nat):FnOK Tryd.prog (cf3 tb Tryd.prog) (FnS n):=by
 intro f sh xs vs j ys rs h1 h2 h3 h4
 unfold FnS at h3
 split at h3
 ·rename_i hc
  obtain ⟨rfl,rfl⟩:=hc
  simp only [Option.some.injEq,Prod.mk.injEq] at h3
  obtain ⟨rfl,rfl⟩:=h3
  have e1:(cf3 tb Tryd.prog).ash 18=some []:=rfl
  rw [e1] at h1
  cases h1
  cases h2
  have e2:((cf3 tb Tryd.prog).rsk 18)[0]?=some [(false,[.d])]:=rfl
  rw [e2] at h4
  cases h4
  exact sane_sc
 ·exact FnT_ok mixP spOK n f sh xs vs j ys rs h1 h2 h3 h4
theorem FnS_18 (n:Nat):FnS n 18 []=some (0,[.d (bl true)]):=by simp [FnS]
theorem FnS_ne {n f:Nat} {xs:List D} {o:Out} (h:FN n f xs=o) (hf:f≠18):FnS n f xs=o:=by rw [←h];simp [FnS,hf]
theorem FnS_okM (n:Nat):FmOK Tryd.prog (cf3 tb Tryd.prog) (FnS n):=fun f ms xs zs h1 h2=>by
 rw [FnS_ne rfl (by omega)] at h2
 exact FnT_okM mixP spOK n f ms xs zs h1 h2
end Go.VE
namespace Go.VE
open Go.RowKit Go.Proofs
set_option maxRecDepth 100000
def newZ (me:Int) (l:List Brd):Int:=if par me=true then (if bords me l=true then 0 else 90) else 1
def rW (z me:Int) (o:Option (List Brd)):Out:=if z=0 then some (0,[.d (il me),.d (dB o),.d (dS none),.d (il 0),.d (il z)]) else some (0,[.d (il 0),.d (dB none),.d (dS none),.d (il 0),.d (il z)])
theorem t9 (n:Nat) (me:Int) (o:Option (List Brd)) (hl:(o.getD []).length≤4611686018427387904):FN (n+5) 9 [il me,dB o]=rW (newZ me (o.getD [])) me o:=by
 rw [s9 _ _ _ hl];unfold rW newZ
 by_cases h1:par me=true
 ·by_cases h2:bords me (o.getD [])=true
  ·simp only [h1,h2,if_true];rfl
  ·simp only [h1,h2,if_true];rfl
 ·simp only [h1];rfl
abbrev BB:Nat:=4611686018427387904
end Go.VE
namespace Go.VE
open Go.RowKit Go.Proofs
set_option maxRecDepth 100000
end Go.VE
namespace Go.VE
open Go.RowKit Go.Proofs
set_option maxRecDepth 100000
def sameWt (x y:Out):Prop:=∃ m b1 b2 s1 s2 h e,x=some (0,[.d (il m),.d (dB b1),.d (dS s1),.d (il h),.d (il e)])∧y=some (0,[.d (il m),.d (dB b2),.d (dS s2),.d (il h),.d (il e)])∧b1.getD []=b2.getD []∧s1.getD []=s2.getD []∧(b1.getD []).length≤BB∧(s1.getD []).length≤BB
theorem sameWt_if {c:Bool} {m h:Int} {b1 b2:Option (List Brd)} {s1 s2:Option (List Stk)} (h1:b1.getD []=b2.getD []) (h2:s1.getD []=s2.getD []) (hb:(b1.getD []).length≤BB) (hs:c=true→(s1.getD []).length≤BB) :
  sameWt (if c=true then some (0,[.d (il m),.d (dB b1),.d (dS s1),.d (il h),.d (il 0)]) else noW 92) (if c=true then some (0,[.d (il m),.d (dB b2),.d (dS s2),.d (il h),.d (il 0)]) else noW 92):=by
 cases c with
 | true=>exact ⟨m,b1,b2,s1,s2,h,0,rfl,rfl,h1,h2,hb,hs rfl⟩
 | false=>exact ⟨0,none,none,none,none,0,92,rfl,rfl,rfl,rfl,by simp,by simp⟩
theorem sameI (n:Nat) (o:Option (List Int)) (hl:(o.getD []).length≤4611686018427387904):FN (n+1) 45 [dL 1 rI o,dL 1 rI o]=some (0,[.d (bl true)]):=by
 rw [F45]
 simp only [G45,lenL,r_neq,ne_eq,not_true,decide_false,r_cond,Bool.false_eq_true,if_false,r_litb,r_out,r_loop,r_liti]
 have:=range_loop (β:=Unit) (o.getD []) hl (L45_0 (RP n)) (fun i _=>[.d (dL 1 rI o),.d (dL 1 rI o),.d (il i)]) (fun _ _=>True)
  (fun _ _ _=>some (1,[])) (fun _ k _=>by simp [L45_0,lenL]) ?_ M0 () trivial (M0_big hl)
 ·simp only [Int.natCast_zero] at this
  rw [this];rfl
 ·intro i e r _ k hi hd hlt hw _ ih
  have ih':=ih () trivial
  rw [cast1] at ih'
  have hlt':(i:Int) < ((o.getD []).length:Int):=by omega
  have hc:(RP n).cell (rI e) 0=il e:=rfl
  simp only [L45_0,lenL,r_ld0,r_lds,r_lss,r_cond,hlt',decide_true,if_true,rowL hi (show (rI e).length=1 from rfl),hc,r_neq,ne_eq,not_true,decide_false,Bool.false_eq_true,if_false,r_liti,r_add,hw]
  exact ih'
theorem whoR_sh {l:List W4} {fld:Int} (hl:l.length≤4611686018427387904):∃ q e,whoR l fld=some (0,[.d (dL 1 rI q),.d (il e)])∧(q.getD []).length≤4611686018427387904:=by
 unfold whoR
 split
 ·split
  ·exact ⟨none,98,rfl,by simp⟩
  ·split
   ·refine ⟨_,0,rfl,?_⟩
    rw [opN_get]
    simp only [whoL,List.length_map]
    exact Nat.le_trans (List.length_filter_le _ _) hl
   ·exact ⟨none,94,rfl,by simp⟩
 ·exact ⟨none,98,rfl,by simp⟩
theorem bookLoop {Fn:Nat→List D→Out} {FnD:D→List Sh→List D→Out} {left:Int} {o:Option (List W4)}
  (h11:∀ a b h k o q s t,(o.getD []).length≤BB→(s.getD []).length≤BB→Fn 11 [il a,dB o,dS s,il h,il b,dB q,dS t,il k]=some (0,[.d (bl (decide (a=b∧h=k∧o.getD []=q.getD []∧s.getD []=t.getD [])))]))
  (h1:∀ w∈o.getD [],sameWt (Fn 49 [il w.1,dB w.2.1,dS w.2.2.1,il w.2.2.2]) (Fn 50 [il w.1,dB w.2.1,dS w.2.2.1,il w.2.2.2]))
  (h2:∀ w∈o.getD [],sameWt (Fn 51 [il w.1,dB w.2.1,dS w.2.2.1,il w.2.2.2,il left]) (Fn 52 [il w.1,dB w.2.1,dS w.2.2.1,il w.2.2.2,il left]))
  (h3:∀ w∈o.getD [],sameWt (Fn 53 [il w.1,dB w.2.1,dS w.2.2.1,il w.2.2.2]) (Fn 54 [il w.1,dB w.2.1,dS w.2.2.1,il w.2.2.2])) :
  loopR [L6_0 (real Fn FnD M0)] M0 0 [.d (dW o),.d (il left),.d (il 0)]=some (1,[]):=by
 have hlen:((o.getD []).take 3).length=3∨((o.getD []).take 3).length=(o.getD []).length:=by rw [List.length_take];omega
 have h33:((o.getD []).take 3).length≤3:=by rw [List.length_take];omega
 have hle:((o.getD []).take 3).length≤(o.getD []).length:=by rw [List.length_take];omega
 have:=range_loop (β:=Unit) ((o.getD []).take 3) (by omega) (L6_0 (real Fn FnD M0)) (fun i _=>[.d (dW o),.d (il left),.d (il i)]) (fun _ _=>True) (fun _ _ _=>some (1,[])) ?_ ?_ M0 () trivial (M0_big (by omega))
 ·exact this
 ·intro _ k _
  simp only [L6_0,lenW,r_ld0,r_lds,r_liti,r_lss,r_cond,r_out]
  rcases hlen with h | h
  ·rw [h];simp
  ·rw [h];simp
 ·intro i w r _ k hi hd hlt hw _ ih
  have ih':=ih () trivial
  rw [cast1] at ih'
  have hi':(o.getD [])[i]?=some w:=by
   rw [List.getElem?_take] at hi
   split at hi
   ·exact hi
   ·cases hi
  have hm:=List.mem_of_getElem? hi'
  have hlt':(i:Int) < ((o.getD []).length:Int):=by omega
  have hlt3:(i:Int) < 3:=by omega
  obtain ⟨m1,b1,c1,s1,t1,k1,e1,p1,r1,q1,u1,l1,n1⟩:=h1 w hm
  have z1:=h11 m1 m1 k1 k1 b1 c1 s1 t1 l1 n1
  simp only [q1,u1,and_self,decide_true] at z1
  obtain ⟨m2,b2,c2,s2,t2,k2,e2,p2,r2,q2,u2,l2,n2⟩:=h2 w hm
  have z2:=h11 m2 m2 k2 k2 b2 c2 s2 t2 l2 n2
  simp only [q2,u2,and_self,decide_true] at z2
  obtain ⟨m3,b3,c3,s3,t3,k3,e3,p3,r3,q3,u3,l3,n3⟩:=h3 w hm
  have z3:=h11 m3 m3 k3 k3 b3 c3 s3 t3 l3 n3
  simp only [q3,u3,and_self,decide_true] at z3
  simp only [L6_0,lenW,r_ld0,r_lds,r_liti,r_lss,hlt',hlt3,decide_true,r_cond,if_true,rowW hi',cW0,cW1,cW2,cW3,r_call,p1,r1,z1,p2,r2,z2,p3,r3,z3,r_bnd0,r_not,Bool.not_true,Bool.false_eq_true,if_false,r_neq,ne_eq,not_true,decide_false,r_add,hw]
  exact ih'
theorem lawBooks {Fn:Nat→List D→Out} {FnD:D→List Sh→List D→Out} (h18:Fn 18 []=some (0,[.d (bl true)]))
  {left fld:Int} {o:Option (List W4)} {X:Out} (hX:∃ q e,X=some (0,[.d (dL 1 rI q),.d (il e)])∧Fn 45 [dL 1 rI q,dL 1 rI q]=some (0,[.d (bl true)])) (h47:Fn 47 [dW o,il fld]=X) (h48:Fn 48 [dW o,il fld]=X)
  (hloop:loopR [L6_0 (real Fn FnD M0)] M0 0 [.d (dW o),.d (il left),.d (il 0)]=some (1,[])) :
  G6 (real Fn FnD M0) (dW o) (il left) (il fld)=some (0,[.d (bl true)]):=by
 obtain ⟨q,e,rfl,h45⟩:=hX
 simp only [G6,r_call,h47,h48,r_bnd0,r_ld0,r_lds,h45,r_not,Bool.not_true,r_cond,Bool.false_eq_true,if_false,r_neq,ne_eq,not_true,decide_false,r_loop,r_liti,hloop,r_bnd1,h18,r_out]
theorem o25w {n:Nat} {ds:List D} (h:HasT Tryd.prog (n+4) 25 ds):∃ w:{ w:W4 // (w.2.1.getD []).length*16≤140737488351232∧(w.2.2.1.getD []).length*32≤140737488351232 },ds=rWt w.1:=by
 obtain ⟨me,b,s,x,rfl,hb,hs⟩:=o25 h
 exact ⟨⟨(me,b,s,x),hb,hs⟩,rfl⟩
theorem o57 {n:Nat} {ds:List D} (h:HasT Tryd.prog (n+5) 57 ds):∃ o:Option (List W4),ds=[dW o]∧(o.getD []).length*64≤140737488351232∧∀ w∈o.getD [],(w.2.1.getD []).length*16≤140737488351232∧(w.2.2.1.getD []).length*32≤140737488351232:=by
 obtain ⟨o,rfl,hl⟩:=oL (f:=fun w:{ w:W4 // (w.2.1.getD []).length*16≤140737488351232∧(w.2.2.1.getD []).length*32≤140737488351232 }=>rWt w.1) (c:=4) (b:=64) Tryd.underlying57 (by kernel_rfl) (by kernel_rfl) (fun _ h=>o25w h) h
 cases o with
 | none=>exact ⟨none,rfl,by simp,by simp⟩
 | some l =>
  refine ⟨some (l.map Subtype.val),?_,by simpa using hl,fun w hw=>?_⟩
  ·simp [dW,dL,Function.comp_def]
  ·simp only [Option.getD_some,List.mem_map] at hw
   obtain ⟨x,_,rfl⟩:=hw
   exact x.2
theorem bellBooks_sc (vds:List VD) (h:VTs Tryd.prog 8 [57,3,3] vds):SC Tryd.prog 6 vds (.one (.d (bl true))):=by
 obtain ⟨_,_,rfl,h1,h⟩:=VTs_cons h
 obtain ⟨_,_,rfl,h2,h⟩:=VTs_cons h
 obtain ⟨_,_,rfl,h3,h⟩:=VTs_cons h
 cases VTs_nil h
 obtain ⟨_,rfl,k1⟩:=h1.sl_ Tryd.underlying57
 obtain ⟨_,rfl,k2⟩:=h2.int_ Tryd.underlying3
 obtain ⟨_,rfl,k3⟩:=h3.int_ Tryd.underlying3
 obtain ⟨left,e2,_⟩:=o3 k2
 cases e2
 obtain ⟨fld,e3,_⟩:=o3 k3
 cases e3
 obtain ⟨o,e1,hl,hw⟩:=o57 k1
 cases e1
 refine lawSC (T:=tb) (fuel:=400) (m0:=M0) (xs:=[dW o,il left,il fld]) mixP (FnS_ok 20) (FnS_okM 20) spOK (by decide) (sh:=[.one,.one,.one]) rfl rfl rfl ?_
 rw [G6_eq]
 have hs:∀ w∈o.getD [],smallW w:=fun w h=>by have:=hw w h;exact ⟨by omega,by omega⟩
 obtain ⟨q,e,hq,hql⟩:=whoR_sh (l:=o.getD []) (fld:=fld) (by omega)
 refine lawBooks (FnS_18 20) (X:=whoR (o.getD []) fld) ⟨q,e,hq,FnS_ne (sameI 19 q hql) (by decide)⟩ (FnS_ne (s47 15 o (by omega) hs fld) (by decide)) (FnS_ne (s48 11 o (by omega) hs fld) (by decide)) (bookLoop (fun a b h k o q s t h1 h2=>FnS_ne (s11 18 a b h k o q s t h1 h2) (by decide)) ?_ ?_ ?_)
 ·intro w hm
  obtain ⟨q1,q2⟩:=hs w hm
  rw [FnS_ne (s49 14 _ _ _ _ q2 q1) (by decide),FnS_ne (s50 12 _ _ _ _ q2 q1) (by decide)]
  exact sameWt_if rfl rfl q1 fun _=>q2
 ·intro w hm
  obtain ⟨q1,q2⟩:=hs w hm
  rw [FnS_ne (s51 14 _ _ left _ _ q2 q1) (by decide),FnS_ne (s52 12 _ _ left _ _ q2 q1) (by decide)]
  refine sameWt_if rfl (by rw [opN_get];rfl) q1 fun _=>?_
  simp only [Option.getD_some,List.length_take]
  have:=q2
  simp only [BB] at this ⊢
  omega
 ·intro w hm
  obtain ⟨q1,q2⟩:=hs w hm
  rw [FnS_ne (s53 14 _ _ _ _ q2 q1) (by decide),FnS_ne (s54 12 _ _ _ _ q2 q1) (by decide)]
  refine sameWt_if rfl rfl q1 fun h=>?_
  rw [opN_get]
  have h4:=okP_b4 h
  have:=recX_len (me:=w.1) (ss:=w.2.2.1.getD []) (w.2.1.getD [])
  simp only [BB]
  omega
end Go.VE
namespace Go.Proofs.YtaagapoglhndjaaDoor
open Go.VE Go.RowKit Go.ChangeShapes Go.WideShapes
set_option maxRecDepth 100000
theorem own:ownKnob Tryd.prog.godebug=none:=by kernel_rfl
theorem laidOut:laidOutB Tryd.prog=true:=by kernel_rfl
abbrev laid3:List (String×DataW Unit):=[("math/bits.deBruijn32tab",Rows.laid_math_bits_deBruijn32tab),("math/bits.deBruijn64tab",Rows.laid_math_bits_deBruijn64tab),("internal/strconv.uint64pow10",Rows.laid_internal_strconv_uint64pow10)]
theorem door_met (os:Os) (args:Array Value):laidMetH Tryd.prog laid3 ((World.doorLaid Tryd.prog 400 os).forCall (fun _ _=>0) ⟨#[],args,[]⟩).memory :=
 laidMetH_of_parts3 (fuel:=8) (laidMet_of_run' 8 (by kernel_rfl) (by kernel_rfl)) (by kernel_rfl) (by kernel_rfl)
theorem bellBooks_lifted (hsc:∀ vds,VTs Tryd.prog 8 Tryd.f6.params.toList vds→SC Tryd.prog 6 vds (.one (.d (bl true)))) (os:Os) (started:os.Started) (H:Type) (enc:TypeId×Value→H) :
  ReturnsInHanded {} Tryd.checked os 6 .any (fun w args=>(Rows.bellBooksSpec.pre enc Tryd.prog Tryd.f6 [] false w args∧laidMetH Tryd.prog laid3 w)∧sizedMet enc Tryd.prog Tryd.f6 (OpenSpec.ofChange Rows.bellBooksSpec) false w args) (Rows.bellBooksSpec.post enc Tryd.prog Tryd.f6 false true false false) :=
 lawInX (C:=Tryd.checked) (n:=8) (tb:=4) (X:=fun w _=>laidMetH Tryd.prog laid3 w) (fun _ _ _ hh h=>h.of_heap hh) own started (by kernel_rfl) Tryd.func6
  (ChangeSpec.witness_shaped (enc:=enc) (C:=Tryd.checked) (os:=os) (X:=fun w _=>laidMetH Tryd.prog laid3 w) false (World.doorLaid Tryd.prog 400 os) #[.slice none 0 0,.int .i64 0,.int .i64 0] 8 rfl (World.shaped_of_RefB (by kernel_rfl) (by kernel_rfl)) (by kernel_rfl) (by kernel_rfl) (by kernel_rfl) (door_met os _))
  laidOut (by kernel_rfl) (by kernel_rfl) Tryd.underlying4 rfl
  (fun ds hd=>by
   rw [show Tryd.f6.params.toList=[57,3,3] by kernel_rfl] at hd
   match ds,hd with
   | [a,b,c],_=>rfl)
  hsc
theorem bellBooks_row (hsc:∀ vds,VTs Tryd.prog 8 Tryd.f6.params.toList vds→SC Tryd.prog 6 vds (.one (.d (bl true)))):Rows.BellBooksSaid :=
 OpenClaim.holds_of_wide 6 Tryd.f6 rfl rfl rfl rfl rfl rfl rfl ⟨rfl,rfl,rfl,rfl,rfl⟩ rfl rfl rfl rfl rfl (by kernel_rfl) Tryd.func6 (by kernel_rfl)
  (of_decide_eq_true (by kernel_rfl)) (by unfold Func.isWrapper;first | (rw [if_pos (by decide +kernel)];kernel_rfl) | (rw [if_neg (by decide +kernel)];exact ⟨rfl,rfl⟩))
  (fun os started H enc _=>bellBooks_lifted hsc os started H enc)
theorem bellBooks_card (hsc:∀ vds,VTs Tryd.prog 8 Tryd.f6.params.toList vds→SC Tryd.prog 6 vds (.one (.d (bl true)))):Rows.BellBooksCardSaid :=
 Claim7.holds_tied_plain_at .later [] [.data,.data,.data] true (true, "c63727e6b2ca268bab9231e264516db7b1e83e0cab08a551e4a85ab0b113b8db") false
  (bellBooks_row hsc) (fun _ h=>by cases h) (by kernel_rfl) (fun _ h=>by cases h) bellBooks_row_tie rfl ⟨rfl,rfl⟩ (by kernel_rfl) rfl
  (fun f fn hf hfn=>by
   obtain rfl:f=6:=Option.some.inj ((show Tryd.prog.funcNamed "leazing/leazinglaw09.BellBooks" = some 6 by kernel_rfl).symm.trans hf) |>.symm
   obtain rfl:fn=Tryd.f6:=(Option.some.inj (Tryd.func6.symm.trans hfn)).symm
   exact ⟨by kernel_rfl,fun j t ht=>by
    rw [Tryd.params6] at ht
    have hm:t∈[57,3,3]:=by simpa using Array.mem_of_getElem? ht
    have hall:([57,3,3].all fun u=>!Tryd.prog.wantsStandIn u)=true:=by kernel_rfl
    exact (show Tryd.prog.wantsStandIn t=false by simpa using List.all_eq_true.1 hall t hm)⟩)
  (by kernel_rfl)
theorem bellBooks_holds:Rows.BellBooksCardSaid:=bellBooks_card fun vds h=>bellBooks_sc vds (by
 have e:Tryd.f6.params.toList=[57,3,3]:=by kernel_rfl
 rw [e] at h;exact h)
#print axioms bellBooks_holds
end Go.Proofs.YtaagapoglhndjaaDoor
