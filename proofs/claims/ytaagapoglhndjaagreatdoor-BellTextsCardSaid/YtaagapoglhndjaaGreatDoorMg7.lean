/- The law BellTexts of the program leazing holds for every input, as its card says: Print and Parse agree with the reference, for all strokes and texts, and what is printed is read as it was. No condition. -/
import Derived.Test.YtaagapoglhndjaaGreatDoorMg2
import Derived.Test.YtaagapoglhndjaaGreatDoorMg6
import Derived.Test.YtaagapoglhndjaaGreatDoorMh
import Derived.Lib.LaidU8
import Derived.Shelf.Vars
import Derived.MakeChecks
import Derived.Test.YtaagapoglhndjaaGreatDoorCards
import Derived.Test.YtaagapoglhndjaaGreatDoorTie
import Derived.SevenTiedAt
import Derived.ProofKit
import Derived.LaidMore
import Derived.Stop.Joined
import Derived.LaidHandle
import Derived.Lay
namespace Go.VE
open Go.RowKit Go.Proofs
set_option maxRecDepth 100000
set_option maxHeartbeats 0
open Classical in
noncomputable def FnP (f:Nat) (xs:List D):Out:=if f=23∧xs=[.sl 4 two] then some (0,[.d twoS,.d (il 0)]) else FN 14 f xs
theorem pE {f:Nat} {xs:List D} (h:f≠23):FnP f xs=FN 14 f xs:=if_neg fun e=>h e.1
theorem pP:FnP 23 [.sl 4 two]=some (0,[.d twoS,.d (il 0)]):=if_pos ⟨rfl,rfl⟩
theorem FnP_ok:FnOK Tryz.prog (cf3 tb Tryz.prog) FnP:=by
 intro f sh xs vs j ys rs h1 h2 h3 h4
 unfold FnP at h3
 split at h3
 ·rename_i hc
  obtain ⟨rfl,rfl⟩:=hc
  simp only [Option.some.injEq,Prod.mk.injEq] at h3
  obtain ⟨rfl,rfl⟩:=h3
  have e1:(cf3 tb Tryz.prog).ash 23=some [.one]:=rfl
  rw [e1] at h1
  cases h1
  cases h2
  have e2:((cf3 tb Tryz.prog).rsk 23)[0]?=some [(false,[.d]),(false,[.d])]:=rfl
  rw [e2] at h4
  cases h4
  exact print_sc
 ·exact FnT_ok mixP spOK 14 f sh xs vs j ys rs h1 h2 h3 h4
theorem FnP_okM:FmOK Tryz.prog (cf3 tb Tryz.prog) FnP:=fun f ms xs zs h1 h2=>by
 rw [pE (by omega)] at h2
 exact FnT_okM mixP spOK 14 f ms xs zs h1 h2
theorem e45a:FN 14 17 [.sl 1 [[il 0],[il 1]],.sl 1 [[il 0],[il 1]]]=some (0,[.d (bl true)]):=by kernel_rfl
theorem e45b:FN 14 17 [.sl 1 [[il 1]],.sl 1 [[il 1]]]=some (0,[.d (bl true)]):=by kernel_rfl
theorem e46a:FN 14 12 [il 1,il 0,.sl 3 [[il 7,il 0,il 0]],il 1,il 0,.sl 3 [[il 7,il 0,il 0]]]=some (0,[.d (bl true)]):=by kernel_rfl
theorem e46b:FN 14 12 [il 1,il 0,.sl 3 [[il 7,il 0,il 1]],il 1,il 0,.sl 3 [[il 7,il 0,il 1]]]=some (0,[.d (bl true)]):=by kernel_rfl
theorem e46c:FN 14 12 [il 0,il 1,.sl 3 [[il 7,il 1,il 0]],il 0,il 1,.sl 3 [[il 7,il 1,il 0]]]=some (0,[.d (bl true)]):=by kernel_rfl
theorem r_eqlS {Fn:Nat→List D→Out} {FnD:D→List Sh→List D→Out} {m:Nat} (s:ByteArray) (k:D→Out):(real Fn FnD m).bin .eql false (.lit (.string s)) (.lit (.string s)) k=k (bl true):=by
 simp [real,binD,aStr,optO,bl]
theorem r_litS {Fn:Nat→List D→Out} {FnD:D→List Sh→List D→Out} {m:Nat} (s:ByteArray):(real Fn FnD m).lit (.string s)=.lit (.string s):=rfl
theorem g18a {Fn:Nat→List D→Out} {FnD:D→List Sh→List D→Out} (e9_0:Fn 41 [il 0,eBs]=ySt 0 eBs eNo 0 0)
  (e9_1:Fn 41 [il 1,eBs]=ySt 1 eBs eNo 0 0)
  (e9_3:Fn 41 [il 3,eBs]=ySt 3 eBs eNo 0 0)
  (e41:Fn 16 (eSt 3 eNo 0++[il 7])=some (0,[.d (.sl 1 [[il 0],[il 1]]),.d (il 0)]))
  (e19:Fn 42 (eSt 1 eNo 0++[il 7])=ySt 1 eBs (.sl 4 [eRow 2 7 0 1]) 0 0)
  (e43_0:Fn 11 (eSt 1 (.sl 4 [eRow 2 7 0 1]) 0++[il 0])=some (0,[.d (il 1),.d (il 0),.d (.sl 3 [[il 7,il 0,il 0]]),.d (il 0)]))
  (e49_1:Fn 8 (eSt 1 (.sl 4 [eRow 2 7 0 1]) 0)=ySt 1 eBs (.sl 4 [eRow 2 7 0 1]) 1 0)
  (e43_1:Fn 11 (eSt 1 (.sl 4 [eRow 2 7 0 1]) 1++[il 0])=some (0,[.d (il 1),.d (il 0),.d (.sl 3 [[il 7,il 0,il 1]]),.d (il 0)]))
  (e27_0:Fn 21 (eSt 0 eNo 0++[il 1,il 0,.sl 3 [[il 7,il 0,il 1]]])=ySt 0 eBs (.sl 4 [eRow 3 7 1 1]) 0 0)
  (e25:Fn 43 (eSt 0 (.sl 4 [eRow 3 7 1 1]) 0)=ySt 0 eBs (.sl 4 [eRow 3 7 1 1,eRow 1 7 1 1]) 0 0)
  (e29:Fn 19 (eSt 0 (.sl 4 [eRow 3 7 1 1,eRow 1 7 1 1]) 0++[il 7,il 1])=some (0,[.d (il 1),.d (il 0)]))
  (e49_2:Fn 8 (eSt 0 (.sl 4 [eRow 3 7 1 1,eRow 1 7 1 1]) 0)=ySt 0 eBs (.sl 4 [eRow 3 7 1 1,eRow 1 7 1 1]) 2 0)
  (e43_2:Fn 11 (eSt 0 (.sl 4 [eRow 3 7 1 1,eRow 1 7 1 1]) 2++[il 1])=some (0,[.d (il 0),.d (il 1),.d (.sl 3 [[il 7,il 1,il 0]]),.d (il 0)]))
  (e27_1:Fn 21 (eSt 1 (.sl 4 [eRow 2 7 0 1]) 1++[il 0,il 1,.sl 3 [[il 7,il 1,il 0]]])=ySt 1 eBs (.sl 4 [eRow 2 7 0 1,eRow 1 7 0 1]) 1 0)
  (e33:Fn 18 (eSt 1 (.sl 4 [eRow 2 7 0 1,eRow 1 7 0 1]) 1++[il 7,il 0])=some (0,[.d (bl true),.d (il 0)]))
  (e21:Fn 44 (eSt 1 (.sl 4 [eRow 2 7 0 1,eRow 1 7 0 1]) 1++[il 7])=ySt 1 eBs (.sl 4 [eRow 2 7 0 1,eRow 1 7 0 1,eRow 4 7 0 1,eRow 2 7 0 2]) 1 0)
  (e47:Fn 45 [.sl 4 [eSt 0 (.sl 4 [eRow 3 7 1 1,eRow 1 7 1 1]) 2,eSt 1 (.sl 4 [eRow 2 7 0 1,eRow 1 7 0 1,eRow 4 7 0 1,eRow 2 7 0 2]) 1,eSt 3 eNo 0],il 7]=some (0,[.d (.sl 1 [[il 1]]),.d (il 0)]))
  (e45a:Fn 17 [.sl 1 [[il 0],[il 1]],.sl 1 [[il 0],[il 1]]]=some (0,[.d (bl true)]))
  (e45b:Fn 17 [.sl 1 [[il 1]],.sl 1 [[il 1]]]=some (0,[.d (bl true)]))
  (e46a:Fn 12 [il 1,il 0,.sl 3 [[il 7,il 0,il 0]],il 1,il 0,.sl 3 [[il 7,il 0,il 0]]]=some (0,[.d (bl true)]))
  (e46b:Fn 12 [il 1,il 0,.sl 3 [[il 7,il 0,il 1]],il 1,il 0,.sl 3 [[il 7,il 0,il 1]]]=some (0,[.d (bl true)]))
  (e46c:Fn 12 [il 0,il 1,.sl 3 [[il 7,il 1,il 0]],il 0,il 1,.sl 3 [[il 7,il 1,il 0]]]=some (0,[.d (bl true)]))
  (pP:Fn 23 [.sl 4 two]=some (0,[.d twoS,.d (il 0)])):G20 (real Fn FnD M0)=some (0,[.d (bl true)]):=by
 simp only [ySt,eBs,eRow,eSt,eNo,two,twoS,List.cons_append,List.nil_append] at e9_0 e9_1 e9_3 e41 e19 e43_0 e49_1 e43_1 e27_0 e25 e29 e49_2 e43_2 e27_1 e33 e21 e47 pP
 simp only [G20,r_natN,r_liti,r_litb,r_rows,r_len,List.length_cons,List.length_nil,r_eqN,Nat.zero_add,if_true,r_seg0,List.take,r_slD,r_call,r_bnd0,r_ld0,r_lds,e9_0,e9_1,e9_3,e41,e19,e43_0,e49_1,e43_1,e27_0,e25,e29,e49_2,e43_2,e27_1,e33,e21,e47,pP,
  r_eql,decide_true,r_cond,r_out,e45a,e45b,e46a,e46b,e46c,r_litsg,List.all_cons,List.all_nil,yl_b,Bool.and_self,r_eqlS,r_litS]
theorem pq {f:Nat} {xs:List D} {o:Out} (h:FN 14 f xs=o) (hf:f≠23):FnP f xs=o:=(pE hf).trans h
theorem g18:G20 (real FnP (FnDof Tryz.prog (cf3 tb Tryz.prog) FnP) M0)=some (0,[.d (bl true)]) :=
 g18a (pq e9_0 (by decide)) (pq e9_1 (by decide)) (pq e9_3 (by decide)) (pq e41 (by decide)) (pq e19 (by decide)) (pq e43_0 (by decide)) (pq e49_1 (by decide)) (pq e43_1 (by decide)) (pq e27_0 (by decide)) (pq e25 (by decide)) (pq e29 (by decide)) (pq e49_2 (by decide)) (pq e43_2 (by decide)) (pq e27_1 (by decide)) (pq e33 (by decide)) (pq e21 (by decide)) (pq e47 (by decide)) (pq e45a (by decide)) (pq e45b (by decide)) (pq e46a (by decide)) (pq e46b (by decide)) (pq e46c (by decide)) pP
theorem sane_sc:SC Tryz.prog 20 [] (.one (.d (bl true))) :=
 fun3_sc (T:=tb) (P:=Tryz.prog) mixP FnP_ok FnP_okM spOK (fuel:=400) (m0:=M0) (xs:=[]) (j:=0) (ys:=[.d (bl true)]) (rs:=[(false,[.d])]) (by rw [prR];exact (G20_eq _).trans g18) (by decide) (sh:=[]) rfl rfl rfl
end Go.VE
namespace Go.VE
open Go.RowKit Go.Proofs Go.Shelf Go.Lib
set_option maxRecDepth 100000
set_option maxHeartbeats 4000000
theorem c24 (o:Option (List Stk)) (v:Value) (w:World) (U:Nat→Prop) (hU:∀ b,U b→b < w.heap.size) (hv:DR w U (dS o) v) :
  Calls Tryz.prog 24 #[v] w fun e w'=>e=.returned (.tuple #[.string ⟨(prA (o.getD [])).1.toArray⟩,.int .i64 (prA (o.getD [])).2])∧Below w.heap.size w w':=by
 refine ((sc24 o).2 w U _ hU ?_).mono ?_
 ·simp only [VDF,VDR]
  exact ⟨_,_,rfl,hv,rfl⟩
 ·rintro e w' ⟨v,U',bs,rfl,hbe,_,_,_,_,hrv⟩
  simp only [RvR,RvF,RcR,DR,il] at hrv
  obtain ⟨vs,rfl,v1,vs1,b1,b2,h1,_,⟨_,rfl,_⟩,v2,vs2,b3,b4,h2,_,⟨_,rfl,_⟩,rfl,_⟩:=hrv
  refine ⟨?_,hbe⟩
  rw [h2] at h1
  congr 2
  rw [←Array.toArray_toList (xs:=vs),h1]
theorem c26 (t:List UInt8) (w:World):Calls Tryz.prog 26 #[.string ⟨t.toArray⟩] w fun e w'=>Below w.heap.size w w'∧∃ v,e=.returned (.tuple #[v,.int .i64 (prs t).2.1,.int .i64 (prs t).2.2])∧DR w' (· < w'.heap.size) (dS (prs t).1) v:=by
 refine ((sc26a t).2 w (fun _=>False) _ (fun _ h=>h.elim) ?_).mono ?_
 ·simp only [VDF,VDR]
  exact ⟨_,_,rfl,⟨rfl,rfl⟩,rfl⟩
 ·rintro e w' ⟨v,U',bs,rfl,hbe,_,hU',_,_,hrv⟩
  simp only [RvR,RvF,RcR] at hrv
  obtain ⟨vs,rfl,v1,vs1,b1,b2,h1,_,⟨_,hd⟩,v2,vs2,b3,b4,h2,_,⟨_,h3⟩,v3,vs3,b5,b6,h4,_,⟨_,h5⟩,rfl,_⟩:=hrv
  simp only [DR,il] at h3 h5
  obtain ⟨rfl,_⟩:=h3
  obtain ⟨rfl,_⟩:=h5
  refine ⟨hbe,v1,?_,DR.mono (fun _ _=>rfl) (fun b hb=>(hU' b hb).1) _ _ hd⟩
  rw [h4] at h2
  rw [h2] at h1
  congr 2
  rw [←Array.toArray_toList (xs:=vs),h1]
theorem c25 (t:List UInt8) (w:World) (hL:Laid w):Calls Tryz.prog 25 #[.string ⟨t.toArray⟩] w fun e w'=>Below w.heap.size w w'∧∃ v,e=.returned (.tuple #[v,.int .i64 (prs t).2.1,.int .i64 (prs t).2.2])∧DR w' (· < w'.heap.size) (dS (prs t).1) v :=
 (paC t w hL).mono fun e w' ⟨hb,v,he,hd⟩=>⟨hb,v,he,DR.mono (fun _ _=>rfl) (fun _ hb=>hb.2) _ _ hd⟩
theorem c27 (o q:Option (List Stk)) (hl:(o.getD []).length≤4611686018427387904) (v u:Value) (w:World) (hv:DR w (· < w.heap.size) (dS o) v) (hu:DR w (· < w.heap.size) (dS q) u) :
  Calls Tryz.prog 27 #[v,u] w fun e w'=>e=.returned (.bool (decide (o.getD []=q.getD [])))∧Below w.heap.size w w':=by
 refine ((sc27 o q hl).2 w (· < w.heap.size) _ (fun _ h=>h) ?_).mono ?_
 ·simp only [VDF,VDR]
  exact ⟨_,_,rfl,hv,_,_,rfl,hu,rfl⟩
 ·rintro e w' ⟨v,U',bs,rfl,hbe,_,_,_,_,hrv⟩
  simp only [RvR,RcR,DR,bl] at hrv
  obtain ⟨_,rfl,_⟩:=hrv
  exact ⟨rfl,hbe⟩
theorem c20 (w:World):Calls Tryz.prog 20 #[] w fun e w'=>e=.returned (.bool true)∧Below w.heap.size w w':=by
 refine (sane_sc.2 w (fun _=>False) #[] (fun _ h=>h.elim) rfl).mono ?_
 rintro e w' ⟨v,U',bs,rfl,hbe,_,_,_,_,hrv⟩
 simp only [RvR,RcR,DR,bl] at hrv
 obtain ⟨_,rfl,_⟩:=hrv
 exact ⟨rfl,hbe⟩
theorem dr_below {w w':World} {x:D} {v:Value} (h:DR w (· < w.heap.size) x v) (hb:Below w.heap.size w w'):DR w' (· < w'.heap.size) x v :=
 DR.mono (fun b hb'=>hb.block b hb') (fun _ hb'=>Nat.lt_of_lt_of_le hb' hb.size) _ _ h
theorem prs_len {l:List UInt8}:((prs l).1.getD []).length≤120:=by
 unfold prs
 split
 ·exact Nat.zero_le _
 ·split
  ·exact Nat.zero_le _
  ·split
   ·rename_i h;rw [opL_get];exact h.2
   ·exact Nat.zero_le _
theorem law4 (o:Option (List Stk)) (t:List UInt8) (v:Value) (W:World) (hL:Laid W) (hv:DR W (· < W.heap.size) (dS o) v) :
  Calls Tryz.prog 4 #[v,.string ⟨t.toArray⟩] W fun e W'=>e=.returned (.bool true)∧Below W.heap.size W W':=by
 have h27:∀ w vc vd,DR w (· < w.heap.size) (dS (prs t).1) vc→DR w (· < w.heap.size) (dS (prs t).1) vd→Calls Tryz.prog 27 #[vc,vd] w fun e w'=>e=.returned (.bool true)∧Below w.heap.size w w':=fun w vc vd h1 h2=>by
  have:=c27 (prs t).1 (prs t).1 (by have:=prs_len (l:=t);omega) vc vd w h1 h2
  simpa using this
 have h25:=c25 t
 have h26:=c26 t
 by_cases hok:(o.getD []).length≤120∧(o.getD []).all okS=true
 ·have hp:prA (o.getD [])=(prt (o.getD []),0):=by rw [prA,if_pos hok]
  have h23:=prC o v W hL _ (fun _ h=>h) hv
  rw [hp] at h23
  have h24:=fun w hv'=>c24 o v w (· < w.heap.size) (fun _ h=>h) hv'
  rw [hp] at h24
  have hq:=prs_prt hok.1 hok.2
  have hb25:∀ w,Laid w→Calls Tryz.prog 25 #[.string ⟨(prt (o.getD [])).toArray⟩] w fun e w'=>Below w.heap.size w w'∧∃ x,e=.returned (.tuple #[x,.int .i64 0,.int .i64 0])∧DR w' (· < w'.heap.size) (dS (opL (o.getD []))) x:=fun w h=>by
   have:=c25 (prt (o.getD [])) w h
   rw [hq] at this
   exact this
  have h27b:∀ w vc,DR w (· < w.heap.size) (dS (opL (o.getD []))) vc→DR w (· < w.heap.size) (dS o) v→Calls Tryz.prog 27 #[vc,v] w fun e w'=>e=.returned (.bool true)∧Below w.heap.size w w':=fun w vc h1 h2=>by
   have:=c27 (opL (o.getD [])) o (by rw [opL_get];omega) vc v w h1 h2
   rw [opL_get] at this
   simpa using this
  clear hp hq
  generalize prt (o.getD [])=a at *
  generalize dS (opL (o.getD []))=da at *
  generalize dS o=d0 at *
  generalize dS (prs t).1=dc at *
  generalize (prs t).2.1=n1 at *
  generalize (prs t).2.2=n2 at *
  have t25:True:=trivial
  have t27:True:=trivial
  go_enter Tryz.func4,Tryz.ntmps4
  go_wp2_with (first
   | (go_at_call 23;refine h23.mono ?_;rintro e w1 ⟨rfl,b1⟩)
   | (go_at_call 24;refine (h24 _ (dr_below hv b1)).mono ?_;rintro e w2 ⟨rfl,b2⟩;have B2:Below W.heap.size W w2:=b1.trans (b2.mono b1.size))
   | (go_at_call 25;clear t25;refine (h25 _ (hL.below B2)).mono ?_;rintro e w3 ⟨b3,vc,rfl,dc3⟩;have B3:Below W.heap.size W w3:=B2.trans (b3.mono B2.size))
   | (go_at_call 26;refine (h26 _).mono ?_;rintro e w4 ⟨b4,vd,rfl,dd⟩;have B4:Below W.heap.size W w4:=B3.trans (b4.mono B3.size))
   | (go_at_call 27;clear t27;refine (h27 _ _ _ (dr_below dc3 b4) dd).mono ?_;rintro e w5 ⟨rfl,b5⟩;have B5:Below W.heap.size W w5:=B4.trans (b5.mono B4.size))
   | (go_at_call 25;refine (hb25 _ (hL.below B5)).mono ?_;rintro e w6 ⟨b6,ve,rfl,de⟩;have B6:Below W.heap.size W w6:=B5.trans (b6.mono B5.size))
   | (go_at_call 27;refine (h27b _ _ de (dr_below hv B6)).mono ?_;rintro e w7 ⟨rfl,b7⟩;have B7:Below W.heap.size W w7:=B6.trans (b7.mono B6.size))
   | (go_at_call 20;refine (c20 _).mono ?_;rintro e w8 ⟨rfl,b8⟩;have B8:Below W.heap.size W w8:=B7.trans (b8.mono B7.size)))
  go_ret
  exact ⟨rfl,B8⟩
 ·have hp:prA (o.getD [])=([],91):=by rw [prA,if_neg hok]
  have h23:=prC o v W hL _ (fun _ h=>h) hv
  rw [hp] at h23
  have h24:=fun w hv'=>c24 o v w (· < w.heap.size) (fun _ h=>h) hv'
  rw [hp] at h24
  clear hp
  generalize dS o=d0 at *
  generalize dS (prs t).1=dc at *
  generalize (prs t).2.1=n1 at *
  generalize (prs t).2.2=n2 at *
  go_enter Tryz.func4,Tryz.ntmps4
  go_wp2_with (first
   | (go_at_call 23;refine h23.mono ?_;rintro e w1 ⟨rfl,b1⟩)
   | (go_at_call 24;refine (h24 _ (dr_below hv b1)).mono ?_;rintro e w2 ⟨rfl,b2⟩;have B2:Below W.heap.size W w2:=b1.trans (b2.mono b1.size))
   | (go_at_call 25;refine (h25 _ (hL.below B2)).mono ?_;rintro e w3 ⟨b3,vc,rfl,dc3⟩;have B3:Below W.heap.size W w3:=B2.trans (b3.mono B2.size))
   | (go_at_call 26;refine (h26 _).mono ?_;rintro e w4 ⟨b4,vd,rfl,dd⟩;have B4:Below W.heap.size W w4:=B3.trans (b4.mono B3.size))
   | (go_at_call 27;refine (h27 _ _ _ (dr_below dc3 b4) dd).mono ?_;rintro e w5 ⟨rfl,b5⟩;have B5:Below W.heap.size W w5:=B4.trans (b5.mono B4.size))
   | (go_at_call 20;refine (c20 _).mono ?_;rintro e w8 ⟨rfl,b8⟩;have B8:Below W.heap.size W w8:=B5.trans (b8.mono B5.size)))
  go_ret
  exact ⟨rfl,B8⟩
end Go.VE
namespace Go.VE
open Go.RowKit Go.WideShapes Go.ChangeShapes
set_option maxRecDepth 100000
theorem lawInY {H:Type} {enc:TypeId×Value→H} {X:World→Array Value→Prop} (hX:∀ (w w':World) (args:Array Value),w.heap=w'.heap→X w args→X w' args) {C:Checked} {os:Os} {f:FuncId} {fn:Func} {s:ChangeSpec} {tb:TypeId} {n:Nat}
  (own:ownKnob C.prog.godebug=none) (started:os.Started) (noInit:C.prog.inits.idxOf? f=none) (hfn:C.prog.funcs[f]?=some fn)
  (witness:∃ (w:World) (tape:Tape) (i:Input),w.os=os∧(w.forCall tape i).Shaped C.prog∧i.vars=[]∧Input.okWide C.prog (w.forCall tape i) .any w.heap.size f i ∧
   ((s.pre enc C.prog fn [] false (w.forCall tape i).memory i.args∧X (w.forCall tape i).memory i.args)∧sizedMet enc C.prog fn (OpenSpec.ofChange s) false (w.forCall tape i).memory i.args)∧({}:Assume).holds C.prog (lone (Frame.enter C.prog f i.args .normal) [] (w.forCall tape i)))
  (hl:laidOutB C.prog=true) (hts:(fn.params.toList.all fun t=>okT C.prog n t&&C.prog.readableRec t&&decide (t < C.prog.types.size))=true)
  (hres:fn.resultTypes=#[tb]) (htb:C.prog.underlying tb=some .bool) (hv:s.vars=[])
  (hs:∀ ds:List (DataW H),ds.length=fn.params.toList.length→s.fn H ds={ results:=[.lit (.bool true)],args:=ds })
  (hsc:∀ (W:World) (args:Array Value) (vds:List VD),W.ShapedOpen C.prog→X W args→VTs C.prog n fn.params.toList vds→VDF W (· < W.heap.size) vds args.toList→Calls C.prog f args W fun e W'=>e=.returned (.bool true)∧Below W.heap.size W W') :
  ReturnsInHanded {} C os f .any (fun w args=>(s.pre enc C.prog fn [] false w args∧X w args)∧sizedMet enc C.prog fn (OpenSpec.ofChange s) false w args) (s.post enc C.prog fn false true false false):=by
 refine returnsInHanded_of_calls own started noInit witness ?_
 intro w tape i _ hsh _ hok hpre _
 obtain ⟨_,_,_,fn',hfn',_,_,_,_,hval⟩:=hok
 have e:fn'=fn:=Option.some.inj (hfn'.symm.trans hfn)
 subst e
 obtain ⟨⟨⟨ds,gs,before,hw,hc⟩,hx⟩,hz⟩:=hpre
 have hW:=DataW.Whole.of_heap (w':=w.forCall tape i) (by rfl) hw
 have hwt:(DataW.weightsEach C.prog (fn'.params.toList++s.plain.varTypes C.prog) (ds++gs)).all (·≤reachBytes)=true:=hz.weights hw
 have hx':=hX _ (w.forCall tape i) _ (by rfl) hx
 revert hsh hval hx' hW
 generalize w.forCall tape i=W
 intro hsh hval hW hx'
 have hW':=hW
 obtain ⟨p,q,hA,hV,hbf,hfz,hnd⟩:=hW
 rw [hv] at hV
 obtain ⟨rfl,rfl⟩:=trodVars_none hV
 have hvt:s.plain.varTypes C.prog=[]:=by simp [ChangeSpec.plain,hv,DataSpec.varTypes]
 rw [hvt,List.append_nil,List.append_nil] at hwt
 simp only [List.all_eq_true,decide_eq_true_eq,Bool.and_eq_true] at hwt hts
 obtain ⟨hlen,vds,h1,h2⟩:=rdVs (n:=n) (fun t ht=>(hts t ht).1.1) (fun j t v hj hv=>hval j t v (by simpa using hj) (by simpa using hv)) hA hwt
 refine (hsc W i.args vds hsh hx' h2 h1).mono ?_
 rintro e W' ⟨rfl,hbelow⟩
 refine ChangeSpec.post_blind ?_
 have hsf:=hs ds hlen
 refine ⟨ds,[],before,[],p,[],hW',?_,?_,?_,hbelow.frame _,fun h=>by cases h⟩
 ·rw [List.append_nil,hsf,hres]
  exact trodAll_cons_mk (shut_bool htb true) trodAll_mk0
 ·rw [List.append_nil,hsf]
  exact belowAll hl hbelow (fun t ht=>⟨(hts t ht).1.2,(hts t ht).2⟩) hA (fun x hx=>hW'.lt x (by rw [hbf];simp [hx]))
 ·rw [List.append_nil,hsf,hv];rfl
end Go.VE
namespace Go.VE
open Go.RowKit Go.Proofs
set_option maxRecDepth 100000
theorem o3 {n:Nat} {ds:List D} (h:HasT Tryz.prog (n+1) 3 ds):∃ z,ds=[il z]∧-9223372036854775808≤z∧z≤9223372036854775807:=h.int Tryz.underlying3
theorem o87 {n:Nat} {ds:List D} (h:HasT Tryz.prog (n+2) 84 ds):∃ b:Stk,ds=rS b:=by
 obtain ⟨_,_,rfl,h1,_,_,rfl,h2,_,_,rfl,h3,_,_,rfl,h4,rfl⟩:=h.struct Tryz.underlying84 rfl
 obtain ⟨x,rfl,_⟩:=o3 h1
 obtain ⟨y,rfl,_⟩:=o3 h2
 obtain ⟨z,rfl,_⟩:=o3 h3
 obtain ⟨u,rfl,_⟩:=o3 h4
 exact ⟨(x,y,z,u),rfl⟩
theorem opt_rows {α:Type} {f:α→List D}:∀ {o:Option Rr},(∀ r∈o.getD [],∃ c,r=f c)→∃ q:Option (List α),o=q.map (·.map f)
 | none,_=>⟨none,rfl⟩
 | some rows,h=>by
  obtain ⟨l,hl⟩:=rows_map (f:=f) (rows:=rows) h
  exact ⟨some l,by rw [hl];rfl⟩
theorem oL {α:Type} {f:α→List D} {n t e c b:Nat} {ds:List D} (hu:Tryz.prog.underlying t=some (.slice e)) (hc:Tryz.prog.cellsOf e=c) (hb:Tryz.prog.bytesOf e=b) (he:∀ r,HasT Tryz.prog n e r→∃ x,r=f x) (h:HasT Tryz.prog (n+1) t ds):∃ o,ds=[dL c f o]∧(o.getD []).length*b≤140737488351232:=by
 obtain ⟨o,rfl,h1,h2⟩:=h.sl hu hc hb
 obtain ⟨q,rfl⟩:=opt_rows (f:=f) fun r hr=>he r (h2 r hr)
 refine ⟨q,rfl,?_⟩
 cases q with
 | none=>simp
 | some l=>simpa using h1
theorem o23 {n:Nat} {ds:List D} (h:HasT Tryz.prog (n+3) 25 ds):∃ o,ds=[dS o]∧(o.getD []).length*32≤140737488351232:=oL Tryz.underlying25 (by kernel_rfl) (by kernel_rfl) (fun _ h=>o87 h) h
end Go.VE
namespace Go.Proofs.YtaagapoglhndjaaGreatDoor
open Go.VE Go.RowKit Go.ChangeShapes Go.WideShapes
set_option maxRecDepth 100000
theorem own:ownKnob Tryz.prog.godebug=none:=by kernel_rfl
theorem laidOut:laidOutB Tryz.prog=true:=by kernel_rfl
abbrev laid7:List (String×DataW Unit):=[("math/bits.deBruijn32tab",Rows.laid_math_bits_deBruijn32tab),("math/bits.deBruijn64tab",Rows.laid_math_bits_deBruijn64tab),("internal/strconv.uint64pow10",Rows.laid_internal_strconv_uint64pow10),("unicode/utf8.acceptRanges",Rows.laid_unicode_utf8_acceptRanges),("strconv.ErrRange",Rows.laid_strconv_ErrRange),("strconv.ErrSyntax",Rows.laid_strconv_ErrSyntax),("unicode/utf8.first",Rows.laid_unicode_utf8_first)]
theorem door_met (os:Os) (args:Array Value):laidMetH Tryz.prog laid7 ((World.laidAll Tryz.prog os laid7).forCall (fun _ _=>0) ⟨#[],args,[]⟩).memory:=by
 rw [MakeChecks.laidMetH_plain _ _ _ (by kernel_rfl)]
 exact laidMet_laidAll _ (by kernel_rfl) (by kernel_rfl)
theorem iface_cell {W:World} {n nm:String} {d:DataW Unit} {g:Nat} {t:TypeId} {ms:Array (String×TypeId)} (hg:Tryz.prog.globalNamed n=some g) (ht:(Tryz.prog.globals[g]?).map (·.type)=some t) (hi:Tryz.prog.underlying t=some (.interface ms)) (h:Lib.VarReads Tryz.prog W n (.iface nm d)) :
  ∃ ev,W.cell? ⟨g,0,none⟩=some ev∧(ev=.nilIface∨∃ te pe,ev=.iface te pe):=by
 obtain ⟨g',t',cs,fuel,p,h1,h2,h3,h4⟩:=h
 obtain rfl:=Option.some.inj (hg.symm.trans h1)
 obtain rfl:=Option.some.inj (ht.symm.trans h2)
 obtain ⟨_,u,v,hcs,_⟩:=iface_of_trod hi h4
 refine ⟨.iface u v,?_,.inr ⟨u,v,rfl⟩⟩
 rw [World.var?_cell hg h3 0]
 obtain ⟨l⟩:=cs
 simp only at hcs
 subst hcs
 rfl
theorem laid_of {W:World} (hsh:W.ShapedOpen Tryz.prog) (hX:laidMetH Tryz.prog laid7 W):Laid W:=by
 rw [MakeChecks.laidMetH_plain _ _ _ (by kernel_rfl)] at hX
 refine ⟨Go.Proofs.cell_of_shapedOpen_int (t:=3) (zero:=#[.int .i64 0]) hsh (of_decide_eq_true (by kernel_rfl)) (by kernel_rfl) rfl (by kernel_rfl) (by kernel_rfl) Tryz.underlying3,?_,?_,?_⟩
 ·exact iface_cell (by kernel_rfl) (by kernel_rfl) Tryz.underlying114 (Lib.laidMet.reads hX (n := "strconv.ErrSyntax") (d:=Rows.laid_strconv_ErrSyntax) (by simp [laid7]))
 ·exact iface_cell (by kernel_rfl) (by kernel_rfl) Tryz.underlying114 (Lib.laidMet.reads hX (n := "strconv.ErrRange") (d:=Rows.laid_strconv_ErrRange) (by simp [laid7]))
 ·obtain ⟨g,t,cs,fuel,p,h1,h2,h3,h4⟩:=Lib.laidMet.reads hX (n := "internal/strconv.uint64pow10") (d:=Rows.laid_internal_strconv_uint64pow10) (by simp [laid7])
  obtain rfl:=Option.some.inj ((show Tryz.prog.globalNamed "internal/strconv.uint64pow10" = some 1 by kernel_rfl).symm.trans h1)
  obtain rfl:=Option.some.inj ((show (Tryz.prog.globals[1]?).map (·.type)=some 193 by kernel_rfl).symm.trans h2)
  have e:(Rows.laid_internal_strconv_uint64pow10:DataW Unit)=Lib.tabData .u64 Lib.pow10Tab:=by kernel_rfl
  rw [e] at h4
  have hc:=Lib.cells_of_tab Tryz.underlying193 Tryz.underlying180 (by kernel_rfl) (by kernel_rfl) h4
  show W.var? Tryz.prog _=_
  rw [h3,← hc]
theorem texts_calls (W:World) (args:Array Value) (vds:List VD) (hsh:W.ShapedOpen Tryz.prog) (hX:laidMetH Tryz.prog laid7 W) (h:VTs Tryz.prog 8 Tryz.f4.params.toList vds) (hv:VDF W (· < W.heap.size) vds args.toList) :
  Calls Tryz.prog 4 args W fun e W'=>e=.returned (.bool true)∧Below W.heap.size W W':=by
 have e:Tryz.f4.params.toList=[25,9]:=by kernel_rfl
 rw [e] at h
 obtain ⟨_,_,rfl,h1,h⟩:=VTs_cons h
 obtain ⟨_,_,rfl,h2,h⟩:=VTs_cons h
 cases VTs_nil h
 obtain ⟨_,rfl,k1⟩:=h1.sl_ Tryz.underlying25
 obtain ⟨_,rfl,k2⟩:=h2.str_ Tryz.underlying9
 obtain ⟨o,e1,_⟩:=o23 k1
 cases e1
 obtain ⟨s,e2,_⟩:=HasT.str Tryz.underlying9 k2
 cases e2
 simp only [VDF,VDR] at hv
 obtain ⟨v1,vs1,ha,d1,v2,vs2,hb,d2,rfl⟩:=hv
 subst hb
 simp only [DR] at d2
 obtain ⟨rfl,_⟩:=d2
 have hargs:args=#[v1,.string s]:=by rw [←Array.toArray_toList (xs:=args),ha]
 subst hargs
 have:=law4 o s.data.toList v1 W (laid_of hsh hX) d1
 rw [←bs_list] at this
 exact this
theorem bellTexts_lifted (os:Os) (started:os.Started) (H:Type) (enc:TypeId×Value→H) :
  ReturnsInHanded {} Tryz.checked os 4 .any (fun w args=>(Rows.bellTextsSpec.pre enc Tryz.prog Tryz.f4 [] false w args∧laidMetH Tryz.prog laid7 w)∧sizedMet enc Tryz.prog Tryz.f4 (OpenSpec.ofChange Rows.bellTextsSpec) false w args) (Rows.bellTextsSpec.post enc Tryz.prog Tryz.f4 false true false false) :=
 lawInY (C:=Tryz.checked) (n:=8) (tb:=4) (X:=fun w _=>laidMetH Tryz.prog laid7 w) (fun _ _ _ hh h=>h.of_heap hh) own started (by kernel_rfl) Tryz.func4
  (ChangeSpec.witness_shaped (enc:=enc) (C:=Tryz.checked) (os:=os) (X:=fun w _=>laidMetH Tryz.prog laid7 w) false (World.laidAll Tryz.prog os laid7) #[.slice none 0 0,.string ⟨#[]⟩] 8 rfl (World.shaped_of_ZipB (by kernel_rfl) (by kernel_rfl)) (by kernel_rfl) (by kernel_rfl) (by kernel_rfl) (door_met os _))
  laidOut (by kernel_rfl) (by kernel_rfl) Tryz.underlying4 rfl
  (fun ds hd=>by
   rw [show Tryz.f4.params.toList=[25,9] by kernel_rfl] at hd
   match ds,hd with
   | [a,b],_=>rfl)
  (fun W args vds hsh hX h hv=>texts_calls W args vds hsh hX h hv)
theorem bellTexts_row:Rows.BellTextsSaid :=
 OpenClaim.holds_of_wide 4 Tryz.f4 rfl rfl rfl rfl rfl rfl rfl ⟨rfl,rfl,rfl,rfl,rfl⟩ rfl rfl rfl rfl rfl (by kernel_rfl) Tryz.func4 (by kernel_rfl)
  (of_decide_eq_true (by kernel_rfl)) (by unfold Func.isWrapper;first | (rw [if_pos (by decide +kernel)];kernel_rfl) | (rw [if_neg (by decide +kernel)];exact ⟨rfl,rfl⟩))
  (fun os started H enc _=>bellTexts_lifted os started H enc)
theorem bellTexts_holds:Rows.BellTextsCardSaid :=
 Claim7.holds_tied_plain_at .later [] [.data,.data,.data,.data,.sentinel,.sentinel,.pinned] true (true, "5c3342c5e839ce39995c31901459fc6a2ea08d483f13d0648360b5ec8cfb9b65") true
  bellTexts_row (fun _ h=>by cases h) (by kernel_rfl) (fun _ h=>by cases h) bellTexts_row_tie rfl ⟨rfl,rfl⟩ (by kernel_rfl) rfl
  (fun f fn hf hfn=>by
   obtain rfl:f=4:=Option.some.inj ((show Tryz.prog.funcNamed "leazing/leazinglaw09.BellTexts" = some 4 by kernel_rfl).symm.trans hf) |>.symm
   obtain rfl:fn=Tryz.f4:=(Option.some.inj (Tryz.func4.symm.trans hfn)).symm
   exact ⟨by kernel_rfl,fun j t ht=>by
    rw [Tryz.params4] at ht
    have hm:t∈[25,9]:=by simpa using Array.mem_of_getElem? ht
    have hall:([25,9].all fun u=>!Tryz.prog.wantsStandIn u)=true:=by kernel_rfl
    exact (show Tryz.prog.wantsStandIn t=false by simpa using List.all_eq_true.1 hall t hm)⟩)
  (by kernel_rfl)
#print axioms bellTexts_holds
end Go.Proofs.YtaagapoglhndjaaGreatDoor
