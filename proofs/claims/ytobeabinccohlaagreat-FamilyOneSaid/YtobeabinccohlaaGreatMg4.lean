/- The statement FamilyOne: whatever the kin and the days are, no person is in Sure of two families, the least heads of all families together are at most as many as there are persons, and nobody gleans for a family of which some bond surely has the day. -/
import Derived.Test.YtobeabinccohlaaGreatMg3
import Derived.Test.YtobeabinccohlaaGreatMi
import Derived.Test.YtobeabinccohlaaGreatMt
import Derived.KernelRfl
import Derived.Test.YtobeabinccohlaaGreatMh
import Derived.Test.YtobeabinccohlaaGreatRows
namespace Go.VE
open Go.RowKit Go.Proofs
def wo9 (s:Int) (l:List E9):List E9:=l.filter fun e=>!decide (e.src=s)
def wo5 (s:Int) (l:List E5):List E5:=l.filter fun e=>!decide (e.src=s)
def wk9 (s:Int) (o:Option (List E9)):Option (List E9):=o.map (wo9 s)
def wk5 (s:Int) (o:Option (List E5)):Option (List E5):=o.map (wo5 s)
theorem wk9_none (s:Int):wk9 s none=none:=rfl
theorem wk5_none (s:Int):wk5 s none=none:=rfl
theorem wk9_getD (s:Int) (o:Option (List E9)):(wk9 s o).getD []=wo9 s (o.getD []):=by cases o<;>rfl
theorem wk5_getD (s:Int) (o:Option (List E5)):(wk5 s o).getD []=wo5 s (o.getD []):=by cases o<;>rfl
theorem len_wo9 (s:Int) (l:List E9):(wo9 s l).length≤l.length:=List.length_filter_le _ _
theorem len_wo5 (s:Int) (l:List E5):(wo5 s l).length≤l.length:=List.length_filter_le _ _
theorem mem_wo9 {s:Int} {l:List E9} {e:E9} (h:e∈wo9 s l):e∈l:=(List.mem_filter.1 h).1
theorem GoodK.wo {a b c:List E9} {o:List E5} (h:GoodK a b c o) (s:Int):GoodK (wo9 s a) (wo9 s b) (wo9 s c) (wo5 s o) :=
 ⟨fun e he=>h.fam e (mem_wo9 he),fun e he=>h.less e (mem_wo9 he),fun e he=>h.by0 e (mem_wo9 he),Nat.le_trans (len_wo9 ..) h.la,Nat.le_trans (len_wo9 ..) h.lb,Nat.le_trans (len_wo9 ..) h.lc,Nat.le_trans (len_wo5 ..) h.lo⟩
theorem s98 (n:Nat) (e:E9) (s:Int):FN (n+1) 98 (r9 e++[il s])=some (0,[.d (bl (decide (e.src=s)))]):=by
 rw [r9]
 simp only [List.cons_append,List.nil_append]
 rw [F98]
 simp only [G98,r_eql,r_out]
theorem d98 (n:Nat) (e:E9) (s:Int):FD (n+1) (.fn 98 [.dp [il s] 0]) [.agg 9] (r9 e)=some (0,[.d (bl (decide (e.src=s)))]) :=
 FD_fn [.agg 9,.ptr 1] [.agg (r9 e)] (by decide) rfl (by kernel_rfl) rfl (by kernel_rfl) (s98 n e s)
theorem s100 (n:Nat) (e:E9) (s:Int):FN (n+1) 100 (r9 e++[il s])=some (0,[.d (bl (decide (e.src=s)))]):=by
 rw [r9]
 simp only [List.cons_append,List.nil_append]
 rw [F100]
 simp only [G100,r_eql,r_out]
theorem d100 (n:Nat) (e:E9) (s:Int):FD (n+1) (.fn 100 [.dp [il s] 0]) [.agg 9] (r9 e)=some (0,[.d (bl (decide (e.src=s)))]) :=
 FD_fn [.agg 9,.ptr 1] [.agg (r9 e)] (by decide) rfl (by kernel_rfl) rfl (by kernel_rfl) (s100 n e s)
theorem s102 (n:Nat) (e:E9) (s:Int):FN (n+1) 102 (r9 e++[il s])=some (0,[.d (bl (decide (e.src=s)))]):=by
 rw [r9]
 simp only [List.cons_append,List.nil_append]
 rw [F102]
 simp only [G102,r_eql,r_out]
theorem d102 (n:Nat) (e:E9) (s:Int):FD (n+1) (.fn 102 [.dp [il s] 0]) [.agg 9] (r9 e)=some (0,[.d (bl (decide (e.src=s)))]) :=
 FD_fn [.agg 9,.ptr 1] [.agg (r9 e)] (by decide) rfl (by kernel_rfl) rfl (by kernel_rfl) (s102 n e s)
theorem s104 (n:Nat) (e:E5) (s:Int):FN (n+1) 104 (r5 e++[il s])=some (0,[.d (bl (decide (e.src=s)))]):=by
 rw [r5]
 simp only [List.cons_append,List.nil_append]
 rw [F104]
 simp only [G104,r_eql,r_out]
theorem d104 (n:Nat) (e:E5) (s:Int):FD (n+1) (.fn 104 [.dp [il s] 0]) [.agg 5] (r5 e)=some (0,[.d (bl (decide (e.src=s)))]) :=
 FD_fn [.agg 5,.ptr 1] [.agg (r5 e)] (by decide) rfl (by kernel_rfl) rfl (by kernel_rfl) (s104 n e s)
theorem w1000097 (n:Nat) (s:Int) (l:List E9) (hl:l.length*72≤140737488351232):∃ rest:Rr,FN (n+3) 1000097 [.sl 9 (l.map r9),.fn 98 [.dp [il s] 0]]=some (0,[.d (d9 (wk9 s (some l))),.d (.sl 9 rest)]):=by
 obtain ⟨rest,h⟩:=s1000097 (n+1) (.fn 98 [.dp [il s] 0]) (fun e=>decide (e.src=s)) l (by omega) (fun e _=>d98 n e s) (fun e _=>d98 (n+1) e s)
 refine ⟨rest,h.trans ?_⟩
 simp only [d9,wk9,wo9,Option.map_some,dSl]
theorem w1000099 (n:Nat) (s:Int) (l:List E9) (hl:l.length*72≤140737488351232):∃ rest:Rr,FN (n+3) 1000099 [.sl 9 (l.map r9),.fn 100 [.dp [il s] 0]]=some (0,[.d (d9 (wk9 s (some l))),.d (.sl 9 rest)]):=by
 obtain ⟨rest,h⟩:=s1000099 (n+1) (.fn 100 [.dp [il s] 0]) (fun e=>decide (e.src=s)) l (by omega) (fun e _=>d100 n e s) (fun e _=>d100 (n+1) e s)
 refine ⟨rest,h.trans ?_⟩
 simp only [d9,wk9,wo9,Option.map_some,dSl]
theorem w1000101 (n:Nat) (s:Int) (l:List E9) (hl:l.length*72≤140737488351232):∃ rest:Rr,FN (n+3) 1000101 [.sl 9 (l.map r9),.fn 102 [.dp [il s] 0]]=some (0,[.d (d9 (wk9 s (some l))),.d (.sl 9 rest)]):=by
 obtain ⟨rest,h⟩:=s1000101 (n+1) (.fn 102 [.dp [il s] 0]) (fun e=>decide (e.src=s)) l (by omega) (fun e _=>d102 n e s) (fun e _=>d102 (n+1) e s)
 refine ⟨rest,h.trans ?_⟩
 simp only [d9,wk9,wo9,Option.map_some,dSl]
theorem w1000103 (n:Nat) (s:Int) (l:List E5) (hl:l.length*40≤140737488351232):∃ rest:Rr,FN (n+3) 1000103 [.sl 5 (l.map r5),.fn 104 [.dp [il s] 0]]=some (0,[.d (d5 (wk5 s (some l))),.d (.sl 5 rest)]):=by
 obtain ⟨rest,h⟩:=s1000103 (n+1) (.fn 104 [.dp [il s] 0]) (fun e=>decide (e.src=s)) l (by omega) (fun e _=>d104 n e s) (fun e _=>d104 (n+1) e s)
 refine ⟨rest,h.trans ?_⟩
 simp only [d5,wk5,wo5,Option.map_some,dSl]
theorem if2 {α:Type} (p q:Prop) [Decidable p] [Decidable q] (x y:α):(if p then (if q then x else y) else y)=if p∧q then x else y:=by
 by_cases h1:p<;>by_cases h2:q<;>simp [h1,h2]
theorem if3 {α:Type} (p q r:Prop) [Decidable p] [Decidable q] [Decidable r] (x y:α):(if p then (if q then (if r then x else y) else y) else y)=if p∧q∧r then x else y:=by
 by_cases h1:p<;>by_cases h2:q<;>by_cases h3:r<;>simp [h1,h2,h3]
theorem if4 {α:Type} (p q r s:Prop) [Decidable p] [Decidable q] [Decidable r] [Decidable s] (x y:α):(if p then (if q then (if r then (if s then x else y) else y) else y) else y)=if p∧q∧r∧s then x else y:=by
 by_cases h1:p<;>by_cases h2:q<;>by_cases h3:r<;>by_cases h4:s<;>simp [h1,h2,h3,h4]
def noneHas (s:Int) (a b c:List E9) (o:List E5):Prop:=((wo9 s a).length:Int)=a.length∧((wo9 s b).length:Int)=b.length∧((wo9 s c).length:Int)=c.length∧((wo5 s o).length:Int)=o.length
instance (s:Int) (a b c:List E9) (o:List E5):Decidable (noneHas s a b c o):=by unfold noneHas;infer_instance
def lessF (s k:Int) (a b c:Option (List E9)) (o:Option (List E5)) (d:Int):Int→List Int:=famP (cnt9 k (wo9 s (a.getD []))) (cnt9 k (wo9 s (b.getD []))) (cnt9 k (wo9 s (c.getD []))) (cnt5 k (wo5 s (o.getD []))) d
def movL (s k:Int) (a b c:Option (List E9)) (o:Option (List E5)) (d:Int):Option (List Int):=(nzO (persL (a.getD []))).map (List.filter (difB (fk k a b c o d) (lessF s k a b c o d)))
theorem fo_less (s k:Int) (a b c:Option (List E9)) (o:Option (List E5)) (d:Int):fo (kn9 k (wk9 s a)) (kn9 k (wk9 s b)) (kn9 k (wk9 s c)) (kn5 k (wk5 s o)) d=lessF s k a b c o d:=by
 funext p;unfold fo lessF;rw [kn9_getD,kn9_getD,kn9_getD,kn5_getD,wk9_getD,wk9_getD,wk9_getD,wk5_getD]
set_option maxRecDepth 20000 in
set_option maxHeartbeats 4000000 in
theorem s39 (n:Nat) (s d k:Int) (a b c:Option (List E9)) (o:Option (List E5)) (ha:(a.getD []).length*72≤140737488351232) (hb:(b.getD []).length*72≤140737488351232) (hc:(c.getD []).length*72≤140737488351232) (ho:(o.getD []).length*40≤140737488351232) :
  FN (n+109) 39 [d9 a,d9 b,d9 c,d5 o,il s,il d,il k]=if askE (okKin (a.getD []) (b.getD []) (c.getD []) (o.getD [])) false false 0 0 [d,k]=0 then (if noneHas s (a.getD []) (b.getD []) (c.getD []) (o.getD []) then some (0,[.d (dI none),.d (il 3)]) else some (0,[.d (dI (movL s k a b c o d)),.d (il 0)])) else some (0,[.d (dI none),.d (il (askE (okKin (a.getD []) (b.getD []) (c.getD []) (o.getD [])) false false 0 0 [d,k]))]):=by
 rw [F39]
 have h73:=ask73 (n+98) 0 0 d k a b c o ha hb hc ho false false
 by_cases he:askE (okKin (a.getD []) (b.getD []) (c.getD []) (o.getD [])) false false 0 0 [d,k]=0
 ·rw [if_pos he]
  have g:=good_kn k he
  have gw:GoodK ((kn9 k (wk9 s a)).getD []) ((kn9 k (wk9 s b)).getD []) ((kn9 k (wk9 s c)).getD []) ((kn5 k (wk5 s o)).getD []):=by
   rw [kn9_getD,kn9_getD,kn9_getD,kn5_getD,wk9_getD,wk9_getD,wk9_getD,wk5_getD]
   exact ((good_of (askE_ok he)).wo s).cnt k
  have hla:=(okKin_len (askE_ok he)).1
  have h93:=k93 n a (d9 b) (d9 c) (d5 o) d (by omega) (askE_days he).1 g gw
  rw [fo_kn,fo_less] at h93
  have h94:=s94 (n+103) k (wk9 s a) (wk9 s b) (wk9 s c) (wk5 s o) (by rw [wk9_getD];have:=len_wo9 s (a.getD []);omega) (by rw [wk9_getD];have:=len_wo9 s (b.getD []);omega) (by rw [wk9_getD];have:=len_wo9 s (c.getD []);omega) (by rw [wk5_getD];have:=len_wo5 s (o.getD []);omega)
  have hp:∀ (a b c:Option (List E9)) (o:Option (List E5)) (q:List D→Out),(RP (n+108)).ptrW 4 (dKin a b c o) q=q [d9 a,d9 b,d9 c,d5 o]:=fun a b c o q=>r_ptrW _ 4 q rfl
  have hx:(nzO (persL (a.getD []))).map (List.filter (difB (fk k a b c o d) (lessF s k a b c o d)))=movL s k a b c o d:=rfl
  rw [hx] at h93
  generalize movL s k a b c o d=M at h93 ⊢
  have h96:=s96 (n+106) a b c o ha hb hc ho
  have hN:noneHas s (a.getD []) (b.getD []) (c.getD []) (o.getD [])=((((wk9 s a).getD []).length:Int)=(a.getD []).length∧(((wk9 s b).getD []).length:Int)=(b.getD []).length∧(((wk9 s c).getD []).length:Int)=(c.getD []).length∧(((wk5 s o).getD []).length:Int)=(o.getD []).length):=by
   rw [wk9_getD,wk9_getD,wk9_getD,wk5_getD];rfl
  simp only [hN]
  clear hN hx
  simp only [r_liti,r_litb,G39,r_call,r_rows,r_slD,h73,askR,he,if_true,r_bnd0,r_ld0,r_lds,r_neq,ne_eq,not_true_eq_false,decide_false,r_cond,Bool.false_eq_true,if_false,h96]
  clear h73 he g gw hla
  obtain ⟨_,ka⟩:=sk (w1000097 (n+105) s)
  obtain ⟨_,kb⟩:=sk (w1000099 (n+105) s)
  obtain ⟨_,kc⟩:=sk (w1000101 (n+105) s)
  obtain ⟨_,ko⟩:=sk (w1000103 (n+105) s)
  cases a<;>cases b<;>cases c<;>cases o<;>try simp only [wk9_none,wk5_none] at h94 h93
  all_goals
   try simp only [Option.getD_some] at ha hb hc ho
   simp only [Option.isSome_none,Option.isSome_some,ix96,↓r_bnd0,↓r_bndg,lv9,lv5]
   simp (disch:=first | exact ha | exact hb | exact hc | exact ho) only [r_call,s97n,s99n,s101n,s103n,ka,kb,kc,ko,wk9_none,wk5_none,r_bnd0,r_ld0,r_lds,r_lr0,r_lrs,r_len,r_eqN,if_true,r_out,r_fnD,r_dpD,r_rowsD,C39_0,len9,len5,r_eql,r_cond,decide_eq_true_eq,h94,hp,r_cell0,r_cells,h93,r_liti,r_litNil,true_and,and_true]
   first | rfl | exact if2 _ _ _ _ | exact if3 _ _ _ _ _ | exact if4 _ _ _ _ _ _
 ·rw [if_neg he]
  simp only [G39,r_call,r_liti,r_litb,r_rows,r_slD,h73,askR,if_neg he,r_bnd0,r_ld0,r_lds,r_neq,r_cond]
  rw [if_pos (by simpa using he)]
  simp [dI,dSl]
end Go.VE
namespace Go.VE
open Go.RowKit Go.Proofs
def kinA:Option (List E9):=some [⟨1,10,3,0,0,100,100,0,0⟩,⟨2,11,3,0,0,100,100,0,0⟩,⟨3,12,5,0,10,90,100,0,0⟩,⟨4,11,7,40,50,60,60,0,0⟩]
def kinB:Option (List E9):=some [⟨20,5,3,20,30,70,70,8,0⟩]
def kinC:Option (List E9):=some [⟨30,10,0,50,50,52,55,0,0⟩,⟨31,12,10,0,0,100,100,0,0⟩]
def kinO:Option (List E5):=some [⟨40,11,9,5,0⟩]
theorem s168 (n:Nat) (x:Int):FN (n+1) 168 [il x]=some (0,[.d (il x),.d (il x)]):=by rw [F168];simp [G168]
theorem s88 (n:Nat):FN (n+2) 88 []=some (0,[.d (d9 kinA),.d (d9 kinB),.d (d9 kinC),.d (d5 kinO)]):=by
 rw [F88]
 simp only [G88,r_call,r_liti,s168,r_bnd0,r_ld0,r_lds,r_natN,r_rows,r_len,List.length_cons,List.length_nil,r_eqN,if_true,r_seg0,r_slD,r_out,List.take_succ_cons,List.take_zero]
 simp [kinA,kinB,kinC,kinO,d9,d5,r9,r5,dSl]
theorem kA:(kinA.getD []).length*72≤140737488351232:=by decide
theorem kB:(kinB.getD []).length*72≤140737488351232:=by decide
theorem kC:(kinC.getD []).length*72≤140737488351232:=by decide
theorem kO:(kinO.getD []).length*40≤140737488351232:=by decide
theorem x1 (n:Nat):FN (n+110) 12 [d9 kinA,d9 kinB,d9 kinC,d5 kinO,il 11,il 45,il 9]=some (0,[.d (dI (some [3,7])),.d (il 0)]):=by
 rw [s12 (n+99) 11 45 9 kinA kinB kinC kinO kA kB kC kO,if_pos (by decide +kernel),show homesL 45 11 (cnt9 9 (kinA.getD []))=[3,7] by decide +kernel]
theorem x2 (n:Nat):FN (n+110) 14 [d9 kinA,d9 kinB,d9 kinC,d5 kinO,il 5,il 25,il 9]=some (0,[.d (dI (some [3,5])),.d (il 0)]):=by
 rw [s14 (n+5) 5 25 9 kinA kinB kinC kinO kA kB kC kO,if_pos (by decide +kernel),show leadsL 25 (cnt9 9 (kinB.getD [])) 5=[3,5] by decide +kernel]
theorem x3 (n:Nat):FN (n+110) 16 [d9 kinA,d9 kinB,d9 kinC,d5 kinO,il 12,il 51,il 9]=some (0,[.d (dI (some [0])),.d (il 0)]):=by
 rw [s16 (n+4) 12 51 9 kinA kinB kinC kinO kA kB kC kO,if_pos (by decide +kernel),show famL 9 kinA kinB kinC kinO 51 12=[0] by decide +kernel]
theorem x4 (n:Nat):FN (n+110) 18 [d9 kinA,d9 kinB,d9 kinC,d5 kinO,il 12,il 53,il 9]=some (0,[.d (il 2),.d (il 0)]):=by
 rw [s18 (n+3) 12 53 9 kinA kinB kinC kinO kA kB kC kO,if_pos (by decide +kernel),show gleansI (cnt9 9 (kinA.getD [])) (cnt9 9 (kinC.getD [])) (cnt5 9 (kinO.getD [])) 53 12=2 by decide +kernel]
theorem x5 (n:Nat):FN (n+110) 20 [d9 kinA,d9 kinB,d9 kinC,d5 kinO,il 11,il 7,il 55,il 9]=some (0,[.d (il 1),.d (il 0)]):=by
 rw [s20 (n+3) 11 7 55 9 kinA kinB kinC kinO kA kB kC kO,if_pos (by decide +kernel),show forI (famL 9 kinA kinB kinC kinO 55 11) 7=1 by decide +kernel]
theorem x6 (n:Nat):FN (n+110) 32 [d9 kinA,d9 kinB,d9 kinC,d5 kinO,il 3,il 35,il 9]=some (0,[.d (dI (some [10,11,12])),.d (il 0)]):=by
 rw [s32 n 3 35 9 kinA kinB kinC kinO kA kB kC kO,if_pos (by decide +kernel),show sureL 9 kinA kinB kinC kinO 35 3=some [10,11,12] by decide +kernel]
theorem x7 (n:Nat):FN (n+110) 29 [d9 kinA,d9 kinB,d9 kinC,d5 kinO,il 3,il 53,il 9]=some (0,[.d (il 0),.d (il 2),.d (il 0)]):=by
 rw [s29 n 3 53 9 kinA kinB kinC kinO kA kB kC kO,if_pos (by decide +kernel),show (((sureL 9 kinA kinB kinC kinO 53 3).getD []).length:Int)=0 by decide +kernel,show (((mayL 9 kinA kinB kinC kinO 53 3).getD []).length:Int)=2 by decide +kernel]
theorem x8 (n:Nat):FN (n+110) 39 [d9 kinA,d9 kinB,d9 kinC,d5 kinO,il 30,il 53,il 9]=some (0,[.d (dI (some [10,12])),.d (il 0)]):=by
 rw [s39 (n+1) 30 53 9 kinA kinB kinC kinO kA kB kC kO,if_pos (by decide +kernel),if_neg (by decide +kernel),show movL 30 9 kinA kinB kinC kinO 53=some [10,12] by decide +kernel]
theorem x9 (n:Nat):FN (n+110) 37 [d9 kinA,d9 kinB,d9 kinC,d5 kinO,il 10,il 4,il 9]=some (0,[.d (dI (some [11])),.d (il 0)]):=by
 rw [s37 (n+1) 10 4 9 kinA kinB kinC kinO kA kB kC kO,if_pos (by decide +kernel),show (nzO (persL (kinA.getD []))).map (List.filter (difB (fk 4 kinA kinB kinC kinO 10) (fk 9 kinA kinB kinC kinO 10)))=some [11] by decide +kernel]
theorem x10 (n:Nat):FN (n+110) 18 [d9 kinA,d9 kinB,d9 kinC,d5 kinO,il 11,il 10,il 9]=some (0,[.d (il 0),.d (il 0)]):=by
 rw [s18 (n+3) 11 10 9 kinA kinB kinC kinO kA kB kC kO,if_pos (by decide +kernel),show gleansI (cnt9 9 (kinA.getD [])) (cnt9 9 (kinC.getD [])) (cnt5 9 (kinO.getD [])) 10 11=0 by decide +kernel]
theorem same22 (n:Nat) (l:List Int) (hl:l.length≤100):FN (n+1) 22 [dI (some l),dI (some l)]=some (0,[.d (bl true)]):=by
 rw [s22 n (some l) (some l) (by simp only [Option.getD_some];omega)];simp
theorem a23 {Fn:Nat→List D→Out} {FnD:D→List Sh→List D→Out} {m:Nat} (A B C O L1 L2 L3 L6 L8 L9:D) (h88:Fn 88 []=some (0,[.d A,.d B,.d C,.d O]))
  (h1:Fn 12 [A,B,C,O,il 11,il 45,il 9]=some (0,[.d L1,.d (il 0)])) (h2:Fn 14 [A,B,C,O,il 5,il 25,il 9]=some (0,[.d L2,.d (il 0)])) (h3:Fn 16 [A,B,C,O,il 12,il 51,il 9]=some (0,[.d L3,.d (il 0)]))
  (h4:Fn 18 [A,B,C,O,il 12,il 53,il 9]=some (0,[.d (il 2),.d (il 0)])) (h5:Fn 20 [A,B,C,O,il 11,il 7,il 55,il 9]=some (0,[.d (il 1),.d (il 0)])) (h6:Fn 32 [A,B,C,O,il 3,il 35,il 9]=some (0,[.d L6,.d (il 0)]))
  (h7:Fn 29 [A,B,C,O,il 3,il 53,il 9]=some (0,[.d (il 0),.d (il 2),.d (il 0)])) (h8:Fn 39 [A,B,C,O,il 30,il 53,il 9]=some (0,[.d L8,.d (il 0)])) (h9:Fn 37 [A,B,C,O,il 10,il 4,il 9]=some (0,[.d L9,.d (il 0)]))
  (h10:Fn 18 [A,B,C,O,il 11,il 10,il 9]=some (0,[.d (il 0),.d (il 0)]))
  (q1:Fn 22 [L1,.sl 1 [[il 3],[il 7]]]=some (0,[.d (bl true)])) (q2:Fn 22 [L2,.sl 1 [[il 3],[il 5]]]=some (0,[.d (bl true)])) (q3:Fn 22 [L3,.sl 1 [[il 0]]]=some (0,[.d (bl true)])) (q6:Fn 22 [L6,.sl 1 [[il 10],[il 11],[il 12]]]=some (0,[.d (bl true)]))
  (q8:Fn 22 [L8,.sl 1 [[il 10],[il 12]]]=some (0,[.d (bl true)])) (q9:Fn 22 [L9,.sl 1 [[il 11]]]=some (0,[.d (bl true)])):G23 (real Fn FnD m)=some (0,[.d (bl true)]):=by
 simp only [G23,r_call,r_liti,h88,r_bnd0,r_ld0,r_lds,h1,h2,h3,h4,h5,h6,h7,h8,h9,h10,r_eql,decide_true,r_cond,if_true,r_rows,r_slD,r_eqs2,r_out,q1,q2,q3,q6,q8,q9,Bool.false_eq_true,if_false,and_self]
theorem s23 (n:Nat):FN (n+111) 23 []=some (0,[.d (bl true)]):=by
 rw [F23]
 exact a23 (d9 kinA) (d9 kinB) (d9 kinC) (d5 kinO) (dI (some [3,7])) (dI (some [3,5])) (dI (some [0])) (dI (some [10,11,12])) (dI (some [10,12])) (dI (some [11])) (s88 (n+108)) (x1 n) (x2 n) (x3 n) (x4 n) (x5 n) (x6 n) (x7 n) (x8 n) (x9 n) (x10 n)
  (same22 (n+109) [3,7] (by decide)) (same22 (n+109) [3,5] (by decide)) (same22 (n+109) [0] (by decide)) (same22 (n+109) [10,11,12] (by decide)) (same22 (n+109) [10,12] (by decide)) (same22 (n+109) [11] (by decide))
end Go.VE
namespace Go.VE
open Go.RowKit Go.Proofs
end Go.VE
namespace Go.VE
open Go.RowKit Go.Proofs
theorem s31 (n:Nat) (a:Option (List E9)) (b c o:D) (hl:(a.getD []).length≤1000000):FN (n+2) 31 [d9 a,b,c,o]=some (0,[.d (dI (nzO (persL (a.getD []))))]):=by
 rw [F31]
 simp only [G31,len9,r_liti,r_loop]
 by_cases hne:a.getD []=[]
 ·rw [hne]
  have h0:loopR [L31_0 (RP (n+1)),L31_1 (RP (n+1))] M0 0 [.d (d9 a),.d (il (([]:List E9).length:Int)),.d (il 0)]=some (0,[]) :=
   loop_ms (σ:=Unit) [L31_0 (RP (n+1)),L31_1 (RP (n+1))] (fun _=>(0,[.d (d9 a),.d (il (([]:List E9).length:Int)),.d (il 0)])) (fun _=>0) (fun _=>True) (fun _=>some (0,[])) (fun s k _ _=>⟨_,rfl,by simp [L31_0]⟩) M0 () trivial (by unfold M0;omega)
  rw [h0]
  rfl
 ·have hL:((a.getD []).map (·.a)).length=(a.getD []).length:=by simp
  have hat:∀ (i:Nat) (x:Int),((a.getD []).map (·.a))[i]?=some x→∃ e,(a.getD [])[i]?=some e∧e.a=x:=fun i x hi=>by
   rw [List.getElem?_map] at hi
   cases h0:(a.getD [])[i]? with
   | none=>rw [h0] at hi;simp at hi
   | some e=>rw [h0] at hi;exact ⟨e,rfl,by simpa using hi⟩
  have:=ins_nil ((a.getD []).map (·.a)) (by simpa using hl) (by simpa using hne) (L31_0 (RP (n+1))) (L31_1 (RP (n+1))) (fun i=>[.d (d9 a),.d (il (a.getD []).length),.d (il (i:Nat))])
   (fun i acc=>[.d (dI (some acc)),.d (d9 a),.d (il (a.getD []).length),.d (il (i:Nat))]) (fun acc=>some (1,[.d (dI (some acc))])) ?_ ?_ ?_
  ·rw [show il 0=il ((0:Nat):Int) from rfl,this,nzO_ne (persL_ne hne)]
   simp [persL]
  ·intro acc k
   rw [hL]
   simp [L31_1]
  ·intro x k hi hlt
   rw [hL] at hlt
   obtain ⟨e,he,rfl⟩:=hat _ _ hi
   have h9:=row9 (Fn:=FN (n+1)) (FnD:=FnDof Tryz.prog (cf3 tb Tryz.prog) (FN (n+1))) (m:=M0) he
   simp only [L31_0,r_ld0,r_lds,r_lss,r_cond,Int.natCast_zero,hlt,decide_true,if_true]
   rw [show ((il 0):D)=il ((0:Nat):Int) from rfl,h9]
   simp only [r9,r_cell0,r_cells,r_call,r_litNil,nil92,r_bnd0,r_ld0,r_liti,r_add,Int.natCast_zero]
   rw [show IntKind.i64.wrap (0+1)=((1:Nat):Int) from rfl]
  ·intro i x acc k hi hlt hw hu hal
   rw [hL] at hlt
   obtain ⟨e,he,rfl⟩:=hat _ _ hi
   have hput:=s92 n (some acc) e.a (by simp only [Option.getD_some];omega) hu
   simp only [Option.getD_some] at hput
   simp only [L31_1,r_ld0,r_lds,r_lss,r_cond,hlt,decide_true,if_true,row9 he,r9,r_cell0,r_cells,r_call,hput,r_bnd0,r_liti,r_add,hw]
section
variable {a b c:List E9} {o:List E5} (n:Nat) (f d x3 p:Int) (hd:0≤d∧d≤4166) (g:GoodK a b c o) (P:List Int) (hP:P.length≤1000000)
include hd g hP
end
end Go.VE
namespace Go.VE
open Go.RowKit Go.Proofs
section
variable {a b c a' b' c':List E9} {o o':List E5} (n:Nat) (d:Int) (hd:0≤d∧d≤4166) (g:GoodK a b c o) (g':GoodK a' b' c' o') (P:List Int) (hP:P.length≤1000000)
include hd g g' hP
end
section
variable (n:Nat) (p f d k l:Int) (a b c:Option (List E9)) (o:Option (List E5)) (ha:(a.getD []).length*72≤140737488351232) (hb:(b.getD []).length*72≤140737488351232) (hc:(c.getD []).length*72≤140737488351232) (ho:(o.getD []).length*40≤140737488351232)
include ha hb hc ho
end
end Go.VE
namespace Go.VE
open Go.RowKit Go.Shelf Go.Proofs
set_option maxRecDepth 100000
def rho:Ren:=⟨fun x=>if x=21 then 159 else if x=27 then 212 else if x=28 then 213 else if x=35 then 217 else if x=39 then 220 else 0,fun x=>if x=22 then 30 else x,fun x=>x⟩
theorem lays21:Lays2.n21 Tryz.prog rho where
 mixed:=by kernel_rfl
 f21:=by kernel_rfl
 f27:=by kernel_rfl
 f28:=by kernel_rfl
 f35:=by kernel_rfl
 f39:=by kernel_rfl
 t0:=by kernel_rfl
 a0:=fun w=>by kernel_rfl
 z0:=fun w=>by kernel_rfl
 v0:=fun w=>by kernel_rfl
 t3:=by kernel_rfl
 a3:=fun w=>by kernel_rfl
 z3:=fun w=>by kernel_rfl
 v3:=fun w=>by kernel_rfl
 t4:=by kernel_rfl
 a4:=fun w=>by kernel_rfl
 z4:=fun w=>by kernel_rfl
 v4:=fun w=>by kernel_rfl
 t22:=by kernel_rfl
 a22:=fun w=>by kernel_rfl
 z22:=fun w=>by kernel_rfl
 v22:=fun w=>by kernel_rfl
 i3:=by kernel_rfl
theorem spOK:SpOK Tryz.prog (cf3 tb Tryz.prog):=by
 intro f p h
 by_cases hf:f=159
 ·subst hf
  have e:(cf3 tb Tryz.prog).sp 159=some (1,3,8):=by kernel_rfl
  rw [e] at h
  cases h
  exact insC_int lays21
 ·exfalso
  have e:(cf3 tb Tryz.prog).sp f=none:=by
   show spT f=none
   unfold spT
   split
   ·exact absurd rfl hf
   ·rfl
  rw [e] at h
  cases h
end Go.VE
namespace Go.VE
open Go.RowKit Go.Proofs Go.Proofs.YtobeabinccohlaaGreat
set_option maxRecDepth 100000
theorem mixP:Tryz.prog.follows .mixedOrders=true:=lays21.mixed
theorem FN_ok (n:Nat):FnOK Tryz.prog (cf3 tb Tryz.prog) (FN n):=FnT_ok mixP spOK n
theorem FN_okM (n:Nat):FmOK Tryz.prog (cf3 tb Tryz.prog) (FN n):=FnT_okM mixP spOK n
theorem own:ownKnob Tryz.prog.godebug=none:=by kernel_rfl
theorem laidOut:laidOutB Tryz.prog=true:=by kernel_rfl
theorem o3 {n:Nat} {ds:List D} (h:HasT Tryz.prog (n+1) 3 ds):∃ z,ds=[il z]∧-9223372036854775808≤z∧z≤9223372036854775807:=h.int Tryz.underlying3
theorem o47 {n:Nat} {ds:List D} (h:HasT Tryz.prog (n+2) 47 ds):∃ a b,ds=[il a,il b]:=by
 obtain ⟨a,b,rfl,h1,c,d,rfl,h2,rfl⟩:=h.struct Tryz.underlying47 rfl
 obtain ⟨x,rfl,_⟩:=o3 h1
 obtain ⟨y,rfl,_⟩:=o3 h2
 exact ⟨x,y,rfl⟩
theorem oE9 {n:Nat} {ds:List D} (h:HasAll (HasT Tryz.prog (n+2)) [3,3,3,47,47,3,3] ds):∃ e:E9,ds=r9 e:=by
 obtain ⟨a1,b1,rfl,h1,a2,b2,rfl,h2,a3,b3,rfl,h3,a4,b4,rfl,h4,a5,b5,rfl,h5,a6,b6,rfl,h6,a7,b7,rfl,h7,rfl⟩:=h
 obtain ⟨x1,rfl,_⟩:=o3 h1
 obtain ⟨x2,rfl,_⟩:=o3 h2
 obtain ⟨x3,rfl,_⟩:=o3 h3
 obtain ⟨y1,y2,rfl⟩:=o47 h4
 obtain ⟨z1,z2,rfl⟩:=o47 h5
 obtain ⟨x6,rfl,_⟩:=o3 h6
 obtain ⟨x7,rfl,_⟩:=o3 h7
 exact ⟨⟨x1,x2,x3,y1,y2,z1,z2,x6,x7⟩,rfl⟩
theorem o82 {n:Nat} {ds:List D} (h:HasT Tryz.prog (n+3) 82 ds):∃ e:E5,ds=r5 e:=by
 obtain ⟨a1,b1,rfl,h1,a2,b2,rfl,h2,a3,b3,rfl,h3,a4,b4,rfl,h4,a5,b5,rfl,h5,rfl⟩:=h.struct Tryz.underlying82 rfl
 obtain ⟨x1,rfl,_⟩:=o3 h1
 obtain ⟨x2,rfl,_⟩:=o3 h2
 obtain ⟨x3,rfl,_⟩:=o3 h3
 obtain ⟨x4,rfl,_⟩:=o3 h4
 obtain ⟨x5,rfl,_⟩:=o3 h5
 exact ⟨⟨x1,x2,x3,x4,x5⟩,rfl⟩
theorem opt_rows {α:Type} {f:α→List D}:∀ {o:Option Rr},(∀ r∈o.getD [],∃ c,r=f c)→∃ q:Option (List α),o=q.map (·.map f)
 | none,_=>⟨none,rfl⟩
 | some rows,h=>by
  obtain ⟨l,hl⟩:=rows_map (f:=f) (rows:=rows) h
  exact ⟨some l,by rw [hl];rfl⟩
theorem oList9 {n t e:Nat} {ds:List D} (hu:Tryz.prog.underlying t=some (.slice e)) (hc:Tryz.prog.cellsOf e=9) (hb:Tryz.prog.bytesOf e=72) (he:∀ r,HasT Tryz.prog (n+3) e r→∃ x:E9,r=r9 x) (h:HasT Tryz.prog (n+4) t ds):∃ o:Option (List E9),ds=[d9 o]∧(o.getD []).length*72≤140737488351232:=by
 obtain ⟨o,rfl,h1,h2⟩:=h.sl hu hc hb
 obtain ⟨q,rfl⟩:=opt_rows (f:=r9) fun r hr=>he r (h2 r hr)
 refine ⟨q,rfl,?_⟩
 cases q with
 | none=>simp
 | some l=>simpa using h1
theorem o50 {n:Nat} {r:List D} (h:HasT Tryz.prog (n+3) 50 r):∃ x:E9,r=r9 x:=oE9 (h.struct Tryz.underlying50 rfl)
theorem o52 {n:Nat} {r:List D} (h:HasT Tryz.prog (n+3) 52 r):∃ x:E9,r=r9 x:=oE9 (h.struct Tryz.underlying52 rfl)
theorem o54 {n:Nat} {r:List D} (h:HasT Tryz.prog (n+3) 54 r):∃ x:E9,r=r9 x:=oE9 (h.struct Tryz.underlying54 rfl)
theorem o25 {n:Nat} {ds:List D} (h:HasT Tryz.prog (n+4) 25 ds):∃ o:Option (List E5),ds=[d5 o]∧(o.getD []).length*40≤140737488351232:=by
 obtain ⟨o,rfl,h1,h2⟩:=h.sl (c:=5) (b:=40) Tryz.underlying25 (by kernel_rfl) (by kernel_rfl)
 obtain ⟨q,rfl⟩:=opt_rows (f:=r5) fun r hr=>o82 (h2 r hr)
 refine ⟨q,rfl,?_⟩
 cases q with
 | none=>simp
 | some l=>simpa using h1
theorem o27 {n:Nat} {ds:List D} (h:HasT Tryz.prog (n+5) 27 ds):∃ (a b c:Option (List E9)) (o:Option (List E5)),ds=[d9 a,d9 b,d9 c,d5 o]∧(a.getD []).length*72≤140737488351232∧(b.getD []).length*72≤140737488351232∧(c.getD []).length*72≤140737488351232∧(o.getD []).length*40≤140737488351232:=by
 obtain ⟨a1,b1,rfl,h1,a2,b2,rfl,h2,a3,b3,rfl,h3,a4,b4,rfl,h4,rfl⟩:=h.struct Tryz.underlying27 rfl
 obtain ⟨a,rfl,ha⟩:=oList9 Tryz.underlying22 (by kernel_rfl) (by kernel_rfl) (fun r hr=>o50 hr) h1
 obtain ⟨b,rfl,hb⟩:=oList9 Tryz.underlying23 (by kernel_rfl) (by kernel_rfl) (fun r hr=>o52 hr) h2
 obtain ⟨c,rfl,hc⟩:=oList9 Tryz.underlying24 (by kernel_rfl) (by kernel_rfl) (fun r hr=>o54 hr) h3
 obtain ⟨o,rfl,ho⟩:=o25 h4
 exact ⟨a,b,c,o,rfl,ha,hb,hc,ho⟩
end Go.VE
namespace Go.VE
open Go.RowKit Go.Proofs
def sureQ (k:Int) (a b c:Option (List E9)) (o:Option (List E5)) (d f:Int):List Int:=(persL (cnt9 k (a.getD []))).filter fun q=>decide (forI (famL k a b c o d q) f=1)
theorem sureL_Q (k:Int) (a b c:Option (List E9)) (o:Option (List E5)) (d f:Int):(sureL k a b c o d f).getD []=sureQ k a b c o d f:=map_getD
theorem forI_one {l:List Int} {f:Int} (h:forI l f=1):l=[f]:=by
 unfold forI at h
 split at h
 ·rename_i hm
  split at h
  ·cases h
  ·rename_i hl
   cases l with
   | nil=>simp at hm
   | cons x r =>
    cases r with
    | nil=>simp at hm;rw [hm]
    | cons y r=>simp at hl
 ·cases h
theorem mem_sureQ {k:Int} {a b c:Option (List E9)} {o:Option (List E5)} {d f p:Int} (h:p∈sureQ k a b c o d f):p∈persL (cnt9 k (a.getD []))∧famL k a b c o d p=[f]:=by
 unfold sureQ at h
 rw [List.mem_filter] at h
 exact ⟨h.1,forI_one (of_decide_eq_true h.2)⟩
theorem up_sureQ (k:Int) (a b c:Option (List E9)) (o:Option (List E5)) (d f:Int):Up (sureQ k a b c o d f):=List.Pairwise.filter _ (up_persL _)
theorem len_sureQ (k:Int) (a b c:Option (List E9)) (o:Option (List E5)) (d f:Int) (h:(a.getD []).length≤60):(sureQ k a b c o d f).length≤60:=by
 have h1:=List.length_filter_le (fun q=>decide (forI (famL k a b c o d q) f=1)) (persL (cnt9 k (a.getD [])))
 have h2:=len_persL (cnt9 k (a.getD []))
 have h3:=len_cnt9 k (a.getD [])
 unfold sureQ;omega
def allS (S:Int→List Int):Nat→List Int
 | 0=>[]
 | t+1=>allS S t++S ((t:Int)+1)
theorem mem_allS (S:Int→List Int) (p:Int):∀ t,p∈allS S t↔∃ g:Nat,g < t∧p∈S ((g:Int)+1)
 | 0=>by simp [allS]
 | t+1=>by
  rw [allS,List.mem_append,mem_allS S p t]
  constructor
  ·rintro (⟨g,h1,h2⟩ | h)
   ·exact ⟨g,by omega,h2⟩
   ·exact ⟨t,by omega,h⟩
  ·rintro ⟨g,h1,h2⟩
   by_cases h:g=t
   ·subst h;exact .inr h2
   ·exact .inl ⟨g,by omega,h2⟩
theorem len_allS (S:Int→List Int) (hS:∀ f,(S f).length≤60):∀ t,(allS S t).length≤60*t
 | 0=>by simp [allS]
 | t+1=>by
  have:=len_allS S hS t
  have:=hS ((t:Int)+1)
  rw [allS,List.length_append];omega
theorem up_nodup {l:List Int} (h:Up l) {i:Nat} {c:Int} (hc:l[i]?=some c):c∉l.take i:=by
 intro hm
 obtain ⟨j,hj⟩:=List.getElem?_of_mem hm
 rw [List.getElem?_take] at hj
 split at hj
 ·rename_i hji
  have:=List.pairwise_iff_getElem.1 h j i (by have:=(List.getElem?_eq_some_iff.1 hj).1;exact this) (by have:=(List.getElem?_eq_some_iff.1 hc).1;exact this) hji
  have h1:=(List.getElem?_eq_some_iff.1 hj).2
  have h2:=(List.getElem?_eq_some_iff.1 hc).2
  omega
 ·cases hj
theorem opts_sure {d who:Int}:∀ {l:List E9} {e:E9},e∈l→e.a=who→mayB e.f1 e.t2 d=true→sureB e.f2 e.t1 d=true→none∉opts d who l
 | [],e,he,_,_,_=>by simp at he
 | x::r,e,he,h1,h2,h3=>by
  rw [opts]
  by_cases hx:x.a=who∧mayB x.f1 x.t2 d=true
  ·rw [if_pos hx]
   by_cases hs:sureB x.f2 x.t1 d=true
   ·rw [if_pos hs];simp
   ·rw [if_neg hs]
    rcases List.mem_cons.1 he with rfl | he
    ·exact absurd h3 hs
    ·have:=opts_sure he h1 h2 h3
     simpa using this
  ·rw [if_neg hx]
   rcases List.mem_cons.1 he with rfl | he
   ·exact absurd ⟨h1,h2⟩ hx
   ·exact opts_sure he h1 h2 h3
theorem mem_below_all {l:List E9} {e:E9} (h:e∈l):e∈below l l.length:=by unfold below;simpa using h
theorem leads_bound {d F:Int} {l:List E9} (hl:Less l) (hn:none∉opts d F (below l l.length)):∀ (n:Nat) (f:Int),f.toNat≤n→1≤f→F∉leadsL d l f:=by
 intro n
 induction n with
 | zero=>intro f h1 h2;omega
 | succ n ih =>
  intro f h1 h2 h
  rcases (mem_leadsL hl h2).1 h with ⟨h3,h4⟩ | ⟨w,hw,h3⟩
  ·subst h4;exact hn h3
  ·have:=opts_less hl hw
   exact ih w (by omega) this.1 h3
theorem bound_none {a b c:List E9} {o:List E5} {d p:Int} {e:E9} (g:GoodK a b c o) (he:e∈b) (h1:mayB e.f1 e.t2 d=true) (h2:sureB e.f2 e.t1 d=true):e.a∉famP a b c o d p:=by
 intro h
 have hb:=g.less e he
 rcases mem_famP.1 h with ⟨h0,_⟩ | ⟨_,h,hh,h0,hl⟩
 ·omega
 ·have:=homes_range g.fam hh
  exact leads_bound g.less (opts_sure (mem_below_all he) rfl h1 h2) _ h (Nat.le_refl _) (by omega) hl
theorem s30 (n:Nat) (a b:Option (List Int)) (ha:(a.getD []).length≤4611686018427387904) (hb:(b.getD []).length≤4611686018427387904):FN (n+2) 30 [dI a,dI b]=some (0,[.d (bl ((a.getD []).all fun x=>decide (x∈b.getD [])))]):=by
 rw [F30]
 simp only [G30,lenI,r_liti,r_loop]
 have:=range_loop (β:=Unit) (a.getD []) ha (L30_0 (RP (n+1))) (fun i _=>[.d (dI b),.d (dI a),.d (il (a.getD []).length),.d (il i)]) (fun _ _=>True)
  (fun _ r _=>if r.all (fun x=>decide (x∈b.getD []))=true then some (0,[]) else some (1,[.d (bl false)]))
  (fun _ k _=>by simp [L30_0]) ?_ M0 () trivial (M0_big ha)
 ·simp only [Int.natCast_zero] at this
  rw [this]
  by_cases h:(a.getD []).all (fun x=>decide (x∈b.getD []))=true
  ·rw [if_pos h,h];simp
  ·rw [if_neg h]
   have:(a.getD []).all (fun x=>decide (x∈b.getD []))=false:=by simpa using h
   rw [this];simp
 ·intro i e r _ k hi hd hlt hw _ ih
  have ih':=ih () trivial
  have hlt':(i:Int) < ((a.getD []).length:Int):=by omega
  simp only [L30_0,r_ld0,r_lds,r_lss,r_cond,hlt',decide_true,if_true,rowI hi,rI,r_cell0,r_call,s41 n b e hb,r_bnd0,r_not,r_liti,r_add,hw,r_litb,r_out,List.all_cons]
  by_cases h:e∈b.getD []
  ·simp only [h,decide_true,Bool.not_true,Bool.false_eq_true,if_false,Bool.true_and]
   exact ih'
  ·simp [h]
end Go.VE
namespace Go.VE
open Go.RowKit Go.Proofs
set_option maxRecDepth 20000 in
theorem i6_3 (n:Nat) (x0 x1 x2 x3 x4 x5:D) (f:Int) (S:Option (List Int)) (acc:List Int) (hu:Up (S.getD [])) (hdj:∀ p∈S.getD [],p∉acc) (hS:(S.getD []).length≤1000) (ha:acc.length≤1000000) :
  loopR [L6_3 (RP (n+1))] M0 0 [.d x0,.d x1,.d x2,.d x3,.d x4,.d x5,.n acc.length,.n acc.length,.d (il f),.d (dI S),.d (il (S.getD []).length),.d (il 0),.r (acc.map rI)] =
   some (1,[.d x0,.d x1,.d x2,.d x3,.d x4,.d x5,.n (acc++S.getD []).length,.n (acc++S.getD []).length,.d (il f),.r ((acc++S.getD []).map rI)]):=by
 have:=range_loop (β:=Unit) (S.getD []) (by omega) (L6_3 (RP (n+1))) (fun i _=>[.d x0,.d x1,.d x2,.d x3,.d x4,.d x5,.n (acc++(S.getD []).take i).length,.n (acc++(S.getD []).take i).length,.d (il f),.d (dI S),.d (il (S.getD []).length),.d (il i),.r ((acc++(S.getD []).take i).map rI)]) (fun _ _=>True)
  (fun _ _ _=>some (1,[.d x0,.d x1,.d x2,.d x3,.d x4,.d x5,.n (acc++S.getD []).length,.n (acc++S.getD []).length,.d (il f),.r ((acc++S.getD []).map rI)]))
  (fun _ k _=>by rw [List.take_length];simp [L6_3]) ?_ M0 () trivial (by unfold M0;omega)
 ·simpa using this
 ·intro i c r _ k hi hd hlt hw _ ih
  have ih':=ih () trivial
  have hlt':(i:Int) < ((S.getD []).length:Int):=by omega
  have ht:(S.getD []).take (i+1)=(S.getD []).take i++[c]:=by rw [List.take_add_one,hi];rfl
  have hnm:c∉acc++(S.getD []).take i:=fun h=>by
   rcases List.mem_append.1 h with h | h
   ·exact hdj c (List.mem_of_getElem? hi) h
   ·exact up_nodup hu hi h
  rw [ht,← List.append_assoc] at ih'
  generalize hA:acc++(S.getD []).take i=A at hnm ih' ⊢
  have hAl:A.length≤1001000:=by rw [←hA,List.length_append,List.length_take];omega
  have h41:=s41 n (some A) c (by simp only [Option.getD_some];omega)
  simp only [Option.getD_some,hnm,decide_false] at h41
  simp only [L6_3,r_ld0,r_lds,r_ln0,r_lns,r_lr0,r_lrs,r_lss,r_cond,hlt',decide_true,if_true,rowI hi,rI,r_cell0,r_len,r_eqN,List.length_map,r_slD,r_seg0,r_call]
  rw [dI_take A,h41]
  simp only [r_bnd0,r_ld0,r_litsg,List.all_cons,List.all_nil,yl_b,Bool.and_true,if_true,r_cond,Bool.false_eq_true,if_false,r_natN,r_rows,List.length_cons,List.length_nil,List.take_succ_cons,List.take_zero,r_fitsg,r_addN,r_liti,r_add,hw,r_app]
  rw [if_pos (by simp [];omega)]
  refine Eq.trans ?_ ih'
  simp [rI]
set_option maxRecDepth 20000 in
theorem i6_1 (n:Nat) (x0 x1 x2 x3 x4 x5:D) (f:Int) (S:Option (List Int)) (hu:Up (S.getD [])) (hS:(S.getD []).length≤1000) (hne:S.getD []≠[]) :
  loopR [L6_0 (RP (n+1)),L6_1 (RP (n+1))] M0 0 [.d x0,.d x1,.d x2,.d x3,.d x4,.d x5,.d (il f),.d (dI S),.d (il (S.getD []).length),.d (il 0)] =
   some (2,[.d x0,.d x1,.d x2,.d x3,.d x4,.d x5,.n (S.getD []).length,.n (S.getD []).length,.d (il f),.r ((S.getD []).map rI)]):=by
 have:=loop_ms (σ:=Nat) [L6_0 (RP (n+1)),L6_1 (RP (n+1))] (fun i=>if i=0 then (0,[.d x0,.d x1,.d x2,.d x3,.d x4,.d x5,.d (il f),.d (dI S),.d (il (S.getD []).length),.d (il 0)]) else (1,[.d x0,.d x1,.d x2,.d x3,.d x4,.d x5,.n ((S.getD []).take i).length,.n ((S.getD []).take i).length,.d (il f),.d (dI S),.d (il (S.getD []).length),.d (il i),.r (((S.getD []).take i).map rI)]))
  (fun i=>(S.getD []).length - i) (fun i=>i≤(S.getD []).length) (fun _=>some (2,[.d x0,.d x1,.d x2,.d x3,.d x4,.d x5,.n (S.getD []).length,.n (S.getD []).length,.d (il f),.r ((S.getD []).map rI)])) ?_ M0 0 (by omega) (by unfold M0;omega)
 ·simpa using this
 ·intro i k hi ih
  have hpos:0 < (S.getD []).length:=by cases h:S.getD [] with
   | nil=>exact absurd h hne
   | cons _ _=>simp
  by_cases h0:i=0
  ·subst h0
   refine ⟨L6_0 (RP (n+1)),rfl,?_⟩
   have ih':=ih 1 (by omega) (by omega)
   obtain ⟨c,hc⟩:∃ c,(S.getD [])[0]?=some c:=⟨_,List.getElem?_eq_getElem hpos⟩
   have ht:(S.getD []).take 1=[c]:=by
    cases h:S.getD [] with
    | nil=>exact absurd h hne
    | cons y r=>rw [h] at hc;simp at hc;subst hc;rfl
   have hlt':(0:Int) < ((S.getD []).length:Int):=by omega
   have h41:=s41 n none c (by simp)
   simp only [Option.getD_none,List.not_mem_nil,decide_false] at h41
   rw [show dI none=.lit (.slice none 0 0) from rfl] at h41
   have hr:=rowI (Fn:=FN (n+1)) (FnD:=FnDof Tryz.prog (cf3 tb Tryz.prog) (FN (n+1))) (m:=M0) hc
   rw [if_neg (by omega),ht] at ih'
   simp only [if_true,L6_0,r_ld0,r_lds,r_lss,r_cond,hlt',decide_true]
   rw [show ((il 0):D)=il ((0:Nat):Int) from rfl,hr]
   simp only [rI,r_cell0,r_call,r_litNil,h41,r_bnd0,r_ld0,r_cond,Bool.false_eq_true,if_false,r_natN,r_rows,r_len,List.length_cons,List.length_nil,r_eqN,r_seg0,List.take_succ_cons,List.take_zero,r_isNil1,r_fitsg,r_liti,r_add,Int.natCast_zero]
   rw [if_pos (by simp),if_pos (by simp []),show IntKind.i64.wrap (0+1)=((1:Nat):Int) from rfl]
   exact ih'
  ·refine ⟨L6_1 (RP (n+1)),by simp [h0],?_⟩
   simp only [h0,if_false]
   by_cases hl:i < (S.getD []).length
   ·have ih':=ih (i+1) (by omega) (by omega)
    obtain ⟨c,hc⟩:∃ c,(S.getD [])[i]?=some c:=⟨_,List.getElem?_eq_getElem hl⟩
    have hlt':(i:Int) < ((S.getD []).length:Int):=by omega
    have ht:(S.getD []).take (i+1)=(S.getD []).take i++[c]:=by rw [List.take_add_one,hc];rfl
    have hnm:c∉(S.getD []).take i:=up_nodup hu hc
    have hw:IntKind.i64.wrap ((i:Int)+1)=((i+1:Nat):Int):=by rw [wrap_id (by omega) (by omega)];simp
    rw [if_neg (by omega),ht] at ih'
    generalize hA:(S.getD []).take i=A at hnm ih' ⊢
    have hAl:A.length≤1001000:=by rw [←hA,List.length_take];omega
    have h41:=s41 n (some A) c (by simp only [Option.getD_some];omega)
    simp only [Option.getD_some,hnm,decide_false] at h41
    simp only [L6_1,r_ld0,r_lds,r_ln0,r_lns,r_lr0,r_lrs,r_lss,r_cond,hlt',decide_true,if_true,rowI hc,rI,r_cell0,r_len,r_eqN,List.length_map,r_slD,r_seg0,r_call]
    rw [dI_take A,h41]
    simp only [r_bnd0,r_ld0,r_litsg,List.all_cons,List.all_nil,yl_b,Bool.and_true,if_true,r_cond,Bool.false_eq_true,if_false,r_natN,r_rows,List.length_cons,List.length_nil,List.take_succ_cons,List.take_zero,r_fitsg,r_addN,r_liti,r_add,hw,r_app]
    rw [if_pos (by simp [];omega)]
    refine Eq.trans ?_ ih'
    simp [rI]
   ·have:i=(S.getD []).length:=by omega
    subst this
    rw [List.take_length]
    simp [L6_1]
theorem i6_0 (n:Nat) (x0 x1 x2 x3 x4 x5:D) (f:Int) (S:Option (List Int)) (he:S.getD []=[]) :
  loopR [L6_0 (RP (n+1)),L6_1 (RP (n+1))] M0 0 [.d x0,.d x1,.d x2,.d x3,.d x4,.d x5,.d (il f),.d (dI S),.d (il (S.getD []).length),.d (il 0)]=some (1,[.d x0,.d x1,.d x2,.d x3,.d x4,.d x5,.d (il f)]) :=
 loop_ms (σ:=Unit) [L6_0 (RP (n+1)),L6_1 (RP (n+1))] (fun _=>(0,[.d x0,.d x1,.d x2,.d x3,.d x4,.d x5,.d (il f),.d (dI S),.d (il (S.getD []).length),.d (il 0)])) (fun _=>0) (fun _=>True) (fun _=>some (1,[.d x0,.d x1,.d x2,.d x3,.d x4,.d x5,.d (il f)])) (fun s k _ _=>⟨_,rfl,by rw [he];simp [L6_0]⟩) M0 () trivial (by unfold M0;omega)
def en6 (x0 x1 x2 x3 x4 x5:D) (t:Nat) (A:List Int):Nat×List Yr:=if A=[] then (0,[.d x0,.d x1,.d x2,.d x3,.d x4,.d x5,.d (il ((t:Int)+1))]) else (1,[.d x0,.d x1,.d x2,.d x3,.d x4,.d x5,.n A.length,.n A.length,.d (il ((t:Int)+1)),.r (A.map rI)])
def ex6 (x0 x1 x2 x3 x4 x5:D) (A:List Int):Out:=if A=[] then some (0,[.d x0,.d x1,.d x2,.d x3,.d x4,.d x5]) else some (2,[.d x0,.d x1,.d x2,.d x3,.d x4,.d x5,.n A.length,.n A.length,.r (A.map rI)])
set_option maxRecDepth 20000 in
theorem l6_2 (n:Nat) (d k:Int) (a b c:Option (List E9)) (o:Option (List E5)) (ha:(a.getD []).length*72≤140737488351232) (hb:(b.getD []).length*72≤140737488351232) (hc:(c.getD []).length*72≤140737488351232) (ho:(o.getD []).length*40≤140737488351232)
  (hok:okKin (a.getD []) (b.getD []) (c.getD []) (o.getD [])=true) (hd:0≤d∧d≤4166) (hk:0≤k∧k≤4166) :
  loopR [L6_2 (RP (n+111)),L6_4 (RP (n+111))] M0 0 [.d (il d),.d (il k),.d (d9 a),.d (d9 b),.d (d9 c),.d (d5 o),.d (il 1)]=ex6 (il d) (il k) (d9 a) (d9 b) (d9 c) (d5 o) (allS (sureQ k a b c o d) 99):=by
 have hla:=(okKin_len hok).1
 have:=loop_ms (σ:=Nat) [L6_2 (RP (n+111)),L6_4 (RP (n+111))] (fun t=>en6 (il d) (il k) (d9 a) (d9 b) (d9 c) (d5 o) t (allS (sureQ k a b c o d) t)) (fun t=>99 - t) (fun t=>t≤99) (fun _=>ex6 (il d) (il k) (d9 a) (d9 b) (d9 c) (d5 o) (allS (sureQ k a b c o d) 99)) ?_ M0 0 (by omega) (by unfold M0;omega)
 ·exact this
 ·intro t q ht ih
  by_cases h99:t=99
  ·subst h99
   by_cases hA:allS (sureQ k a b c o d) 99=[]
   ·exact ⟨L6_2 (RP (n+111)),by simp [en6,hA],by simp [en6,ex6,hA,L6_2]⟩
   ·exact ⟨L6_4 (RP (n+111)),by simp [en6,hA],by simp [en6,ex6,hA,L6_4]⟩
  ·have ih':=ih (t+1) (by omega) (by omega)
   have he:askE (okKin (a.getD []) (b.getD []) (c.getD []) (o.getD [])) false true 0 ((t:Int)+1) [d,k]=0:=by
    have hf:1≤(t:Int)+1∧(t:Int)+1≤99:=by omega
    simp [askE,hok,hd,hk,hf]
   have h32:=s32 (n+1) ((t:Int)+1) d k a b c o ha hb hc ho
   have h29:=s29 (n+1) ((t:Int)+1) d k a b c o ha hb hc ho
   rw [if_pos he] at h32 h29
   have hSq:=sureL_Q k a b c o d ((t:Int)+1)
   have hu:Up ((sureL k a b c o d ((t:Int)+1)).getD []):=by rw [hSq];exact up_sureQ ..
   have hlS:((sureL k a b c o d ((t:Int)+1)).getD []).length≤60:=by rw [hSq];exact len_sureQ _ _ _ _ _ _ _ hla
   have hlA:=len_allS (sureQ k a b c o d) (fun f=>len_sureQ k a b c o d f hla) t
   have hdj:∀ p∈(sureL k a b c o d ((t:Int)+1)).getD [],p∉allS (sureQ k a b c o d) t:=fun p hp hm=>by
    rw [hSq] at hp
    obtain ⟨g,hg,hm⟩:=(mem_allS _ _ _).1 hm
    have h1:=(mem_sureQ hp).2
    have h2:=(mem_sureQ hm).2
    rw [h1] at h2
    simp at h2;omega
   have hall:allS (sureQ k a b c o d) (t+1)=allS (sureQ k a b c o d) t++(sureL k a b c o d ((t:Int)+1)).getD []:=by rw [hSq];rfl
   rw [hall] at ih'
   have hcast:((t+1:Nat):Int)=(t:Int)+1:=by omega
   have hw:IntKind.i64.wrap ((t:Int)+1+1)=(t:Int)+1+1:=wrap_id (by omega) (by omega)
   have hleq:(t:Int)+1≤99:=by omega
   generalize hSL:sureL k a b c o d ((t:Int)+1)=SL at *
   generalize allS (sureQ k a b c o d) t=A at *
   by_cases hA:A=[]
   ·subst hA
    refine ⟨L6_2 (RP (n+111)),by simp [en6],?_⟩
    simp only [en6,if_true,L6_2,r_ld0,r_lds,r_liti,r_leq,hleq,decide_true,r_cond,r_call,h32,h29,r_bnd0,r_neq,ne_eq,not_true_eq_false,decide_false,Bool.false_eq_true,if_false,lenI,r_loop]
    rw [List.nil_append] at ih'
    by_cases hS:SL.getD []=[]
    ·rw [i6_0 (n+110) _ _ _ _ _ _ _ _ hS]
     simp only [r_bndg,r_bnd0,r_ld0,r_lds,r_add,hw]
     simp only [en6,hS,if_true,hcast] at ih'
     exact ih'
    ·rw [i6_1 (n+110) _ _ _ _ _ _ _ _ hu (by omega) hS]
     simp only [r_bndg,r_bnd0,r_ld0,r_lds,r_ln0,r_lns,r_lr0,r_lrs,r_add,hw]
     simp only [en6,hS,if_false,hcast] at ih'
     exact ih'
   ·refine ⟨L6_4 (RP (n+111)),by simp [en6,hA],?_⟩
    simp only [en6,hA,if_false,L6_4,r_ld0,r_lds,r_ln0,r_lns,r_lr0,r_lrs,r_liti,r_leq,hleq,decide_true,if_true,r_cond,r_call,h32,h29,r_bnd0,r_neq,ne_eq,not_true_eq_false,decide_false,Bool.false_eq_true,lenI,r_loop]
    rw [i6_3 (n+110) _ _ _ _ _ _ _ _ A hu hdj (by omega) (by omega)]
    simp only [r_bndg,r_bnd0,r_ld0,r_lds,r_ln0,r_lns,r_lr0,r_lrs,r_add,hw]
    have hne:¬ A++SL.getD []=[]:=by simp [hA]
    simp only [en6,hne,if_false,hcast] at ih'
    exact ih'
end Go.VE
namespace Go.VE
open Go.RowKit Go.Proofs
theorem cnt_ok {k:Int} {l:List E9} {e:E9} (h:e∈l) (hc:cnts e.kn e.un k=true):e∈cnt9 k l:=List.mem_filter.2 ⟨h,hc⟩
theorem may_none {k:Int} {a b c:Option (List E9)} {o:Option (List E5)} {d:Int} {e:E9} (hok:okKin (a.getD []) (b.getD []) (c.getD []) (o.getD [])=true) (he:e∈b.getD []) (hc:cnts e.kn e.un k=true) (h2:sureB e.f2 e.t1 d=true):(mayL k a b c o d e.a).getD []=[]:=by
 have g:=(good_of hok).cnt k
 have hb:=(okKin_parts hok).2.1 e he
 have h1:mayB e.f1 e.t2 d=true:=by
  have hs:=hb.2.2.2.1
  unfold okSpan at hs
  unfold sureB at h2
  have h2:=of_decide_eq_true h2
  unfold mayB
  exact decide_eq_true (by omega)
 unfold mayL
 rw [map_getD,List.filter_eq_nil_iff]
 intro p _
 have:=bound_none (p:=p) g (cnt_ok he hc) h1 h2
 have hz:forI (famL k a b c o d p) e.a=0:=if_neg this
 simp [hz]
set_option maxRecDepth 20000 in
theorem l6_5 (n:Nat) (d k:Int) (a b c:Option (List E9)) (o:Option (List E5)) (ha:(a.getD []).length*72≤140737488351232) (hb:(b.getD []).length*72≤140737488351232) (hc:(c.getD []).length*72≤140737488351232) (ho:(o.getD []).length*40≤140737488351232)
  (hok:okKin (a.getD []) (b.getD []) (c.getD []) (o.getD [])=true) (hd:0≤d∧d≤4166) (hk:0≤k∧k≤4166) :
  loopR [L6_5 (RP (n+111))] M0 0 [.d (il d),.d (il k),.d (d9 a),.d (d9 b),.d (d9 c),.d (d5 o),.d (d9 b),.d (il (b.getD []).length),.d (il 0)]=some (1,[]):=by
 have:=range_loop (β:=Unit) (b.getD []) (by omega) (L6_5 (RP (n+111))) (fun i _=>[.d (il d),.d (il k),.d (d9 a),.d (d9 b),.d (d9 c),.d (d5 o),.d (d9 b),.d (il (b.getD []).length),.d (il i)]) (fun _ _=>True) (fun _ _ _=>some (1,[]))
  (fun _ q _=>by simp [L6_5]) ?_ M0 () trivial (by unfold M0;omega)
 ·simpa using this
 ·intro i e r _ q hi hdr hlt hw _ ih
  have ih':=ih () trivial
  have hlt':(i:Int) < ((b.getD []).length:Int):=by omega
  have hm:=List.mem_of_getElem? hi
  have hbe:=(okKin_parts hok).2.1 e hm
  have he:askE (okKin (a.getD []) (b.getD []) (c.getD []) (o.getD [])) false true 0 e.a [d,k]=0:=by
   have hf:1≤e.a∧e.a≤99:=by have:=hbe.2.1;omega
   simp [askE,hok,hd,hk,hf]
  have h34:=s34 (n+1) e.a d k a b c o ha hb hc ho
  rw [if_pos he] at h34
  simp only [L6_5,r_ld0,r_lds,r_lss,r_cond,hlt',decide_true,if_true,row9 hi,r9,r_cell0,r_cells,r_call,s42,r_bnd0,r_leq,r_liti,r_add,hw,decide_eq_true_eq]
  by_cases h1:cnts e.kn e.un k=true
  ·rw [if_pos h1]
   by_cases h2:e.f2≤d
   ·rw [if_pos h2]
    by_cases h3:d < e.t1
    ·rw [if_pos h3]
     have hn:=may_none hok hm h1 (by unfold sureB;exact decide_eq_true ⟨h2,h3⟩)
     simp only [h34,r_bnd0,r_ld0,r_lds,r_neq,ne_eq,not_true_eq_false,decide_false,r_cond,Bool.false_eq_true,if_false,lenI,hn,List.length_nil,r_gtr]
     rw [if_neg (by simp)]
     exact ih'
    ·rw [if_neg h3];exact ih'
   ·rw [if_neg h2];exact ih'
  ·rw [if_neg h1];exact ih'
theorem L6_6e (n:Nat):L6_6 (RP n)=L6_5 (RP n):=rfl
theorem all_pers {k:Int} {a b c:Option (List E9)} {o:Option (List E5)} {d:Int} (t:Nat) (A:List Int) (h:A=allS (sureQ k a b c o d) t):(A.all fun x=>decide (x∈(nzO (persL (a.getD []))).getD []))=true:=by
 subst h
 rw [List.all_eq_true]
 intro p hp
 obtain ⟨g,_,hm⟩:=(mem_allS _ _ _).1 hp
 have h1:=(mem_sureQ hm).1
 rw [nzO_getD]
 have:p∈persL (a.getD []):=by
  unfold persL at h1 ⊢
  rw [mem_insAll] at h1 ⊢
  simp only [List.not_mem_nil,false_or,List.mem_map] at h1 ⊢
  obtain ⟨e,he,h2⟩:=h1
  exact ⟨e,mem_cnt9 he,h2⟩
 exact decide_eq_true this
set_option maxRecDepth 20000 in
theorem a6 {Fn:Nat→List D→Out} {FnD:D→List Sh→List D→Out} {m:Nat} (x2 x4 x5 P:D) (b:Option (List E9)) (d k:Int) (ok:Bool) (A:List Int) (h24:Fn 24 [x2,d9 b,x4,x5]=some (0,[.d (il (if ok=true then 0 else 34))])) (hd25:Fn 25 [il d]=some (0,[.d (bl (decide (0≤d∧d≤4166)))])) (hk25:Fn 25 [il k]=some (0,[.d (bl (decide (0≤k∧k≤4166)))])) (h23:Fn 23 []=some (0,[.d (bl true)]))
  (hL:ok=true→0≤d∧d≤4166→0≤k∧k≤4166→loopR [L6_2 (real Fn FnD m),L6_4 (real Fn FnD m)] m 0 [.d (il d),.d (il k),.d x2,.d (d9 b),.d x4,.d x5,.d (il 1)]=ex6 (il d) (il k) x2 (d9 b) x4 x5 A∧Fn 31 [x2,d9 b,x4,x5]=some (0,[.d P])∧(A=[]→Fn 30 [.lit (.slice none 0 0),P]=some (0,[.d (bl true)]))∧(A≠[]→Fn 30 [dI (some A),P]=some (0,[.d (bl true)])) ∧
   loopR [L6_5 (real Fn FnD m)] m 0 [.d (il d),.d (il k),.d x2,.d (d9 b),.d x4,.d x5,.d (d9 b),.d (il (b.getD []).length),.d (il 0)]=some (1,[])∧L6_6 (real Fn FnD m)=L6_5 (real Fn FnD m)) :
  G6 (real Fn FnD m) x2 (d9 b) x4 x5 (il d) (il k)=some (0,[.d (bl true)]):=by
 simp only [G6,r_call,h24,r_bnd0,r_ld0,r_liti,r_neq,r_cond,hd25,hk25,r_not,h23,r_out]
 cases ok with
 | false=>simp
 | true =>
  simp only [if_true,ne_eq,not_true_eq_false,decide_false,Bool.false_eq_true,if_false]
  by_cases hd:0≤d∧d≤4166
  ·simp only [hd,and_self,decide_true,Bool.not_true,Bool.false_eq_true,if_false]
   by_cases hk:0≤k∧k≤4166
   ·obtain ⟨g1,g2,g3,g4,g5,g6⟩:=hL rfl hd hk
    simp only [hk,and_self,decide_true,Bool.not_true,Bool.false_eq_true,if_false,r_loop,g1]
    by_cases hA:A=[]
    ·simp only [ex6,hA,if_true,r_not,r_bnd0,r_ld0,r_lds,g2,r_litNil,g3 hA,r_cond,Bool.not_true,Bool.false_eq_true,if_false,len9,g5,r_bndg]
    ·simp only [ex6,hA,if_false,r_not,r_bndg,r_bnd0,r_ld0,r_lds,r_ln0,r_lns,r_lr0,r_lrs,g2,r_len,List.length_map,r_eqN,if_true,r_slD,r_seg0,dI_take,g4 hA,r_litsg,List.all_cons,List.all_nil,yl_b,Bool.and_true,r_cond,Bool.not_true,Bool.false_eq_true,len9,g6,g5]
   ·simp [hk]
  ·simp [hd]
theorem s6 (n:Nat) (d k:Int) (a b c:Option (List E9)) (o:Option (List E5)) (ha:(a.getD []).length*72≤140737488351232) (hb:(b.getD []).length*72≤140737488351232) (hc:(c.getD []).length*72≤140737488351232) (ho:(o.getD []).length*40≤140737488351232) :
  G6 (RP (n+111)) (d9 a) (d9 b) (d9 c) (d5 o) (il d) (il k)=some (0,[.d (bl true)]):=by
 refine a6 (d9 a) (d9 c) (d5 o) (dI (nzO (persL (a.getD [])))) b d k (okKin (a.getD []) (b.getD []) (c.getD []) (o.getD [])) (allS (sureQ k a b c o d) 99) (s24 (n+106) a b c o) (s25 (n+109) d) (s25 (n+109) k) (s23 n) ?_
 intro hok hd hk
 have hla:=(okKin_len hok).1
 have hlp:=len_persL (a.getD [])
 have hall:=len_allS (sureQ k a b c o d) (fun f=>len_sureQ k a b c o d f hla) 99
 have hap:=all_pers (k:=k) (a:=a) (b:=b) (c:=c) (o:=o) (d:=d) 99 _ rfl
 have h1:=l6_2 n d k a b c o ha hb hc ho hok hd hk
 have h5:=l6_5 n d k a b c o ha hb hc ho hok hd hk
 have h31:=s31 (n+109) a (d9 b) (d9 c) (d5 o) (by omega)
 have hlp':((nzO (persL (a.getD []))).getD []).length≤60:=by rw [nzO_getD];omega
 refine ⟨h1,h31,fun _=>?_,fun _=>?_,h5,L6_6e _⟩
 ·have h30:=s30 (n+109) none (nzO (persL (a.getD []))) (by simp) (by omega)
  simp only [Option.getD_none,List.all_nil] at h30
  exact h30
 ·have h30:=s30 (n+109) (some (allS (sureQ k a b c o d) 99)) (nzO (persL (a.getD []))) (by simp only [Option.getD_some];omega) (by omega)
  simp only [Option.getD_some,hap] at h30
  exact h30
end Go.VE
namespace Go.VE
open Go.RowKit Go.Proofs Go.Proofs.YtobeabinccohlaaGreat
set_option maxRecDepth 100000
theorem familyOne_sc (vds:List VD) (h:VTs Tryz.prog 8 [27,3,3] vds):SC Tryz.prog 6 vds (.one (.d (bl true))):=by
 obtain ⟨_,_,rfl,h1,h⟩:=VTs_cons h
 obtain ⟨_,_,rfl,h2,h⟩:=VTs_cons h
 obtain ⟨_,_,rfl,h3,h⟩:=VTs_cons h
 cases VTs_nil h
 obtain ⟨_,rfl,k1⟩:=h1.agg_ Tryz.underlying27
 obtain ⟨_,rfl,k2⟩:=h2.int_ Tryz.underlying3
 obtain ⟨_,rfl,k3⟩:=h3.int_ Tryz.underlying3
 obtain ⟨a,b,c,o,rfl,ha,hb,hc,ho⟩:=o27 k1
 obtain ⟨d,hd,_⟩:=o3 k2
 obtain ⟨k,hk,_⟩:=o3 k3
 cases hd
 cases hk
 refine lawSC (T:=tb) (fuel:=400) (m0:=M0) (xs:=[d9 a,d9 b,d9 c,d5 o,il d,il k]) mixP (FN_ok 111) (FN_okM 111) spOK (by decide) (sh:=[.agg 4,.one,.one]) rfl rfl rfl ?_
 rw [G6_eq]
 exact s6 0 d k a b c o ha hb hc ho
end Go.VE
namespace Go.Proofs.YtobeabinccohlaaGreat
open Go.VE Go.RowKit
set_option maxRecDepth 100000
theorem familyOne_lifted (os:Os) (started:os.Started) (H:Type) (enc:TypeId×Value→H) :
  ReturnsInHanded {} Tryz.checked os 6 .any (Rows.familyOneSpec.pre6 enc Tryz.prog Tryz.f6 Rows.familyOneRow.domain false) (Rows.familyOneSpec.post enc Tryz.prog Tryz.f6 false true false false) :=
 lawIn (C:=Tryz.checked) (n:=8) (tb:=4) own started (by kernel_rfl) Tryz.func6
  (ChangeSpec.witness6 (enc:=enc) (C:=Tryz.checked) false ⟨#[],#[.agg #[.slice none 0 0,.slice none 0 0,.slice none 0 0,.slice none 0 0],.int .i64 0,.int .i64 0],[]⟩ 8 (by kernel_rfl) (by kernel_rfl) (by kernel_rfl) (by kernel_rfl))
  laidOut (by kernel_rfl) (by kernel_rfl) Tryz.underlying4 rfl
  (fun ds hd=>by
   rw [show Tryz.f6.params.toList=[27,3,3] by kernel_rfl] at hd
   match ds,hd with
   | [a,b,c],_=>rfl)
  (fun vds h=>familyOne_sc vds h)
theorem familyOne_over:Rows.familyOneRow.holds Tryz.pinned (OpenSpec.ofChange Rows.familyOneSpec) :=
 OpenClaim.holds_of_wide 6 Tryz.f6 rfl rfl rfl rfl rfl rfl rfl ⟨rfl,rfl,rfl,rfl,rfl⟩ rfl rfl rfl rfl rfl (by kernel_rfl) Tryz.func6 (by kernel_rfl)
  (of_decide_eq_true (by kernel_rfl)) (by unfold Func.isWrapper;first | (rw [if_pos (by decide +kernel)];kernel_rfl) | (rw [if_neg (by decide +kernel)];exact ⟨rfl,rfl⟩))
  (fun os started H enc _=>familyOne_lifted os started H enc)
theorem familyOne_holds:Rows.FamilyOneSaid:=familyOne_over
#print axioms familyOne_holds
end Go.Proofs.YtobeabinccohlaaGreat
