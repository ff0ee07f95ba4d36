/- The statement FamilyNarrow: whatever the kin, the five numbers and the question are, narrower ranges never make an answer less sure. -/
import Derived.Test.YtobeabinccohlaaGreatMg3
import Derived.Test.YtobeabinccohlaaGreatMi
import Derived.Test.YtobeabinccohlaaGreatMt
import Derived.KernelRfl
import Derived.Test.YtobeabinccohlaaGreatMh
import Derived.Test.YtobeabinccohlaaGreatRows
namespace Go.VE
open Go.RowKit Go.Proofs
def wo9 (s:Int) (l:List E9):List E9:=l.filter fun e=>!decide (e.src=s)
def wo5 (s:Int) (l:List E5):List E5:=l.filter fun e=>!decide (e.src=s)
def wk9 (s:Int) (o:Option (List E9)):Option (List E9):=o.map (wo9 s)
def wk5 (s:Int) (o:Option (List E5)):Option (List E5):=o.map (wo5 s)
theorem wk9_none (s:Int):wk9 s none=none:=rfl
theorem wk5_none (s:Int):wk5 s none=none:=rfl
theorem wk9_getD (s:Int) (o:Option (List E9)):(wk9 s o).getD []=wo9 s (o.getD []):=by cases o<;>rfl
theorem wk5_getD (s:Int) (o:Option (List E5)):(wk5 s o).getD []=wo5 s (o.getD []):=by cases o<;>rfl
theorem len_wo9 (s:Int) (l:List E9):(wo9 s l).length≤l.length:=List.length_filter_le _ _
theorem len_wo5 (s:Int) (l:List E5):(wo5 s l).length≤l.length:=List.length_filter_le _ _
theorem mem_wo9 {s:Int} {l:List E9} {e:E9} (h:e∈wo9 s l):e∈l:=(List.mem_filter.1 h).1
theorem GoodK.wo {a b c:List E9} {o:List E5} (h:GoodK a b c o) (s:Int):GoodK (wo9 s a) (wo9 s b) (wo9 s c) (wo5 s o) :=
 ⟨fun e he=>h.fam e (mem_wo9 he),fun e he=>h.less e (mem_wo9 he),fun e he=>h.by0 e (mem_wo9 he),Nat.le_trans (len_wo9 ..) h.la,Nat.le_trans (len_wo9 ..) h.lb,Nat.le_trans (len_wo9 ..) h.lc,Nat.le_trans (len_wo5 ..) h.lo⟩
theorem s98 (n:Nat) (e:E9) (s:Int):FN (n+1) 98 (r9 e++[il s])=some (0,[.d (bl (decide (e.src=s)))]):=by
 rw [r9]
 simp only [List.cons_append,List.nil_append]
 rw [F98]
 simp only [G98,r_eql,r_out]
theorem d98 (n:Nat) (e:E9) (s:Int):FD (n+1) (.fn 98 [.dp [il s] 0]) [.agg 9] (r9 e)=some (0,[.d (bl (decide (e.src=s)))]) :=
 FD_fn [.agg 9,.ptr 1] [.agg (r9 e)] (by decide) rfl (by kernel_rfl) rfl (by kernel_rfl) (s98 n e s)
theorem s100 (n:Nat) (e:E9) (s:Int):FN (n+1) 100 (r9 e++[il s])=some (0,[.d (bl (decide (e.src=s)))]):=by
 rw [r9]
 simp only [List.cons_append,List.nil_append]
 rw [F100]
 simp only [G100,r_eql,r_out]
theorem d100 (n:Nat) (e:E9) (s:Int):FD (n+1) (.fn 100 [.dp [il s] 0]) [.agg 9] (r9 e)=some (0,[.d (bl (decide (e.src=s)))]) :=
 FD_fn [.agg 9,.ptr 1] [.agg (r9 e)] (by decide) rfl (by kernel_rfl) rfl (by kernel_rfl) (s100 n e s)
theorem s102 (n:Nat) (e:E9) (s:Int):FN (n+1) 102 (r9 e++[il s])=some (0,[.d (bl (decide (e.src=s)))]):=by
 rw [r9]
 simp only [List.cons_append,List.nil_append]
 rw [F102]
 simp only [G102,r_eql,r_out]
theorem d102 (n:Nat) (e:E9) (s:Int):FD (n+1) (.fn 102 [.dp [il s] 0]) [.agg 9] (r9 e)=some (0,[.d (bl (decide (e.src=s)))]) :=
 FD_fn [.agg 9,.ptr 1] [.agg (r9 e)] (by decide) rfl (by kernel_rfl) rfl (by kernel_rfl) (s102 n e s)
theorem s104 (n:Nat) (e:E5) (s:Int):FN (n+1) 104 (r5 e++[il s])=some (0,[.d (bl (decide (e.src=s)))]):=by
 rw [r5]
 simp only [List.cons_append,List.nil_append]
 rw [F104]
 simp only [G104,r_eql,r_out]
theorem d104 (n:Nat) (e:E5) (s:Int):FD (n+1) (.fn 104 [.dp [il s] 0]) [.agg 5] (r5 e)=some (0,[.d (bl (decide (e.src=s)))]) :=
 FD_fn [.agg 5,.ptr 1] [.agg (r5 e)] (by decide) rfl (by kernel_rfl) rfl (by kernel_rfl) (s104 n e s)
theorem w1000097 (n:Nat) (s:Int) (l:List E9) (hl:l.length*72≤140737488351232):∃ rest:Rr,FN (n+3) 1000097 [.sl 9 (l.map r9),.fn 98 [.dp [il s] 0]]=some (0,[.d (d9 (wk9 s (some l))),.d (.sl 9 rest)]):=by
 obtain ⟨rest,h⟩:=s1000097 (n+1) (.fn 98 [.dp [il s] 0]) (fun e=>decide (e.src=s)) l (by omega) (fun e _=>d98 n e s) (fun e _=>d98 (n+1) e s)
 refine ⟨rest,h.trans ?_⟩
 simp only [d9,wk9,wo9,Option.map_some,dSl]
theorem w1000099 (n:Nat) (s:Int) (l:List E9) (hl:l.length*72≤140737488351232):∃ rest:Rr,FN (n+3) 1000099 [.sl 9 (l.map r9),.fn 100 [.dp [il s] 0]]=some (0,[.d (d9 (wk9 s (some l))),.d (.sl 9 rest)]):=by
 obtain ⟨rest,h⟩:=s1000099 (n+1) (.fn 100 [.dp [il s] 0]) (fun e=>decide (e.src=s)) l (by omega) (fun e _=>d100 n e s) (fun e _=>d100 (n+1) e s)
 refine ⟨rest,h.trans ?_⟩
 simp only [d9,wk9,wo9,Option.map_some,dSl]
theorem w1000101 (n:Nat) (s:Int) (l:List E9) (hl:l.length*72≤140737488351232):∃ rest:Rr,FN (n+3) 1000101 [.sl 9 (l.map r9),.fn 102 [.dp [il s] 0]]=some (0,[.d (d9 (wk9 s (some l))),.d (.sl 9 rest)]):=by
 obtain ⟨rest,h⟩:=s1000101 (n+1) (.fn 102 [.dp [il s] 0]) (fun e=>decide (e.src=s)) l (by omega) (fun e _=>d102 n e s) (fun e _=>d102 (n+1) e s)
 refine ⟨rest,h.trans ?_⟩
 simp only [d9,wk9,wo9,Option.map_some,dSl]
theorem w1000103 (n:Nat) (s:Int) (l:List E5) (hl:l.length*40≤140737488351232):∃ rest:Rr,FN (n+3) 1000103 [.sl 5 (l.map r5),.fn 104 [.dp [il s] 0]]=some (0,[.d (d5 (wk5 s (some l))),.d (.sl 5 rest)]):=by
 obtain ⟨rest,h⟩:=s1000103 (n+1) (.fn 104 [.dp [il s] 0]) (fun e=>decide (e.src=s)) l (by omega) (fun e _=>d104 n e s) (fun e _=>d104 (n+1) e s)
 refine ⟨rest,h.trans ?_⟩
 simp only [d5,wk5,wo5,Option.map_some,dSl]
theorem if2 {α:Type} (p q:Prop) [Decidable p] [Decidable q] (x y:α):(if p then (if q then x else y) else y)=if p∧q then x else y:=by
 by_cases h1:p<;>by_cases h2:q<;>simp [h1,h2]
theorem if3 {α:Type} (p q r:Prop) [Decidable p] [Decidable q] [Decidable r] (x y:α):(if p then (if q then (if r then x else y) else y) else y)=if p∧q∧r then x else y:=by
 by_cases h1:p<;>by_cases h2:q<;>by_cases h3:r<;>simp [h1,h2,h3]
theorem if4 {α:Type} (p q r s:Prop) [Decidable p] [Decidable q] [Decidable r] [Decidable s] (x y:α):(if p then (if q then (if r then (if s then x else y) else y) else y) else y)=if p∧q∧r∧s then x else y:=by
 by_cases h1:p<;>by_cases h2:q<;>by_cases h3:r<;>by_cases h4:s<;>simp [h1,h2,h3,h4]
def noneHas (s:Int) (a b c:List E9) (o:List E5):Prop:=((wo9 s a).length:Int)=a.length∧((wo9 s b).length:Int)=b.length∧((wo9 s c).length:Int)=c.length∧((wo5 s o).length:Int)=o.length
instance (s:Int) (a b c:List E9) (o:List E5):Decidable (noneHas s a b c o):=by unfold noneHas;infer_instance
def lessF (s k:Int) (a b c:Option (List E9)) (o:Option (List E5)) (d:Int):Int→List Int:=famP (cnt9 k (wo9 s (a.getD []))) (cnt9 k (wo9 s (b.getD []))) (cnt9 k (wo9 s (c.getD []))) (cnt5 k (wo5 s (o.getD []))) d
def movL (s k:Int) (a b c:Option (List E9)) (o:Option (List E5)) (d:Int):Option (List Int):=(nzO (persL (a.getD []))).map (List.filter (difB (fk k a b c o d) (lessF s k a b c o d)))
theorem fo_less (s k:Int) (a b c:Option (List E9)) (o:Option (List E5)) (d:Int):fo (kn9 k (wk9 s a)) (kn9 k (wk9 s b)) (kn9 k (wk9 s c)) (kn5 k (wk5 s o)) d=lessF s k a b c o d:=by
 funext p;unfold fo lessF;rw [kn9_getD,kn9_getD,kn9_getD,kn5_getD,wk9_getD,wk9_getD,wk9_getD,wk5_getD]
set_option maxRecDepth 20000 in
set_option maxHeartbeats 4000000 in
theorem s39 (n:Nat) (s d k:Int) (a b c:Option (List E9)) (o:Option (List E5)) (ha:(a.getD []).length*72≤140737488351232) (hb:(b.getD []).length*72≤140737488351232) (hc:(c.getD []).length*72≤140737488351232) (ho:(o.getD []).length*40≤140737488351232) :
  FN (n+109) 39 [d9 a,d9 b,d9 c,d5 o,il s,il d,il k]=if askE (okKin (a.getD []) (b.getD []) (c.getD []) (o.getD [])) false false 0 0 [d,k]=0 then (if noneHas s (a.getD []) (b.getD []) (c.getD []) (o.getD []) then some (0,[.d (dI none),.d (il 3)]) else some (0,[.d (dI (movL s k a b c o d)),.d (il 0)])) else some (0,[.d (dI none),.d (il (askE (okKin (a.getD []) (b.getD []) (c.getD []) (o.getD [])) false false 0 0 [d,k]))]):=by
 rw [F39]
 have h73:=ask73 (n+98) 0 0 d k a b c o ha hb hc ho false false
 by_cases he:askE (okKin (a.getD []) (b.getD []) (c.getD []) (o.getD [])) false false 0 0 [d,k]=0
 ·rw [if_pos he]
  have g:=good_kn k he
  have gw:GoodK ((kn9 k (wk9 s a)).getD []) ((kn9 k (wk9 s b)).getD []) ((kn9 k (wk9 s c)).getD []) ((kn5 k (wk5 s o)).getD []):=by
   rw [kn9_getD,kn9_getD,kn9_getD,kn5_getD,wk9_getD,wk9_getD,wk9_getD,wk5_getD]
   exact ((good_of (askE_ok he)).wo s).cnt k
  have hla:=(okKin_len (askE_ok he)).1
  have h93:=k93 n a (d9 b) (d9 c) (d5 o) d (by omega) (askE_days he).1 g gw
  rw [fo_kn,fo_less] at h93
  have h94:=s94 (n+103) k (wk9 s a) (wk9 s b) (wk9 s c) (wk5 s o) (by rw [wk9_getD];have:=len_wo9 s (a.getD []);omega) (by rw [wk9_getD];have:=len_wo9 s (b.getD []);omega) (by rw [wk9_getD];have:=len_wo9 s (c.getD []);omega) (by rw [wk5_getD];have:=len_wo5 s (o.getD []);omega)
  have hp:∀ (a b c:Option (List E9)) (o:Option (List E5)) (q:List D→Out),(RP (n+108)).ptrW 4 (dKin a b c o) q=q [d9 a,d9 b,d9 c,d5 o]:=fun a b c o q=>r_ptrW _ 4 q rfl
  have hx:(nzO (persL (a.getD []))).map (List.filter (difB (fk k a b c o d) (lessF s k a b c o d)))=movL s k a b c o d:=rfl
  rw [hx] at h93
  generalize movL s k a b c o d=M at h93 ⊢
  have h96:=s96 (n+106) a b c o ha hb hc ho
  have hN:noneHas s (a.getD []) (b.getD []) (c.getD []) (o.getD [])=((((wk9 s a).getD []).length:Int)=(a.getD []).length∧(((wk9 s b).getD []).length:Int)=(b.getD []).length∧(((wk9 s c).getD []).length:Int)=(c.getD []).length∧(((wk5 s o).getD []).length:Int)=(o.getD []).length):=by
   rw [wk9_getD,wk9_getD,wk9_getD,wk5_getD];rfl
  simp only [hN]
  clear hN hx
  simp only [r_liti,r_litb,G39,r_call,r_rows,r_slD,h73,askR,he,if_true,r_bnd0,r_ld0,r_lds,r_neq,ne_eq,not_true_eq_false,decide_false,r_cond,Bool.false_eq_true,if_false,h96]
  clear h73 he g gw hla
  obtain ⟨_,ka⟩:=sk (w1000097 (n+105) s)
  obtain ⟨_,kb⟩:=sk (w1000099 (n+105) s)
  obtain ⟨_,kc⟩:=sk (w1000101 (n+105) s)
  obtain ⟨_,ko⟩:=sk (w1000103 (n+105) s)
  cases a<;>cases b<;>cases c<;>cases o<;>try simp only [wk9_none,wk5_none] at h94 h93
  all_goals
   try simp only [Option.getD_some] at ha hb hc ho
   simp only [Option.isSome_none,Option.isSome_some,ix96,↓r_bnd0,↓r_bndg,lv9,lv5]
   simp (disch:=first | exact ha | exact hb | exact hc | exact ho) only [r_call,s97n,s99n,s101n,s103n,ka,kb,kc,ko,wk9_none,wk5_none,r_bnd0,r_ld0,r_lds,r_lr0,r_lrs,r_len,r_eqN,if_true,r_out,r_fnD,r_dpD,r_rowsD,C39_0,len9,len5,r_eql,r_cond,decide_eq_true_eq,h94,hp,r_cell0,r_cells,h93,r_liti,r_litNil,true_and,and_true]
   first | rfl | exact if2 _ _ _ _ | exact if3 _ _ _ _ _ | exact if4 _ _ _ _ _ _
 ·rw [if_neg he]
  simp only [G39,r_call,r_liti,r_litb,r_rows,r_slD,h73,askR,if_neg he,r_bnd0,r_ld0,r_lds,r_neq,r_cond]
  rw [if_pos (by simpa using he)]
  simp [dI,dSl]
end Go.VE
namespace Go.VE
open Go.RowKit Go.Proofs
def kinA:Option (List E9):=some [⟨1,10,3,0,0,100,100,0,0⟩,⟨2,11,3,0,0,100,100,0,0⟩,⟨3,12,5,0,10,90,100,0,0⟩,⟨4,11,7,40,50,60,60,0,0⟩]
def kinB:Option (List E9):=some [⟨20,5,3,20,30,70,70,8,0⟩]
def kinC:Option (List E9):=some [⟨30,10,0,50,50,52,55,0,0⟩,⟨31,12,10,0,0,100,100,0,0⟩]
def kinO:Option (List E5):=some [⟨40,11,9,5,0⟩]
theorem s168 (n:Nat) (x:Int):FN (n+1) 168 [il x]=some (0,[.d (il x),.d (il x)]):=by rw [F168];simp [G168]
theorem s88 (n:Nat):FN (n+2) 88 []=some (0,[.d (d9 kinA),.d (d9 kinB),.d (d9 kinC),.d (d5 kinO)]):=by
 rw [F88]
 simp only [G88,r_call,r_liti,s168,r_bnd0,r_ld0,r_lds,r_natN,r_rows,r_len,List.length_cons,List.length_nil,r_eqN,if_true,r_seg0,r_slD,r_out,List.take_succ_cons,List.take_zero]
 simp [kinA,kinB,kinC,kinO,d9,d5,r9,r5,dSl]
theorem kA:(kinA.getD []).length*72≤140737488351232:=by decide
theorem kB:(kinB.getD []).length*72≤140737488351232:=by decide
theorem kC:(kinC.getD []).length*72≤140737488351232:=by decide
theorem kO:(kinO.getD []).length*40≤140737488351232:=by decide
theorem x1 (n:Nat):FN (n+110) 12 [d9 kinA,d9 kinB,d9 kinC,d5 kinO,il 11,il 45,il 9]=some (0,[.d (dI (some [3,7])),.d (il 0)]):=by
 rw [s12 (n+99) 11 45 9 kinA kinB kinC kinO kA kB kC kO,if_pos (by decide +kernel),show homesL 45 11 (cnt9 9 (kinA.getD []))=[3,7] by decide +kernel]
theorem x2 (n:Nat):FN (n+110) 14 [d9 kinA,d9 kinB,d9 kinC,d5 kinO,il 5,il 25,il 9]=some (0,[.d (dI (some [3,5])),.d (il 0)]):=by
 rw [s14 (n+5) 5 25 9 kinA kinB kinC kinO kA kB kC kO,if_pos (by decide +kernel),show leadsL 25 (cnt9 9 (kinB.getD [])) 5=[3,5] by decide +kernel]
theorem x3 (n:Nat):FN (n+110) 16 [d9 kinA,d9 kinB,d9 kinC,d5 kinO,il 12,il 51,il 9]=some (0,[.d (dI (some [0])),.d (il 0)]):=by
 rw [s16 (n+4) 12 51 9 kinA kinB kinC kinO kA kB kC kO,if_pos (by decide +kernel),show famL 9 kinA kinB kinC kinO 51 12=[0] by decide +kernel]
theorem x4 (n:Nat):FN (n+110) 18 [d9 kinA,d9 kinB,d9 kinC,d5 kinO,il 12,il 53,il 9]=some (0,[.d (il 2),.d (il 0)]):=by
 rw [s18 (n+3) 12 53 9 kinA kinB kinC kinO kA kB kC kO,if_pos (by decide +kernel),show gleansI (cnt9 9 (kinA.getD [])) (cnt9 9 (kinC.getD [])) (cnt5 9 (kinO.getD [])) 53 12=2 by decide +kernel]
theorem x5 (n:Nat):FN (n+110) 20 [d9 kinA,d9 kinB,d9 kinC,d5 kinO,il 11,il 7,il 55,il 9]=some (0,[.d (il 1),.d (il 0)]):=by
 rw [s20 (n+3) 11 7 55 9 kinA kinB kinC kinO kA kB kC kO,if_pos (by decide +kernel),show forI (famL 9 kinA kinB kinC kinO 55 11) 7=1 by decide +kernel]
theorem x6 (n:Nat):FN (n+110) 32 [d9 kinA,d9 kinB,d9 kinC,d5 kinO,il 3,il 35,il 9]=some (0,[.d (dI (some [10,11,12])),.d (il 0)]):=by
 rw [s32 n 3 35 9 kinA kinB kinC kinO kA kB kC kO,if_pos (by decide +kernel),show sureL 9 kinA kinB kinC kinO 35 3=some [10,11,12] by decide +kernel]
theorem x7 (n:Nat):FN (n+110) 29 [d9 kinA,d9 kinB,d9 kinC,d5 kinO,il 3,il 53,il 9]=some (0,[.d (il 0),.d (il 2),.d (il 0)]):=by
 rw [s29 n 3 53 9 kinA kinB kinC kinO kA kB kC kO,if_pos (by decide +kernel),show (((sureL 9 kinA kinB kinC kinO 53 3).getD []).length:Int)=0 by decide +kernel,show (((mayL 9 kinA kinB kinC kinO 53 3).getD []).length:Int)=2 by decide +kernel]
theorem x8 (n:Nat):FN (n+110) 39 [d9 kinA,d9 kinB,d9 kinC,d5 kinO,il 30,il 53,il 9]=some (0,[.d (dI (some [10,12])),.d (il 0)]):=by
 rw [s39 (n+1) 30 53 9 kinA kinB kinC kinO kA kB kC kO,if_pos (by decide +kernel),if_neg (by decide +kernel),show movL 30 9 kinA kinB kinC kinO 53=some [10,12] by decide +kernel]
theorem x9 (n:Nat):FN (n+110) 37 [d9 kinA,d9 kinB,d9 kinC,d5 kinO,il 10,il 4,il 9]=some (0,[.d (dI (some [11])),.d (il 0)]):=by
 rw [s37 (n+1) 10 4 9 kinA kinB kinC kinO kA kB kC kO,if_pos (by decide +kernel),show (nzO (persL (kinA.getD []))).map (List.filter (difB (fk 4 kinA kinB kinC kinO 10) (fk 9 kinA kinB kinC kinO 10)))=some [11] by decide +kernel]
theorem x10 (n:Nat):FN (n+110) 18 [d9 kinA,d9 kinB,d9 kinC,d5 kinO,il 11,il 10,il 9]=some (0,[.d (il 0),.d (il 0)]):=by
 rw [s18 (n+3) 11 10 9 kinA kinB kinC kinO kA kB kC kO,if_pos (by decide +kernel),show gleansI (cnt9 9 (kinA.getD [])) (cnt9 9 (kinC.getD [])) (cnt5 9 (kinO.getD [])) 10 11=0 by decide +kernel]
theorem same22 (n:Nat) (l:List Int) (hl:l.length≤100):FN (n+1) 22 [dI (some l),dI (some l)]=some (0,[.d (bl true)]):=by
 rw [s22 n (some l) (some l) (by simp only [Option.getD_some];omega)];simp
theorem a23 {Fn:Nat→List D→Out} {FnD:D→List Sh→List D→Out} {m:Nat} (A B C O L1 L2 L3 L6 L8 L9:D) (h88:Fn 88 []=some (0,[.d A,.d B,.d C,.d O]))
  (h1:Fn 12 [A,B,C,O,il 11,il 45,il 9]=some (0,[.d L1,.d (il 0)])) (h2:Fn 14 [A,B,C,O,il 5,il 25,il 9]=some (0,[.d L2,.d (il 0)])) (h3:Fn 16 [A,B,C,O,il 12,il 51,il 9]=some (0,[.d L3,.d (il 0)]))
  (h4:Fn 18 [A,B,C,O,il 12,il 53,il 9]=some (0,[.d (il 2),.d (il 0)])) (h5:Fn 20 [A,B,C,O,il 11,il 7,il 55,il 9]=some (0,[.d (il 1),.d (il 0)])) (h6:Fn 32 [A,B,C,O,il 3,il 35,il 9]=some (0,[.d L6,.d (il 0)]))
  (h7:Fn 29 [A,B,C,O,il 3,il 53,il 9]=some (0,[.d (il 0),.d (il 2),.d (il 0)])) (h8:Fn 39 [A,B,C,O,il 30,il 53,il 9]=some (0,[.d L8,.d (il 0)])) (h9:Fn 37 [A,B,C,O,il 10,il 4,il 9]=some (0,[.d L9,.d (il 0)]))
  (h10:Fn 18 [A,B,C,O,il 11,il 10,il 9]=some (0,[.d (il 0),.d (il 0)]))
  (q1:Fn 22 [L1,.sl 1 [[il 3],[il 7]]]=some (0,[.d (bl true)])) (q2:Fn 22 [L2,.sl 1 [[il 3],[il 5]]]=some (0,[.d (bl true)])) (q3:Fn 22 [L3,.sl 1 [[il 0]]]=some (0,[.d (bl true)])) (q6:Fn 22 [L6,.sl 1 [[il 10],[il 11],[il 12]]]=some (0,[.d (bl true)]))
  (q8:Fn 22 [L8,.sl 1 [[il 10],[il 12]]]=some (0,[.d (bl true)])) (q9:Fn 22 [L9,.sl 1 [[il 11]]]=some (0,[.d (bl true)])):G23 (real Fn FnD m)=some (0,[.d (bl true)]):=by
 simp only [G23,r_call,r_liti,h88,r_bnd0,r_ld0,r_lds,h1,h2,h3,h4,h5,h6,h7,h8,h9,h10,r_eql,decide_true,r_cond,if_true,r_rows,r_slD,r_eqs2,r_out,q1,q2,q3,q6,q8,q9,Bool.false_eq_true,if_false,and_self]
theorem s23 (n:Nat):FN (n+111) 23 []=some (0,[.d (bl true)]):=by
 rw [F23]
 exact a23 (d9 kinA) (d9 kinB) (d9 kinC) (d5 kinO) (dI (some [3,7])) (dI (some [3,5])) (dI (some [0])) (dI (some [10,11,12])) (dI (some [10,12])) (dI (some [11])) (s88 (n+108)) (x1 n) (x2 n) (x3 n) (x4 n) (x5 n) (x6 n) (x7 n) (x8 n) (x9 n) (x10 n)
  (same22 (n+109) [3,7] (by decide)) (same22 (n+109) [3,5] (by decide)) (same22 (n+109) [0] (by decide)) (same22 (n+109) [10,11,12] (by decide)) (same22 (n+109) [10,12] (by decide)) (same22 (n+109) [11] (by decide))
end Go.VE
namespace Go.VE
open Go.RowKit Go.Proofs
end Go.VE
namespace Go.VE
open Go.RowKit Go.Proofs
theorem s31 (n:Nat) (a:Option (List E9)) (b c o:D) (hl:(a.getD []).length≤1000000):FN (n+2) 31 [d9 a,b,c,o]=some (0,[.d (dI (nzO (persL (a.getD []))))]):=by
 rw [F31]
 simp only [G31,len9,r_liti,r_loop]
 by_cases hne:a.getD []=[]
 ·rw [hne]
  have h0:loopR [L31_0 (RP (n+1)),L31_1 (RP (n+1))] M0 0 [.d (d9 a),.d (il (([]:List E9).length:Int)),.d (il 0)]=some (0,[]) :=
   loop_ms (σ:=Unit) [L31_0 (RP (n+1)),L31_1 (RP (n+1))] (fun _=>(0,[.d (d9 a),.d (il (([]:List E9).length:Int)),.d (il 0)])) (fun _=>0) (fun _=>True) (fun _=>some (0,[])) (fun s k _ _=>⟨_,rfl,by simp [L31_0]⟩) M0 () trivial (by unfold M0;omega)
  rw [h0]
  rfl
 ·have hL:((a.getD []).map (·.a)).length=(a.getD []).length:=by simp
  have hat:∀ (i:Nat) (x:Int),((a.getD []).map (·.a))[i]?=some x→∃ e,(a.getD [])[i]?=some e∧e.a=x:=fun i x hi=>by
   rw [List.getElem?_map] at hi
   cases h0:(a.getD [])[i]? with
   | none=>rw [h0] at hi;simp at hi
   | some e=>rw [h0] at hi;exact ⟨e,rfl,by simpa using hi⟩
  have:=ins_nil ((a.getD []).map (·.a)) (by simpa using hl) (by simpa using hne) (L31_0 (RP (n+1))) (L31_1 (RP (n+1))) (fun i=>[.d (d9 a),.d (il (a.getD []).length),.d (il (i:Nat))])
   (fun i acc=>[.d (dI (some acc)),.d (d9 a),.d (il (a.getD []).length),.d (il (i:Nat))]) (fun acc=>some (1,[.d (dI (some acc))])) ?_ ?_ ?_
  ·rw [show il 0=il ((0:Nat):Int) from rfl,this,nzO_ne (persL_ne hne)]
   simp [persL]
  ·intro acc k
   rw [hL]
   simp [L31_1]
  ·intro x k hi hlt
   rw [hL] at hlt
   obtain ⟨e,he,rfl⟩:=hat _ _ hi
   have h9:=row9 (Fn:=FN (n+1)) (FnD:=FnDof Tryz.prog (cf3 tb Tryz.prog) (FN (n+1))) (m:=M0) he
   simp only [L31_0,r_ld0,r_lds,r_lss,r_cond,Int.natCast_zero,hlt,decide_true,if_true]
   rw [show ((il 0):D)=il ((0:Nat):Int) from rfl,h9]
   simp only [r9,r_cell0,r_cells,r_call,r_litNil,nil92,r_bnd0,r_ld0,r_liti,r_add,Int.natCast_zero]
   rw [show IntKind.i64.wrap (0+1)=((1:Nat):Int) from rfl]
  ·intro i x acc k hi hlt hw hu hal
   rw [hL] at hlt
   obtain ⟨e,he,rfl⟩:=hat _ _ hi
   have hput:=s92 n (some acc) e.a (by simp only [Option.getD_some];omega) hu
   simp only [Option.getD_some] at hput
   simp only [L31_1,r_ld0,r_lds,r_lss,r_cond,hlt,decide_true,if_true,row9 he,r9,r_cell0,r_cells,r_call,hput,r_bnd0,r_liti,r_add,hw]
section
variable {a b c:List E9} {o:List E5} (n:Nat) (f d x3 p:Int) (hd:0≤d∧d≤4166) (g:GoodK a b c o) (P:List Int) (hP:P.length≤1000000)
include hd g hP
end
end Go.VE
namespace Go.VE
open Go.RowKit Go.Proofs
section
variable {a b c a' b' c':List E9} {o o':List E5} (n:Nat) (d:Int) (hd:0≤d∧d≤4166) (g:GoodK a b c o) (g':GoodK a' b' c' o') (P:List Int) (hP:P.length≤1000000)
include hd g g' hP
end
section
variable (n:Nat) (p f d k l:Int) (a b c:Option (List E9)) (o:Option (List E5)) (ha:(a.getD []).length*72≤140737488351232) (hb:(b.getD []).length*72≤140737488351232) (hc:(c.getD []).length*72≤140737488351232) (ho:(o.getD []).length*40≤140737488351232)
include ha hb hc ho
end
end Go.VE
namespace Go.VE
open Go.RowKit Go.Shelf Go.Proofs
set_option maxRecDepth 100000
def rho:Ren:=⟨fun x=>if x=21 then 159 else if x=27 then 212 else if x=28 then 213 else if x=35 then 217 else if x=39 then 220 else 0,fun x=>if x=22 then 30 else x,fun x=>x⟩
theorem lays21:Lays2.n21 Tryz.prog rho where
 mixed:=by kernel_rfl
 f21:=by kernel_rfl
 f27:=by kernel_rfl
 f28:=by kernel_rfl
 f35:=by kernel_rfl
 f39:=by kernel_rfl
 t0:=by kernel_rfl
 a0:=fun w=>by kernel_rfl
 z0:=fun w=>by kernel_rfl
 v0:=fun w=>by kernel_rfl
 t3:=by kernel_rfl
 a3:=fun w=>by kernel_rfl
 z3:=fun w=>by kernel_rfl
 v3:=fun w=>by kernel_rfl
 t4:=by kernel_rfl
 a4:=fun w=>by kernel_rfl
 z4:=fun w=>by kernel_rfl
 v4:=fun w=>by kernel_rfl
 t22:=by kernel_rfl
 a22:=fun w=>by kernel_rfl
 z22:=fun w=>by kernel_rfl
 v22:=fun w=>by kernel_rfl
 i3:=by kernel_rfl
theorem spOK:SpOK Tryz.prog (cf3 tb Tryz.prog):=by
 intro f p h
 by_cases hf:f=159
 ·subst hf
  have e:(cf3 tb Tryz.prog).sp 159=some (1,3,8):=by kernel_rfl
  rw [e] at h
  cases h
  exact insC_int lays21
 ·exfalso
  have e:(cf3 tb Tryz.prog).sp f=none:=by
   show spT f=none
   unfold spT
   split
   ·exact absurd rfl hf
   ·rfl
  rw [e] at h
  cases h
end Go.VE
namespace Go.VE
open Go.RowKit Go.Proofs Go.Proofs.YtobeabinccohlaaGreat
set_option maxRecDepth 100000
theorem mixP:Tryz.prog.follows .mixedOrders=true:=lays21.mixed
theorem FN_ok (n:Nat):FnOK Tryz.prog (cf3 tb Tryz.prog) (FN n):=FnT_ok mixP spOK n
theorem FN_okM (n:Nat):FmOK Tryz.prog (cf3 tb Tryz.prog) (FN n):=FnT_okM mixP spOK n
theorem own:ownKnob Tryz.prog.godebug=none:=by kernel_rfl
theorem laidOut:laidOutB Tryz.prog=true:=by kernel_rfl
theorem o3 {n:Nat} {ds:List D} (h:HasT Tryz.prog (n+1) 3 ds):∃ z,ds=[il z]∧-9223372036854775808≤z∧z≤9223372036854775807:=h.int Tryz.underlying3
theorem o47 {n:Nat} {ds:List D} (h:HasT Tryz.prog (n+2) 47 ds):∃ a b,ds=[il a,il b]:=by
 obtain ⟨a,b,rfl,h1,c,d,rfl,h2,rfl⟩:=h.struct Tryz.underlying47 rfl
 obtain ⟨x,rfl,_⟩:=o3 h1
 obtain ⟨y,rfl,_⟩:=o3 h2
 exact ⟨x,y,rfl⟩
theorem oE9 {n:Nat} {ds:List D} (h:HasAll (HasT Tryz.prog (n+2)) [3,3,3,47,47,3,3] ds):∃ e:E9,ds=r9 e:=by
 obtain ⟨a1,b1,rfl,h1,a2,b2,rfl,h2,a3,b3,rfl,h3,a4,b4,rfl,h4,a5,b5,rfl,h5,a6,b6,rfl,h6,a7,b7,rfl,h7,rfl⟩:=h
 obtain ⟨x1,rfl,_⟩:=o3 h1
 obtain ⟨x2,rfl,_⟩:=o3 h2
 obtain ⟨x3,rfl,_⟩:=o3 h3
 obtain ⟨y1,y2,rfl⟩:=o47 h4
 obtain ⟨z1,z2,rfl⟩:=o47 h5
 obtain ⟨x6,rfl,_⟩:=o3 h6
 obtain ⟨x7,rfl,_⟩:=o3 h7
 exact ⟨⟨x1,x2,x3,y1,y2,z1,z2,x6,x7⟩,rfl⟩
theorem o82 {n:Nat} {ds:List D} (h:HasT Tryz.prog (n+3) 82 ds):∃ e:E5,ds=r5 e:=by
 obtain ⟨a1,b1,rfl,h1,a2,b2,rfl,h2,a3,b3,rfl,h3,a4,b4,rfl,h4,a5,b5,rfl,h5,rfl⟩:=h.struct Tryz.underlying82 rfl
 obtain ⟨x1,rfl,_⟩:=o3 h1
 obtain ⟨x2,rfl,_⟩:=o3 h2
 obtain ⟨x3,rfl,_⟩:=o3 h3
 obtain ⟨x4,rfl,_⟩:=o3 h4
 obtain ⟨x5,rfl,_⟩:=o3 h5
 exact ⟨⟨x1,x2,x3,x4,x5⟩,rfl⟩
theorem opt_rows {α:Type} {f:α→List D}:∀ {o:Option Rr},(∀ r∈o.getD [],∃ c,r=f c)→∃ q:Option (List α),o=q.map (·.map f)
 | none,_=>⟨none,rfl⟩
 | some rows,h=>by
  obtain ⟨l,hl⟩:=rows_map (f:=f) (rows:=rows) h
  exact ⟨some l,by rw [hl];rfl⟩
theorem oList9 {n t e:Nat} {ds:List D} (hu:Tryz.prog.underlying t=some (.slice e)) (hc:Tryz.prog.cellsOf e=9) (hb:Tryz.prog.bytesOf e=72) (he:∀ r,HasT Tryz.prog (n+3) e r→∃ x:E9,r=r9 x) (h:HasT Tryz.prog (n+4) t ds):∃ o:Option (List E9),ds=[d9 o]∧(o.getD []).length*72≤140737488351232:=by
 obtain ⟨o,rfl,h1,h2⟩:=h.sl hu hc hb
 obtain ⟨q,rfl⟩:=opt_rows (f:=r9) fun r hr=>he r (h2 r hr)
 refine ⟨q,rfl,?_⟩
 cases q with
 | none=>simp
 | some l=>simpa using h1
theorem o50 {n:Nat} {r:List D} (h:HasT Tryz.prog (n+3) 50 r):∃ x:E9,r=r9 x:=oE9 (h.struct Tryz.underlying50 rfl)
theorem o52 {n:Nat} {r:List D} (h:HasT Tryz.prog (n+3) 52 r):∃ x:E9,r=r9 x:=oE9 (h.struct Tryz.underlying52 rfl)
theorem o54 {n:Nat} {r:List D} (h:HasT Tryz.prog (n+3) 54 r):∃ x:E9,r=r9 x:=oE9 (h.struct Tryz.underlying54 rfl)
theorem o25 {n:Nat} {ds:List D} (h:HasT Tryz.prog (n+4) 25 ds):∃ o:Option (List E5),ds=[d5 o]∧(o.getD []).length*40≤140737488351232:=by
 obtain ⟨o,rfl,h1,h2⟩:=h.sl (c:=5) (b:=40) Tryz.underlying25 (by kernel_rfl) (by kernel_rfl)
 obtain ⟨q,rfl⟩:=opt_rows (f:=r5) fun r hr=>o82 (h2 r hr)
 refine ⟨q,rfl,?_⟩
 cases q with
 | none=>simp
 | some l=>simpa using h1
theorem o27 {n:Nat} {ds:List D} (h:HasT Tryz.prog (n+5) 27 ds):∃ (a b c:Option (List E9)) (o:Option (List E5)),ds=[d9 a,d9 b,d9 c,d5 o]∧(a.getD []).length*72≤140737488351232∧(b.getD []).length*72≤140737488351232∧(c.getD []).length*72≤140737488351232∧(o.getD []).length*40≤140737488351232:=by
 obtain ⟨a1,b1,rfl,h1,a2,b2,rfl,h2,a3,b3,rfl,h3,a4,b4,rfl,h4,rfl⟩:=h.struct Tryz.underlying27 rfl
 obtain ⟨a,rfl,ha⟩:=oList9 Tryz.underlying22 (by kernel_rfl) (by kernel_rfl) (fun r hr=>o50 hr) h1
 obtain ⟨b,rfl,hb⟩:=oList9 Tryz.underlying23 (by kernel_rfl) (by kernel_rfl) (fun r hr=>o52 hr) h2
 obtain ⟨c,rfl,hc⟩:=oList9 Tryz.underlying24 (by kernel_rfl) (by kernel_rfl) (fun r hr=>o54 hr) h3
 obtain ⟨o,rfl,ho⟩:=o25 h4
 exact ⟨a,b,c,o,rfl,ha,hb,hc,ho⟩
theorem o29 {n:Nat} {ds:List D} (h:HasT Tryz.prog (n+2) 29 ds):∃ p f d k,ds=[il p,il f,il d,il k]:=by
 obtain ⟨a1,b1,rfl,h1,a2,b2,rfl,h2,a3,b3,rfl,h3,a4,b4,rfl,h4,rfl⟩:=h.struct Tryz.underlying29 rfl
 obtain ⟨x1,rfl,_⟩:=o3 h1
 obtain ⟨x2,rfl,_⟩:=o3 h2
 obtain ⟨x3,rfl,_⟩:=o3 h3
 obtain ⟨x4,rfl,_⟩:=o3 h4
 exact ⟨x1,x2,x3,x4,rfl⟩
end Go.VE
namespace Go.VE
open Go.RowKit Go.Proofs
def sureQ (k:Int) (a b c:Option (List E9)) (o:Option (List E5)) (d f:Int):List Int:=(persL (cnt9 k (a.getD []))).filter fun q=>decide (forI (famL k a b c o d q) f=1)
theorem sureL_Q (k:Int) (a b c:Option (List E9)) (o:Option (List E5)) (d f:Int):(sureL k a b c o d f).getD []=sureQ k a b c o d f:=map_getD
theorem forI_one {l:List Int} {f:Int} (h:forI l f=1):l=[f]:=by
 unfold forI at h
 split at h
 ·rename_i hm
  split at h
  ·cases h
  ·rename_i hl
   cases l with
   | nil=>simp at hm
   | cons x r =>
    cases r with
    | nil=>simp at hm;rw [hm]
    | cons y r=>simp at hl
 ·cases h
theorem s30 (n:Nat) (a b:Option (List Int)) (ha:(a.getD []).length≤4611686018427387904) (hb:(b.getD []).length≤4611686018427387904):FN (n+2) 30 [dI a,dI b]=some (0,[.d (bl ((a.getD []).all fun x=>decide (x∈b.getD [])))]):=by
 rw [F30]
 simp only [G30,lenI,r_liti,r_loop]
 have:=range_loop (β:=Unit) (a.getD []) ha (L30_0 (RP (n+1))) (fun i _=>[.d (dI b),.d (dI a),.d (il (a.getD []).length),.d (il i)]) (fun _ _=>True)
  (fun _ r _=>if r.all (fun x=>decide (x∈b.getD []))=true then some (0,[]) else some (1,[.d (bl false)]))
  (fun _ k _=>by simp [L30_0]) ?_ M0 () trivial (M0_big ha)
 ·simp only [Int.natCast_zero] at this
  rw [this]
  by_cases h:(a.getD []).all (fun x=>decide (x∈b.getD []))=true
  ·rw [if_pos h,h];simp
  ·rw [if_neg h]
   have:(a.getD []).all (fun x=>decide (x∈b.getD []))=false:=by simpa using h
   rw [this];simp
 ·intro i e r _ k hi hd hlt hw _ ih
  have ih':=ih () trivial
  have hlt':(i:Int) < ((a.getD []).length:Int):=by omega
  simp only [L30_0,r_ld0,r_lds,r_lss,r_cond,hlt',decide_true,if_true,rowI hi,rI,r_cell0,r_call,s41 n b e hb,r_bnd0,r_not,r_liti,r_add,hw,r_litb,r_out,List.all_cons]
  by_cases h:e∈b.getD []
  ·simp only [h,decide_true,Bool.not_true,Bool.false_eq_true,if_false,Bool.true_and]
   exact ih'
  ·simp [h]
end Go.VE
namespace Go.VE
open Go.RowKit Go.Proofs
structure Nar1 (x e:E9):Prop where
 src:x.src=e.src
 a:x.a=e.a
 b:x.b=e.b
 kn:x.kn=e.kn
 un:x.un=e.un
 f:e.f1≤x.f1∧x.f1≤x.f2∧x.f2≤e.f2
 t:e.t1≤x.t1∧x.t1≤x.t2∧x.t2≤e.t2
def NarL:List E9→List E9→Prop
 | [],[]=>True
 | x::l,e::m=>Nar1 x e∧NarL l m
 | _,_=>False
theorem NarL.app:∀ {l1 m1 l2 m2:List E9},NarL l1 m1→NarL l2 m2→NarL (l1++l2) (m1++m2)
 | [],[],_,_,_,h=>h
 | _::_,_::_,_,_,h1,h2=>⟨h1.1,NarL.app h1.2 h2⟩
theorem NarL.rev:∀ {l m:List E9},NarL l m→NarL l.reverse m.reverse
 | [],[],_=>trivial
 | x::l,e::m,h=>by
  rw [List.reverse_cons,List.reverse_cons]
  exact NarL.app (NarL.rev h.2) ⟨h.1,trivial⟩
theorem NarL.len:∀ {l m:List E9},NarL l m→l.length=m.length
 | [],[],_=>rfl
 | x::l,e::m,h=>by simp [NarL.len h.2]
theorem below_rev (l:List E9):below l l.length=l.reverse:=by simp [below]
theorem NarL.below {l m:List E9} (h:NarL l m):NarL (below l l.length) (below m m.length):=by
 rw [below_rev,below_rev];exact h.rev
theorem NarL.cnt (k:Int):∀ {l m:List E9},NarL l m→NarL (cnt9 k l) (cnt9 k m)
 | [],[],_=>trivial
 | x::l,e::m,h=>by
  have ih:=NarL.cnt k h.2
  unfold cnt9 at ih ⊢
  rw [List.filter_cons,List.filter_cons,h.1.kn,h.1.un]
  split
  ·exact ⟨h.1,ih⟩
  ·exact ih
theorem NarL.mem:∀ {l m:List E9},NarL l m→∀ x∈l,∃ e∈m,Nar1 x e
 | [],[],_,x,hx=>by simp at hx
 | y::l,e::m,h,x,hx=>by
  rcases List.mem_cons.1 hx with rfl | hx
  ·exact ⟨e,by simp,h.1⟩
  ·obtain ⟨e',h1,h2⟩:=NarL.mem h.2 x hx
   exact ⟨e',by simp [h1],h2⟩
theorem Nar1.rfl' {e:E9} (h:e.f1≤e.f2∧e.t1≤e.t2):Nar1 e e:=⟨rfl,rfl,rfl,rfl,rfl,⟨by omega,h.1,by omega⟩,⟨by omega,h.2,by omega⟩⟩
theorem NarL.rfl':∀ {l:List E9},(∀ e∈l,e.f1≤e.f2∧e.t1≤e.t2)→NarL l l
 | [],_=>trivial
 | e::l,h=>⟨Nar1.rfl' (h e (by simp)),NarL.rfl' fun e he=>h e (by simp [he])⟩
theorem NarL.set:∀ {l:List E9} {i:Nat} {x e:E9},(∀ e∈l,e.f1≤e.f2∧e.t1≤e.t2)→l[i]?=some e→Nar1 x e→NarL (l.set i x) l
 | [],i,x,e,_,h,_=>by simp at h
 | y::l,0,x,e,h,hi,hx=>by
  simp at hi;subst hi
  exact ⟨hx,NarL.rfl' fun e he=>h e (by simp [he])⟩
 | y::l,i+1,x,e,h,hi,hx=>⟨Nar1.rfl' (h y (by simp)),NarL.set (fun e he=>h e (by simp [he])) (by simpa using hi) hx⟩
theorem opts_sub {d who:Int} {o:Option Int}:∀ {l m:List E9},NarL l m→o∈opts d who l→o∈opts d who m
 | [],[],_,h=>h
 | x::l,e::m,hn,h=>by
  have ih:o∈opts d who l→o∈opts d who m:=opts_sub hn.2
  obtain ⟨h1,h2⟩:=hn
  have hf:=h1.f;have ht:=h1.t;have ha:=h1.a;have hb:=h1.b
  rw [opts] at h ⊢
  have may:mayB x.f1 x.t2 d=true→mayB e.f1 e.t2 d=true:=fun h=>by unfold mayB at h ⊢;have:=of_decide_eq_true h;exact decide_eq_true (by omega)
  have sur:sureB e.f2 e.t1 d=true→sureB x.f2 x.t1 d=true∧mayB x.f1 x.t2 d=true:=fun h=>by
   unfold sureB at h;have:=of_decide_eq_true h
   exact ⟨by unfold sureB;exact decide_eq_true (by omega),by unfold mayB;exact decide_eq_true (by omega)⟩
  by_cases hc:x.a=who∧mayB x.f1 x.t2 d=true
  ·rw [if_pos hc] at h
   rw [if_pos ⟨by rw [←ha];exact hc.1,may hc.2⟩]
   rcases List.mem_cons.1 h with h | h
   ·rw [h,hb];simp
   ·refine List.mem_cons_of_mem _ ?_
    by_cases hs:sureB e.f2 e.t1 d=true
    ·rw [if_pos (sur hs).1] at h;simp at h
    ·rw [if_neg hs]
     split at h
     ·simp at h
     ·exact ih h
  ·rw [if_neg hc] at h
   by_cases hc2:e.a=who∧mayB e.f1 e.t2 d=true
   ·rw [if_pos hc2]
    refine List.mem_cons_of_mem _ ?_
    have hs:¬ sureB e.f2 e.t1 d=true:=fun hs=>hc ⟨by rw [ha];exact hc2.1,(sur hs).2⟩
    rw [if_neg hs];exact ih h
   ·rw [if_neg hc2];exact ih h
theorem less_nar {l m:List E9} (h:NarL l m) (hm:Less m):Less l:=fun x hx=>by
 obtain ⟨e,he,hn⟩:=h.mem x hx
 have:=hm e he
 rw [hn.a,hn.b];exact this
theorem leads_sub {d z:Int} {l m:List E9} (h:NarL l m) (hm:Less m):∀ (n:Nat) (f:Int),f.toNat≤n→1≤f→z∈leadsL d l f→z∈leadsL d m f:=by
 intro n
 induction n with
 | zero=>intro f h1 h2;omega
 | succ n ih =>
  intro f h1 h2 hz
  rcases (mem_leadsL (less_nar h hm) h2).1 hz with ⟨h3,h4⟩ | ⟨w,hw,h3⟩
  ·exact (mem_leadsL hm h2).2 (.inl ⟨opts_sub h.below h3,h4⟩)
  ·have hw':=opts_sub h.below hw
   have:=opts_less hm hw'
   exact (mem_leadsL hm h2).2 (.inr ⟨w,hw',ih w (by omega) this.1 h3⟩)
theorem homes_sub {d p z:Int} {l m:List E9} (h:NarL l m) (hz:z∈homesL d p l):z∈homesL d p m:=by
 obtain ⟨x,hx,rfl⟩:=(mem_homesL ..).1 hz
 exact (mem_homesL ..).2 ⟨x,opts_sub h.below hx,rfl⟩
theorem any_sub {l m:List (Option Int)} (h:∀ x∈l,x∈m) {p q:Option Int→Bool} (hpq:∀ x∈l,p x=true→q x=true) (hl:l.any p=true):m.any q=true:=by
 obtain ⟨x,hx,hp⟩:=(any_iff _ _).1 hl
 exact (any_iff _ _).2 ⟨x,h x hx,hpq x hx hp⟩
theorem walk_sub {a c a' c':List E9} (o:List E5) {d:Int} (ha:NarL a' a) (hc:NarL c' c) (p:Int):((walkP a' c' o d p).1=true→(walkP a c o d p).1=true)∧((walkP a' c' o d p).2=true→(walkP a c o d p).2=true):=by
 unfold walkP
 cases barB d p o with
 | true=>exact ⟨fun h=>h,fun h=>h⟩
 | false =>
  simp only [Bool.false_eq_true,if_false,Bool.and_eq_true,Bool.or_eq_true]
  have s1:∀ x∈opts d p (below a' a'.length),x∈opts d p (below a a.length):=fun x hx=>opts_sub ha.below hx
  have s2:∀ x∈opts d p (below c' c'.length),x∈opts d p (below c c.length):=fun x hx=>opts_sub hc.below hx
  exact ⟨fun h=>⟨any_sub s1 (fun _ _ h=>h) h.1,any_sub s2 (fun _ _ h=>h) h.2⟩,fun h=>h.elim (fun h=>.inl (any_sub s1 (fun _ _ h=>h) h)) (fun h=>.inr (any_sub s2 (fun _ _ h=>h) h))⟩
theorem step_sub {W V:Int→Bool×Bool} (h:∀ p,((W p).1=true→(V p).1=true)∧((W p).2=true→(V p).2=true)) (x:Option Int):((goStep W x).1=true→(goStep V x).1=true)∧((goStep W x).2=true→(goStep V x).2=true):=by
 cases x with
 | none=>exact ⟨fun h=>h,fun h=>h⟩
 | some z =>
  simp only [goStep]
  split
  ·exact ⟨fun h=>h,fun h=>h⟩
  ·exact h z
theorem go_sub {a c a' c':List E9} (o:List E5) {d:Int} (ha:NarL a' a) (hc:NarL c' c) (p:Int):((goP a' c' o d p).1=true→(goP a c o d p).1=true)∧((goP a' c' o d p).2=true→(goP a c o d p).2=true):=by
 unfold goP
 cases barB d p o with
 | true=>exact ⟨fun h=>h,fun h=>h⟩
 | false =>
  simp only [Bool.false_eq_true,if_false]
  have s2:∀ x∈opts d p (below c' c'.length),x∈opts d p (below c c.length):=fun x hx=>opts_sub hc.below hx
  exact ⟨any_sub s2 fun x _=>(step_sub (walk_sub o ha hc) x).1,any_sub s2 fun x _=>(step_sub (walk_sub o ha hc) x).2⟩
theorem fam_sub {a b c a' b' c':List E9} (o:List E5) {d p z:Int} (ha:NarL a' a) (hb:NarL b' b) (hc:NarL c' c) (hl:Less b) (hf:Fam1 a) (h:z∈famP a' b' c' o d p):z∈famP a b c o d p:=by
 rcases mem_famP.1 h with ⟨h1,h2⟩ | ⟨h1,f,h2,h3,h4⟩
 ·exact mem_famP.2 (.inl ⟨h1,h2.elim (fun h=>.inl (homes_sub ha h)) (fun h=>.inr ((go_sub o ha hc p).2 h))⟩)
 ·have hh:=homes_sub ha h2
  have:=homes_range hf hh
  exact mem_famP.2 (.inr ⟨(go_sub o ha hc p).1 h1,f,hh,h3,leads_sub hb hl _ f (Nat.le_refl _) (by omega) h4⟩)
theorem GoodK.nar {a b c a' b' c':List E9} {o:List E5} (g:GoodK a b c o) (ha:NarL a' a) (hb:NarL b' b) (hc:NarL c' c):GoodK a' b' c' o :=
 ⟨fun x hx=>by obtain ⟨e,he,hn⟩:=ha.mem x hx;rw [hn.b];exact g.fam e he,less_nar hb g.less,fun x hx=>by obtain ⟨e,he,hn⟩:=hc.mem x hx;rw [hn.b];exact g.by0 e he,by rw [ha.len];exact g.la,by rw [hb.len];exact g.lb,by rw [hc.len];exact g.lc,g.lo⟩
theorem gleans_fam {a b c:List E9} {o:List E5} {d p:Int} (g:GoodK a b c o):∃ y n:Bool,gleansI a c o d p=ansB y n∧(y=true↔∃ z∈famP a b c o d p,z≠0)∧(n=true↔0∈famP a b c o d p):=by
 refine ⟨_,_,gleans_eq a c o d p g.by0,?_,?_⟩
 ·rw [fam_pos g.fam g.less];simp
 ·rw [fam_zero g.fam g.less];simp [or_comm]
theorem gleans_nar {a b c a' b' c':List E9} {o:List E5} {d p:Int} (g:GoodK a b c o) (ha:NarL a' a) (hb:NarL b' b) (hc:NarL c' c) (h:gleansI a c o d p≠2):gleansI a' c' o d p=gleansI a c o d p:=by
 have g':=g.nar ha hb hc
 have hs:∀ z,z∈famP a' b' c' o d p→z∈famP a b c o d p:=fun z hz=>fam_sub o ha hb hc g.less g.fam hz
 obtain ⟨w,hw⟩:=fam_ne (c:=c') (o:=o) (d:=d) (p:=p) g'.fam g'.less
 obtain ⟨y,n,e,h1,h2⟩:=gleans_fam (d:=d) (p:=p) g
 obtain ⟨y',n',e',h1',h2'⟩:=gleans_fam (d:=d) (p:=p) g'
 rw [e] at h;rw [e,e']
 cases y with
 | false =>
  have:y'=false:=by
   cases y' with
   | false=>rfl
   | true =>
    obtain ⟨z,hz,h0⟩:=h1'.1 rfl
    have:=h1.2 ⟨z,hs z hz,h0⟩
    cases this
  subst this;cases n<;>cases n'<;>rfl
 | true =>
  cases n with
  | true=>exact absurd rfl h
  | false =>
   have hn:n'=false:=by
    cases n' with
    | false=>rfl
    | true=>have:=h2.2 (hs 0 (h2'.1 rfl));cases this
   have hy:y'=true:=by
    apply h1'.2
    refine ⟨w,hw,fun h0=>?_⟩
    subst h0
    have:=h2'.2 hw
    rw [hn] at this;cases this
   rw [hn,hy]
theorem fam_one {l m:List Int} {f:Int} (hm:m=[f]) (hs:∀ z∈l,z∈m) (hne:∃ z,z∈l) (hu:Up l):l=[f]:=by
 subst hm
 exact (one_eq hu hne).2 fun z hz=>by simpa using hs z hz
theorem forI_of {f:Int} {l:List Int} (h:l=[f]):forI l f=1:=by subst h;simp [forI]
theorem filter_mono {p q:Int→Bool} (h:∀ x,p x=true→q x=true):∀ l:List Int,(l.filter p).length≤(l.filter q).length
 | []=>by simp
 | x::l=>by
  have ih:=filter_mono h l
  rw [List.filter_cons,List.filter_cons]
  cases hp:p x with
  | true=>rw [h x hp];simpa using ih
  | false =>
   cases hq:q x with
   | true=>simp only [Bool.false_eq_true,if_false,if_true,List.length_cons];omega
   | false=>simpa using ih
end Go.VE
namespace Go.VE
open Go.RowKit Go.Proofs
def modI (a b:Int):Int:=(a.tmod b+b).tmod b
theorem modI_range (a:Int) {b:Int} (hb:0 < b):0≤modI a b∧modI a b < b:=by
 have h1:=Int.lt_tmod_of_pos a hb
 unfold modI
 exact ⟨Int.tmod_nonneg b (by omega),Int.tmod_lt_of_pos _ hb⟩
theorem s27 (n:Nat) (a b:Int) (hb:0 < b) (hb2:b≤1000000000):FN (n+1) 27 [il a,il b]=some (0,[.d (il (modI a b))]):=by
 rw [F27]
 have h1:=Int.lt_tmod_of_pos a hb
 have h2:=Int.tmod_lt_of_pos a hb
 have hne:b≠0:=by omega
 simp only [G27,r_rem _ _ _ _ hne,r_add]
 rw [wrap_id (by omega) (by omega)]
 rfl
def lesLo (lo hi n:Int):Int:=lo+modI n (hi - lo+1)
def lesHi (lo hi n:Int):Int:=hi - modI (n.tdiv 5) (hi - lesLo lo hi n+1)
theorem les_range (lo hi n:Int) (h:lo≤hi):lo≤lesLo lo hi n∧lesLo lo hi n≤lesHi lo hi n∧lesHi lo hi n≤hi:=by
 have h1:=modI_range n (b:=hi - lo+1) (by omega)
 have h2:lo≤lesLo lo hi n∧lesLo lo hi n≤hi:=by unfold lesLo;omega
 have h3:=modI_range (n.tdiv 5) (b:=hi - lesLo lo hi n+1) (by omega)
 unfold lesHi;omega
theorem div5 {n:Int} (h1:-9223372036854775808≤n) (h2:n≤9223372036854775807):-9223372036854775808≤n.tdiv 5∧n.tdiv 5≤9223372036854775807:=by
 by_cases h:0≤n
 ·rw [Int.tdiv_eq_ediv_of_nonneg h];omega
 ·have:n.tdiv 5=-((-n).tdiv 5):=by rw [Int.neg_tdiv];omega
  rw [this,Int.tdiv_eq_ediv_of_nonneg (by omega)];omega
theorem s28 (n:Nat) (lo hi z:Int) (h0:0≤lo) (h:lo≤hi) (h9:hi≤100000) (hz1:-9223372036854775808≤z) (hz2:z≤9223372036854775807):FN (n+2) 28 [il lo,il hi,il z]=some (0,[.d (il (lesLo lo hi z)),.d (il (lesHi lo hi z))]):=by
 rw [F28]
 have hr:=les_range lo hi z h
 have h1:=modI_range z (b:=hi - lo+1) (by omega)
 have hd:=div5 hz1 hz2
 simp only [G28,r_sub,r_liti,r_add,r_call]
 rw [wrap_id (x:=hi - lo) (by omega) (by omega),wrap_id (x:=hi - lo+1) (by omega) (by omega),s27 n _ _ (by omega) (by omega)]
 simp only [r_bnd0,r_ld0,r_add]
 rw [show lo+modI z (hi - lo+1)=lesLo lo hi z from rfl,wrap_id (x:=lesLo lo hi z) (by omega) (by omega),r_quo _ _ _ _ (by decide),wrap_id hd.1 hd.2]
 simp only [r_sub,r_add]
 rw [wrap_id (x:=hi - lesLo lo hi z) (by omega) (by omega),wrap_id (x:=hi - lesLo lo hi z+1) (by omega) (by omega),s27 n _ _ (by omega) (by omega)]
 simp only [r_bnd0,r_ld0,r_sub,r_out]
 rw [show hi - modI (z.tdiv 5) (hi - lesLo lo hi z+1)=lesHi lo hi z from rfl,wrap_id (x:=lesHi lo hi z) (by omega) (by omega)]
theorem a4_0 {Fn:Nat→List D→Out} {FnD:D→List Sh→List D→Out} {m:Nat} (A B C O A' B' C' O' P L:D) (_ d k:Int) (i:Nat) (p:Int) (H H' F F':D) (x y:Int) (x4 x5:D)
  (hlt:∀ q:List D→Out,(real Fn FnD m).rowD 1 P (il i) q=q (rI p)) (hL:∃ n:Nat,L=il n∧i < n)
  (h12:Fn 12 [A,B,C,O,il p,il d,il k]=some (0,[.d H,.d (il 0)])) (h12':Fn 12 [A',B',C',O',il p,il d,il k]=some (0,[.d H',.d (il 0)]))
  (h16:Fn 16 [A,B,C,O,il p,il d,il k]=some (0,[.d F,.d (il 0)])) (h16':Fn 16 [A',B',C',O',il p,il d,il k]=some (0,[.d F',.d (il 0)]))
  (h18:Fn 18 [A,B,C,O,il p,il d,il k]=some (0,[.d (il x),.d (il 0)])) (h18':Fn 18 [A',B',C',O',il p,il d,il k]=some (0,[.d (il y),.d (il 0)]))
  (q1:Fn 30 [H',H]=some (0,[.d (bl true)])) (q2:Fn 30 [F',F]=some (0,[.d (bl true)])) (hxy:x≠2→x=y) (hw:IntKind.i64.wrap ((i:Int)+1)=(i:Int)+1) (K:Nat→List Yr→Out) :
  L4_0 (real Fn FnD m) K [.d A,.d B,.d C,.d O,.d x4,.d x5,.d (il d),.d (il k),.d P,.d L,.d (il i),.d A',.d B',.d C',.d O']=K 0 [.d A,.d B,.d C,.d O,.d x4,.d x5,.d (il d),.d (il k),.d P,.d L,.d (il ((i:Int)+1)),.d A',.d B',.d C',.d O']:=by
 obtain ⟨n,rfl,hi⟩:=hL
 have hlt':(i:Int) < (n:Int):=by omega
 simp only [L4_0,r_ld0,r_lds,r_lss,r_cond,hlt',decide_true,if_true,hlt,rI,r_cell0,r_call,h12,h12',h16,h16',h18,h18',r_bnd0,r_liti,r_neq,ne_eq,not_true_eq_false,decide_false,Bool.false_eq_true,if_false,q1,q2,r_not,Bool.not_true]
 by_cases h2:x=2
 ·subst h2
  simp
  simp [hw]
 ·have:=hxy h2;subst this
  simp [h2]
  simp [hw]
end Go.VE
namespace Go.VE
open Go.RowKit Go.Proofs
theorem bnd_to {Fn:Nat→List D→Out} {FnD:D→List Sh→List D→Out} {m:Nat} {X:Out} (V:Out) {ks:List (List Yr→Out)} {R:Out} (h1:X=V) (h2:(real Fn FnD m).bnd V ks=R):(real Fn FnD m).bnd X ks=R:=by rw [h1];exact h2
theorem rows9 {Fn:Nat→List D→Out} {FnD:D→List Sh→List D→Out} {m:Nat} (a:Option (List E9)) (k:Rr→Out):(real Fn FnD m).rowsD 9 (d9 a) k=k ((a.getD []).map r9):=by
 rw [d9,r_rowsDS];cases a<;>rfl
def natI (z:Int) (l:List E9):Nat:=(modI z l.length).toNat
theorem natI_lt (z:Int) {l:List E9} (h:l≠[]):natI z l < l.length∧((natI z l:Nat):Int)=modI z l.length:=by
 have hp:0 < (l.length:Int):=by cases l with
  | nil=>exact absurd rfl h
  | cons _ _=>simp
 have:=modI_range z hp
 unfold natI;omega
def narF (z:Int) (e:E9):E9:={ e with f1:=lesLo e.f1 e.f2 z,f2:=lesHi e.f1 e.f2 z }
def narT (z:Int) (e:E9):E9:={ e with t1:=lesLo e.t1 e.t2 z,t2:=lesHi e.t1 e.t2 z }
def narAt (g:E9→E9) (z:Int) (l:List E9):List E9:=match l[natI z l]? with
 | some e=>l.set (natI z l) (g e)
 | none=>l
theorem narAt_some (g:E9→E9) (z:Int) {l:List E9} {e:E9} (h:l[natI z l]?=some e):narAt g z l=l.set (natI z l) (g e):=by unfold narAt;rw [h]
theorem span_nar {e:E9} (h:okSpan e.f1 e.f2 e.t1 e.t2) (y z:Int):Nar1 (narF y e) e∧Nar1 (narT z e) e∧Nar1 (narT z (narF y e)) e:=by
 unfold okSpan at h
 have h1:=les_range e.f1 e.f2 y (by omega)
 have h2:=les_range e.t1 e.t2 z (by omega)
 exact ⟨⟨rfl,rfl,rfl,rfl,rfl,h1,by simp only [narF];omega⟩,⟨rfl,rfl,rfl,rfl,rfl,by simp only [narT];omega,h2⟩,⟨rfl,rfl,rfl,rfl,rfl,h1,h2⟩⟩
theorem nar_of {g:E9→E9} {z:Int} {l:List E9} (hs:∀ e∈l,okSpan e.f1 e.f2 e.t1 e.t2) (hg:∀ e∈l,Nar1 (g e) e):NarL (narAt g z l) l:=by
 unfold narAt
 have h0:∀ e∈l,e.f1≤e.f2∧e.t1≤e.t2:=fun e he=>by have:=hs e he;unfold okSpan at this;omega
 split
 ·rename_i e he
  exact NarL.set h0 he (hg e (List.mem_of_getElem? he))
 ·exact NarL.rfl' h0
theorem set_row (l:List E9) (i:Nat) (e:E9):(l.map r9).set i (r9 e)=(l.set i e).map r9:=by rw [List.map_set]
theorem at_row {Fn:Nat→List D→Out} {FnD:D→List Sh→List D→Out} {m:Nat} {l:List E9} {i:Nat} {e:E9} (h:l[i]?=some e) (k:List D→Out):(real Fn FnD m).rowAt 9 (l.map r9) i k=k (r9 e):=r_rowAt 9 _ _ _ _ (by rw [List.getElem?_map,h];rfl) rfl
theorem take_rows (l:List E9):(l.map r9).take l.length=l.map r9:=List.take_of_length_le (by simp)
end Go.VE
namespace Go.VE
open Go.RowKit Go.Proofs
def narA (y z w:Int) (l:List E9):List E9:=narAt (fun e=>narT w (narF z e)) y l
def narB (y z:Int) (l:List E9):List E9:=narAt (narF z) y l
def narC (y z:Int) (l:List E9):List E9:=narAt (narT z) y l
theorem d9_some (l:List E9):(.sl 9 (l.map r9):D)=d9 (some l):=rfl
section
variable {Fn:Nat→List D→Out} {FnD:D→List Sh→List D→Out} {m:Nat}
abbrev Has27 (Fn:Nat→List D→Out):Prop:=∀ z L:Int,0 < L→L≤1000000000→Fn 27 [il z,il L]=some (0,[.d (il (modI z L))])
abbrev Has28 (Fn:Nat→List D→Out):Prop:=∀ lo hi z:Int,0≤lo→lo≤hi→hi≤100000→-9223372036854775808≤z→z≤9223372036854775807→Fn 28 [il lo,il hi,il z]=some (0,[.d (il (lesLo lo hi z)),.d (il (lesHi lo hi z))])
set_option maxRecDepth 20000 in
set_option maxHeartbeats 1000000 in
theorem narrow_run (a b c:Option (List E9)) (O L1 L1' P:D) (n0 n1 n2 n3 n4 p f d k lo hi lo' hi' N:Int) (ok:Bool)
  (h24:Fn 24 [d9 a,d9 b,d9 c,O]=some (0,[.d (il (if ok=true then 0 else 34))])) (hd25:Fn 25 [il d]=some (0,[.d (bl (decide (0≤d∧d≤4166)))])) (hk25:Fn 25 [il k]=some (0,[.d (bl (decide (0≤k∧k≤4166)))])) (h26:Fn 26 [il f]=some (0,[.d (bl (decide (1≤f∧f≤99)))])) (h23:Fn 23 []=some (0,[.d (bl true)]))
  (h27:Has27 Fn) (h28:Has28 Fn) (r1:-9223372036854775808≤n1∧n1≤9223372036854775807) (r2:-9223372036854775808≤n2∧n2≤9223372036854775807) (r3:-9223372036854775808≤n3∧n3≤9223372036854775807) (r4:-9223372036854775808≤n4∧n4≤9223372036854775807)
  (hm:ok=true→0≤d∧d≤4166→0≤k∧k≤4166→1≤f∧f≤99→(a.getD []).length≤60∧(b.getD []).length≤60∧(c.getD []).length≤60∧(∀ e∈a.getD [],okSpan e.f1 e.f2 e.t1 e.t2)∧(∀ e∈b.getD [],okSpan e.f1 e.f2 e.t1 e.t2)∧(∀ e∈c.getD [],okSpan e.f1 e.f2 e.t1 e.t2) ∧
   Fn 14 [d9 a,d9 b,d9 c,O,il f,il d,il k]=some (0,[.d L1,.d (il 0)])∧Fn 14 [d9 (some (narA n0 n1 n2 (a.getD []))),d9 (some (narB n0 n3 (b.getD []))),d9 (some (narC n0 n4 (c.getD []))),O,il f,il d,il k]=some (0,[.d L1',.d (il 0)]) ∧
   Fn 29 [d9 a,d9 b,d9 c,O,il f,il d,il k]=some (0,[.d (il lo),.d (il hi),.d (il 0)])∧Fn 29 [d9 (some (narA n0 n1 n2 (a.getD []))),d9 (some (narB n0 n3 (b.getD []))),d9 (some (narC n0 n4 (c.getD []))),O,il f,il d,il k]=some (0,[.d (il lo'),.d (il hi'),.d (il 0)]) ∧
   Fn 30 [L1',L1]=some (0,[.d (bl true)])∧lo≤lo'∧hi'≤hi∧Fn 31 [d9 a,d9 b,d9 c,O]=some (0,[.d P])∧(∀ q:D→Out,(real Fn FnD m).lenD P q=q (il N)) ∧
   loopR [L4_0 (real Fn FnD m)] m 0 [.d (d9 a),.d (d9 b),.d (d9 c),.d O,.d (il p),.d (il f),.d (il d),.d (il k),.d P,.d (il N),.d (il 0),.d (d9 (some (narA n0 n1 n2 (a.getD [])))),.d (d9 (some (narB n0 n3 (b.getD [])))),.d (d9 (some (narC n0 n4 (c.getD [])))),.d O]=some (1,[])) :
  G4 (real Fn FnD m) (d9 a) (d9 b) (d9 c) O (il n0) (il n1) (il n2) (il n3) (il n4) (il p) (il f) (il d) (il k)=some (0,[.d (bl true)]):=by
 simp only [G4,r_call,h24,r_bnd0,r_ld0,r_liti,r_neq,r_cond,hd25,hk25,h26,r_not,h23,r_out]
 cases ok with
 | false=>simp
 | true =>
  simp only [if_true,ne_eq,not_true_eq_false,decide_false,Bool.false_eq_true,if_false]
  by_cases hd:0≤d∧d≤4166
  ·simp only [hd,and_self,decide_true,Bool.not_true,Bool.false_eq_true,if_false]
   by_cases hk:0≤k∧k≤4166
   ·simp only [hk,and_self,decide_true,Bool.not_true,Bool.false_eq_true,if_false]
    by_cases hf:1≤f∧f≤99
    ·obtain ⟨la,lb,lc,sA,sB,sC,e14,e14',e29,e29',q1,hlo,hhi,e31,eP,eL⟩:=hm rfl hd hk hf
     simp only [hf,and_self,decide_true,Bool.not_true,Bool.false_eq_true,if_false,rows9,r_natN,r_rows,r_len,List.length_nil,r_eqN,if_true,r_addN,Nat.zero_add,List.length_map,r_fitsg,r_app,List.nil_append]
     rw [if_pos (by omega),if_pos (by omega),if_pos (by omega)]
     refine bnd_to (some (0,[.d (d9 a),.d (d9 b),.d (d9 c),.d O,.d (il n0),.d (il n1),.d (il n2),.d (il n3),.d (il n4),.d (il p),.d (il f),.d (il d),.d (il k),.r ((c.getD []).map r9),.r ((b.getD []).map r9),.d (d9 (some (narA n0 n1 n2 (a.getD [])))),.n (b.getD []).length,.n (b.getD []).length,.n (c.getD []).length,.n (c.getD []).length,.d O])) ?_ ?_
     ·simp only [r_natD,r_gtr,r_cond,decide_eq_true_eq]
      generalize a.getD []=l at la sA
      by_cases hne:l=[]
      ·subst hne
       rw [if_neg (by simp)]
       simp only [r_slD,r_seg0,take_rows,d9_some]
       rfl
      ·have hi:=natI_lt n0 hne
       obtain ⟨e,he⟩:∃ e,l[natI n0 l]?=some e:=⟨_,List.getElem?_eq_getElem hi.1⟩
       have hs:=sA e (List.mem_of_getElem? he)
       unfold okSpan at hs
       have he1:(l.set (natI n0 l) (narF n1 e))[natI n0 l]?=some (narF n1 e):=by simp [hi.1]
       rw [if_pos (by have:=hi.1;omega)]
       have hin:0≤modI n0 (l.length:Int)∧modI n0 (l.length:Int) < (l.length:Int):=by omega
       have hnat:(modI n0 (l.length:Int)).toNat=natI n0 l:=rfl
       simp only [h27 n0 (l.length:Int) (by omega) (by omega),r_bnd0,r_ld0,r_inxg,hin,and_self,if_true,hnat]
       simp only [at_row he,r9,r_cell0,r_cells,h28 e.f1 e.f2 n1 (by omega) (by omega) (by omega) r1.1 r1.2,r_bnd0,r_ld0,r_lds,r_setR,List.length_set,List.length_map,if_true]
       rw [show (l.map r9).set (natI n0 l) [il e.src,il e.a,il e.b,il (lesLo e.f1 e.f2 n1),il (lesHi e.f1 e.f2 n1),il e.t1,il e.t2,il e.kn,il e.un]=(l.set (natI n0 l) (narF n1 e)).map r9 from set_row l (natI n0 l) (narF n1 e)]
       have hr9:r9 (narF n1 e)=[il e.src,il e.a,il e.b,il (lesLo e.f1 e.f2 n1),il (lesHi e.f1 e.f2 n1),il e.t1,il e.t2,il e.kn,il e.un]:=rfl
       simp only [at_row he1,hr9,r_cell0,r_cells,h28 e.t1 e.t2 n2 (by omega) (by omega) (by omega) r2.1 r2.2,r_bnd0,r_ld0,r_lds,r_slD,r_seg0]
       rw [show (((l.set (natI n0 l) (narF n1 e)).map r9).set (natI n0 l) [il e.src,il e.a,il e.b,il (lesLo e.f1 e.f2 n1),il (lesHi e.f1 e.f2 n1),il (lesLo e.t1 e.t2 n2),il (lesHi e.t1 e.t2 n2),il e.kn,il e.un])=(narA n0 n1 n2 l).map r9 from by
        rw [narA,narAt_some _ n0 he,show ([il e.src,il e.a,il e.b,il (lesLo e.f1 e.f2 n1),il (lesHi e.f1 e.f2 n1),il (lesLo e.t1 e.t2 n2),il (lesHi e.t1 e.t2 n2),il e.kn,il e.un]:List D)=r9 (narT n2 (narF n1 e)) from rfl,set_row,List.set_set]]
       rw [show l.length=(narA n0 n1 n2 l).length from by rw [narA,narAt_some _ n0 he,List.length_set],take_rows,d9_some]
     ·simp only [r_bnd0,r_ld0,r_lds,r_ln0,r_lns,r_lr0,r_lrs]
      refine bnd_to (some (0,[.d (d9 a),.d (d9 b),.d (d9 c),.d O,.d (il n0),.d (il n1),.d (il n2),.d (il n3),.d (il n4),.d (il p),.d (il f),.d (il d),.d (il k),.r ((c.getD []).map r9),.d (d9 (some (narA n0 n1 n2 (a.getD [])))),.d (d9 (some (narB n0 n3 (b.getD [])))),.n (c.getD []).length,.n (c.getD []).length,.d O])) ?_ ?_
      ·simp only [r_natD,r_gtr,r_cond,decide_eq_true_eq]
       generalize b.getD []=l at lb sB
       by_cases hne:l=[]
       ·subst hne
        rw [if_neg (by simp)]
        simp only [List.length_nil,if_true,r_slD,r_seg0,List.map_nil,List.take_nil]
        rfl
       ·have hi:=natI_lt n0 hne
        obtain ⟨e,he⟩:∃ e,l[natI n0 l]?=some e:=⟨_,List.getElem?_eq_getElem hi.1⟩
        have hs:=sB e (List.mem_of_getElem? he)
        unfold okSpan at hs
        have hl0:(0:Int) < (l.length:Int):=by have:=hi.1;omega
        rw [if_pos hl0]
        have hin:0≤modI n0 (l.length:Int)∧modI n0 (l.length:Int) < (l.length:Int):=by omega
        have hnat:(modI n0 (l.length:Int)).toNat=natI n0 l:=rfl
        simp only [h27 n0 (l.length:Int) (by omega) (by omega),r_bnd0,r_ld0,r_inxg,hin,and_self,if_true,hnat,List.length_map]
        simp only [at_row he,r9,r_cell0,r_cells,h28 e.f1 e.f2 n3 (by omega) (by omega) (by omega) r3.1 r3.2,r_bnd0,r_ld0,r_lds,r_setR,List.length_set,List.length_map,if_true,r_slD,r_seg0]
        rw [show (l.map r9).set (natI n0 l) [il e.src,il e.a,il e.b,il (lesLo e.f1 e.f2 n3),il (lesHi e.f1 e.f2 n3),il e.t1,il e.t2,il e.kn,il e.un]=(narB n0 n3 l).map r9 from by
         rw [narB,narAt_some _ n0 he,← set_row];rfl]
        rw [show l.length=(narB n0 n3 l).length from by rw [narB,narAt_some _ n0 he,List.length_set],take_rows,d9_some]
      ·simp only [r_bnd0,r_ld0,r_lds,r_ln0,r_lns,r_lr0,r_lrs]
       refine bnd_to (some (0,[.d (d9 a),.d (d9 b),.d (d9 c),.d O,.d (il p),.d (il f),.d (il d),.d (il k),.d (d9 (some (narA n0 n1 n2 (a.getD [])))),.d (d9 (some (narB n0 n3 (b.getD [])))),.d (d9 (some (narC n0 n4 (c.getD [])))),.d O])) ?_ ?_
       ·simp only [r_natD,r_gtr,r_cond,decide_eq_true_eq]
        generalize c.getD []=l at lc sC
        by_cases hne:l=[]
        ·subst hne
         rw [if_neg (by simp)]
         simp only [List.length_nil,if_true,r_slD,r_seg0,List.map_nil,List.take_nil]
         rfl
        ·have hi:=natI_lt n0 hne
         obtain ⟨e,he⟩:∃ e,l[natI n0 l]?=some e:=⟨_,List.getElem?_eq_getElem hi.1⟩
         have hs:=sC e (List.mem_of_getElem? he)
         unfold okSpan at hs
         have hl0:(0:Int) < (l.length:Int):=by have:=hi.1;omega
         rw [if_pos hl0]
         have hin:0≤modI n0 (l.length:Int)∧modI n0 (l.length:Int) < (l.length:Int):=by omega
         have hnat:(modI n0 (l.length:Int)).toNat=natI n0 l:=rfl
         simp only [h27 n0 (l.length:Int) (by omega) (by omega),r_bnd0,r_ld0,r_inxg,hin,and_self,if_true,hnat,List.length_map]
         simp only [at_row he,r9,r_cell0,r_cells,h28 e.t1 e.t2 n4 (by omega) (by omega) (by omega) r4.1 r4.2,r_bnd0,r_ld0,r_lds,r_setR,List.length_set,List.length_map,if_true,r_slD,r_seg0]
         rw [show (l.map r9).set (natI n0 l) [il e.src,il e.a,il e.b,il e.f1,il e.f2,il (lesLo e.t1 e.t2 n4),il (lesHi e.t1 e.t2 n4),il e.kn,il e.un]=(narC n0 n4 l).map r9 from by
          rw [narC,narAt_some _ n0 he,← set_row];rfl]
         rw [show l.length=(narC n0 n4 l).length from by rw [narC,narAt_some _ n0 he,List.length_set],take_rows,d9_some]
       ·have x1:¬ lo' < lo:=by omega
        have x2:¬ hi < hi':=by omega
        simp only [r_bnd0,r_ld0,r_lds,e14,e14',e29,e29',q1,e31,eP,r_neq,r_lss,r_gtr,r_cond,ne_eq,not_true_eq_false,decide_false,Bool.false_eq_true,if_false,r_not,Bool.not_true,x1,x2]
        simp only [r_loop,eL,r_bnd1]
    ·simp [hf]
   ·simp [hk]
  ·simp [hd]
end
end Go.VE
namespace Go.VE
open Go.RowKit Go.Proofs
theorem okL_nar {p:E9→Bool} (hp:∀ x e,Nar1 x e→p e=true→p x=true):∀ {l m:List E9} (q:Option Int),NarL l m→okL p (·.src) q m=true→okL p (·.src) q l=true
 | [],[],_,_,_=>rfl
 | x::l,e::m,q,h,ho=>by
  rw [okL,Bool.and_eq_true,Bool.and_eq_true] at ho ⊢
  rw [h.1.src]
  exact ⟨⟨hp x e h.1 ho.1.1,ho.1.2⟩,okL_nar hp _ h.2 ho.2⟩
theorem span_sub {x e:E9} (h:Nar1 x e) (hs:okSpan e.f1 e.f2 e.t1 e.t2):okSpan x.f1 x.f2 x.t1 x.t2:=by
 have:=h.f;have:=h.t
 unfold okSpan at hs ⊢;omega
theorem okKin_nar {a b c a' b' c':List E9} {o:List E5} (ha:NarL a' a) (hb:NarL b' b) (hc:NarL c' c) (h:okKin a b c o=true):okKin a' b' c' o=true:=by
 unfold okKin at h ⊢
 rw [ha.len,hb.len,hc.len]
 simp only [Bool.and_eq_true] at h ⊢
 obtain ⟨⟨⟨⟨h0,h1⟩,h2⟩,h3⟩,h4⟩:=h
 refine ⟨⟨⟨⟨h0,okL_nar ?_ _ ha h1⟩,okL_nar ?_ _ hb h2⟩,okL_nar ?_ _ hc h3⟩,h4⟩
 ·intro x e hn he
  have he:=of_decide_eq_true he
  refine decide_eq_true ?_
  unfold okStay at he ⊢
  rw [hn.src,hn.a,hn.b,hn.kn,hn.un]
  exact ⟨he.1,he.2.1,he.2.2.1,span_sub hn he.2.2.2.1,he.2.2.2.2⟩
 ·intro x e hn he
  have he:=of_decide_eq_true he
  refine decide_eq_true ?_
  unfold okBond at he ⊢
  rw [hn.src,hn.a,hn.b,hn.kn,hn.un]
  exact ⟨he.1,he.2.1,he.2.2.1,span_sub hn he.2.2.2.1,he.2.2.2.2⟩
 ·intro x e hn he
  have he:=of_decide_eq_true he
  refine decide_eq_true ?_
  unfold okAway at he ⊢
  rw [hn.src,hn.a,hn.b,hn.kn,hn.un]
  exact ⟨he.1,he.2.1,he.2.2.1,he.2.2.2.1,span_sub hn he.2.2.2.2.1,he.2.2.2.2.2⟩
theorem NarL.as:∀ {l m:List E9},NarL l m→l.map (·.a)=m.map (·.a)
 | [],[],_=>rfl
 | x::l,e::m,h=>by rw [List.map_cons,List.map_cons,h.1.a,NarL.as h.2]
theorem NarL.pers {l m:List E9} (h:NarL l m):persL l=persL m:=by unfold persL;rw [h.as]
theorem all_in {l m:List Int} (h:∀ z∈l,z∈m):(l.all fun x=>decide (x∈m))=true:=List.all_eq_true.2 fun z hz=>decide_eq_true (h z hz)
theorem forI_ne {l:List Int} {f:Int}:forI l f≠0↔f∈l:=by
 unfold forI
 by_cases h:f∈l
 ·rw [if_pos h];constructor
  ·exact fun _=>h
  ·intro _;split<;>decide
 ·rw [if_neg h];simp [h]
theorem sure_nar {k:Int} {a b c a' b' c':Option (List E9)} {o:Option (List E5)} {d f:Int} (g:GoodK (a.getD []) (b.getD []) (c.getD []) (o.getD [])) (ha:NarL (a'.getD []) (a.getD [])) (hb:NarL (b'.getD []) (b.getD [])) (hc:NarL (c'.getD []) (c.getD [])) :
  ((sureL k a b c o d f).getD []).length≤((sureL k a' b' c' o d f).getD []).length:=by
 have g1:=g.cnt k
 have g2:=(g.nar ha hb hc).cnt k
 rw [sureL_Q,sureL_Q,sureQ,sureQ,(ha.cnt k).pers]
 refine filter_mono (fun p hp=>decide_eq_true ?_) _
 have h1:=forI_one (of_decide_eq_true hp)
 exact forI_of (fam_one h1 (fun z hz=>fam_sub _ (ha.cnt k) (hb.cnt k) (hc.cnt k) g1.less g1.fam hz) (fam_ne g2.fam g2.less) (up_famP ..))
theorem may_nar {k:Int} {a b c a' b' c':Option (List E9)} {o:Option (List E5)} {d f:Int} (g:GoodK (a.getD []) (b.getD []) (c.getD []) (o.getD [])) (ha:NarL (a'.getD []) (a.getD [])) (hb:NarL (b'.getD []) (b.getD [])) (hc:NarL (c'.getD []) (c.getD [])) :
  ((mayL k a' b' c' o d f).getD []).length≤((mayL k a b c o d f).getD []).length:=by
 have g1:=g.cnt k
 unfold mayL
 rw [map_getD,map_getD,(ha.cnt k).pers]
 refine filter_mono (fun p hp=>decide_eq_true (forI_ne.2 ?_)) _
 exact fam_sub _ (ha.cnt k) (hb.cnt k) (hc.cnt k) g1.less g1.fam (forI_ne.1 (of_decide_eq_true hp))
theorem L4_l (n:Nat) (x4 x5 d k:Int) (a b c a' b' c':Option (List E9)) (o:Option (List E5)) (ha:(a.getD []).length*72≤140737488351232) (hb:(b.getD []).length*72≤140737488351232) (hc:(c.getD []).length*72≤140737488351232) (ho:(o.getD []).length*40≤140737488351232)
  (hok:okKin (a.getD []) (b.getD []) (c.getD []) (o.getD [])=true) (hd:0≤d∧d≤4166) (hk:0≤k∧k≤4166) (na:NarL (a'.getD []) (a.getD [])) (nb:NarL (b'.getD []) (b.getD [])) (nc:NarL (c'.getD []) (c.getD [])) :
  loopR [L4_0 (RP (n+111))] M0 0 [.d (d9 a),.d (d9 b),.d (d9 c),.d (d5 o),.d (il x4),.d (il x5),.d (il d),.d (il k),.d (dI (nzO (persL (a.getD [])))),.d (il (persL (a.getD [])).length),.d (il 0),.d (d9 a'),.d (d9 b'),.d (d9 c'),.d (d5 o)]=some (1,[]):=by
 have hok':=okKin_nar na nb nc hok
 have hg:=good_of hok
 have g:=hg.cnt k
 have g':=(good_of hok').cnt k
 have hla:=(okKin_len hok).1
 have hlp:=len_persL (a.getD [])
 have e1:=range_loop (β:=Unit) (persL (a.getD [])) (by omega) (L4_0 (RP (n+111))) (fun i _=>[.d (d9 a),.d (d9 b),.d (d9 c),.d (d5 o),.d (il x4),.d (il x5),.d (il d),.d (il k),.d (dI (nzO (persL (a.getD [])))),.d (il (persL (a.getD [])).length),.d (il i),.d (d9 a'),.d (d9 b'),.d (d9 c'),.d (d5 o)]) (fun _ _=>True) (fun _ _ _=>some (1,[]))
  (fun _ q _=>by simp [L4_0]) ?_ M0 () trivial (by unfold M0;omega)
 ·simpa using e1
 ·intro i p r _ q hi hdr hlt hw _ ih
  have ih':=ih () trivial
  have hp:1≤p∧p≤999:=by
   obtain ⟨e,he,h⟩:=(mem_persL _ _).1 (List.mem_of_getElem? hi)
   have:=((okKin_parts hok).1 e he).2.1
   omega
  have he:∀ {A B C:List E9} {O:List E5},okKin A B C O=true→askE (okKin A B C O) true false p 0 [d,k]=0:=fun h=>by simp [askE,h,hp,hd,hk]
  have h12:=s12 (n+100) p d k a b c o ha hb hc ho
  have h12':=s12 (n+100) p d k a' b' c' o (by rw [na.len];exact ha) (by rw [nb.len];exact hb) (by rw [nc.len];exact hc) ho
  have h16:=s16 (n+5) p d k a b c o ha hb hc ho
  have h16':=s16 (n+5) p d k a' b' c' o (by rw [na.len];exact ha) (by rw [nb.len];exact hb) (by rw [nc.len];exact hc) ho
  have h18:=s18 (n+4) p d k a b c o ha hb hc ho
  have h18':=s18 (n+4) p d k a' b' c' o (by rw [na.len];exact ha) (by rw [nb.len];exact hb) (by rw [nc.len];exact hc) ho
  rw [if_pos (he hok)] at h12 h16 h18
  rw [if_pos (he hok')] at h12' h16' h18'
  have l1:=len_homes d p (cnt9 k (a.getD []))
  have l1':=len_homes d p (cnt9 k (a'.getD []))
  have l2:=g.la
  have l2':=g'.la
  have q1:=s30 (n+109) (some (homesL d p (cnt9 k (a'.getD [])))) (some (homesL d p (cnt9 k (a.getD [])))) (by simp only [Option.getD_some];omega) (by simp only [Option.getD_some];omega)
  have l3:(famL k a b c o d p).length≤100:=acc_len0 (up_famP ..) fun z hz=>fam_range g.fam g.less hz
  have l3':(famL k a' b' c' o d p).length≤100:=acc_len0 (up_famP ..) fun z hz=>fam_range g'.fam g'.less hz
  have q2:=s30 (n+109) (some (famL k a' b' c' o d p)) (some (famL k a b c o d p)) (by simp only [Option.getD_some];omega) (by simp only [Option.getD_some];omega)
  simp only [Option.getD_some] at q1 q2
  rw [all_in fun z hz=>homes_sub (na.cnt k) hz] at q1
  rw [all_in (l:=famL k a' b' c' o d p) (m:=famL k a b c o d p) fun z hz=>fam_sub _ (na.cnt k) (nb.cnt k) (nc.cnt k) g.less g.fam hz] at q2
  have hi':((nzO (persL (a.getD []))).getD [])[i]?=some p:=by rw [nzO_getD];exact hi
  rw [a4_0 (d9 a) (d9 b) (d9 c) (d5 o) (d9 a') (d9 b') (d9 c') (d5 o) _ _ x5 d k i p _ _ _ _ _ _ _ _ (fun q=>rowI hi' q) ⟨_,rfl,hlt⟩ h12 h12' h16 h16' h18 h18' q1 q2 (fun h=>(gleans_nar g (na.cnt k) (nb.cnt k) (nc.cnt k) h).symm) hw q]
  exact ih'
theorem lead_len {l:List E9} {d f:Int} (h:Less l) (hf:1≤f∧f≤99):(leadsL d l f).length≤4611686018427387904:=by
 have:=len_leadsL (d:=d) h hf.1
 omega
theorem s4 (n:Nat) (n0 n1 n2 n3 n4 p f d k:Int) (r1:-9223372036854775808≤n1∧n1≤9223372036854775807) (r2:-9223372036854775808≤n2∧n2≤9223372036854775807) (r3:-9223372036854775808≤n3∧n3≤9223372036854775807) (r4:-9223372036854775808≤n4∧n4≤9223372036854775807)
  (a b c:Option (List E9)) (o:Option (List E5)) (ha:(a.getD []).length*72≤140737488351232) (hb:(b.getD []).length*72≤140737488351232) (hc:(c.getD []).length*72≤140737488351232) (ho:(o.getD []).length*40≤140737488351232) :
  G4 (RP (n+111)) (d9 a) (d9 b) (d9 c) (d5 o) (il n0) (il n1) (il n2) (il n3) (il n4) (il p) (il f) (il d) (il k)=some (0,[.d (bl true)]):=by
 refine narrow_run a b c (d5 o) (dI (some (leadsL d (cnt9 k (b.getD [])) f))) (dI (some (leadsL d (cnt9 k (narB n0 n3 (b.getD []))) f))) (dI (nzO (persL (a.getD [])))) n0 n1 n2 n3 n4 p f d k
  (((sureL k a b c o d f).getD []).length:Int) (((mayL k a b c o d f).getD []).length:Int) (((sureL k (some (narA n0 n1 n2 (a.getD []))) (some (narB n0 n3 (b.getD []))) (some (narC n0 n4 (c.getD []))) o d f).getD []).length:Int) (((mayL k (some (narA n0 n1 n2 (a.getD []))) (some (narB n0 n3 (b.getD []))) (some (narC n0 n4 (c.getD []))) o d f).getD []).length:Int) ((persL (a.getD [])).length:Int)
  (okKin (a.getD []) (b.getD []) (c.getD []) (o.getD [])) (s24 (n+106) a b c o) (s25 (n+109) d) (s25 (n+109) k) (s26 (n+109) f) (s23 n) (fun z L h h'=>s27 (n+110) z L h h') (fun lo hi z h0 h h9 z1 z2=>s28 (n+109) lo hi z h0 h h9 z1 z2) r1 r2 r3 r4 ?_
 intro hok hd hk hf
 have hp:=okKin_parts hok
 have sA:∀ e∈a.getD [],okSpan e.f1 e.f2 e.t1 e.t2:=fun e he=>(hp.1 e he).2.2.2.1
 have sB:∀ e∈b.getD [],okSpan e.f1 e.f2 e.t1 e.t2:=fun e he=>(hp.2.1 e he).2.2.2.1
 have sC:∀ e∈c.getD [],okSpan e.f1 e.f2 e.t1 e.t2:=fun e he=>(hp.2.2.1 e he).2.2.2.2.1
 have na:NarL (narA n0 n1 n2 (a.getD [])) (a.getD []):=nar_of sA fun e he=>(span_nar (sA e he) n1 n2).2.2
 have nb:NarL (narB n0 n3 (b.getD [])) (b.getD []):=nar_of sB fun e he=>(span_nar (sB e he) n3 0).1
 have nc:NarL (narC n0 n4 (c.getD [])) (c.getD []):=nar_of sC fun e he=>(span_nar (sC e he) 0 n4).2.1
 obtain ⟨l1,l2,l3,l4⟩:=okKin_len hok
 have hok':=okKin_nar (o:=o.getD []) na nb nc hok
 have g:=good_of hok
 have g':=good_of hok'
 have he:∀ {A B C:List E9} {O:List E5},okKin A B C O=true→askE (okKin A B C O) false true 0 f [d,k]=0:=fun h=>by simp [askE,h,hf,hd,hk]
 have hlp:=len_persL (a.getD [])
 have ha':((some (narA n0 n1 n2 (a.getD []))).getD []).length*72≤140737488351232:=by rw [Option.getD_some,na.len];exact ha
 have hb':((some (narB n0 n3 (b.getD []))).getD []).length*72≤140737488351232:=by rw [Option.getD_some,nb.len];exact hb
 have hc':((some (narC n0 n4 (c.getD []))).getD []).length*72≤140737488351232:=by rw [Option.getD_some,nc.len];exact hc
 have h14:=s14 (n+6) f d k a b c o ha hb hc ho
 have h14':=s14 (n+6) f d k (some (narA n0 n1 n2 (a.getD []))) (some (narB n0 n3 (b.getD []))) (some (narC n0 n4 (c.getD []))) o ha' hb' hc' ho
 have h29:=s29 (n+1) f d k a b c o ha hb hc ho
 have h29':=s29 (n+1) f d k (some (narA n0 n1 n2 (a.getD []))) (some (narB n0 n3 (b.getD []))) (some (narC n0 n4 (c.getD []))) o ha' hb' hc' ho
 simp only [Option.getD_some] at h14' h29'
 rw [if_pos (he hok)] at h14 h29
 rw [if_pos (he hok')] at h14' h29'
 have q1:=s30 (n+109) (some (leadsL d (cnt9 k (narB n0 n3 (b.getD []))) f)) (some (leadsL d (cnt9 k (b.getD [])) f)) (by simp only [Option.getD_some];exact lead_len (g'.cnt k).less hf) (by simp only [Option.getD_some];exact lead_len (g.cnt k).less hf)
 simp only [Option.getD_some] at q1
 rw [all_in fun z hz=>leads_sub (nb.cnt k) (g.cnt k).less _ f (Nat.le_refl _) hf.1 hz] at q1
 have hs:=sure_nar (k:=k) (d:=d) (f:=f) (a':=some (narA n0 n1 n2 (a.getD []))) (b':=some (narB n0 n3 (b.getD []))) (c':=some (narC n0 n4 (c.getD []))) g na nb nc
 have hm:=may_nar (k:=k) (d:=d) (f:=f) (a':=some (narA n0 n1 n2 (a.getD []))) (b':=some (narB n0 n3 (b.getD []))) (c':=some (narC n0 n4 (c.getD []))) g na nb nc
 refine ⟨l1,l2,l3,sA,sB,sC,h14,h14',h29,h29',q1,by omega,by omega,s31 (n+109) a (d9 b) (d9 c) (d5 o) (by omega),fun q=>by rw [lenI,nzO_getD],?_⟩
 exact L4_l n p f d k a b c (some (narA n0 n1 n2 (a.getD []))) (some (narB n0 n3 (b.getD []))) (some (narC n0 n4 (c.getD []))) o ha hb hc ho hok hd hk na nb nc
end Go.VE
namespace Go.VE
open Go.RowKit Go.Proofs Go.Proofs.YtobeabinccohlaaGreat
set_option maxRecDepth 100000
set_option maxRecDepth 100000 in
theorem o42 {n:Nat} {ds:List D} (h:HasT Tryz.prog (n+2) 42 ds):∃ v w x y z,ds=[il v,il w,il x,il y,il z]∧(-9223372036854775808≤w∧w≤9223372036854775807)∧(-9223372036854775808≤x∧x≤9223372036854775807)∧(-9223372036854775808≤y∧y≤9223372036854775807)∧(-9223372036854775808≤z∧z≤9223372036854775807):=by
 obtain ⟨a,b,rfl,h1,c,d,rfl,h2,e,f,rfl,h3,g,j,rfl,h4,k,l,rfl,h5,rfl⟩:=h.arr Tryz.underlying42
 obtain ⟨v,rfl,_⟩:=o3 h1
 obtain ⟨w,rfl,r1⟩:=o3 h2
 obtain ⟨x,rfl,r2⟩:=o3 h3
 obtain ⟨y,rfl,r3⟩:=o3 h4
 obtain ⟨z,rfl,r4⟩:=o3 h5
 exact ⟨v,w,x,y,z,rfl,r1,r2,r3,r4⟩
theorem familyNarrow_sc (vds:List VD) (h:VTs Tryz.prog 8 [27,42,29] vds):SC Tryz.prog 4 vds (.one (.d (bl true))):=by
 obtain ⟨_,_,rfl,h1,h⟩:=VTs_cons h
 obtain ⟨_,_,rfl,h2,h⟩:=VTs_cons h
 obtain ⟨_,_,rfl,h3,h⟩:=VTs_cons h
 cases VTs_nil h
 obtain ⟨_,rfl,k1⟩:=h1.agg_ Tryz.underlying27
 obtain ⟨_,rfl,k2⟩:=h2.arr_ Tryz.underlying42
 obtain ⟨_,rfl,k3⟩:=h3.agg_ Tryz.underlying29
 obtain ⟨a,b,c,o,rfl,ha,hb,hc,ho⟩:=o27 k1
 obtain ⟨n0,n1,n2,n3,n4,rfl,r1,r2,r3,r4⟩:=o42 k2
 obtain ⟨p,f,d,k,rfl⟩:=o29 k3
 refine lawSC (T:=tb) (fuel:=400) (m0:=M0) (xs:=[d9 a,d9 b,d9 c,d5 o,il n0,il n1,il n2,il n3,il n4,il p,il f,il d,il k]) mixP (FN_ok 111) (FN_okM 111) spOK (by decide) (sh:=[.agg 4,.agg 5,.agg 4]) rfl rfl rfl ?_
 rw [G4_eq]
 exact s4 0 n0 n1 n2 n3 n4 p f d k r1 r2 r3 r4 a b c o ha hb hc ho
end Go.VE
namespace Go.Proofs.YtobeabinccohlaaGreat
open Go.VE Go.RowKit
set_option maxRecDepth 100000
theorem familyNarrow_lifted (os:Os) (started:os.Started) (H:Type) (enc:TypeId×Value→H) :
  ReturnsInHanded {} Tryz.checked os 4 .any (Rows.familyNarrowSpec.pre6 enc Tryz.prog Tryz.f4 Rows.familyNarrowRow.domain false) (Rows.familyNarrowSpec.post enc Tryz.prog Tryz.f4 false true false false) :=
 lawIn (C:=Tryz.checked) (n:=8) (tb:=4) own started (by kernel_rfl) Tryz.func4
  (ChangeSpec.witness6 (enc:=enc) (C:=Tryz.checked) false ⟨#[],#[.agg #[.slice none 0 0,.slice none 0 0,.slice none 0 0,.slice none 0 0],.agg #[.int .i64 0,.int .i64 0,.int .i64 0,.int .i64 0,.int .i64 0],.agg #[.int .i64 0,.int .i64 0,.int .i64 0,.int .i64 0]],[]⟩ 8 (by kernel_rfl) (by kernel_rfl) (by kernel_rfl) (by kernel_rfl))
  laidOut (by kernel_rfl) (by kernel_rfl) Tryz.underlying4 rfl
  (fun ds hd=>by
   rw [show Tryz.f4.params.toList=[27,42,29] by kernel_rfl] at hd
   match ds,hd with
   | [a,b,c],_=>rfl)
  (fun vds h=>familyNarrow_sc vds h)
theorem familyNarrow_over:Rows.familyNarrowRow.holds Tryz.pinned (OpenSpec.ofChange Rows.familyNarrowSpec) :=
 OpenClaim.holds_of_wide 4 Tryz.f4 rfl rfl rfl rfl rfl rfl rfl ⟨rfl,rfl,rfl,rfl,rfl⟩ rfl rfl rfl rfl rfl (by kernel_rfl) Tryz.func4 (by kernel_rfl)
  (of_decide_eq_true (by kernel_rfl)) (by unfold Func.isWrapper;first | (rw [if_pos (by decide +kernel)];kernel_rfl) | (rw [if_neg (by decide +kernel)];exact ⟨rfl,rfl⟩))
  (fun os started H enc _=>familyNarrow_lifted os started H enc)
theorem familyNarrow_holds:Rows.FamilyNarrowSaid:=familyNarrow_over
#print axioms familyNarrow_holds
end Go.Proofs.YtobeabinccohlaaGreat
