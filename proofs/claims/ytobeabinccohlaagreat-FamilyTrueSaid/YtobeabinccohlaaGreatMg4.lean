/- Family: Moved (program). (Made by fa44.py.) -/
import Derived.Test.YtobeabinccohlaaGreatMg3
import Derived.Test.YtobeabinccohlaaGreatMi
import Derived.Test.YtobeabinccohlaaGreatMt
import Derived.KernelRfl
import Derived.Test.YtobeabinccohlaaGreatMh
import Derived.Test.YtobeabinccohlaaGreatRows
namespace Go.VE
open Go.RowKit Go.Proofs
def wo9 (s:Int) (l:List E9):List E9:=l.filter fun e=>!decide (e.src=s)
def wo5 (s:Int) (l:List E5):List E5:=l.filter fun e=>!decide (e.src=s)
def wk9 (s:Int) (o:Option (List E9)):Option (List E9):=o.map (wo9 s)
def wk5 (s:Int) (o:Option (List E5)):Option (List E5):=o.map (wo5 s)
theorem qbY (s:Int):wk9 s none=none:=rfl
theorem qbZ (s:Int):wk5 s none=none:=rfl
theorem q23 (s:Int) (o:Option (List E9)):(wk9 s o).getD []=wo9 s (o.getD []):=by cases o<;>rfl
theorem q7g (s:Int) (o:Option (List E5)):(wk5 s o).getD []=wo5 s (o.getD []):=by cases o<;>rfl
theorem q2a (s:Int) (l:List E9):(wo9 s l).length≤l.length:=List.length_filter_le _ _
theorem q7R (s:Int) (l:List E5):(wo5 s l).length≤l.length:=List.length_filter_le _ _
theorem qbr {s:Int} {l:List E9} {e:E9} (h:e∈wo9 s l):e∈l:=(List.mem_filter.1 h).1
theorem GoodK.wo {a b c:List E9} {o:List E5} (h:GoodK a b c o) (s:Int):GoodK (wo9 s a) (wo9 s b) (wo9 s c) (wo5 s o) :=
 ⟨fun e he=>h.fam e (qbr he),fun e he=>h.less e (qbr he),fun e he=>h.by0 e (qbr he),Nat.le_trans (q2a ..) h.la,Nat.le_trans (q2a ..) h.lb,Nat.le_trans (q2a ..) h.lc,Nat.le_trans (q7R ..) h.lo⟩
theorem s98 (n:Nat) (e:E9) (s:Int):FN (n+1) 98 (r9 e++[il s])=some (0,[.d (bl (decide (e.src=s)))]):=by
 rw [r9]
 simp only [List.cons_append,List.nil_append]
 rw [F98]
 simp only [G98,q0M,q0d]
theorem d98 (n:Nat) (e:E9) (s:Int):FD (n+1) (.fn 98 [.dp [il s] 0]) [.agg 9] (r9 e)=some (0,[.d (bl (decide (e.src=s)))]) :=
 q4A [.agg 9,.ptr 1] [.agg (r9 e)] (by decide) rfl (by kernel_rfl) rfl (by kernel_rfl) (s98 n e s)
theorem s100 (n:Nat) (e:E9) (s:Int):FN (n+1) 100 (r9 e++[il s])=some (0,[.d (bl (decide (e.src=s)))]):=by
 rw [r9]
 simp only [List.cons_append,List.nil_append]
 rw [F100]
 simp only [G100,q0M,q0d]
theorem d100 (n:Nat) (e:E9) (s:Int):FD (n+1) (.fn 100 [.dp [il s] 0]) [.agg 9] (r9 e)=some (0,[.d (bl (decide (e.src=s)))]) :=
 q4A [.agg 9,.ptr 1] [.agg (r9 e)] (by decide) rfl (by kernel_rfl) rfl (by kernel_rfl) (s100 n e s)
theorem s102 (n:Nat) (e:E9) (s:Int):FN (n+1) 102 (r9 e++[il s])=some (0,[.d (bl (decide (e.src=s)))]):=by
 rw [r9]
 simp only [List.cons_append,List.nil_append]
 rw [F102]
 simp only [G102,q0M,q0d]
theorem d102 (n:Nat) (e:E9) (s:Int):FD (n+1) (.fn 102 [.dp [il s] 0]) [.agg 9] (r9 e)=some (0,[.d (bl (decide (e.src=s)))]) :=
 q4A [.agg 9,.ptr 1] [.agg (r9 e)] (by decide) rfl (by kernel_rfl) rfl (by kernel_rfl) (s102 n e s)
theorem s104 (n:Nat) (e:E5) (s:Int):FN (n+1) 104 (r5 e++[il s])=some (0,[.d (bl (decide (e.src=s)))]):=by
 rw [r5]
 simp only [List.cons_append,List.nil_append]
 rw [F104]
 simp only [G104,q0M,q0d]
theorem d104 (n:Nat) (e:E5) (s:Int):FD (n+1) (.fn 104 [.dp [il s] 0]) [.agg 5] (r5 e)=some (0,[.d (bl (decide (e.src=s)))]) :=
 q4A [.agg 5,.ptr 1] [.agg (r5 e)] (by decide) rfl (by kernel_rfl) rfl (by kernel_rfl) (s104 n e s)
theorem qgx (n:Nat) (s:Int) (l:List E9) (hl:l.length*72≤140737488351232):∃ rest:Rr,FN (n+3) 1000097 [.sl 9 (l.map r9),.fn 98 [.dp [il s] 0]]=some (0,[.d (d9 (wk9 s (some l))),.d (.sl 9 rest)]):=by
 obtain ⟨rest,h⟩:=qcf (n+1) (.fn 98 [.dp [il s] 0]) (fun e=>decide (e.src=s)) l (by omega) (fun e _=>d98 n e s) (fun e _=>d98 (n+1) e s)
 refine ⟨rest,h.trans ?_⟩
 simp only [d9,wk9,wo9,Option.map_some,dSl]
theorem qgw (n:Nat) (s:Int) (l:List E9) (hl:l.length*72≤140737488351232):∃ rest:Rr,FN (n+3) 1000099 [.sl 9 (l.map r9),.fn 100 [.dp [il s] 0]]=some (0,[.d (d9 (wk9 s (some l))),.d (.sl 9 rest)]):=by
 obtain ⟨rest,h⟩:=qce (n+1) (.fn 100 [.dp [il s] 0]) (fun e=>decide (e.src=s)) l (by omega) (fun e _=>d100 n e s) (fun e _=>d100 (n+1) e s)
 refine ⟨rest,h.trans ?_⟩
 simp only [d9,wk9,wo9,Option.map_some,dSl]
theorem qgv (n:Nat) (s:Int) (l:List E9) (hl:l.length*72≤140737488351232):∃ rest:Rr,FN (n+3) 1000101 [.sl 9 (l.map r9),.fn 102 [.dp [il s] 0]]=some (0,[.d (d9 (wk9 s (some l))),.d (.sl 9 rest)]):=by
 obtain ⟨rest,h⟩:=qcd (n+1) (.fn 102 [.dp [il s] 0]) (fun e=>decide (e.src=s)) l (by omega) (fun e _=>d102 n e s) (fun e _=>d102 (n+1) e s)
 refine ⟨rest,h.trans ?_⟩
 simp only [d9,wk9,wo9,Option.map_some,dSl]
theorem qgu (n:Nat) (s:Int) (l:List E5) (hl:l.length*40≤140737488351232):∃ rest:Rr,FN (n+3) 1000103 [.sl 5 (l.map r5),.fn 104 [.dp [il s] 0]]=some (0,[.d (d5 (wk5 s (some l))),.d (.sl 5 rest)]):=by
 obtain ⟨rest,h⟩:=qcc (n+1) (.fn 104 [.dp [il s] 0]) (fun e=>decide (e.src=s)) l (by omega) (fun e _=>d104 n e s) (fun e _=>d104 (n+1) e s)
 refine ⟨rest,h.trans ?_⟩
 simp only [d5,wk5,wo5,Option.map_some,dSl]
theorem if2 {α:Type} (p q:Prop) [Decidable p] [Decidable q] (x y:α):(if p then (if q then x else y) else y)=if p∧q then x else y:=by
 by_cases h1:p<;>by_cases h2:q<;>simp [h1,h2]
theorem if3 {α:Type} (p q r:Prop) [Decidable p] [Decidable q] [Decidable r] (x y:α):(if p then (if q then (if r then x else y) else y) else y)=if p∧q∧r then x else y:=by
 by_cases h1:p<;>by_cases h2:q<;>by_cases h3:r<;>simp [h1,h2,h3]
theorem if4 {α:Type} (p q r s:Prop) [Decidable p] [Decidable q] [Decidable r] [Decidable s] (x y:α):(if p then (if q then (if r then (if s then x else y) else y) else y) else y)=if p∧q∧r∧s then x else y:=by
 by_cases h1:p<;>by_cases h2:q<;>by_cases h3:r<;>by_cases h4:s<;>simp [h1,h2,h3,h4]
def q4O (s:Int) (a b c:List E9) (o:List E5):Prop:=((wo9 s a).length:Int)=a.length∧((wo9 s b).length:Int)=b.length∧((wo9 s c).length:Int)=c.length∧((wo5 s o).length:Int)=o.length
instance (s:Int) (a b c:List E9) (o:List E5):Decidable (q4O s a b c o):=by unfold q4O;infer_instance
def q6D (s k:Int) (a b c:Option (List E9)) (o:Option (List E5)) (d:Int):Int→List Int:=q1j (q0p k (wo9 s (a.getD []))) (q0p k (wo9 s (b.getD []))) (q0p k (wo9 s (c.getD []))) (q2Q k (wo5 s (o.getD []))) d
def qe3 (s k:Int) (a b c:Option (List E9)) (o:Option (List E5)) (d:Int):Option (List Int):=(nzO (q0H (a.getD []))).map (List.filter (q6h (fk k a b c o d) (q6D s k a b c o d)))
theorem qjH (s k:Int) (a b c:Option (List E9)) (o:Option (List E5)) (d:Int):fo (kn9 k (wk9 s a)) (kn9 k (wk9 s b)) (kn9 k (wk9 s c)) (kn5 k (wk5 s o)) d=q6D s k a b c o d:=by
 funext p;unfold fo q6D;rw [q0m,q0m,q0m,q2w,q23,q23,q23,q7g]
set_option maxRecDepth 20000 in
set_option maxHeartbeats 4000000 in
theorem s39 (n:Nat) (s d k:Int) (a b c:Option (List E9)) (o:Option (List E5)) (ha:(a.getD []).length*72≤140737488351232) (hb:(b.getD []).length*72≤140737488351232) (hc:(c.getD []).length*72≤140737488351232) (ho:(o.getD []).length*40≤140737488351232) :
  FN (n+109) 39 [d9 a,d9 b,d9 c,d5 o,il s,il d,il k]=if q0R (q0k (a.getD []) (b.getD []) (c.getD []) (o.getD [])) false false 0 0 [d,k]=0 then (if q4O s (a.getD []) (b.getD []) (c.getD []) (o.getD []) then some (0,[.d (dI none),.d (il 3)]) else some (0,[.d (dI (qe3 s k a b c o d)),.d (il 0)])) else some (0,[.d (dI none),.d (il (q0R (q0k (a.getD []) (b.getD []) (c.getD []) (o.getD [])) false false 0 0 [d,k]))]):=by
 rw [F39]
 have h73:=q9Y (n+98) 0 0 d k a b c o ha hb hc ho false false
 by_cases he:q0R (q0k (a.getD []) (b.getD []) (c.getD []) (o.getD [])) false false 0 0 [d,k]=0
 ·rw [if_pos he]
  have g:=q4V k he
  have gw:GoodK ((kn9 k (wk9 s a)).getD []) ((kn9 k (wk9 s b)).getD []) ((kn9 k (wk9 s c)).getD []) ((kn5 k (wk5 s o)).getD []):=by
   rw [q0m,q0m,q0m,q2w,q23,q23,q23,q7g]
   exact ((q1f (q15 he)).wo s).cnt k
  have hla:=(q0Y (q15 he)).1
  have h93:=k93 n a (d9 b) (d9 c) (d5 o) d (by omega) (q1s he).1 g gw
  rw [fo_kn,qjH] at h93
  have h94:=s94 (n+103) k (wk9 s a) (wk9 s b) (wk9 s c) (wk5 s o) (by rw [q23];have:=q2a s (a.getD []);omega) (by rw [q23];have:=q2a s (b.getD []);omega) (by rw [q23];have:=q2a s (c.getD []);omega) (by rw [q7g];have:=q7R s (o.getD []);omega)
  have hp:∀ (a b c:Option (List E9)) (o:Option (List E5)) (q:List D→Out),(RP (n+108)).ptrW 4 (q0U a b c o) q=q [d9 a,d9 b,d9 c,d5 o]:=fun a b c o q=>q1O _ 4 q rfl
  have hx:(nzO (q0H (a.getD []))).map (List.filter (q6h (fk k a b c o d) (q6D s k a b c o d)))=qe3 s k a b c o d:=rfl
  rw [hx] at h93
  generalize qe3 s k a b c o d=M at h93 ⊢
  have h96:=s96 (n+106) a b c o ha hb hc ho
  have hN:q4O s (a.getD []) (b.getD []) (c.getD []) (o.getD [])=((((wk9 s a).getD []).length:Int)=(a.getD []).length∧(((wk9 s b).getD []).length:Int)=(b.getD []).length∧(((wk9 s c).getD []).length:Int)=(c.getD []).length∧(((wk5 s o).getD []).length:Int)=(o.getD []).length):=by
   rw [q23,q23,q23,q7g];rfl
  simp only [hN]
  clear hN hx
  simp only [q03,q0K,G39,q06,q0u,q1e,h73,q4C,he,if_true,q00,q02,q04,q0y,ne_eq,not_true_eq_false,decide_false,q01,Bool.false_eq_true,if_false,h96]
  clear h73 he g gw hla
  obtain ⟨_,ka⟩:=sk (qgx (n+105) s)
  obtain ⟨_,kb⟩:=sk (qgw (n+105) s)
  obtain ⟨_,kc⟩:=sk (qgv (n+105) s)
  obtain ⟨_,ko⟩:=sk (qgu (n+105) s)
  cases a<;>cases b<;>cases c<;>cases o<;>try simp only [qbY,qbZ] at h94 h93
  all_goals
   try simp only [Option.getD_some] at ha hb hc ho
   simp only [Option.isSome_none,Option.isSome_some,ix96,↓q00,↓q1E,lv9,lv5]
   simp (disch:=first | exact ha | exact hb | exact hc | exact ho) only [q06,s97n,s99n,s101n,s103n,ka,kb,kc,ko,qbY,qbZ,q00,q02,q04,q0x,q0F,q0A,q0B,if_true,q0d,q4L,q5u,q12,C39_0,q4R,qgm,q0M,q01,decide_eq_true_eq,h94,hp,q07,q0g,h93,q03,q0Z,true_and,and_true]
   first | rfl | exact if2 _ _ _ _ | exact if3 _ _ _ _ _ | exact if4 _ _ _ _ _ _
 ·rw [if_neg he]
  simp only [G39,q06,q03,q0K,q0u,q1e,h73,q4C,if_neg he,q00,q02,q04,q0y,q01]
  rw [if_pos (by simpa using he)]
  simp [dI,dSl]
end Go.VE
namespace Go.VE
open Go.RowKit Go.Proofs
def kinA:Option (List E9):=some [⟨1,10,3,0,0,100,100,0,0⟩,⟨2,11,3,0,0,100,100,0,0⟩,⟨3,12,5,0,10,90,100,0,0⟩,⟨4,11,7,40,50,60,60,0,0⟩]
def kinB:Option (List E9):=some [⟨20,5,3,20,30,70,70,8,0⟩]
def kinC:Option (List E9):=some [⟨30,10,0,50,50,52,55,0,0⟩,⟨31,12,10,0,0,100,100,0,0⟩]
def kinO:Option (List E5):=some [⟨40,11,9,5,0⟩]
theorem s168 (n:Nat) (x:Int):FN (n+1) 168 [il x]=some (0,[.d (il x),.d (il x)]):=by rw [F168];simp [G168]
theorem s88 (n:Nat):FN (n+2) 88 []=some (0,[.d (d9 kinA),.d (d9 kinB),.d (d9 kinC),.d (d5 kinO)]):=by
 rw [F88]
 simp only [G88,q06,q03,s168,q00,q02,q04,q0G,q0u,q0A,List.length_cons,List.length_nil,q0B,if_true,q0q,q1e,q0d,List.take_succ_cons,List.take_zero]
 simp [kinA,kinB,kinC,kinO,d9,d5,r9,r5,dSl]
theorem kA:(kinA.getD []).length*72≤140737488351232:=by decide
theorem kB:(kinB.getD []).length*72≤140737488351232:=by decide
theorem kC:(kinC.getD []).length*72≤140737488351232:=by decide
theorem kO:(kinO.getD []).length*40≤140737488351232:=by decide
theorem x1 (n:Nat):FN (n+110) 12 [d9 kinA,d9 kinB,d9 kinC,d5 kinO,il 11,il 45,il 9]=some (0,[.d (dI (some [3,7])),.d (il 0)]):=by
 rw [s12 (n+99) 11 45 9 kinA kinB kinC kinO kA kB kC kO,if_pos (by decide +kernel),show q0I 45 11 (q0p 9 (kinA.getD []))=[3,7] by decide +kernel]
theorem x2 (n:Nat):FN (n+110) 14 [d9 kinA,d9 kinB,d9 kinC,d5 kinO,il 5,il 25,il 9]=some (0,[.d (dI (some [3,5])),.d (il 0)]):=by
 rw [s14 (n+5) 5 25 9 kinA kinB kinC kinO kA kB kC kO,if_pos (by decide +kernel),show q0e 25 (q0p 9 (kinB.getD [])) 5=[3,5] by decide +kernel]
theorem x3 (n:Nat):FN (n+110) 16 [d9 kinA,d9 kinB,d9 kinC,d5 kinO,il 12,il 51,il 9]=some (0,[.d (dI (some [0])),.d (il 0)]):=by
 rw [s16 (n+4) 12 51 9 kinA kinB kinC kinO kA kB kC kO,if_pos (by decide +kernel),show q1Q 9 kinA kinB kinC kinO 51 12=[0] by decide +kernel]
theorem x4 (n:Nat):FN (n+110) 18 [d9 kinA,d9 kinB,d9 kinC,d5 kinO,il 12,il 53,il 9]=some (0,[.d (il 2),.d (il 0)]):=by
 rw [s18 (n+3) 12 53 9 kinA kinB kinC kinO kA kB kC kO,if_pos (by decide +kernel),show q1g (q0p 9 (kinA.getD [])) (q0p 9 (kinC.getD [])) (q2Q 9 (kinO.getD [])) 53 12=2 by decide +kernel]
theorem x5 (n:Nat):FN (n+110) 20 [d9 kinA,d9 kinB,d9 kinC,d5 kinO,il 11,il 7,il 55,il 9]=some (0,[.d (il 1),.d (il 0)]):=by
 rw [s20 (n+3) 11 7 55 9 kinA kinB kinC kinO kA kB kC kO,if_pos (by decide +kernel),show q3b (q1Q 9 kinA kinB kinC kinO 55 11) 7=1 by decide +kernel]
theorem x6 (n:Nat):FN (n+110) 32 [d9 kinA,d9 kinB,d9 kinC,d5 kinO,il 3,il 35,il 9]=some (0,[.d (dI (some [10,11,12])),.d (il 0)]):=by
 rw [s32 n 3 35 9 kinA kinB kinC kinO kA kB kC kO,if_pos (by decide +kernel),show q3F 9 kinA kinB kinC kinO 35 3=some [10,11,12] by decide +kernel]
theorem x7 (n:Nat):FN (n+110) 29 [d9 kinA,d9 kinB,d9 kinC,d5 kinO,il 3,il 53,il 9]=some (0,[.d (il 0),.d (il 2),.d (il 0)]):=by
 rw [s29 n 3 53 9 kinA kinB kinC kinO kA kB kC kO,if_pos (by decide +kernel),show (((q3F 9 kinA kinB kinC kinO 53 3).getD []).length:Int)=0 by decide +kernel,show (((q9G 9 kinA kinB kinC kinO 53 3).getD []).length:Int)=2 by decide +kernel]
theorem x8 (n:Nat):FN (n+110) 39 [d9 kinA,d9 kinB,d9 kinC,d5 kinO,il 30,il 53,il 9]=some (0,[.d (dI (some [10,12])),.d (il 0)]):=by
 rw [s39 (n+1) 30 53 9 kinA kinB kinC kinO kA kB kC kO,if_pos (by decide +kernel),if_neg (by decide +kernel),show qe3 30 9 kinA kinB kinC kinO 53=some [10,12] by decide +kernel]
theorem x9 (n:Nat):FN (n+110) 37 [d9 kinA,d9 kinB,d9 kinC,d5 kinO,il 10,il 4,il 9]=some (0,[.d (dI (some [11])),.d (il 0)]):=by
 rw [s37 (n+1) 10 4 9 kinA kinB kinC kinO kA kB kC kO,if_pos (by decide +kernel),show (nzO (q0H (kinA.getD []))).map (List.filter (q6h (fk 4 kinA kinB kinC kinO 10) (fk 9 kinA kinB kinC kinO 10)))=some [11] by decide +kernel]
theorem x10 (n:Nat):FN (n+110) 18 [d9 kinA,d9 kinB,d9 kinC,d5 kinO,il 11,il 10,il 9]=some (0,[.d (il 0),.d (il 0)]):=by
 rw [s18 (n+3) 11 10 9 kinA kinB kinC kinO kA kB kC kO,if_pos (by decide +kernel),show q1g (q0p 9 (kinA.getD [])) (q0p 9 (kinC.getD [])) (q2Q 9 (kinO.getD [])) 10 11=0 by decide +kernel]
theorem q8Q (n:Nat) (l:List Int) (hl:l.length≤100):FN (n+1) 22 [dI (some l),dI (some l)]=some (0,[.d (bl true)]):=by
 rw [s22 n (some l) (some l) (by simp only [Option.getD_some];omega)];simp
theorem a23 {Fn:Nat→List D→Out} {FnD:D→List Sh→List D→Out} {m:Nat} (A B C O L1 L2 L3 L6 L8 L9:D) (h88:Fn 88 []=some (0,[.d A,.d B,.d C,.d O]))
  (h1:Fn 12 [A,B,C,O,il 11,il 45,il 9]=some (0,[.d L1,.d (il 0)])) (h2:Fn 14 [A,B,C,O,il 5,il 25,il 9]=some (0,[.d L2,.d (il 0)])) (h3:Fn 16 [A,B,C,O,il 12,il 51,il 9]=some (0,[.d L3,.d (il 0)]))
  (h4:Fn 18 [A,B,C,O,il 12,il 53,il 9]=some (0,[.d (il 2),.d (il 0)])) (h5:Fn 20 [A,B,C,O,il 11,il 7,il 55,il 9]=some (0,[.d (il 1),.d (il 0)])) (h6:Fn 32 [A,B,C,O,il 3,il 35,il 9]=some (0,[.d L6,.d (il 0)]))
  (h7:Fn 29 [A,B,C,O,il 3,il 53,il 9]=some (0,[.d (il 0),.d (il 2),.d (il 0)])) (h8:Fn 39 [A,B,C,O,il 30,il 53,il 9]=some (0,[.d L8,.d (il 0)])) (h9:Fn 37 [A,B,C,O,il 10,il 4,il 9]=some (0,[.d L9,.d (il 0)]))
  (h10:Fn 18 [A,B,C,O,il 11,il 10,il 9]=some (0,[.d (il 0),.d (il 0)]))
  (q1:Fn 22 [L1,.sl 1 [[il 3],[il 7]]]=some (0,[.d (bl true)])) (q2:Fn 22 [L2,.sl 1 [[il 3],[il 5]]]=some (0,[.d (bl true)])) (q3:Fn 22 [L3,.sl 1 [[il 0]]]=some (0,[.d (bl true)])) (q6:Fn 22 [L6,.sl 1 [[il 10],[il 11],[il 12]]]=some (0,[.d (bl true)]))
  (q8:Fn 22 [L8,.sl 1 [[il 10],[il 12]]]=some (0,[.d (bl true)])) (q9:Fn 22 [L9,.sl 1 [[il 11]]]=some (0,[.d (bl true)])):G23 (q08 Fn FnD m)=some (0,[.d (bl true)]):=by
 simp only [G23,q06,q03,h88,q00,q02,q04,h1,h2,h3,h4,h5,h6,h7,h8,h9,h10,q0M,decide_true,q01,if_true,q0u,q1e,qeD,q0d,q1,q2,q3,q6,q8,q9,Bool.false_eq_true,if_false,and_self]
theorem s23 (n:Nat):FN (n+111) 23 []=some (0,[.d (bl true)]):=by
 rw [F23]
 exact a23 (d9 kinA) (d9 kinB) (d9 kinC) (d5 kinO) (dI (some [3,7])) (dI (some [3,5])) (dI (some [0])) (dI (some [10,11,12])) (dI (some [10,12])) (dI (some [11])) (s88 (n+108)) (x1 n) (x2 n) (x3 n) (x4 n) (x5 n) (x6 n) (x7 n) (x8 n) (x9 n) (x10 n)
  (q8Q (n+109) [3,7] (by decide)) (q8Q (n+109) [3,5] (by decide)) (q8Q (n+109) [0] (by decide)) (q8Q (n+109) [10,11,12] (by decide)) (q8Q (n+109) [10,12] (by decide)) (q8Q (n+109) [11] (by decide))
end Go.VE
namespace Go.VE
open Go.RowKit Go.Proofs
end Go.VE
namespace Go.VE
open Go.RowKit Go.Proofs
theorem s31 (n:Nat) (a:Option (List E9)) (b c o:D) (hl:(a.getD []).length≤1000000):FN (n+2) 31 [d9 a,b,c,o]=some (0,[.d (dI (nzO (q0H (a.getD []))))]):=by
 rw [F31]
 simp only [G31,q4R,q03,q0r]
 by_cases hne:a.getD []=[]
 ·rw [hne]
  have h0:q0l [L31_0 (RP (n+1)),L31_1 (RP (n+1))] M0 0 [.d (d9 a),.d (il (([]:List E9).length:Int)),.d (il 0)]=some (0,[]) :=
   q1Y (σ:=Unit) [L31_0 (RP (n+1)),L31_1 (RP (n+1))] (fun _=>(0,[.d (d9 a),.d (il (([]:List E9).length:Int)),.d (il 0)])) (fun _=>0) (fun _=>True) (fun _=>some (0,[])) (fun s k _ _=>⟨_,rfl,by simp [L31_0]⟩) M0 () trivial (by unfold M0;omega)
  rw [h0]
  rfl
 ·have hL:((a.getD []).map (·.a)).length=(a.getD []).length:=by simp
  have hat:∀ (i:Nat) (x:Int),((a.getD []).map (·.a))[i]?=some x→∃ e,(a.getD [])[i]?=some e∧e.a=x:=fun i x hi=>by
   rw [List.getElem?_map] at hi
   cases h0:(a.getD [])[i]? with
   | none=>rw [h0] at hi;simp at hi
   | some e=>rw [h0] at hi;exact ⟨e,rfl,by simpa using hi⟩
  have:=q7Z ((a.getD []).map (·.a)) (by simpa using hl) (by simpa using hne) (L31_0 (RP (n+1))) (L31_1 (RP (n+1))) (fun i=>[.d (d9 a),.d (il (a.getD []).length),.d (il (i:Nat))])
   (fun i acc=>[.d (dI (some acc)),.d (d9 a),.d (il (a.getD []).length),.d (il (i:Nat))]) (fun acc=>some (1,[.d (dI (some acc))])) ?_ ?_ ?_
  ·rw [show il 0=il ((0:Nat):Int) from rfl,this,qeU (qcy hne)]
   simp [q0H]
  ·intro acc k
   rw [hL]
   simp [L31_1]
  ·intro x k hi hlt
   rw [hL] at hlt
   obtain ⟨e,he,rfl⟩:=hat _ _ hi
   have h9:=q37 (Fn:=FN (n+1)) (FnD:=q1z Tryz.prog (cf3 tb Tryz.prog) (FN (n+1))) (m:=M0) he
   simp only [L31_0,q02,q04,q0n,q01,Int.natCast_zero,hlt,decide_true,if_true]
   rw [show ((il 0):D)=il ((0:Nat):Int) from rfl,h9]
   simp only [r9,q07,q0g,q06,q0Z,q9C,q00,q02,q03,q0i,Int.natCast_zero]
   rw [show IntKind.i64.wrap (0+1)=((1:Nat):Int) from rfl]
  ·intro i x acc k hi hlt hw hu hal
   rw [hL] at hlt
   obtain ⟨e,he,rfl⟩:=hat _ _ hi
   have hput:=s92 n (some acc) e.a (by simp only [Option.getD_some];omega) hu
   simp only [Option.getD_some] at hput
   simp only [L31_1,q02,q04,q0n,q01,hlt,decide_true,if_true,q37 he,r9,q07,q0g,q06,hput,q00,q03,q0i,hw]
section
variable {a b c:List E9} {o:List E5} (n:Nat) (f d x3 p:Int) (hd:0≤d∧d≤4166) (g:GoodK a b c o) (P:List Int) (hP:P.length≤1000000)
include hd g hP
end
end Go.VE
namespace Go.VE
open Go.RowKit Go.Proofs
section
variable {a b c a' b' c':List E9} {o o':List E5} (n:Nat) (d:Int) (hd:0≤d∧d≤4166) (g:GoodK a b c o) (g':GoodK a' b' c' o') (P:List Int) (hP:P.length≤1000000)
include hd g g' hP
end
section
variable (n:Nat) (p f d k l:Int) (a b c:Option (List E9)) (o:Option (List E5)) (ha:(a.getD []).length*72≤140737488351232) (hb:(b.getD []).length*72≤140737488351232) (hc:(c.getD []).length*72≤140737488351232) (ho:(o.getD []).length*40≤140737488351232)
include ha hb hc ho
end
end Go.VE
namespace Go.VE
open Go.RowKit Go.Shelf Go.Proofs
set_option maxRecDepth 100000
def rho:Ren:=⟨fun x=>if x=21 then 159 else if x=27 then 212 else if x=28 then 213 else if x=35 then 217 else if x=39 then 220 else 0,fun x=>if x=22 then 30 else x,fun x=>x⟩
theorem lays21:Lays2.n21 Tryz.prog rho where
 mixed:=by kernel_rfl
 f21:=by kernel_rfl
 f27:=by kernel_rfl
 f28:=by kernel_rfl
 f35:=by kernel_rfl
 f39:=by kernel_rfl
 t0:=by kernel_rfl
 a0:=fun w=>by kernel_rfl
 z0:=fun w=>by kernel_rfl
 v0:=fun w=>by kernel_rfl
 t3:=by kernel_rfl
 a3:=fun w=>by kernel_rfl
 z3:=fun w=>by kernel_rfl
 v3:=fun w=>by kernel_rfl
 t4:=by kernel_rfl
 a4:=fun w=>by kernel_rfl
 z4:=fun w=>by kernel_rfl
 v4:=fun w=>by kernel_rfl
 t22:=by kernel_rfl
 a22:=fun w=>by kernel_rfl
 z22:=fun w=>by kernel_rfl
 v22:=fun w=>by kernel_rfl
 i3:=by kernel_rfl
theorem qi6:qgs Tryz.prog (cf3 tb Tryz.prog):=by
 intro f p h
 by_cases hf:f=159
 ·subst hf
  have e:(cf3 tb Tryz.prog).sp 159=some (1,3,8):=by kernel_rfl
  rw [e] at h
  cases h
  exact qcN lays21
 ·exfalso
  have e:(cf3 tb Tryz.prog).sp f=none:=by
   show spT f=none
   unfold spT
   split
   ·exact absurd rfl hf
   ·rfl
  rw [e] at h
  cases h
end Go.VE
namespace Go.VE
open Go.RowKit Go.Proofs Go.Proofs.YtobeabinccohlaaGreat
set_option maxRecDepth 100000
theorem qin:Tryz.prog.follows .mixedOrders=true:=lays21.mixed
theorem qdY (n:Nat):qe6 Tryz.prog (cf3 tb Tryz.prog) (FN n):=qiN qin qi6 n
theorem q9j (n:Nat):qhX Tryz.prog (cf3 tb Tryz.prog) (FN n):=qkh qin qi6 n
theorem own:ownKnob Tryz.prog.godebug=none:=by kernel_rfl
theorem q6F:laidOutB Tryz.prog=true:=by kernel_rfl
theorem o3 {n:Nat} {ds:List D} (h:HasT Tryz.prog (n+1) 3 ds):∃ z,ds=[il z]∧-9223372036854775808≤z∧z≤9223372036854775807:=h.int Tryz.underlying3
theorem o47 {n:Nat} {ds:List D} (h:HasT Tryz.prog (n+2) 47 ds):∃ a b,ds=[il a,il b]:=by
 obtain ⟨a,b,rfl,h1,c,d,rfl,h2,rfl⟩:=h.struct Tryz.underlying47 rfl
 obtain ⟨x,rfl,_⟩:=o3 h1
 obtain ⟨y,rfl,_⟩:=o3 h2
 exact ⟨x,y,rfl⟩
theorem oE9 {n:Nat} {ds:List D} (h:q4E (HasT Tryz.prog (n+2)) [3,3,3,47,47,3,3] ds):∃ e:E9,ds=r9 e:=by
 obtain ⟨a1,b1,rfl,h1,a2,b2,rfl,h2,a3,b3,rfl,h3,a4,b4,rfl,h4,a5,b5,rfl,h5,a6,b6,rfl,h6,a7,b7,rfl,h7,rfl⟩:=h
 obtain ⟨x1,rfl,_⟩:=o3 h1
 obtain ⟨x2,rfl,_⟩:=o3 h2
 obtain ⟨x3,rfl,_⟩:=o3 h3
 obtain ⟨y1,y2,rfl⟩:=o47 h4
 obtain ⟨z1,z2,rfl⟩:=o47 h5
 obtain ⟨x6,rfl,_⟩:=o3 h6
 obtain ⟨x7,rfl,_⟩:=o3 h7
 exact ⟨⟨x1,x2,x3,y1,y2,z1,z2,x6,x7⟩,rfl⟩
theorem o82 {n:Nat} {ds:List D} (h:HasT Tryz.prog (n+3) 82 ds):∃ e:E5,ds=r5 e:=by
 obtain ⟨a1,b1,rfl,h1,a2,b2,rfl,h2,a3,b3,rfl,h3,a4,b4,rfl,h4,a5,b5,rfl,h5,rfl⟩:=h.struct Tryz.underlying82 rfl
 obtain ⟨x1,rfl,_⟩:=o3 h1
 obtain ⟨x2,rfl,_⟩:=o3 h2
 obtain ⟨x3,rfl,_⟩:=o3 h3
 obtain ⟨x4,rfl,_⟩:=o3 h4
 obtain ⟨x5,rfl,_⟩:=o3 h5
 exact ⟨⟨x1,x2,x3,x4,x5⟩,rfl⟩
theorem q9A {α:Type} {f:α→List D}:∀ {o:Option Rr},(∀ r∈o.getD [],∃ c,r=f c)→∃ q:Option (List α),o=q.map (·.map f)
 | none,_=>⟨none,rfl⟩
 | some rows,h=>by
  obtain ⟨l,hl⟩:=qcg (f:=f) (rows:=rows) h
  exact ⟨some l,by rw [hl];rfl⟩
theorem qeS {n t e:Nat} {ds:List D} (hu:Tryz.prog.underlying t=some (.slice e)) (hc:Tryz.prog.cellsOf e=9) (hb:Tryz.prog.bytesOf e=72) (he:∀ r,HasT Tryz.prog (n+3) e r→∃ x:E9,r=r9 x) (h:HasT Tryz.prog (n+4) t ds):∃ o:Option (List E9),ds=[d9 o]∧(o.getD []).length*72≤140737488351232:=by
 obtain ⟨o,rfl,h1,h2⟩:=h.sl hu hc hb
 obtain ⟨q,rfl⟩:=q9A (f:=r9) fun r hr=>he r (h2 r hr)
 refine ⟨q,rfl,?_⟩
 cases q with
 | none=>simp
 | some l=>simpa using h1
theorem o50 {n:Nat} {r:List D} (h:HasT Tryz.prog (n+3) 50 r):∃ x:E9,r=r9 x:=oE9 (h.struct Tryz.underlying50 rfl)
theorem o52 {n:Nat} {r:List D} (h:HasT Tryz.prog (n+3) 52 r):∃ x:E9,r=r9 x:=oE9 (h.struct Tryz.underlying52 rfl)
theorem o54 {n:Nat} {r:List D} (h:HasT Tryz.prog (n+3) 54 r):∃ x:E9,r=r9 x:=oE9 (h.struct Tryz.underlying54 rfl)
theorem o25 {n:Nat} {ds:List D} (h:HasT Tryz.prog (n+4) 25 ds):∃ o:Option (List E5),ds=[d5 o]∧(o.getD []).length*40≤140737488351232:=by
 obtain ⟨o,rfl,h1,h2⟩:=h.sl (c:=5) (b:=40) Tryz.underlying25 (by kernel_rfl) (by kernel_rfl)
 obtain ⟨q,rfl⟩:=q9A (f:=r5) fun r hr=>o82 (h2 r hr)
 refine ⟨q,rfl,?_⟩
 cases q with
 | none=>simp
 | some l=>simpa using h1
theorem o27 {n:Nat} {ds:List D} (h:HasT Tryz.prog (n+5) 27 ds):∃ (a b c:Option (List E9)) (o:Option (List E5)),ds=[d9 a,d9 b,d9 c,d5 o]∧(a.getD []).length*72≤140737488351232∧(b.getD []).length*72≤140737488351232∧(c.getD []).length*72≤140737488351232∧(o.getD []).length*40≤140737488351232:=by
 obtain ⟨a1,b1,rfl,h1,a2,b2,rfl,h2,a3,b3,rfl,h3,a4,b4,rfl,h4,rfl⟩:=h.struct Tryz.underlying27 rfl
 obtain ⟨a,rfl,ha⟩:=qeS Tryz.underlying22 (by kernel_rfl) (by kernel_rfl) (fun r hr=>o50 hr) h1
 obtain ⟨b,rfl,hb⟩:=qeS Tryz.underlying23 (by kernel_rfl) (by kernel_rfl) (fun r hr=>o52 hr) h2
 obtain ⟨c,rfl,hc⟩:=qeS Tryz.underlying24 (by kernel_rfl) (by kernel_rfl) (fun r hr=>o54 hr) h3
 obtain ⟨o,rfl,ho⟩:=o25 h4
 exact ⟨a,b,c,o,rfl,ha,hb,hc,ho⟩
theorem o29 {n:Nat} {ds:List D} (h:HasT Tryz.prog (n+2) 29 ds):∃ p f d k,ds=[il p,il f,il d,il k]:=by
 obtain ⟨a1,b1,rfl,h1,a2,b2,rfl,h2,a3,b3,rfl,h3,a4,b4,rfl,h4,rfl⟩:=h.struct Tryz.underlying29 rfl
 obtain ⟨x1,rfl,_⟩:=o3 h1
 obtain ⟨x2,rfl,_⟩:=o3 h2
 obtain ⟨x3,rfl,_⟩:=o3 h3
 obtain ⟨x4,rfl,_⟩:=o3 h4
 exact ⟨x1,x2,x3,x4,rfl⟩
end Go.VE
namespace Go.VE
open Go.RowKit Go.Proofs
theorem q9R {l:List Int} {f:Int} (h:q3b l f=1):l=[f]:=by
 unfold q3b at h
 split at h
 ·rename_i hm
  split at h
  ·cases h
  ·rename_i hl
   cases l with
   | nil=>simp at hm
   | cons x r =>
    cases r with
    | nil=>simp at hm;rw [hm]
    | cons y r=>simp at hl
 ·cases h
theorem s30 (n:Nat) (a b:Option (List Int)) (ha:(a.getD []).length≤4611686018427387904) (hb:(b.getD []).length≤4611686018427387904):FN (n+2) 30 [dI a,dI b]=some (0,[.d (bl ((a.getD []).all fun x=>decide (x∈b.getD [])))]):=by
 rw [F30]
 simp only [G30,q2I,q03,q0r]
 have:=q0C (β:=Unit) (a.getD []) ha (L30_0 (RP (n+1))) (fun i _=>[.d (dI b),.d (dI a),.d (il (a.getD []).length),.d (il i)]) (fun _ _=>True)
  (fun _ r _=>if r.all (fun x=>decide (x∈b.getD []))=true then some (0,[]) else some (1,[.d (bl false)]))
  (fun _ k _=>by simp [L30_0]) ?_ M0 () trivial (q1X ha)
 ·simp only [Int.natCast_zero] at this
  rw [this]
  by_cases h:(a.getD []).all (fun x=>decide (x∈b.getD []))=true
  ·rw [if_pos h,h];simp
  ·rw [if_neg h]
   have:(a.getD []).all (fun x=>decide (x∈b.getD []))=false:=by simpa using h
   rw [this];simp
 ·intro i e r _ k hi hd hlt hw _ ih
  have ih':=ih () trivial
  have hlt':(i:Int) < ((a.getD []).length:Int):=by omega
  simp only [L30_0,q02,q04,q0n,q01,hlt',decide_true,if_true,q2R hi,rI,q07,q06,s41 n b e hb,q00,q0J,q03,q0i,hw,q0K,q0d,List.all_cons]
  by_cases h:e∈b.getD []
  ·simp only [h,decide_true,Bool.not_true,Bool.false_eq_true,if_false,Bool.true_and]
   exact ih'
  ·simp [h]
end Go.VE
namespace Go.VE
open Go.RowKit Go.Proofs
structure Nar1 (x e:E9):Prop where
 src:x.src=e.src
 a:x.a=e.a
 b:x.b=e.b
 kn:x.kn=e.kn
 un:x.un=e.un
 f:e.f1≤x.f1∧x.f1≤x.f2∧x.f2≤e.f2
 t:e.t1≤x.t1∧x.t1≤x.t2∧x.t2≤e.t2
def NarL:List E9→List E9→Prop
 | [],[]=>True
 | x::l,e::m=>Nar1 x e∧NarL l m
 | _,_=>False
theorem NarL.app:∀ {l1 m1 l2 m2:List E9},NarL l1 m1→NarL l2 m2→NarL (l1++l2) (m1++m2)
 | [],[],_,_,_,h=>h
 | _::_,_::_,_,_,h1,h2=>⟨h1.1,NarL.app h1.2 h2⟩
theorem NarL.rev:∀ {l m:List E9},NarL l m→NarL l.reverse m.reverse
 | [],[],_=>trivial
 | x::l,e::m,h=>by
  rw [List.reverse_cons,List.reverse_cons]
  exact NarL.app (NarL.rev h.2) ⟨h.1,trivial⟩
theorem NarL.len:∀ {l m:List E9},NarL l m→l.length=m.length
 | [],[],_=>rfl
 | x::l,e::m,h=>by simp [NarL.len h.2]
theorem qb2 (l:List E9):below l l.length=l.reverse:=by simp [below]
theorem NarL.below {l m:List E9} (h:NarL l m):NarL (below l l.length) (below m m.length):=by
 rw [qb2,qb2];exact h.rev
theorem NarL.cnt (k:Int):∀ {l m:List E9},NarL l m→NarL (q0p k l) (q0p k m)
 | [],[],_=>trivial
 | x::l,e::m,h=>by
  have ih:=NarL.cnt k h.2
  unfold q0p at ih ⊢
  rw [List.filter_cons,List.filter_cons,h.1.kn,h.1.un]
  split
  ·exact ⟨h.1,ih⟩
  ·exact ih
theorem NarL.mem:∀ {l m:List E9},NarL l m→∀ x∈l,∃ e∈m,Nar1 x e
 | [],[],_,x,hx=>by simp at hx
 | y::l,e::m,h,x,hx=>by
  rcases List.mem_cons.1 hx with rfl | hx
  ·exact ⟨e,by simp,h.1⟩
  ·obtain ⟨e',h1,h2⟩:=NarL.mem h.2 x hx
   exact ⟨e',by simp [h1],h2⟩
theorem Nar1.rfl' {e:E9} (h:e.f1≤e.f2∧e.t1≤e.t2):Nar1 e e:=⟨rfl,rfl,rfl,rfl,rfl,⟨by omega,h.1,by omega⟩,⟨by omega,h.2,by omega⟩⟩
theorem NarL.rfl':∀ {l:List E9},(∀ e∈l,e.f1≤e.f2∧e.t1≤e.t2)→NarL l l
 | [],_=>trivial
 | e::l,h=>⟨Nar1.rfl' (h e (by simp)),NarL.rfl' fun e he=>h e (by simp [he])⟩
theorem NarL.set:∀ {l:List E9} {i:Nat} {x e:E9},(∀ e∈l,e.f1≤e.f2∧e.t1≤e.t2)→l[i]?=some e→Nar1 x e→NarL (l.set i x) l
 | [],i,x,e,_,h,_=>by simp at h
 | y::l,0,x,e,h,hi,hx=>by
  simp at hi;subst hi
  exact ⟨hx,NarL.rfl' fun e he=>h e (by simp [he])⟩
 | y::l,i+1,x,e,h,hi,hx=>⟨Nar1.rfl' (h y (by simp)),NarL.set (fun e he=>h e (by simp [he])) (by simpa using hi) hx⟩
theorem q4s {d who:Int} {o:Option Int}:∀ {l m:List E9},NarL l m→o∈q11 d who l→o∈q11 d who m
 | [],[],_,h=>h
 | x::l,e::m,hn,h=>by
  have ih:o∈q11 d who l→o∈q11 d who m:=q4s hn.2
  obtain ⟨h1,h2⟩:=hn
  have hf:=h1.f;have ht:=h1.t;have ha:=h1.a;have hb:=h1.b
  rw [q11] at h ⊢
  have may:q1Z x.f1 x.t2 d=true→q1Z e.f1 e.t2 d=true:=fun h=>by unfold q1Z at h ⊢;have:=of_decide_eq_true h;exact decide_eq_true (by omega)
  have sur:q1C e.f2 e.t1 d=true→q1C x.f2 x.t1 d=true∧q1Z x.f1 x.t2 d=true:=fun h=>by
   unfold q1C at h;have:=of_decide_eq_true h
   exact ⟨by unfold q1C;exact decide_eq_true (by omega),by unfold q1Z;exact decide_eq_true (by omega)⟩
  by_cases hc:x.a=who∧q1Z x.f1 x.t2 d=true
  ·rw [if_pos hc] at h
   rw [if_pos ⟨by rw [←ha];exact hc.1,may hc.2⟩]
   rcases List.mem_cons.1 h with h | h
   ·rw [h,hb];simp
   ·refine List.mem_cons_of_mem _ ?_
    by_cases hs:q1C e.f2 e.t1 d=true
    ·rw [if_pos (sur hs).1] at h;simp at h
    ·rw [if_neg hs]
     split at h
     ·simp at h
     ·exact ih h
  ·rw [if_neg hc] at h
   by_cases hc2:e.a=who∧q1Z e.f1 e.t2 d=true
   ·rw [if_pos hc2]
    refine List.mem_cons_of_mem _ ?_
    have hs:¬ q1C e.f2 e.t1 d=true:=fun hs=>hc ⟨by rw [ha];exact hc2.1,(sur hs).2⟩
    rw [if_neg hs];exact ih h
   ·rw [if_neg hc2];exact ih h
theorem qcH {l m:List E9} (h:NarL l m) (hm:q5q m):q5q l:=fun x hx=>by
 obtain ⟨e,he,hn⟩:=h.mem x hx
 have:=hm e he
 rw [hn.a,hn.b];exact this
theorem qaI {d z:Int} {l m:List E9} (h:NarL l m) (hm:q5q m):∀ (n:Nat) (f:Int),f.toNat≤n→1≤f→z∈q0e d l f→z∈q0e d m f:=by
 intro n
 induction n with
 | zero=>intro f h1 h2;omega
 | succ n ih =>
  intro f h1 h2 hz
  rcases (q2e (qcH h hm) h2).1 hz with ⟨h3,h4⟩ | ⟨w,hw,h3⟩
  ·exact (q2e hm h2).2 (.inl ⟨q4s h.below h3,h4⟩)
  ·have hw':=q4s h.below hw
   have:=q2m hm hw'
   exact (q2e hm h2).2 (.inr ⟨w,hw',ih w (by omega) this.1 h3⟩)
theorem q82 {d p z:Int} {l m:List E9} (h:NarL l m) (hz:z∈q0I d p l):z∈q0I d p m:=by
 obtain ⟨x,hx,rfl⟩:=(q1a ..).1 hz
 exact (q1a ..).2 ⟨x,q4s h.below hx,rfl⟩
theorem q6W {l m:List (Option Int)} (h:∀ x∈l,x∈m) {p q:Option Int→Bool} (hpq:∀ x∈l,p x=true→q x=true) (hl:l.any p=true):m.any q=true:=by
 obtain ⟨x,hx,hp⟩:=(q31 _ _).1 hl
 exact (q31 _ _).2 ⟨x,h x hx,hpq x hx hp⟩
theorem qc0 {a c a' c':List E9} (o:List E5) {d:Int} (ha:NarL a' a) (hc:NarL c' c) (p:Int):((q2F a' c' o d p).1=true→(q2F a c o d p).1=true)∧((q2F a' c' o d p).2=true→(q2F a c o d p).2=true):=by
 unfold q2F
 cases q8y d p o with
 | true=>exact ⟨fun h=>h,fun h=>h⟩
 | false =>
  simp only [Bool.false_eq_true,if_false,Bool.and_eq_true,Bool.or_eq_true]
  have s1:∀ x∈q11 d p (below a' a'.length),x∈q11 d p (below a a.length):=fun x hx=>q4s ha.below hx
  have s2:∀ x∈q11 d p (below c' c'.length),x∈q11 d p (below c c.length):=fun x hx=>q4s hc.below hx
  exact ⟨fun h=>⟨q6W s1 (fun _ _ h=>h) h.1,q6W s2 (fun _ _ h=>h) h.2⟩,fun h=>h.elim (fun h=>.inl (q6W s1 (fun _ _ h=>h) h)) (fun h=>.inr (q6W s2 (fun _ _ h=>h) h))⟩
theorem qc9 {W V:Int→Bool×Bool} (h:∀ p,((W p).1=true→(V p).1=true)∧((W p).2=true→(V p).2=true)) (x:Option Int):((q1F W x).1=true→(q1F V x).1=true)∧((q1F W x).2=true→(q1F V x).2=true):=by
 cases x with
 | none=>exact ⟨fun h=>h,fun h=>h⟩
 | some z =>
  simp only [q1F]
  split
  ·exact ⟨fun h=>h,fun h=>h⟩
  ·exact h z
theorem qiD {a c a' c':List E9} (o:List E5) {d:Int} (ha:NarL a' a) (hc:NarL c' c) (p:Int):((goP a' c' o d p).1=true→(goP a c o d p).1=true)∧((goP a' c' o d p).2=true→(goP a c o d p).2=true):=by
 unfold goP
 cases q8y d p o with
 | true=>exact ⟨fun h=>h,fun h=>h⟩
 | false =>
  simp only [Bool.false_eq_true,if_false]
  have s2:∀ x∈q11 d p (below c' c'.length),x∈q11 d p (below c c.length):=fun x hx=>q4s hc.below hx
  exact ⟨q6W s2 fun x _=>(qc9 (qc0 o ha hc) x).1,q6W s2 fun x _=>(qc9 (qc0 o ha hc) x).2⟩
theorem q8g {a b c a' b' c':List E9} (o:List E5) {d p z:Int} (ha:NarL a' a) (hb:NarL b' b) (hc:NarL c' c) (hl:q5q b) (hf:qe7 a) (h:z∈q1j a' b' c' o d p):z∈q1j a b c o d p:=by
 rcases q2q.1 h with ⟨h1,h2⟩ | ⟨h1,f,h2,h3,h4⟩
 ·exact q2q.2 (.inl ⟨h1,h2.elim (fun h=>.inl (q82 ha h)) (fun h=>.inr ((qiD o ha hc p).2 h))⟩)
 ·have hh:=q82 ha h2
  have:=q2b hf hh
  exact q2q.2 (.inr ⟨(qiD o ha hc p).1 h1,f,hh,h3,qaI hb hl _ f (Nat.le_refl _) (by omega) h4⟩)
theorem GoodK.nar {a b c a' b' c':List E9} {o:List E5} (g:GoodK a b c o) (ha:NarL a' a) (hb:NarL b' b) (hc:NarL c' c):GoodK a' b' c' o :=
 ⟨fun x hx=>by obtain ⟨e,he,hn⟩:=ha.mem x hx;rw [hn.b];exact g.fam e he,qcH hb g.less,fun x hx=>by obtain ⟨e,he,hn⟩:=hc.mem x hx;rw [hn.b];exact g.by0 e he,by rw [ha.len];exact g.la,by rw [hb.len];exact g.lb,by rw [hc.len];exact g.lc,g.lo⟩
theorem q6L {a b c:List E9} {o:List E5} {d p:Int} (g:GoodK a b c o):∃ y n:Bool,q1g a c o d p=q5H y n∧(y=true↔∃ z∈q1j a b c o d p,z≠0)∧(n=true↔0∈q1j a b c o d p):=by
 refine ⟨_,_,q84 a c o d p g.by0,?_,?_⟩
 ·rw [qbI g.fam g.less];simp
 ·rw [q9U g.fam g.less];simp [or_comm]
theorem q3x {p q:Int→Bool} (h:∀ x,p x=true→q x=true):∀ l:List Int,(l.filter p).length≤(l.filter q).length
 | []=>by simp
 | x::l=>by
  have ih:=q3x h l
  rw [List.filter_cons,List.filter_cons]
  cases hp:p x with
  | true=>rw [h x hp];simpa using ih
  | false =>
   cases hq:q x with
   | true=>simp only [Bool.false_eq_true,if_false,if_true,List.length_cons];omega
   | false=>simpa using ih
end Go.VE
namespace Go.VE
open Go.RowKit Go.Proofs
def q5L (a b:Int):Int:=(a.tmod b+b).tmod b
theorem q1V (a:Int) {b:Int} (hb:0 < b):0≤q5L a b∧q5L a b < b:=by
 have h1:=Int.lt_tmod_of_pos a hb
 unfold q5L
 exact ⟨Int.tmod_nonneg b (by omega),Int.tmod_lt_of_pos _ hb⟩
end Go.VE
namespace Go.VE
open Go.RowKit Go.Proofs
theorem q9d {Fn:Nat→List D→Out} {FnD:D→List Sh→List D→Out} {m:Nat} {X:Out} (V:Out) {ks:List (List Yr→Out)} {R:Out} (h1:X=V) (h2:(q08 Fn FnD m).bnd V ks=R):(q08 Fn FnD m).bnd X ks=R:=by rw [h1];exact h2
theorem q4I (l:List E9):(l.map r9).take l.length=l.map r9:=List.take_of_length_le (by simp)
end Go.VE
namespace Go.VE
open Go.RowKit Go.Proofs
section
variable {Fn:Nat→List D→Out} {FnD:D→List Sh→List D→Out} {m:Nat}
end
end Go.VE
namespace Go.VE
open Go.RowKit Go.Proofs
theorem NarL.as:∀ {l m:List E9},NarL l m→l.map (·.a)=m.map (·.a)
 | [],[],_=>rfl
 | x::l,e::m,h=>by rw [List.map_cons,List.map_cons,h.1.a,NarL.as h.2]
theorem qb3 {l m:List Int} (h:∀ z∈l,z∈m):(l.all fun x=>decide (x∈m))=true:=List.all_eq_true.2 fun z hz=>decide_eq_true (h z hz)
end Go.VE
namespace Go.VE
open Go.RowKit Go.Proofs
structure T2 where
 b:Int
 e:Int
def rT (t:T2):List D:=[il t.b,il t.e]
def dT (o:Option (List T2)):D:=dSl 2 (o.map (·.map rT))
def inT (t:T2) (e:E9):Bool:=decide (e.f1≤t.b∧t.b≤e.f2∧e.t1≤t.e∧t.e≤e.t2)
def fixE (t:T2) (e:E9):E9:={ e with f1:=t.b,f2:=t.b,t1:=t.e,t2:=t.e }
def q5N:List T2→List E9→List E9
 | t::ts,e::l=>fixE t e::q5N ts l
 | _,_=>[]
def inL:List T2→List E9→Bool
 | t::ts,e::l=>inT t e&&inL ts l
 | [],[]=>true
 | _,_=>false
theorem q81:∀ {ts:List T2} {l:List E9},inL ts l=true→ts.length=l.length
 | [],[],_=>rfl
 | t::ts,e::l,h=>by
  rw [inL,Bool.and_eq_true] at h
  simp [q81 h.2]
theorem q3c:∀ {ts:List T2} {l:List E9},ts.length=l.length→(q5N ts l).length=l.length
 | [],[],_=>rfl
 | t::ts,e::l,h=>by
  simp only [q5N,List.length_cons,q3c (ts:=ts) (l:=l) (by simpa using h)]
theorem q5C:∀ {ts:List T2} {l:List E9},inL ts l=true→NarL (q5N ts l) l
 | [],[],_=>trivial
 | t::ts,e::l,h=>by
  rw [inL,Bool.and_eq_true] at h
  have:=of_decide_eq_true h.1
  exact ⟨⟨rfl,rfl,rfl,rfl,rfl,⟨this.1,Int.le_refl _,this.2.1⟩,⟨this.2.2.1,Int.le_refl _,this.2.2.2⟩⟩,q5C h.2⟩
def PtL (l:List E9):Prop:=∀ e∈l,e.f1=e.f2∧e.t1=e.t2
theorem qcR:∀ (ts:List T2) (l:List E9),PtL (q5N ts l)
 | t::ts,e::l=>fun x hx=>by
  rcases List.mem_cons.1 hx with rfl | hx
  ·exact ⟨rfl,rfl⟩
  ·exact qcR ts l x hx
 | [],[]=>fun x hx=>by simp [q5N] at hx
 | [],_::_=>fun x hx=>by simp [q5N] at hx
 | _::_,[]=>fun x hx=>by simp [q5N] at hx
theorem q6y (d who:Int):∀ {l:List E9},PtL l→∃ x,q11 d who l=[x]
 | [],_=>⟨none,rfl⟩
 | e::r,h=>by
  have h0:=h e (by simp)
  rw [q11]
  by_cases hc:e.a=who∧q1Z e.f1 e.t2 d=true
  ·rw [if_pos hc,if_pos (by rw [q1C,← h0.1,h0.2];exact hc.2)]
   exact ⟨_,rfl⟩
  ·rw [if_neg hc]
   exact q6y d who fun x hx=>h x (by simp [hx])
theorem q5V {l:List E9} (h:PtL l) (m:Nat):PtL (below l m):=fun x hx=>h x (q3r hx)
section
variable {a b c:List E9} {o:List E5} {d p:Int}
theorem qiQ (ha:PtL a) (hc:PtL c) (p:Int):(q2F a c o d p).2=!(q2F a c o d p).1:=by
 unfold q2F
 obtain ⟨x,hx⟩:=q6y d p (q5V ha a.length)
 obtain ⟨y,hy⟩:=q6y d p (q5V hc c.length)
 rw [hx,hy]
 split
 ·rfl
 ·by_cases h:f0 x=0<;>cases y<;>simp [h]
theorem go_pt (ha:PtL a) (hc:PtL c):(goP a c o d p).2=!(goP a c o d p).1:=by
 unfold goP
 obtain ⟨y,hy⟩:=q6y d p (q5V hc c.length)
 rw [hy]
 split
 ·rfl
 ·cases y with
  | none=>rfl
  | some z =>
   simp only [List.any_cons,List.any_nil,Bool.or_false,q1F]
   split
   ·rfl
   ·exact qiQ ha hc z
theorem qbA (ha:PtL a) {z z':Int} (h:z∈q0I d p a) (h':z'∈q0I d p a):z=z':=by
 obtain ⟨x,hx⟩:=q6y d p (q5V ha a.length)
 rw [q1a,hx] at h h'
 obtain ⟨q,hq,rfl⟩:=h
 obtain ⟨q',hq',rfl⟩:=h'
 rw [List.mem_singleton] at hq hq'
 rw [hq,hq']
theorem qjn (hb:PtL b) (hl:q5q b) {z z':Int}:∀ (n:Nat) (f:Int),f.toNat≤n→1≤f→z∈q0e d b f→z'∈q0e d b f→z=z':=by
 intro n
 induction n with
 | zero=>intro f h1 h2;omega
 | succ n ih =>
  intro f h1 h2 h h'
  obtain ⟨x,hx⟩:=q6y d f (q5V hb b.length)
  rw [q2e hl h2] at h h'
  have hm:∀ w,some w∈q11 d f (below b b.length)→1≤w∧w < f:=fun w hw=>⟨(q2m hl hw).1,(q2m hl hw).2.1⟩
  rw [hx] at h h' hm
  cases x with
  | none =>
   rcases h with ⟨_,h⟩ | ⟨w,hw,_⟩
   ·rcases h' with ⟨_,h'⟩ | ⟨w,hw,_⟩
    ·rw [h,h']
    ·simp at hw
   ·simp at hw
  | some y =>
   rcases h with ⟨hn,_⟩ | ⟨w,hw,h⟩
   ·simp at hn
   ·rcases h' with ⟨hn,_⟩ | ⟨w',hw',h'⟩
    ·simp at hn
    ·have h1':=hm w hw
     rw [List.mem_singleton] at hw hw'
     cases hw;cases hw'
     exact ih y (by omega) h1'.1 h h'
theorem fam_pt (ha:PtL a) (hb:PtL b) (hc:PtL c) (hl:q5q b) (hf:qe7 a):∃ f,q1j a b c o d p=[f]:=by
 have one:∀ z z':Int,z∈q1j a b c o d p→z'∈q1j a b c o d p→z=z':=fun z z' h h'=>by
  have hg:=go_pt (o:=o) (d:=d) (p:=p) ha hc
  rw [q2q] at h h'
  rcases h with ⟨h1,h2⟩ | ⟨h1,f,h2,h3,h4⟩
  ·rcases h' with ⟨h1',h2'⟩ | ⟨h1',f',h2',h3',h4'⟩
   ·rw [h1,h1']
   ·rcases h2 with h2 | h2
    ·exact absurd (qbA ha h2' h2) h3'
    ·rw [h1'] at hg;rw [hg] at h2;cases h2
  ·rcases h' with ⟨h1',h2'⟩ | ⟨h1',f',h2',h3',h4'⟩
   ·rcases h2' with h2' | h2'
    ·exact absurd (qbA ha h2 h2') h3
    ·rw [h1] at hg;rw [hg] at h2';cases h2'
   ·have:=qbA ha h2 h2';subst this
    have hr:=q2b hf h2
    exact qjn hb hl _ f (Nat.le_refl _) (by omega) h4 h4'
 obtain ⟨z,hz⟩:=q78 (c:=c) (o:=o) (d:=d) (p:=p) hf hl
 have hu:=q1v a b c o d p
 refine ⟨z,qc5 hu (by simp [Up]) fun y=>?_⟩
 rw [List.mem_singleton]
 exact ⟨fun h=>one _ _ h hz,fun h=>h ▸ hz⟩
end
def qdZ (a b c:List E9) (o:List E5) (d p:Int):Int:=(q1j a b c o d p).headD 0
theorem tru_eq {a b c:List E9} {o:List E5} {d p:Int} (ha:PtL a) (hb:PtL b) (hc:PtL c) (hl:q5q b) (hf:qe7 a):q1j a b c o d p=[qdZ a b c o d p]:=by
 obtain ⟨f,h⟩:=fam_pt (o:=o) (d:=d) (p:=p) ha hb hc hl hf
 unfold qdZ
 rw [h];rfl
structure TrueT (a b c:List E9) (ta tb tc:List T2):Prop where
 a:inL ta a=true
 b:inL tb b=true
 c:inL tc c=true
def qgE (a b c:List E9) (o:List E5) (ta tb tc:List T2) (d p:Int):Int:=qdZ (q5N ta a) (q5N tb b) (q5N tc c) o d p
section
variable {a b c:List E9} {o:List E5} {ta tb tc:List T2} {d p:Int}
theorem q9o (g:GoodK a b c o) (t:TrueT a b c ta tb tc):qgE a b c o ta tb tc d p∈q1j a b c o d p:=by
 have na:=q5C t.a;have nb:=q5C t.b;have nc:=q5C t.c
 have g':=g.nar na nb nc
 refine q8g o na nb nc g.less g.fam ?_
 rw [tru_eq (qcR ta a) (qcR tb b) (qcR tc c) g'.less g'.fam]
 simp [qgE]
theorem qdd (g:GoodK a b c o) (t:TrueT a b c ta tb tc):(q1g a c o d p=1→qgE a b c o ta tb tc d p≠0)∧(q1g a c o d p=0→qgE a b c o ta tb tc d p=0):=by
 have hm:=q9o (d:=d) (p:=p) g t
 obtain ⟨y,n,e,h1,h2⟩:=q6L (d:=d) (p:=p) g
 rw [e]
 cases y with
 | false =>
  refine ⟨fun h=>?_,fun _=>?_⟩
  ·cases n<;>simp [q5H] at h
  ·by_cases h0:qgE a b c o ta tb tc d p=0
   ·exact h0
   ·have:=h1.2 ⟨_,hm,h0⟩
    cases this
 | true =>
  cases n with
  | true=>exact ⟨fun h=>by simp [q5H] at h,fun h=>by simp [q5H] at h⟩
  | false =>
   refine ⟨fun _ h0=>?_,fun h=>by simp [q5H] at h⟩
   rw [h0] at hm
   have:=h2.2 hm
   cases this
theorem qbd (g:GoodK a b c o) (t:TrueT a b c ta tb tc) (f:Int):(q3b (q1j a b c o d p) f=1→qgE a b c o ta tb tc d p=f)∧(q3b (q1j a b c o d p) f=0→qgE a b c o ta tb tc d p≠f):=by
 have hm:=q9o (d:=d) (p:=p) g t
 refine ⟨fun h=>?_,fun h hf=>?_⟩
 ·rw [q9R h] at hm
  simpa using hm
 ·rw [hf] at hm
  unfold q3b at h
  rw [if_pos hm] at h
  split at h<;>cases h
theorem qgD (g:GoodK a b c o) (t:TrueT a b c ta tb tc) (h:p∉q0H a):qgE a b c o ta tb tc d p=0:=by
 have hm:=q9o (d:=d) (p:=p) g t
 rcases q2q.1 hm with h0 | ⟨_,h',hh,hne,_⟩
 ·exact h0.1
 ·exfalso
  rw [q1a,q5X d p (fun e he hp=>h ((q63 _ _).2 ⟨e,q3r he,hp⟩))] at hh
  obtain ⟨x,hx,rfl⟩:=hh
  rw [List.mem_singleton] at hx
  subst hx
  exact hne rfl
end
end Go.VE
namespace Go.VE
open Go.RowKit Go.Proofs
section
variable {Fn:Nat→List D→Out} {FnD:D→List Sh→List D→Out} {m:Nat}
theorem lenT (o:Option (List T2)) (k:D→Out):(q08 Fn FnD m).lenD (dT o) k=k (il (o.getD []).length):=by rw [dT,q6v,q3Q,List.length_map]
theorem qgj {o:Option (List T2)} {i:Nat} {c:T2} (h:(o.getD [])[i]?=some c) (k:List D→Out):(q08 Fn FnD m).rowD 2 (dT o) (il i) k=k (rT c):=by
 rw [dT,q56,if_pos (by omega),q3Q,Int.toNat_natCast,List.getElem?_map,h];rfl
theorem qk0 {l:List T2} {e0:List Yr} {e1:Rr→List Yr} {k0 k1:List Yr→Out} {R:D→Out} (h0:k0 e0=R (.lit (.slice none 0 0))) (h1:∀ w ws,(w::ws).length=l.length→k1 (e1 (w::ws))=R (.sl 2 (w::ws))) :
  (q08 Fn FnD m).bnd (q30 e0 e1 (l.map rT)) [k0,k1]=R (dT (nzO l)):=by
 cases l with
 | nil=>exact h0
 | cons w ws=>exact h1 (rT w) (ws.map rT) (by simp)
end
theorem s27b (n:Nat) (a b:Int) (hb:0 < b) (hb2:b≤4611686018427387904):FN (n+1) 27 [il a,il b]=some (0,[.d (il (q5L a b))]):=by
 rw [F27]
 have h1:=Int.lt_tmod_of_pos a hb
 have h2:=Int.tmod_lt_of_pos a hb
 have hne:b≠0:=by omega
 simp only [G27,r_rem _ _ _ _ hne,q0i]
 rw [q0f (by omega) (by omega)]
 rfl
theorem div7 {n:Int} (h1:-9223372036854775808≤n) (h2:n≤9223372036854775807):-9223372036854775808≤n.tdiv 7∧n.tdiv 7≤9223372036854775807:=by
 by_cases h:0≤n
 ·rw [Int.tdiv_eq_ediv_of_nonneg h];omega
 ·have:n.tdiv 7=-((-n).tdiv 7):=by rw [Int.neg_tdiv];omega
  rw [this,Int.tdiv_eq_ediv_of_nonneg (by omega)];omega
def pick (P:List Int) (z:Int):Int:=(P[(q5L z P.length).toNat]?).getD 0
abbrev I64 (P:List Int):Prop:=∀ z∈P,-9223372036854775808≤z∧z≤9223372036854775807
theorem q3f {P:List Int} (h:I64 P) (z:Int):-9223372036854775808≤pick P z∧pick P z≤9223372036854775807:=by
 unfold pick
 cases hc:P[(q5L z P.length).toNat]? with
 | none=>simp
 | some c=>exact h c (List.mem_of_getElem? hc)
theorem s107 (n:Nat) (P:Option (List Int)) (z:Int) (hl:(P.getD []).length≤4611686018427387904):FN (n+2) 107 [dI P,il z]=some (0,[.d (il (pick (P.getD []) z))]):=by
 rw [F107]
 simp only [G107,q2I,q03,q0M,q01,decide_eq_true_eq,q0d]
 by_cases h0:(P.getD [])=[]
 ·rw [h0];simp [pick]
 ·have hp:0 < (P.getD []).length:=List.length_pos_iff.2 h0
  rw [if_neg (by omega)]
  have hm:=q1V z (b:=((P.getD []).length:Int)) (by omega)
  obtain ⟨c,hc⟩:∃ c,(P.getD [])[(q5L z (P.getD []).length).toNat]?=some c:=⟨_,List.getElem?_eq_getElem (by omega)⟩
  have hz:((q5L z (P.getD []).length).toNat:Int)=q5L z (P.getD []).length:=by omega
  have hr:=q2R (Fn:=FN (n+1)) (FnD:=q1z Tryz.prog (cf3 tb Tryz.prog) (FN (n+1))) (m:=M0) hc
  rw [hz] at hr
  simp only [q06,s27b n z _ (show (0:Int) < ((P.getD []).length:Int) by omega) (by omega),q00,q02,hr,rI,q07,pick,hc,Option.getD_some]
def tmE (z:Int) (e:E9):T2:=⟨e.f1+q5L z (e.f2 - e.f1+1),e.t1+q5L (z.tdiv 7) (e.t2 - e.t1+1)⟩
theorem tm_in (z:Int) {e:E9} (h:q0N e.f1 e.f2 e.t1 e.t2):inT (tmE z e) e=true:=by
 unfold q0N at h
 have h1:=q1V z (b:=e.f2 - e.f1+1) (by omega)
 have h2:=q1V (z.tdiv 7) (b:=e.t2 - e.t1+1) (by omega)
 exact decide_eq_true (by simp only [tmE];omega)
theorem s106 (n:Nat) (e:E9) (z:Int) (h:q0N e.f1 e.f2 e.t1 e.t2) (hz:-9223372036854775808≤z∧z≤9223372036854775807):FN (n+2) 106 [il e.f1,il e.f2,il e.t1,il e.t2,il z]=some (0,[.d (il (tmE z e).b),.d (il (tmE z e).e)]):=by
 rw [F106]
 unfold q0N at h
 have h1:=q1V z (b:=e.f2 - e.f1+1) (by omega)
 have h2:=q1V (z.tdiv 7) (b:=e.t2 - e.t1+1) (by omega)
 have hd:=div7 hz.1 hz.2
 simp only [G106,q1o,q03,q0i,q06]
 rw [q0f (x:=e.f2 - e.f1) (by omega) (by omega),q0f (x:=e.f2 - e.f1+1) (by omega) (by omega),s27b n _ _ (by omega) (by omega)]
 simp only [q00,q02,q0i]
 rw [q0f (x:=e.f1+q5L z (e.f2 - e.f1+1)) (by omega) (by omega),r_quo _ _ _ _ (by decide),q0f hd.1 hd.2]
 rw [q0f (x:=e.t2 - e.t1) (by omega) (by omega),q0f (x:=e.t2 - e.t1+1) (by omega) (by omega),s27b n _ _ (by omega) (by omega)]
 simp only [q00,q02,q0i,q0d]
 rw [q0f (x:=e.t1+q5L (z.tdiv 7) (e.t2 - e.t1+1)) (by omega) (by omega)]
 rfl
def tmL (P:List Int):Nat→List E9→List T2
 | _,[]=>[]
 | i,e::r=>tmE (pick P i) e::tmL P (i+1) r
theorem q9r (P:List Int):∀ (l:List E9) (i:Nat),(tmL P i l).length=l.length
 | [],_=>rfl
 | e::r,i=>by simp [tmL,q9r P r]
theorem qc7 (P:List Int):∀ (l:List E9) (i:Nat),(∀ e∈l,q0N e.f1 e.f2 e.t1 e.t2)→inL (tmL P i l) l=true
 | [],_,_=>rfl
 | e::r,i,h=>by
  rw [tmL,inL,Bool.and_eq_true]
  exact ⟨tm_in _ (h e (by simp)),qc7 P r _ fun e he=>h e (by simp [he])⟩
theorem q7t (P:List Int):∀ (l:List E9) (i0 i:Nat) (t:T2),(tmL P i0 l)[i]?=some t→∃ e,l[i]?=some e∧t=tmE (pick P ((i0+i:Nat):Int)) e
 | [],i0,i,t,h=>by simp [tmL] at h
 | e::r,i0,0,t,h=>by
  simp [tmL] at h
  exact ⟨e,rfl,by rw [←h];rfl⟩
 | e::r,i0,i+1,t,h=>by
  obtain ⟨e',h1,h2⟩:=q7t P r (i0+1) i t (by simpa [tmL] using h)
  exact ⟨e',by simpa using h1,by rw [h2,show i0+1+i=i0+(i+1) by omega]⟩
theorem qdb {a i:Nat} (ha:a≤1000) (hi:i≤1000):IntKind.i64.wrap (((a+i:Nat):Int)+1)=((a+(i+1):Nat):Int):=by rw [q0f (by omega) (by omega)];omega
set_option maxRecDepth 10000 in
theorem l46_0 (n:Nat) (P:Option (List Int)) (hP:(P.getD []).length≤4611686018427387904) (hI:I64 (P.getD [])) (o:Option (List E9)) (hl:(o.getD []).length≤60) (hs:∀ e∈o.getD [],q0N e.f1 e.f2 e.t1 e.t2) (at0:Nat) (ha:at0≤200) (x5 x6 x7 x8:D) :
  q0l [L46_0 (RP (n+2)),L46_1 (RP (n+2))] M0 0 [.d (dI P),.d (il (at0:Int)),.d (d9 o),.d (il (o.getD []).length),.d (il 0),.d x5,.d x6,.d x7,.d x8] =
  q30 [.d (dI P),.d (il ((at0+(o.getD []).length:Nat):Int)),.d x5,.d x6,.d x7,.d x8] (fun rs=>[.d (dI P),.d (il ((at0+(o.getD []).length:Nat):Int)),.r rs,.n rs.length,.n rs.length,.d x5,.d x6,.d x7,.d x8]) ((tmL (P.getD []) at0 (o.getD [])).map rT):=by
 have hlen:=q9r (P.getD []) (o.getD []) at0
 have:=q18 (tmL (P.getD []) at0 (o.getD [])) (by omega) (fun t=>some (rT t)) (L46_0 (RP (n+2))) (L46_1 (RP (n+2))) (fun i=>[.d (dI P),.d (il ((at0+i:Nat):Int)),.d (d9 o),.d (il (o.getD []).length),.d (il (i:Nat)),.d x5,.d x6,.d x7,.d x8]) (fun i rs=>[.d (dI P),.d (il ((at0+i:Nat):Int)),.d (d9 o),.d (il (o.getD []).length),.d (il (i:Nat)),.r rs,.n rs.length,.n rs.length,.d x5,.d x6,.d x7,.d x8]) [.d (dI P),.d (il ((at0+(o.getD []).length:Nat):Int)),.d x5,.d x6,.d x7,.d x8] (fun rs=>[.d (dI P),.d (il ((at0+(o.getD []).length:Nat):Int)),.r rs,.n rs.length,.n rs.length,.d x5,.d x6,.d x7,.d x8]) ?_ ?_ ?_ ?_
 ·simpa using this
 ·intro q;simp [L46_0,hlen]
 ·intro rs q;simp [L46_1,hlen]
 ·intro i t q hi hlt hw
  obtain ⟨e,he,rfl⟩:=q7t _ _ _ _ _ hi
  rw [hlen] at hlt
  have h106:=s106 n e (pick (P.getD []) ((at0+i:Nat):Int)) (hs e (List.mem_of_getElem? he)) (q3f hI _)
  simp only [L46_0,q02,q04,q0n,q01,hlt,decide_true,if_true,q37 he,r9,q07,q0g,q06,s107 n P _ hP,q00,h106,q0G,q0A,q0u,q0B,q0q,List.length_cons,List.length_nil,List.take_succ_cons,List.take_zero,q0S,q0v,q03,q0i,hw]
  rw [if_pos (by simp []),qdb (by omega) (by omega)]
  rfl
 ·intro i t rs q hi hlt hw hrs
  obtain ⟨e,he,rfl⟩:=q7t _ _ _ _ _ hi
  rw [hlen] at hlt
  have h106:=s106 n e (pick (P.getD []) ((at0+i:Nat):Int)) (hs e (List.mem_of_getElem? he)) (q3f hI _)
  simp only [L46_1,q02,q04,q0E,q0D,q0x,q0F,q0n,q01,hlt,decide_true,if_true,q37 he,r9,q07,q0g,q06,s107 n P _ hP,q00,h106,q0G,q0A,q0u,q0B,q0q,List.length_cons,List.length_nil,List.take_succ_cons,List.take_zero,q0v,q03,q0i,hw,q16,q1R,List.length_append]
  rw [if_pos (by simp [];omega),qdb (by omega) (by omega)]
  rfl
set_option maxRecDepth 10000 in
theorem l46_1 (n:Nat) (P:Option (List Int)) (hP:(P.getD []).length≤4611686018427387904) (hI:I64 (P.getD [])) (o:Option (List E9)) (hl:(o.getD []).length≤60) (hs:∀ e∈o.getD [],q0N e.f1 e.f2 e.t1 e.t2) (at0:Nat) (ha:at0≤200) (x5 x6 x7 x8 x9:D) :
  q0l [L46_2 (RP (n+2)),L46_3 (RP (n+2))] M0 0 [.d (dI P),.d (il (at0:Int)),.d (d9 o),.d (il (o.getD []).length),.d (il 0),.d x5,.d x6,.d x7,.d x8,.d x9] =
  q30 [.d (dI P),.d (il ((at0+(o.getD []).length:Nat):Int)),.d x5,.d x6,.d x7,.d x8,.d x9] (fun rs=>[.d (dI P),.d (il ((at0+(o.getD []).length:Nat):Int)),.r rs,.d x5,.n rs.length,.n rs.length,.d x6,.d x7,.d x8,.d x9]) ((tmL (P.getD []) at0 (o.getD [])).map rT):=by
 have hlen:=q9r (P.getD []) (o.getD []) at0
 have:=q18 (tmL (P.getD []) at0 (o.getD [])) (by omega) (fun t=>some (rT t)) (L46_2 (RP (n+2))) (L46_3 (RP (n+2))) (fun i=>[.d (dI P),.d (il ((at0+i:Nat):Int)),.d (d9 o),.d (il (o.getD []).length),.d (il (i:Nat)),.d x5,.d x6,.d x7,.d x8,.d x9]) (fun i rs=>[.d (dI P),.d (il ((at0+i:Nat):Int)),.d (d9 o),.d (il (o.getD []).length),.d (il (i:Nat)),.r rs,.d x5,.n rs.length,.n rs.length,.d x6,.d x7,.d x8,.d x9]) [.d (dI P),.d (il ((at0+(o.getD []).length:Nat):Int)),.d x5,.d x6,.d x7,.d x8,.d x9] (fun rs=>[.d (dI P),.d (il ((at0+(o.getD []).length:Nat):Int)),.r rs,.d x5,.n rs.length,.n rs.length,.d x6,.d x7,.d x8,.d x9]) ?_ ?_ ?_ ?_
 ·simpa using this
 ·intro q;simp [L46_2,hlen]
 ·intro rs q;simp [L46_3,hlen]
 ·intro i t q hi hlt hw
  obtain ⟨e,he,rfl⟩:=q7t _ _ _ _ _ hi
  rw [hlen] at hlt
  have h106:=s106 n e (pick (P.getD []) ((at0+i:Nat):Int)) (hs e (List.mem_of_getElem? he)) (q3f hI _)
  simp only [L46_2,q02,q04,q0n,q01,hlt,decide_true,if_true,q37 he,r9,q07,q0g,q06,s107 n P _ hP,q00,h106,q0G,q0A,q0u,q0B,q0q,List.length_cons,List.length_nil,List.take_succ_cons,List.take_zero,q0S,q0v,q03,q0i,hw]
  rw [if_pos (by simp []),qdb (by omega) (by omega)]
  rfl
 ·intro i t rs q hi hlt hw hrs
  obtain ⟨e,he,rfl⟩:=q7t _ _ _ _ _ hi
  rw [hlen] at hlt
  have h106:=s106 n e (pick (P.getD []) ((at0+i:Nat):Int)) (hs e (List.mem_of_getElem? he)) (q3f hI _)
  simp only [L46_3,q02,q04,q0E,q0D,q0x,q0F,q0n,q01,hlt,decide_true,if_true,q37 he,r9,q07,q0g,q06,s107 n P _ hP,q00,h106,q0G,q0A,q0u,q0B,q0q,List.length_cons,List.length_nil,List.take_succ_cons,List.take_zero,q0v,q03,q0i,hw,q16,q1R,List.length_append]
  rw [if_pos (by simp [];omega),qdb (by omega) (by omega)]
  rfl
set_option maxRecDepth 10000 in
theorem l46_2 (n:Nat) (P:Option (List Int)) (hP:(P.getD []).length≤4611686018427387904) (hI:I64 (P.getD [])) (o:Option (List E9)) (hl:(o.getD []).length≤60) (hs:∀ e∈o.getD [],q0N e.f1 e.f2 e.t1 e.t2) (at0:Nat) (ha:at0≤200) (x5 x6:D) :
  q0l [L46_4 (RP (n+2)),L46_5 (RP (n+2))] M0 0 [.d (dI P),.d (il (at0:Int)),.d (d9 o),.d (il (o.getD []).length),.d (il 0),.d x5,.d x6] =
  q30 [.d x5,.d x6] (fun rs=>[.r rs,.d x5,.d x6,.n rs.length,.n rs.length]) ((tmL (P.getD []) at0 (o.getD [])).map rT):=by
 have hlen:=q9r (P.getD []) (o.getD []) at0
 have:=q18 (tmL (P.getD []) at0 (o.getD [])) (by omega) (fun t=>some (rT t)) (L46_4 (RP (n+2))) (L46_5 (RP (n+2))) (fun i=>[.d (dI P),.d (il ((at0+i:Nat):Int)),.d (d9 o),.d (il (o.getD []).length),.d (il (i:Nat)),.d x5,.d x6]) (fun i rs=>[.d (dI P),.d (il ((at0+i:Nat):Int)),.d (d9 o),.d (il (o.getD []).length),.d (il (i:Nat)),.r rs,.d x5,.d x6,.n rs.length,.n rs.length]) [.d x5,.d x6] (fun rs=>[.r rs,.d x5,.d x6,.n rs.length,.n rs.length]) ?_ ?_ ?_ ?_
 ·simpa using this
 ·intro q;simp [L46_4,hlen]
 ·intro rs q;simp [L46_5,hlen]
 ·intro i t q hi hlt hw
  obtain ⟨e,he,rfl⟩:=q7t _ _ _ _ _ hi
  rw [hlen] at hlt
  have h106:=s106 n e (pick (P.getD []) ((at0+i:Nat):Int)) (hs e (List.mem_of_getElem? he)) (q3f hI _)
  simp only [L46_4,q02,q04,q0n,q01,hlt,decide_true,if_true,q37 he,r9,q07,q0g,q06,s107 n P _ hP,q00,h106,q0G,q0A,q0u,q0B,q0q,List.length_cons,List.length_nil,List.take_succ_cons,List.take_zero,q0S,q0v,q03,q0i,hw]
  rw [if_pos (by simp []),qdb (by omega) (by omega)]
  rfl
 ·intro i t rs q hi hlt hw hrs
  obtain ⟨e,he,rfl⟩:=q7t _ _ _ _ _ hi
  rw [hlen] at hlt
  have h106:=s106 n e (pick (P.getD []) ((at0+i:Nat):Int)) (hs e (List.mem_of_getElem? he)) (q3f hI _)
  simp only [L46_5,q02,q04,q0E,q0D,q0x,q0F,q0n,q01,hlt,decide_true,if_true,q37 he,r9,q07,q0g,q06,s107 n P _ hP,q00,h106,q0G,q0A,q0u,q0B,q0q,List.length_cons,List.length_nil,List.take_succ_cons,List.take_zero,q0v,q03,q0i,hw,q16,q1R,List.length_append]
  rw [if_pos (by simp [];omega),qdb (by omega) (by omega)]
  rfl
set_option maxRecDepth 10000 in
theorem s46 (n:Nat) (k:Int) (P:Option (List Int)) (hP:(P.getD []).length≤4611686018427387904) (hI:I64 (P.getD [])) (a b c:Option (List E9)) (o:Option (List E5)) (ha:(a.getD []).length*72≤140737488351232) (hb:(b.getD []).length*72≤140737488351232) (hc:(c.getD []).length*72≤140737488351232) (ho:(o.getD []).length*40≤140737488351232)
  (la:(q0p k (a.getD [])).length≤60) (lb:(q0p k (b.getD [])).length≤60) (lc:(q0p k (c.getD [])).length≤60) (sa:∀ e∈q0p k (a.getD []),q0N e.f1 e.f2 e.t1 e.t2) (sb:∀ e∈q0p k (b.getD []),q0N e.f1 e.f2 e.t1 e.t2) (sc:∀ e∈q0p k (c.getD []),q0N e.f1 e.f2 e.t1 e.t2) :
  FN (n+3) 46 [d9 a,d9 b,d9 c,d5 o,il k,dI P]=some (0,[.d (dT (nzO (tmL (P.getD []) 0 (q0p k (a.getD []))))),.d (dT (nzO (tmL (P.getD []) (q0p k (a.getD [])).length (q0p k (b.getD []))))),.d (dT (nzO (tmL (P.getD []) ((q0p k (a.getD [])).length+(q0p k (b.getD [])).length) (q0p k (c.getD [])))))]):=by
 rw [F46]
 simp only [G46,q06,s43 n k a b c o ha hb hc ho,q00,q02,q04,q4R,q09,q03,q0r]
 generalize hA:q0p k (a.getD [])=A at la sa ⊢
 generalize hB:q0p k (b.getD [])=B at lb sb ⊢
 generalize hC:q0p k (c.getD [])=C at lc sc ⊢
 have e0:=l46_0 n P hP hI (nzO A) (by rw [q09];exact la) (by rw [q09];exact sa) 0 (by omega) (d9 (nzO A)) (d9 (nzO B)) (d9 (nzO C)) (d5 (nzO (q2Q k (o.getD []))))
 simp only [q09,Int.natCast_zero,Nat.zero_add] at e0
 rw [e0,qk0 (R:=fun d=>some (0,[.d (dI P),.d (il (A.length:Int)),.d d,.d (d9 (nzO A)),.d (d9 (nzO B)),.d (d9 (nzO C)),.d (d5 (nzO (q2Q k (o.getD []))))])) (by simp) (by intros;simp)]
 simp only [q00,q02,q04,q4R,q09]
 have e1:=l46_1 n P hP hI (nzO B) (by rw [q09];exact lb) (by rw [q09];exact sb) A.length (by omega) (dT (nzO (tmL (P.getD []) 0 A))) (d9 (nzO A)) (d9 (nzO B)) (d9 (nzO C)) (d5 (nzO (q2Q k (o.getD []))))
 simp only [q09] at e1
 rw [e1,qk0 (R:=fun d=>some (0,[.d (dI P),.d (il ((A.length+B.length:Nat):Int)),.d (dT (nzO (tmL (P.getD []) 0 A))),.d d,.d (d9 (nzO A)),.d (d9 (nzO B)),.d (d9 (nzO C)),.d (d5 (nzO (q2Q k (o.getD []))))])) (by simp) (by intros;simp)]
 simp only [q00,q02,q04,q4R,q09]
 have e2:=l46_2 n P hP hI (nzO C) (by rw [q09];exact lc) (by rw [q09];exact sc) (A.length+B.length) (by omega) (dT (nzO (tmL (P.getD []) 0 A))) (dT (nzO (tmL (P.getD []) A.length B)))
 simp only [q09] at e2
 rw [e2,qk0 (R:=fun d=>some (0,[.d (dT (nzO (tmL (P.getD []) 0 A))),.d (dT (nzO (tmL (P.getD []) A.length B))),.d d])) (by simp) (by intros;simp)]
end Go.VE
