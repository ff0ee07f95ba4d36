/- Family: Moved (program). (Made by fa44.py.) -/
import Derived.Test.YtobeabinccohlaaGreatMg3
import Derived.Test.YtobeabinccohlaaGreatMi
import Derived.Test.YtobeabinccohlaaGreatMt
import Derived.KernelRfl
import Derived.Test.YtobeabinccohlaaGreatMh
import Derived.Test.YtobeabinccohlaaGreatRows
set_option maxRecDepth 20000
namespace Go.VE
open Go.RowKit Go.Proofs
section
def wo9 (s:Int) (l:List E9):List E9:=l.filter fun e=>!decide (e.src=s)
def wo5 (s:Int) (l:List E5):List E5:=l.filter fun e=>!decide (e.src=s)
def wk9 (s:Int) (o:Option (List E9)):Option (List E9):=o.map (wo9 s)
def wk5 (s:Int) (o:Option (List E5)):Option (List E5):=o.map (wo5 s)
theorem qcs (s:Int):wk9 s none=none:=rfl
theorem qct (s:Int):wk5 s none=none:=rfl
theorem q27 (s:Int) (o:Option (List E9)):(wk9 s o).getD []=wo9 s (o.getD []):=by cases o<;>rfl
theorem q7f (s:Int) (o:Option (List E5)):(wk5 s o).getD []=wo5 s (o.getD []):=by cases o<;>rfl
theorem q6z (s:Int) (l:List E9):(wo9 s l).length≤l.length:=List.length_filter_le _ _
theorem qg8 (s:Int) (l:List E5):(wo5 s l).length≤l.length:=List.length_filter_le _ _
theorem qbt {s:Int} {l:List E9} {e:E9} (h:e∈wo9 s l):e∈l:=(List.mem_filter.1 h).1
theorem GoodK.wo {a b c:List E9} {o:List E5} (h:GoodK a b c o) (s:Int):GoodK (wo9 s a) (wo9 s b) (wo9 s c) (wo5 s o) :=
 ⟨fun e he=>h.fam e (qbt he),fun e he=>h.less e (qbt he),fun e he=>h.by0 e (qbt he),Nat.le_trans (q6z ..) h.la,Nat.le_trans (q6z ..) h.lb,Nat.le_trans (q6z ..) h.lc,Nat.le_trans (qg8 ..) h.lo⟩
theorem s98 (n:Nat) (e:E9) (s:Int):FN (n+1) 98 (r9 e++[il s])=some (0,[.d (bl (decide (e.src=s)))]):=by
 rw [r9]
 simp only [List.cons_append,List.nil_append]
 rw [FS,G98_eq]
 simp only [G98,q1a,q0c]
theorem d98 (n:Nat) (e:E9) (s:Int):FD (n+1) (.fn 98 [.dp [il s] 0]) [.agg 9] (r9 e)=some (0,[.d (bl (decide (e.src=s)))]) :=
 q4p [.agg 9,.ptr 1] [.agg (r9 e)] (by decide) rfl (by kernel_rfl) rfl (by kernel_rfl) (s98 n e s)
theorem s100 (n:Nat) (e:E9) (s:Int):FN (n+1) 100 (r9 e++[il s])=some (0,[.d (bl (decide (e.src=s)))]):=by
 rw [r9]
 simp only [List.cons_append,List.nil_append]
 rw [FS,qna]
 simp only [G100,q1a,q0c]
theorem d100 (n:Nat) (e:E9) (s:Int):FD (n+1) (.fn 100 [.dp [il s] 0]) [.agg 9] (r9 e)=some (0,[.d (bl (decide (e.src=s)))]) :=
 q4p [.agg 9,.ptr 1] [.agg (r9 e)] (by decide) rfl (by kernel_rfl) rfl (by kernel_rfl) (s100 n e s)
theorem s102 (n:Nat) (e:E9) (s:Int):FN (n+1) 102 (r9 e++[il s])=some (0,[.d (bl (decide (e.src=s)))]):=by
 rw [r9]
 simp only [List.cons_append,List.nil_append]
 rw [FS,qn8]
 simp only [G102,q1a,q0c]
theorem d102 (n:Nat) (e:E9) (s:Int):FD (n+1) (.fn 102 [.dp [il s] 0]) [.agg 9] (r9 e)=some (0,[.d (bl (decide (e.src=s)))]) :=
 q4p [.agg 9,.ptr 1] [.agg (r9 e)] (by decide) rfl (by kernel_rfl) rfl (by kernel_rfl) (s102 n e s)
theorem s104 (n:Nat) (e:E5) (s:Int):FN (n+1) 104 (r5 e++[il s])=some (0,[.d (bl (decide (e.src=s)))]):=by
 rw [r5]
 simp only [List.cons_append,List.nil_append]
 rw [FS,qn6]
 simp only [G104,q1a,q0c]
theorem d104 (n:Nat) (e:E5) (s:Int):FD (n+1) (.fn 104 [.dp [il s] 0]) [.agg 5] (r5 e)=some (0,[.d (bl (decide (e.src=s)))]) :=
 q4p [.agg 5,.ptr 1] [.agg (r5 e)] (by decide) rfl (by kernel_rfl) rfl (by kernel_rfl) (s104 n e s)
theorem qib (n:Nat) (s:Int) (l:List E9) (hl:l.length*72≤140737488351232):∃ rest:Rr,FN (n+3) 1000097 [.sl 9 (l.map r9),.fn 98 [.dp [il s] 0]]=some (0,[.d (d9 (wk9 s (some l))),.d (.sl 9 rest)]):=by
 obtain ⟨rest,h⟩:=qcH (n+1) (.fn 98 [.dp [il s] 0]) (fun e=>decide (e.src=s)) l (by omega) (fun e _=>d98 n e s) (fun e _=>d98 (n+1) e s)
 refine ⟨rest,h.trans ?_⟩
 simp only [d9,wk9,wo9,Option.map_some,dSl]
theorem qia (n:Nat) (s:Int) (l:List E9) (hl:l.length*72≤140737488351232):∃ rest:Rr,FN (n+3) 1000099 [.sl 9 (l.map r9),.fn 100 [.dp [il s] 0]]=some (0,[.d (d9 (wk9 s (some l))),.d (.sl 9 rest)]):=by
 obtain ⟨rest,h⟩:=qcG (n+1) (.fn 100 [.dp [il s] 0]) (fun e=>decide (e.src=s)) l (by omega) (fun e _=>d100 n e s) (fun e _=>d100 (n+1) e s)
 refine ⟨rest,h.trans ?_⟩
 simp only [d9,wk9,wo9,Option.map_some,dSl]
theorem qi9 (n:Nat) (s:Int) (l:List E9) (hl:l.length*72≤140737488351232):∃ rest:Rr,FN (n+3) 1000101 [.sl 9 (l.map r9),.fn 102 [.dp [il s] 0]]=some (0,[.d (d9 (wk9 s (some l))),.d (.sl 9 rest)]):=by
 obtain ⟨rest,h⟩:=qcF (n+1) (.fn 102 [.dp [il s] 0]) (fun e=>decide (e.src=s)) l (by omega) (fun e _=>d102 n e s) (fun e _=>d102 (n+1) e s)
 refine ⟨rest,h.trans ?_⟩
 simp only [d9,wk9,wo9,Option.map_some,dSl]
theorem qi8 (n:Nat) (s:Int) (l:List E5) (hl:l.length*40≤140737488351232):∃ rest:Rr,FN (n+3) 1000103 [.sl 5 (l.map r5),.fn 104 [.dp [il s] 0]]=some (0,[.d (d5 (wk5 s (some l))),.d (.sl 5 rest)]):=by
 obtain ⟨rest,h⟩:=qcE (n+1) (.fn 104 [.dp [il s] 0]) (fun e=>decide (e.src=s)) l (by omega) (fun e _=>d104 n e s) (fun e _=>d104 (n+1) e s)
 refine ⟨rest,h.trans ?_⟩
 simp only [d5,wk5,wo5,Option.map_some,dSl]
theorem if2 {α:Type} (p q:Prop) [Decidable p] [Decidable q] (x y:α):(if p then (if q then x else y) else y)=if p∧q then x else y:=by
 by_cases h1:p<;>by_cases h2:q<;>simp [h1,h2]
theorem if3 {α:Type} (p q r:Prop) [Decidable p] [Decidable q] [Decidable r] (x y:α):(if p then (if q then (if r then x else y) else y) else y)=if p∧q∧r then x else y:=by
 by_cases h1:p<;>by_cases h2:q<;>by_cases h3:r<;>simp [h1,h2,h3]
theorem if4 {α:Type} (p q r s:Prop) [Decidable p] [Decidable q] [Decidable r] [Decidable s] (x y:α):(if p then (if q then (if r then (if s then x else y) else y) else y) else y)=if p∧q∧r∧s then x else y:=by
 by_cases h1:p<;>by_cases h2:q<;>by_cases h3:r<;>by_cases h4:s<;>simp [h1,h2,h3,h4]
def q9x (s:Int) (a b c:List E9) (o:List E5):Prop:=((wo9 s a).length:Int)=a.length∧((wo9 s b).length:Int)=b.length∧((wo9 s c).length:Int)=c.length∧((wo5 s o).length:Int)=o.length
instance (s:Int) (a b c:List E9) (o:List E5):Decidable (q9x s a b c o):=by unfold q9x;infer_instance
def qiN (s k:Int) (a b c:Option (List E9)) (o:Option (List E5)) (d:Int):Int→List Int:=q2n (q0w k (wo9 s (a.getD []))) (q0w k (wo9 s (b.getD []))) (q0w k (wo9 s (c.getD []))) (q5O k (wo5 s (o.getD []))) d
def movL (s k:Int) (a b c:Option (List E9)) (o:Option (List E5)) (d:Int):Option (List Int):=(nzO (q2s (a.getD []))).map (List.filter (q9N (fk k a b c o d) (qiN s k a b c o d)))
theorem qlp (s k:Int) (a b c:Option (List E9)) (o:Option (List E5)) (d:Int):fo (kn9 k (wk9 s a)) (kn9 k (wk9 s b)) (kn9 k (wk9 s c)) (kn5 k (wk5 s o)) d=qiN s k a b c o d:=by
 funext p;unfold fo qiN;rw [q0d,q0d,q0d,q1v,q27,q27,q27,q7f]
set_option maxHeartbeats 4000000 in
theorem s39 (n:Nat) (s d k:Int) (a b c:Option (List E9)) (o:Option (List E5)) (ha:(a.getD []).length*72≤140737488351232) (hb:(b.getD []).length*72≤140737488351232) (hc:(c.getD []).length*72≤140737488351232) (ho:(o.getD []).length*40≤140737488351232) :
  FN (n+109) 39 [d9 a,d9 b,d9 c,d5 o,il s,il d,il k]=if q1Q (q0H (a.getD []) (b.getD []) (c.getD []) (o.getD [])) false false 0 0 [d,k]=0 then (if q9x s (a.getD []) (b.getD []) (c.getD []) (o.getD []) then some (0,[.d (dI none),.d (il 3)]) else some (0,[.d (dI (movL s k a b c o d)),.d (il 0)])) else some (0,[.d (dI none),.d (il (q1Q (q0H (a.getD []) (b.getD []) (c.getD []) (o.getD [])) false false 0 0 [d,k]))]):=by
 rw [FS,G39_eq]
 have h73:=q7e (n+98) 0 0 d k a b c o ha hb hc ho false false
 by_cases he:q1Q (q0H (a.getD []) (b.getD []) (c.getD []) (o.getD [])) false false 0 0 [d,k]=0
 ·rw [if_pos he]
  have g:=q3j k he
  have gw:GoodK ((kn9 k (wk9 s a)).getD []) ((kn9 k (wk9 s b)).getD []) ((kn9 k (wk9 s c)).getD []) ((kn5 k (wk5 s o)).getD []):=by
   rw [q0d,q0d,q0d,q1v,q27,q27,q27,q7f]
   exact ((q4O (q1U he)).wo s).cnt k
  have hla:=(q4I (q1U he)).1
  have h93:=k93 n a (d9 b) (d9 c) (d5 o) d (by omega) (q1V he).1 g gw
  rw [fo_kn,qlp] at h93
  have h94:=s94 (n+103) k (wk9 s a) (wk9 s b) (wk9 s c) (wk5 s o) (by rw [q27];have:=q6z s (a.getD []);omega) (by rw [q27];have:=q6z s (b.getD []);omega) (by rw [q27];have:=q6z s (c.getD []);omega) (by rw [q7f];have:=qg8 s (o.getD []);omega)
  have hp:∀ (a b c:Option (List E9)) (o:Option (List E5)) (q:List D→Out),(RP (n+108)).ptrW 4 (q0e a b c o) q=q [d9 a,d9 b,d9 c,d5 o]:=fun a b c o q=>q1e _ 4 q rfl
  have hx:(nzO (q2s (a.getD []))).map (List.filter (q9N (fk k a b c o d) (qiN s k a b c o d)))=movL s k a b c o d:=rfl
  rw [hx] at h93
  generalize movL s k a b c o d=M at h93 ⊢
  have h96:=s96 (n+106) a b c o ha hb hc ho
  have hN:q9x s (a.getD []) (b.getD []) (c.getD []) (o.getD [])=((((wk9 s a).getD []).length:Int)=(a.getD []).length∧(((wk9 s b).getD []).length:Int)=(b.getD []).length∧(((wk9 s c).getD []).length:Int)=(c.getD []).length∧(((wk5 s o).getD []).length:Int)=(o.getD []).length):=by
   rw [q27,q27,q27,q7f];rfl
  simp only [hN]
  clear hN hx
  simp only [q04,q0D,G39,q08,q0C,q1n,h73,q4o,he,if_true,q01,q02,q06,q0Y,ne_eq,not_true_eq_false,decide_false,q00,Bool.false_eq_true,if_false,h96]
  clear h73 he g gw hla
  obtain ⟨_,ka⟩:=sk (qib (n+105) s)
  obtain ⟨_,kb⟩:=sk (qia (n+105) s)
  obtain ⟨_,kc⟩:=sk (qi9 (n+105) s)
  obtain ⟨_,ko⟩:=sk (qi8 (n+105) s)
  cases a<;>cases b<;>cases c<;>cases o<;>try simp only [qcs,qct] at h94 h93
  all_goals
   try simp only [Option.getD_some] at ha hb hc ho
   simp only [Option.isSome_none,Option.isSome_some,ix96,↓q01,↓q2N,lv9,lv5]
   simp (disch:=first | exact ha | exact hb | exact hc | exact ho) only [q08,s97n,s99n,s101n,s103n,ka,kb,kc,ko,qcs,qct,q01,q02,q06,q0G,q0Z,q0B,q0K,if_true,q0c,q4E,q5t,q1f,q4V,q5A,len5,q1a,q00,decide_eq_true_eq,h94,hp,q0b,q0j,h93,q04,q2h,true_and,and_true]
   first | rfl | exact if2 _ _ _ _ | exact if3 _ _ _ _ _ | exact if4 _ _ _ _ _ _
 ·rw [if_neg he]
  simp only [G39,q08,q04,q0D,q0C,q1n,h73,q4o,if_neg he,q01,q02,q06,q0Y,q00]
  rw [if_pos (by simpa using he)]
  simp [dI,dSl]
end
section
def kinA:Option (List E9):=some [⟨1,10,3,0,0,100,100,0,0⟩,⟨2,11,3,0,0,100,100,0,0⟩,⟨3,12,5,0,10,90,100,0,0⟩,⟨4,11,7,40,50,60,60,0,0⟩]
def kinB:Option (List E9):=some [⟨20,5,3,20,30,70,70,8,0⟩]
def kinC:Option (List E9):=some [⟨30,10,0,50,50,52,55,0,0⟩,⟨31,12,10,0,0,100,100,0,0⟩]
def kinO:Option (List E5):=some [⟨40,11,9,5,0⟩]
theorem s168 (n:Nat) (x:Int):FN (n+1) 168 [il x]=some (0,[.d (il x),.d (il x)]):=by rw [FS,qmy];simp [G168]
theorem s88 (n:Nat):FN (n+2) 88 []=some (0,[.d (d9 kinA),.d (d9 kinB),.d (d9 kinC),.d (d5 kinO)]):=by
 rw [FS,G88_eq]
 simp only [G88,q08,q04,s168,q01,q02,q06,q1o,q0C,q0B,List.length_cons,List.length_nil,q0K,if_true,q0J,q1n,q0c,List.take_succ_cons,List.take_zero]
 simp [kinA,kinB,kinC,kinO,d9,d5,r9,r5,dSl]
theorem kA:(kinA.getD []).length*72≤140737488351232:=by decide
theorem kB:(kinB.getD []).length*72≤140737488351232:=by decide
theorem kC:(kinC.getD []).length*72≤140737488351232:=by decide
theorem kO:(kinO.getD []).length*40≤140737488351232:=by decide
theorem x1 (n:Nat):FN (n+110) 12 [d9 kinA,d9 kinB,d9 kinC,d5 kinO,il 11,il 45,il 9]=some (0,[.d (dI (some [3,7])),.d (il 0)]):=by
 rw [s12 (n+99) 11 45 9 kinA kinB kinC kinO kA kB kC kO,if_pos (by decide +kernel),show q0W 45 11 (q0w 9 (kinA.getD []))=[3,7] by decide +kernel]
theorem x2 (n:Nat):FN (n+110) 14 [d9 kinA,d9 kinB,d9 kinC,d5 kinO,il 5,il 25,il 9]=some (0,[.d (dI (some [3,5])),.d (il 0)]):=by
 rw [s14 (n+5) 5 25 9 kinA kinB kinC kinO kA kB kC kO,if_pos (by decide +kernel),show q07 25 (q0w 9 (kinB.getD [])) 5=[3,5] by decide +kernel]
theorem x3 (n:Nat):FN (n+110) 16 [d9 kinA,d9 kinB,d9 kinC,d5 kinO,il 12,il 51,il 9]=some (0,[.d (dI (some [0])),.d (il 0)]):=by
 rw [s16 (n+4) 12 51 9 kinA kinB kinC kinO kA kB kC kO,if_pos (by decide +kernel),show q42 9 kinA kinB kinC kinO 51 12=[0] by decide +kernel]
theorem x4 (n:Nat):FN (n+110) 18 [d9 kinA,d9 kinB,d9 kinC,d5 kinO,il 12,il 53,il 9]=some (0,[.d (il 2),.d (il 0)]):=by
 rw [s18 (n+3) 12 53 9 kinA kinB kinC kinO kA kB kC kO,if_pos (by decide +kernel),show q6I (q0w 9 (kinA.getD [])) (q0w 9 (kinC.getD [])) (q5O 9 (kinO.getD [])) 53 12=2 by decide +kernel]
theorem x5 (n:Nat):FN (n+110) 20 [d9 kinA,d9 kinB,d9 kinC,d5 kinO,il 11,il 7,il 55,il 9]=some (0,[.d (il 1),.d (il 0)]):=by
 rw [s20 (n+3) 11 7 55 9 kinA kinB kinC kinO kA kB kC kO,if_pos (by decide +kernel),show q4t (q42 9 kinA kinB kinC kinO 55 11) 7=1 by decide +kernel]
theorem x6 (n:Nat):FN (n+110) 32 [d9 kinA,d9 kinB,d9 kinC,d5 kinO,il 3,il 35,il 9]=some (0,[.d (dI (some [10,11,12])),.d (il 0)]):=by
 rw [s32 n 3 35 9 kinA kinB kinC kinO kA kB kC kO,if_pos (by decide +kernel),show q5T 9 kinA kinB kinC kinO 35 3=some [10,11,12] by decide +kernel]
theorem x7 (n:Nat):FN (n+110) 29 [d9 kinA,d9 kinB,d9 kinC,d5 kinO,il 3,il 53,il 9]=some (0,[.d (il 0),.d (il 2),.d (il 0)]):=by
 rw [s29 n 3 53 9 kinA kinB kinC kinO kA kB kC kO,if_pos (by decide +kernel),show (((q5T 9 kinA kinB kinC kinO 53 3).getD []).length:Int)=0 by decide +kernel,show (((qeo 9 kinA kinB kinC kinO 53 3).getD []).length:Int)=2 by decide +kernel]
theorem x8 (n:Nat):FN (n+110) 39 [d9 kinA,d9 kinB,d9 kinC,d5 kinO,il 30,il 53,il 9]=some (0,[.d (dI (some [10,12])),.d (il 0)]):=by
 rw [s39 (n+1) 30 53 9 kinA kinB kinC kinO kA kB kC kO,if_pos (by decide +kernel),if_neg (by decide +kernel),show movL 30 9 kinA kinB kinC kinO 53=some [10,12] by decide +kernel]
theorem x9 (n:Nat):FN (n+110) 37 [d9 kinA,d9 kinB,d9 kinC,d5 kinO,il 10,il 4,il 9]=some (0,[.d (dI (some [11])),.d (il 0)]):=by
 rw [s37 (n+1) 10 4 9 kinA kinB kinC kinO kA kB kC kO,if_pos (by decide +kernel),show (nzO (q2s (kinA.getD []))).map (List.filter (q9N (fk 4 kinA kinB kinC kinO 10) (fk 9 kinA kinB kinC kinO 10)))=some [11] by decide +kernel]
theorem x10 (n:Nat):FN (n+110) 18 [d9 kinA,d9 kinB,d9 kinC,d5 kinO,il 11,il 10,il 9]=some (0,[.d (il 0),.d (il 0)]):=by
 rw [s18 (n+3) 11 10 9 kinA kinB kinC kinO kA kB kC kO,if_pos (by decide +kernel),show q6I (q0w 9 (kinA.getD [])) (q0w 9 (kinC.getD [])) (q5O 9 (kinO.getD [])) 10 11=0 by decide +kernel]
theorem q8J (n:Nat) (l:List Int) (hl:l.length≤100):FN (n+1) 22 [dI (some l),dI (some l)]=some (0,[.d (bl true)]):=by
 rw [s22 n (some l) (some l) (by simp only [Option.getD_some];omega)];simp
theorem a23 {Fn:Nat→List D→Out} {FnD:D→List Sh→List D→Out} {m:Nat} (A B C O L1 L2 L3 L6 L8 L9:D) (h88:Fn 88 []=some (0,[.d A,.d B,.d C,.d O]))
  (h1:Fn 12 [A,B,C,O,il 11,il 45,il 9]=some (0,[.d L1,.d (il 0)])) (h2:Fn 14 [A,B,C,O,il 5,il 25,il 9]=some (0,[.d L2,.d (il 0)])) (h3:Fn 16 [A,B,C,O,il 12,il 51,il 9]=some (0,[.d L3,.d (il 0)]))
  (h4:Fn 18 [A,B,C,O,il 12,il 53,il 9]=some (0,[.d (il 2),.d (il 0)])) (h5:Fn 20 [A,B,C,O,il 11,il 7,il 55,il 9]=some (0,[.d (il 1),.d (il 0)])) (h6:Fn 32 [A,B,C,O,il 3,il 35,il 9]=some (0,[.d L6,.d (il 0)]))
  (h7:Fn 29 [A,B,C,O,il 3,il 53,il 9]=some (0,[.d (il 0),.d (il 2),.d (il 0)])) (h8:Fn 39 [A,B,C,O,il 30,il 53,il 9]=some (0,[.d L8,.d (il 0)])) (h9:Fn 37 [A,B,C,O,il 10,il 4,il 9]=some (0,[.d L9,.d (il 0)]))
  (h10:Fn 18 [A,B,C,O,il 11,il 10,il 9]=some (0,[.d (il 0),.d (il 0)]))
  (q1:Fn 22 [L1,.sl 1 [[il 3],[il 7]]]=some (0,[.d (bl true)])) (q2:Fn 22 [L2,.sl 1 [[il 3],[il 5]]]=some (0,[.d (bl true)])) (q3:Fn 22 [L3,.sl 1 [[il 0]]]=some (0,[.d (bl true)])) (q6:Fn 22 [L6,.sl 1 [[il 10],[il 11],[il 12]]]=some (0,[.d (bl true)]))
  (q8:Fn 22 [L8,.sl 1 [[il 10],[il 12]]]=some (0,[.d (bl true)])) (q9:Fn 22 [L9,.sl 1 [[il 11]]]=some (0,[.d (bl true)])):G23 (q05 Fn FnD m)=some (0,[.d (bl true)]):=by
 simp only [G23,q08,q04,h88,q01,q02,q06,h1,h2,h3,h4,h5,h6,h7,h8,h9,h10,q1a,decide_true,q00,if_true,q0C,q1n,qfG,q0c,q1,q2,q3,q6,q8,q9,Bool.false_eq_true,if_false,and_self]
theorem s23 (n:Nat):FN (n+111) 23 []=some (0,[.d (bl true)]):=by
 rw [FS,G23_eq]
 exact a23 (d9 kinA) (d9 kinB) (d9 kinC) (d5 kinO) (dI (some [3,7])) (dI (some [3,5])) (dI (some [0])) (dI (some [10,11,12])) (dI (some [10,12])) (dI (some [11])) (s88 (n+108)) (x1 n) (x2 n) (x3 n) (x4 n) (x5 n) (x6 n) (x7 n) (x8 n) (x9 n) (x10 n)
  (q8J (n+109) [3,7] (by decide)) (q8J (n+109) [3,5] (by decide)) (q8J (n+109) [0] (by decide)) (q8J (n+109) [10,11,12] (by decide)) (q8J (n+109) [10,12] (by decide)) (q8J (n+109) [11] (by decide))
end
section
end
section
section
variable {a b c:List E9} {o:List E5} (n:Nat) (f d x3 p:Int) (hd:0≤d∧d≤4166) (g:GoodK a b c o) (P:List Int) (hP:P.length≤1000000)
include hd g hP
end
end
section
section
variable {a b c a' b' c':List E9} {o o':List E5} (n:Nat) (d:Int) (hd:0≤d∧d≤4166) (g:GoodK a b c o) (g':GoodK a' b' c' o') (P:List Int) (hP:P.length≤1000000)
include hd g g' hP
end
section
variable (n:Nat) (p f d k l:Int) (a b c:Option (List E9)) (o:Option (List E5)) (ha:(a.getD []).length*72≤140737488351232) (hb:(b.getD []).length*72≤140737488351232) (hc:(c.getD []).length*72≤140737488351232) (ho:(o.getD []).length*40≤140737488351232)
include ha hb hc ho
end
end
section
open Go.Shelf
set_option maxRecDepth 100000
def rho:Ren:=⟨fun x=>if x=21 then 159 else if x=27 then 212 else if x=28 then 213 else if x=35 then 217 else if x=39 then 220 else 0,fun x=>if x=22 then 30 else x,fun x=>x⟩
theorem lays21:Lays2.n21 Tryz.prog rho where
 mixed:=by kernel_rfl
 f21:=by kernel_rfl
 f27:=by kernel_rfl
 f28:=by kernel_rfl
 f35:=by kernel_rfl
 f39:=by kernel_rfl
 t0:=by kernel_rfl
 a0:=fun w=>by kernel_rfl
 z0:=fun w=>by kernel_rfl
 v0:=fun w=>by kernel_rfl
 t3:=by kernel_rfl
 a3:=fun w=>by kernel_rfl
 z3:=fun w=>by kernel_rfl
 v3:=fun w=>by kernel_rfl
 t4:=by kernel_rfl
 a4:=fun w=>by kernel_rfl
 z4:=fun w=>by kernel_rfl
 v4:=fun w=>by kernel_rfl
 t22:=by kernel_rfl
 a22:=fun w=>by kernel_rfl
 z22:=fun w=>by kernel_rfl
 v22:=fun w=>by kernel_rfl
 i3:=by kernel_rfl
theorem spOK:qhS Tryz.prog (cf3 tb Tryz.prog):=by
 intro f p h
 by_cases hf:f=159
 ·subst hf
  have e:(cf3 tb Tryz.prog).sp 159=some (1,3,8):=by kernel_rfl
  rw [e] at h
  cases h
  exact qj3 lays21
 ·exfalso
  have e:(cf3 tb Tryz.prog).sp f=none:=by
   show spT f=none
   unfold spT
   split
   ·exact absurd rfl hf
   ·rfl
  rw [e] at h
  cases h
end
section
open Go.Proofs.YtobeabinccohlaaGreat
set_option maxRecDepth 100000
theorem mixP:Tryz.prog.follows .mixedOrders=true:=lays21.mixed
theorem FN_ok (n:Nat):qe3 Tryz.prog (cf3 tb Tryz.prog) (FN n):=FnT_ok mixP spOK n
theorem FN_okM (n:Nat):qf5 Tryz.prog (cf3 tb Tryz.prog) (FN n):=qnc mixP spOK n
theorem own:ownKnob Tryz.prog.godebug=none:=by kernel_rfl
theorem ql5:laidOutB Tryz.prog=true:=by kernel_rfl
theorem o3 {n:Nat} {ds:List D} (h:HasT Tryz.prog (n+1) 3 ds):∃ z,ds=[il z]∧-9223372036854775808≤z∧z≤9223372036854775807:=h.int Tryz.underlying3
theorem o47 {n:Nat} {ds:List D} (h:HasT Tryz.prog (n+2) 47 ds):∃ a b,ds=[il a,il b]:=by
 obtain ⟨a,b,rfl,h1,c,d,rfl,h2,rfl⟩:=h.struct Tryz.underlying47 rfl
 obtain ⟨x,rfl,_⟩:=o3 h1
 obtain ⟨y,rfl,_⟩:=o3 h2
 exact ⟨x,y,rfl⟩
theorem oE9 {n:Nat} {ds:List D} (h:q4w (HasT Tryz.prog (n+2)) [3,3,3,47,47,3,3] ds):∃ e:E9,ds=r9 e:=by
 obtain ⟨a1,b1,rfl,h1,a2,b2,rfl,h2,a3,b3,rfl,h3,a4,b4,rfl,h4,a5,b5,rfl,h5,a6,b6,rfl,h6,a7,b7,rfl,h7,rfl⟩:=h
 obtain ⟨x1,rfl,_⟩:=o3 h1
 obtain ⟨x2,rfl,_⟩:=o3 h2
 obtain ⟨x3,rfl,_⟩:=o3 h3
 obtain ⟨y1,y2,rfl⟩:=o47 h4
 obtain ⟨z1,z2,rfl⟩:=o47 h5
 obtain ⟨x6,rfl,_⟩:=o3 h6
 obtain ⟨x7,rfl,_⟩:=o3 h7
 exact ⟨⟨x1,x2,x3,y1,y2,z1,z2,x6,x7⟩,rfl⟩
theorem o82 {n:Nat} {ds:List D} (h:HasT Tryz.prog (n+3) 82 ds):∃ e:E5,ds=r5 e:=by
 obtain ⟨a1,b1,rfl,h1,a2,b2,rfl,h2,a3,b3,rfl,h3,a4,b4,rfl,h4,a5,b5,rfl,h5,rfl⟩:=h.struct Tryz.underlying82 rfl
 obtain ⟨x1,rfl,_⟩:=o3 h1
 obtain ⟨x2,rfl,_⟩:=o3 h2
 obtain ⟨x3,rfl,_⟩:=o3 h3
 obtain ⟨x4,rfl,_⟩:=o3 h4
 obtain ⟨x5,rfl,_⟩:=o3 h5
 exact ⟨⟨x1,x2,x3,x4,x5⟩,rfl⟩
theorem qd0 {α:Type} {f:α→List D}:∀ {o:Option Rr},(∀ r∈o.getD [],∃ c,r=f c)→∃ q:Option (List α),o=q.map (·.map f)
 | none,_=>⟨none,rfl⟩
 | some rows,h=>by
  obtain ⟨l,hl⟩:=qcI (f:=f) (rows:=rows) h
  exact ⟨some l,by rw [hl];rfl⟩
theorem qfW {n t e:Nat} {ds:List D} (hu:Tryz.prog.underlying t=some (.slice e)) (hc:Tryz.prog.cellsOf e=9) (hb:Tryz.prog.bytesOf e=72) (he:∀ r,HasT Tryz.prog (n+3) e r→∃ x:E9,r=r9 x) (h:HasT Tryz.prog (n+4) t ds):∃ o:Option (List E9),ds=[d9 o]∧(o.getD []).length*72≤140737488351232:=by
 obtain ⟨o,rfl,h1,h2⟩:=h.sl hu hc hb
 obtain ⟨q,rfl⟩:=qd0 (f:=r9) fun r hr=>he r (h2 r hr)
 refine ⟨q,rfl,?_⟩
 cases q with
 | none=>simp
 | some l=>simpa using h1
theorem o50 {n:Nat} {r:List D} (h:HasT Tryz.prog (n+3) 50 r):∃ x:E9,r=r9 x:=oE9 (h.struct Tryz.underlying50 rfl)
theorem o52 {n:Nat} {r:List D} (h:HasT Tryz.prog (n+3) 52 r):∃ x:E9,r=r9 x:=oE9 (h.struct Tryz.underlying52 rfl)
theorem o54 {n:Nat} {r:List D} (h:HasT Tryz.prog (n+3) 54 r):∃ x:E9,r=r9 x:=oE9 (h.struct Tryz.underlying54 rfl)
theorem o25 {n:Nat} {ds:List D} (h:HasT Tryz.prog (n+4) 25 ds):∃ o:Option (List E5),ds=[d5 o]∧(o.getD []).length*40≤140737488351232:=by
 obtain ⟨o,rfl,h1,h2⟩:=h.sl (c:=5) (b:=40) Tryz.underlying25 (by kernel_rfl) (by kernel_rfl)
 obtain ⟨q,rfl⟩:=qd0 (f:=r5) fun r hr=>o82 (h2 r hr)
 refine ⟨q,rfl,?_⟩
 cases q with
 | none=>simp
 | some l=>simpa using h1
theorem o27 {n:Nat} {ds:List D} (h:HasT Tryz.prog (n+5) 27 ds):∃ (a b c:Option (List E9)) (o:Option (List E5)),ds=[d9 a,d9 b,d9 c,d5 o]∧(a.getD []).length*72≤140737488351232∧(b.getD []).length*72≤140737488351232∧(c.getD []).length*72≤140737488351232∧(o.getD []).length*40≤140737488351232:=by
 obtain ⟨a1,b1,rfl,h1,a2,b2,rfl,h2,a3,b3,rfl,h3,a4,b4,rfl,h4,rfl⟩:=h.struct Tryz.underlying27 rfl
 obtain ⟨a,rfl,ha⟩:=qfW Tryz.underlying22 (by kernel_rfl) (by kernel_rfl) (fun r hr=>o50 hr) h1
 obtain ⟨b,rfl,hb⟩:=qfW Tryz.underlying23 (by kernel_rfl) (by kernel_rfl) (fun r hr=>o52 hr) h2
 obtain ⟨c,rfl,hc⟩:=qfW Tryz.underlying24 (by kernel_rfl) (by kernel_rfl) (fun r hr=>o54 hr) h3
 obtain ⟨o,rfl,ho⟩:=o25 h4
 exact ⟨a,b,c,o,rfl,ha,hb,hc,ho⟩
theorem o29 {n:Nat} {ds:List D} (h:HasT Tryz.prog (n+2) 29 ds):∃ p f d k,ds=[il p,il f,il d,il k]:=by
 obtain ⟨a1,b1,rfl,h1,a2,b2,rfl,h2,a3,b3,rfl,h3,a4,b4,rfl,h4,rfl⟩:=h.struct Tryz.underlying29 rfl
 obtain ⟨x1,rfl,_⟩:=o3 h1
 obtain ⟨x2,rfl,_⟩:=o3 h2
 obtain ⟨x3,rfl,_⟩:=o3 h3
 obtain ⟨x4,rfl,_⟩:=o3 h4
 exact ⟨x1,x2,x3,x4,rfl⟩
end
section
theorem qjd {l:List Int} {f:Int} (h:q4t l f=1):l=[f]:=by
 unfold q4t at h
 split at h
 ·rename_i hm
  split at h
  ·cases h
  ·rename_i hl
   cases l with
   | nil=>simp at hm
   | cons x r =>
    cases r with
    | nil=>simp at hm;rw [hm]
    | cons y r=>simp at hl
 ·cases h
end
section
structure Nar1 (x e:E9):Prop where
 src:x.src=e.src
 a:x.a=e.a
 b:x.b=e.b
 kn:x.kn=e.kn
 un:x.un=e.un
 f:e.f1≤x.f1∧x.f1≤x.f2∧x.f2≤e.f2
 t:e.t1≤x.t1∧x.t1≤x.t2∧x.t2≤e.t2
def NarL:List E9→List E9→Prop
 | [],[]=>True
 | x::l,e::m=>Nar1 x e∧NarL l m
 | _,_=>False
theorem NarL.app:∀ {l1 m1 l2 m2:List E9},NarL l1 m1→NarL l2 m2→NarL (l1++l2) (m1++m2)
 | [],[],_,_,_,h=>h
 | _::_,_::_,_,_,h1,h2=>⟨h1.1,NarL.app h1.2 h2⟩
theorem NarL.rev:∀ {l m:List E9},NarL l m→NarL l.reverse m.reverse
 | [],[],_=>trivial
 | x::l,e::m,h=>by
  rw [List.reverse_cons,List.reverse_cons]
  exact NarL.app (NarL.rev h.2) ⟨h.1,trivial⟩
theorem NarL.len:∀ {l m:List E9},NarL l m→l.length=m.length
 | [],[],_=>rfl
 | x::l,e::m,h=>by simp [NarL.len h.2]
theorem q6j (l:List E9):below l l.length=l.reverse:=by simp [below]
theorem NarL.below {l m:List E9} (h:NarL l m):NarL (below l l.length) (below m m.length):=by
 rw [q6j,q6j];exact h.rev
theorem NarL.cnt (k:Int):∀ {l m:List E9},NarL l m→NarL (q0w k l) (q0w k m)
 | [],[],_=>trivial
 | x::l,e::m,h=>by
  have ih:=NarL.cnt k h.2
  unfold q0w at ih ⊢
  rw [List.filter_cons,List.filter_cons,h.1.kn,h.1.un]
  split
  ·exact ⟨h.1,ih⟩
  ·exact ih
theorem NarL.mem:∀ {l m:List E9},NarL l m→∀ x∈l,∃ e∈m,Nar1 x e
 | [],[],_,x,hx=>by simp at hx
 | y::l,e::m,h,x,hx=>by
  rcases List.mem_cons.1 hx with rfl | hx
  ·exact ⟨e,by simp,h.1⟩
  ·obtain ⟨e',h1,h2⟩:=NarL.mem h.2 x hx
   exact ⟨e',by simp [h1],h2⟩
theorem Nar1.rfl' {e:E9} (h:e.f1≤e.f2∧e.t1≤e.t2):Nar1 e e:=⟨rfl,rfl,rfl,rfl,rfl,⟨by omega,h.1,by omega⟩,⟨by omega,h.2,by omega⟩⟩
theorem NarL.rfl':∀ {l:List E9},(∀ e∈l,e.f1≤e.f2∧e.t1≤e.t2)→NarL l l
 | [],_=>trivial
 | e::l,h=>⟨Nar1.rfl' (h e (by simp)),NarL.rfl' fun e he=>h e (by simp [he])⟩
theorem NarL.set:∀ {l:List E9} {i:Nat} {x e:E9},(∀ e∈l,e.f1≤e.f2∧e.t1≤e.t2)→l[i]?=some e→Nar1 x e→NarL (l.set i x) l
 | [],i,x,e,_,h,_=>by simp at h
 | y::l,0,x,e,h,hi,hx=>by
  simp at hi;subst hi
  exact ⟨hx,NarL.rfl' fun e he=>h e (by simp [he])⟩
 | y::l,i+1,x,e,h,hi,hx=>⟨Nar1.rfl' (h y (by simp)),NarL.set (fun e he=>h e (by simp [he])) (by simpa using hi) hx⟩
theorem q4g {d who:Int} {o:Option Int}:∀ {l m:List E9},NarL l m→o∈q0O d who l→o∈q0O d who m
 | [],[],_,h=>h
 | x::l,e::m,hn,h=>by
  have ih:o∈q0O d who l→o∈q0O d who m:=q4g hn.2
  obtain ⟨h1,h2⟩:=hn
  have hf:=h1.f;have ht:=h1.t;have ha:=h1.a;have hb:=h1.b
  rw [q0O] at h ⊢
  have may:q1J x.f1 x.t2 d=true→q1J e.f1 e.t2 d=true:=fun h=>by unfold q1J at h ⊢;have:=of_decide_eq_true h;exact decide_eq_true (by omega)
  have sur:q1h e.f2 e.t1 d=true→q1h x.f2 x.t1 d=true∧q1J x.f1 x.t2 d=true:=fun h=>by
   unfold q1h at h;have:=of_decide_eq_true h
   exact ⟨by unfold q1h;exact decide_eq_true (by omega),by unfold q1J;exact decide_eq_true (by omega)⟩
  by_cases hc:x.a=who∧q1J x.f1 x.t2 d=true
  ·rw [if_pos hc] at h
   rw [if_pos ⟨by rw [←ha];exact hc.1,may hc.2⟩]
   rcases List.mem_cons.1 h with h | h
   ·rw [h,hb];simp
   ·refine List.mem_cons_of_mem _ ?_
    by_cases hs:q1h e.f2 e.t1 d=true
    ·rw [if_pos (sur hs).1] at h;simp at h
    ·rw [if_neg hs]
     split at h
     ·simp at h
     ·exact ih h
  ·rw [if_neg hc] at h
   by_cases hc2:e.a=who∧q1J e.f1 e.t2 d=true
   ·rw [if_pos hc2]
    refine List.mem_cons_of_mem _ ?_
    have hs:¬ q1h e.f2 e.t1 d=true:=fun hs=>hc ⟨by rw [ha];exact hc2.1,(sur hs).2⟩
    rw [if_neg hs];exact ih h
   ·rw [if_neg hc2];exact ih h
theorem q9A {l m:List E9} (h:NarL l m) (hm:q5a m):q5a l:=fun x hx=>by
 obtain ⟨e,he,hn⟩:=h.mem x hx
 have:=hm e he
 rw [hn.a,hn.b];exact this
theorem qgc {d z:Int} {l m:List E9} (h:NarL l m) (hm:q5a m):∀ (n:Nat) (f:Int),f.toNat≤n→1≤f→z∈q07 d l f→z∈q07 d m f:=by
 intro n
 induction n with
 | zero=>intro f h1 h2;omega
 | succ n ih =>
  intro f h1 h2 hz
  rcases (q1w (q9A h hm) h2).1 hz with ⟨h3,h4⟩ | ⟨w,hw,h3⟩
  ·exact (q1w hm h2).2 (.inl ⟨q4g h.below h3,h4⟩)
  ·have hw':=q4g h.below hw
   have:=q1S hm hw'
   exact (q1w hm h2).2 (.inr ⟨w,hw',ih w (by omega) this.1 h3⟩)
theorem qaC {d p z:Int} {l m:List E9} (h:NarL l m) (hz:z∈q0W d p l):z∈q0W d p m:=by
 obtain ⟨x,hx,rfl⟩:=(q0p ..).1 hz
 exact (q0p ..).2 ⟨x,q4g h.below hx,rfl⟩
theorem q6Q {l m:List (Option Int)} (h:∀ x∈l,x∈m) {p q:Option Int→Bool} (hpq:∀ x∈l,p x=true→q x=true) (hl:l.any p=true):m.any q=true:=by
 obtain ⟨x,hx,hp⟩:=(q1N _ _).1 hl
 exact (q1N _ _).2 ⟨x,h x hx,hpq x hx hp⟩
theorem qcu {a c a' c':List E9} (o:List E5) {d:Int} (ha:NarL a' a) (hc:NarL c' c) (p:Int):((q0U a' c' o d p).1=true→(q0U a c o d p).1=true)∧((q0U a' c' o d p).2=true→(q0U a c o d p).2=true):=by
 unfold q0U
 cases q8E d p o with
 | true=>exact ⟨fun h=>h,fun h=>h⟩
 | false =>
  simp only [Bool.false_eq_true,if_false,Bool.and_eq_true,Bool.or_eq_true]
  have s1:∀ x∈q0O d p (below a' a'.length),x∈q0O d p (below a a.length):=fun x hx=>q4g ha.below hx
  have s2:∀ x∈q0O d p (below c' c'.length),x∈q0O d p (below c c.length):=fun x hx=>q4g hc.below hx
  exact ⟨fun h=>⟨q6Q s1 (fun _ _ h=>h) h.1,q6Q s2 (fun _ _ h=>h) h.2⟩,fun h=>h.elim (fun h=>.inl (q6Q s1 (fun _ _ h=>h) h)) (fun h=>.inr (q6Q s2 (fun _ _ h=>h) h))⟩
theorem qcA {W V:Int→Bool×Bool} (h:∀ p,((W p).1=true→(V p).1=true)∧((W p).2=true→(V p).2=true)) (x:Option Int):((q0v W x).1=true→(q0v V x).1=true)∧((q0v W x).2=true→(q0v V x).2=true):=by
 cases x with
 | none=>exact ⟨fun h=>h,fun h=>h⟩
 | some z =>
  simp only [q0v]
  split
  ·exact ⟨fun h=>h,fun h=>h⟩
  ·exact h z
theorem qkd {a c a' c':List E9} (o:List E5) {d:Int} (ha:NarL a' a) (hc:NarL c' c) (p:Int):((goP a' c' o d p).1=true→(goP a c o d p).1=true)∧((goP a' c' o d p).2=true→(goP a c o d p).2=true):=by
 unfold goP
 cases q8E d p o with
 | true=>exact ⟨fun h=>h,fun h=>h⟩
 | false =>
  simp only [Bool.false_eq_true,if_false]
  have s2:∀ x∈q0O d p (below c' c'.length),x∈q0O d p (below c c.length):=fun x hx=>q4g hc.below hx
  exact ⟨q6Q s2 fun x _=>(qcA (qcu o ha hc) x).1,q6Q s2 fun x _=>(qcA (qcu o ha hc) x).2⟩
theorem qlv {a b c a' b' c':List E9} (o:List E5) {d p z:Int} (ha:NarL a' a) (hb:NarL b' b) (hc:NarL c' c) (hl:q5a b) (hf:qcl a) (h:z∈q2n a' b' c' o d p):z∈q2n a b c o d p:=by
 rcases q1P.1 h with ⟨h1,h2⟩ | ⟨h1,f,h2,h3,h4⟩
 ·exact q1P.2 (.inl ⟨h1,h2.elim (fun h=>.inl (qaC ha h)) (fun h=>.inr ((qkd o ha hc p).2 h))⟩)
 ·have hh:=qaC ha h2
  have:=q1T hf hh
  exact q1P.2 (.inr ⟨(qkd o ha hc p).1 h1,f,hh,h3,qgc hb hl _ f (Nat.le_refl _) (by omega) h4⟩)
theorem GoodK.nar {a b c a' b' c':List E9} {o:List E5} (g:GoodK a b c o) (ha:NarL a' a) (hb:NarL b' b) (hc:NarL c' c):GoodK a' b' c' o :=
 ⟨fun x hx=>by obtain ⟨e,he,hn⟩:=ha.mem x hx;rw [hn.b];exact g.fam e he,q9A hb g.less,fun x hx=>by obtain ⟨e,he,hn⟩:=hc.mem x hx;rw [hn.b];exact g.by0 e he,by rw [ha.len];exact g.la,by rw [hb.len];exact g.lb,by rw [hc.len];exact g.lc,g.lo⟩
end
section
def modI (a b:Int):Int:=(a.tmod b+b).tmod b
end
section
theorem bnd_to {Fn:Nat→List D→Out} {FnD:D→List Sh→List D→Out} {m:Nat} {X:Out} (V:Out) {ks:List (List Yr→Out)} {R:Out} (h1:X=V) (h2:(q05 Fn FnD m).bnd V ks=R):(q05 Fn FnD m).bnd X ks=R:=by rw [h1];exact h2
theorem qfl (l:List E9):(l.map r9).take l.length=l.map r9:=List.take_of_length_le (by simp)
end
section
section
variable {Fn:Nat→List D→Out} {FnD:D→List Sh→List D→Out} {m:Nat}
end
end
section
theorem NarL.as:∀ {l m:List E9},NarL l m→l.map (·.a)=m.map (·.a)
 | [],[],_=>rfl
 | x::l,e::m,h=>by rw [List.map_cons,List.map_cons,h.1.a,NarL.as h.2]
end
section
structure T2 where
 b:Int
 e:Int
def rT (t:T2):List D:=[il t.b,il t.e]
def dT (o:Option (List T2)):D:=dSl 2 (o.map (·.map rT))
def inT (t:T2) (e:E9):Bool:=decide (e.f1≤t.b∧t.b≤e.f2∧e.t1≤t.e∧t.e≤e.t2)
def fixE (t:T2) (e:E9):E9:={ e with f1:=t.b,f2:=t.b,t1:=t.e,t2:=t.e }
def q1L:List T2→List E9→List E9
 | t::ts,e::l=>fixE t e::q1L ts l
 | _,_=>[]
def inL:List T2→List E9→Bool
 | t::ts,e::l=>inT t e&&inL ts l
 | [],[]=>true
 | _,_=>false
theorem q80:∀ {ts:List T2} {l:List E9},inL ts l=true→ts.length=l.length
 | [],[],_=>rfl
 | t::ts,e::l,h=>by
  rw [inL,Bool.and_eq_true] at h
  simp [q80 h.2]
theorem q31:∀ {ts:List T2} {l:List E9},ts.length=l.length→(q1L ts l).length=l.length
 | [],[],_=>rfl
 | t::ts,e::l,h=>by
  simp only [q1L,List.length_cons,q31 (ts:=ts) (l:=l) (by simpa using h)]
theorem q3l:∀ {ts:List T2} {l:List E9},inL ts l=true→NarL (q1L ts l) l
 | [],[],_=>trivial
 | t::ts,e::l,h=>by
  rw [inL,Bool.and_eq_true] at h
  have:=of_decide_eq_true h.1
  exact ⟨⟨rfl,rfl,rfl,rfl,rfl,⟨this.1,Int.le_refl _,this.2.1⟩,⟨this.2.2.1,Int.le_refl _,this.2.2.2⟩⟩,q3l h.2⟩
def PtL (l:List E9):Prop:=∀ e∈l,e.f1=e.f2∧e.t1=e.t2
theorem q6b:∀ (ts:List T2) (l:List E9),PtL (q1L ts l)
 | t::ts,e::l=>fun x hx=>by
  rcases List.mem_cons.1 hx with rfl | hx
  ·exact ⟨rfl,rfl⟩
  ·exact q6b ts l x hx
 | [],[]=>fun x hx=>by simp [q1L] at hx
 | [],_::_=>fun x hx=>by simp [q1L] at hx
 | _::_,[]=>fun x hx=>by simp [q1L] at hx
theorem q6u (d who:Int):∀ {l:List E9},PtL l→∃ x,q0O d who l=[x]
 | [],_=>⟨none,rfl⟩
 | e::r,h=>by
  have h0:=h e (by simp)
  rw [q0O]
  by_cases hc:e.a=who∧q1J e.f1 e.t2 d=true
  ·rw [if_pos hc,if_pos (by rw [q1h,← h0.1,h0.2];exact hc.2)]
   exact ⟨_,rfl⟩
  ·rw [if_neg hc]
   exact q6u d who fun x hx=>h x (by simp [hx])
theorem q5Z {l:List E9} (h:PtL l) (m:Nat):PtL (below l m):=fun x hx=>h x (q3e hx)
section
variable {a b c:List E9} {o:List E5} {d p:Int}
theorem qkA (ha:PtL a) (hc:PtL c) (p:Int):(q0U a c o d p).2=!(q0U a c o d p).1:=by
 unfold q0U
 obtain ⟨x,hx⟩:=q6u d p (q5Z ha a.length)
 obtain ⟨y,hy⟩:=q6u d p (q5Z hc c.length)
 rw [hx,hy]
 split
 ·rfl
 ·by_cases h:f0 x=0<;>cases y<;>simp [h]
theorem go_pt (ha:PtL a) (hc:PtL c):(goP a c o d p).2=!(goP a c o d p).1:=by
 unfold goP
 obtain ⟨y,hy⟩:=q6u d p (q5Z hc c.length)
 rw [hy]
 split
 ·rfl
 ·cases y with
  | none=>rfl
  | some z =>
   simp only [List.any_cons,List.any_nil,Bool.or_false,q0v]
   split
   ·rfl
   ·exact qkA ha hc z
theorem qbD (ha:PtL a) {z z':Int} (h:z∈q0W d p a) (h':z'∈q0W d p a):z=z':=by
 obtain ⟨x,hx⟩:=q6u d p (q5Z ha a.length)
 rw [q0p,hx] at h h'
 obtain ⟨q,hq,rfl⟩:=h
 obtain ⟨q',hq',rfl⟩:=h'
 rw [List.mem_singleton] at hq hq'
 rw [hq,hq']
theorem ql4 (hb:PtL b) (hl:q5a b) {z z':Int}:∀ (n:Nat) (f:Int),f.toNat≤n→1≤f→z∈q07 d b f→z'∈q07 d b f→z=z':=by
 intro n
 induction n with
 | zero=>intro f h1 h2;omega
 | succ n ih =>
  intro f h1 h2 h h'
  obtain ⟨x,hx⟩:=q6u d f (q5Z hb b.length)
  rw [q1w hl h2] at h h'
  have hm:∀ w,some w∈q0O d f (below b b.length)→1≤w∧w < f:=fun w hw=>⟨(q1S hl hw).1,(q1S hl hw).2.1⟩
  rw [hx] at h h' hm
  cases x with
  | none =>
   rcases h with ⟨_,h⟩ | ⟨w,hw,_⟩
   ·rcases h' with ⟨_,h'⟩ | ⟨w,hw,_⟩
    ·rw [h,h']
    ·simp at hw
   ·simp at hw
  | some y =>
   rcases h with ⟨hn,_⟩ | ⟨w,hw,h⟩
   ·simp at hn
   ·rcases h' with ⟨hn,_⟩ | ⟨w',hw',h'⟩
    ·simp at hn
    ·have h1':=hm w hw
     rw [List.mem_singleton] at hw hw'
     cases hw;cases hw'
     exact ih y (by omega) h1'.1 h h'
theorem fam_pt (ha:PtL a) (hb:PtL b) (hc:PtL c) (hl:q5a b) (hf:qcl a):∃ f,q2n a b c o d p=[f]:=by
 have one:∀ z z':Int,z∈q2n a b c o d p→z'∈q2n a b c o d p→z=z':=fun z z' h h'=>by
  have hg:=go_pt (o:=o) (d:=d) (p:=p) ha hc
  rw [q1P] at h h'
  rcases h with ⟨h1,h2⟩ | ⟨h1,f,h2,h3,h4⟩
  ·rcases h' with ⟨h1',h2'⟩ | ⟨h1',f',h2',h3',h4'⟩
   ·rw [h1,h1']
   ·rcases h2 with h2 | h2
    ·exact absurd (qbD ha h2' h2) h3'
    ·rw [h1'] at hg;rw [hg] at h2;cases h2
  ·rcases h' with ⟨h1',h2'⟩ | ⟨h1',f',h2',h3',h4'⟩
   ·rcases h2' with h2' | h2'
    ·exact absurd (qbD ha h2 h2') h3
    ·rw [h1] at hg;rw [hg] at h2';cases h2'
   ·have:=qbD ha h2 h2';subst this
    have hr:=q1T hf h2
    exact ql4 hb hl _ f (Nat.le_refl _) (by omega) h4 h4'
 obtain ⟨z,hz⟩:=q8Z (c:=c) (o:=o) (d:=d) (p:=p) hf hl
 have hu:=q4c a b c o d p
 refine ⟨z,qfg hu (by simp [Up]) fun y=>?_⟩
 rw [List.mem_singleton]
 exact ⟨fun h=>one _ _ h hz,fun h=>h ▸ hz⟩
end
def qf0 (a b c:List E9) (o:List E5) (d p:Int):Int:=(q2n a b c o d p).headD 0
theorem qjI {a b c:List E9} {o:List E5} {d p:Int} (ha:PtL a) (hb:PtL b) (hc:PtL c) (hl:q5a b) (hf:qcl a):q2n a b c o d p=[qf0 a b c o d p]:=by
 obtain ⟨f,h⟩:=fam_pt (o:=o) (d:=d) (p:=p) ha hb hc hl hf
 unfold qf0
 rw [h];rfl
structure TrueT (a b c:List E9) (ta tb tc:List T2):Prop where
 a:inL ta a=true
 b:inL tb b=true
 c:inL tc c=true
def qhJ (a b c:List E9) (o:List E5) (ta tb tc:List T2) (d p:Int):Int:=qf0 (q1L ta a) (q1L tb b) (q1L tc c) o d p
section
variable {a b c:List E9} {o:List E5} {ta tb tc:List T2} {d p:Int}
theorem qkE (g:GoodK a b c o) (t:TrueT a b c ta tb tc):qhJ a b c o ta tb tc d p∈q2n a b c o d p:=by
 have na:=q3l t.a;have nb:=q3l t.b;have nc:=q3l t.c
 have g':=g.nar na nb nc
 refine qlv o na nb nc g.less g.fam ?_
 rw [qjI (q6b ta a) (q6b tb b) (q6b tc c) g'.less g'.fam]
 simp [qhJ]
theorem qfh (g:GoodK a b c o) (t:TrueT a b c ta tb tc) (f:Int):(q4t (q2n a b c o d p) f=1→qhJ a b c o ta tb tc d p=f)∧(q4t (q2n a b c o d p) f=0→qhJ a b c o ta tb tc d p≠f):=by
 have hm:=qkE (d:=d) (p:=p) g t
 refine ⟨fun h=>?_,fun h hf=>?_⟩
 ·rw [qjd h] at hm
  simpa using hm
 ·rw [hf] at hm
  unfold q4t at h
  rw [if_pos hm] at h
  split at h<;>cases h
theorem qkg:∀ {ts:List T2} {l:List E9},ts.length=l.length→(q1L ts l).map (·.a)=l.map (·.a)
 | [],[],_=>rfl
 | t::ts,e::l,h=>by
  simp only [q1L,List.map_cons,qkg (ts:=ts) (l:=l) (by simpa using h)]
  rfl
end
end
section
section
variable {Fn:Nat→List D→Out} {FnD:D→List Sh→List D→Out} {m:Nat}
theorem lenT (o:Option (List T2)) (k:D→Out):(q05 Fn FnD m).lenD (dT o) k=k (il (o.getD []).length):=by rw [dT,q6s,q3C,List.length_map]
theorem qhM {o:Option (List T2)} {i:Nat} {c:T2} (h:(o.getD [])[i]?=some c) (k:List D→Out):(q05 Fn FnD m).rowD 2 (dT o) (il i) k=k (rT c):=by
 rw [dT,q4Z,if_pos (by omega),q3C,Int.toNat_natCast,List.getElem?_map,h];rfl
theorem qlH {l:List T2} {e0:List Yr} {e1:Rr→List Yr} {k0 k1:List Yr→Out} {R:D→Out} (h0:k0 e0=R (.lit (.slice none 0 0))) (h1:∀ w ws,(w::ws).length=l.length→k1 (e1 (w::ws))=R (.sl 2 (w::ws))) :
  (q05 Fn FnD m).bnd (q8d e0 e1 (l.map rT)) [k0,k1]=R (dT (nzO l)):=by
 cases l with
 | nil=>exact h0
 | cons w ws=>exact h1 (rT w) (ws.map rT) (by simp)
end
def pick (P:List Int) (z:Int):Int:=(P[(modI z P.length).toNat]?).getD 0
end
section
theorem s185 (n:Nat) (t:T2) (e:E9):FN (n+2) 185 [il t.b,il t.e,il e.f1,il e.f2,il e.t1,il e.t2]=some (0,[.d (bl (inT t e))]):=by
 rw [FS,qmm]
 simp only [G185,q08,qjQ,q01,q02,q00,q0D,q0c,inT]
 by_cases h:e.f1≤t.b∧t.b≤e.f2
 ·simp [h]
 ·have:¬ (e.f1≤t.b∧t.b≤e.f2∧e.t1≤t.e∧t.e≤e.t2):=fun h'=>h ⟨h'.1,h'.2.1⟩
  simp only [h,decide_false,Bool.false_eq_true,if_false,this]
theorem qbP {α:Type} {l:List α} {i:Nat} (h:i < l.length):∃ t,l[i]?=some t∧l.drop i=t::l.drop (i+1):=⟨l[i],List.getElem?_eq_getElem h,List.drop_eq_getElem_cons h⟩
theorem l108_0 (n:Nat) (ts:Option (List T2)) (o:Option (List E9)) (hl:(o.getD []).length≤4611686018427387904) (he:(ts.getD []).length=(o.getD []).length) (x1 x2 x3 x5 x6:D) :
  q0o [qbc (RP (n+2))] M0 0 [.d (d9 o),.d x1,.d x2,.d x3,.d (dT ts),.d x5,.d x6,.d (d9 o),.d (il (o.getD []).length),.d (il 0)]=if inL (ts.getD []) (o.getD [])=true then some (1,[.d (d9 o),.d x1,.d x2,.d x3,.d (dT ts),.d x5,.d x6]) else some (0,[.d (bl false)]):=by
 have:=q0T (β:=Unit) (o.getD []) hl (qbc (RP (n+2))) (fun i _=>[.d (d9 o),.d x1,.d x2,.d x3,.d (dT ts),.d x5,.d x6,.d (d9 o),.d (il (o.getD []).length),.d (il (i:Nat))]) (fun _ _=>True)
  (fun i r _=>if inL ((ts.getD []).drop i) r=true then some (1,[.d (d9 o),.d x1,.d x2,.d x3,.d (dT ts),.d x5,.d x6]) else some (0,[.d (bl false)]))
  (fun _ q _=>by rw [←he,List.drop_length];simp [qbc,inL,he]) ?_ M0 () trivial (q2A hl)
 ·simpa using this
 ·intro i e r _ q hi hd hlt hw _ ih
  have ih':=ih () trivial
  have hlt':(i:Int) < ((o.getD []).length:Int):=by omega
  obtain ⟨t,ht,hdt⟩:=qbP (l:=ts.getD []) (i:=i) (by omega)
  rw [hdt,inL]
  simp only [qbc,q02,q06,q0A,q00,hlt',decide_true,if_true,q5N hi,qhM ht,rT,r9,q0b,q0j,q08,s185 n t e,q01,q0z,q0D,q0c,q04,q0s,hw]
  cases hq:inT t e with
  | false=>simp
  | true =>
   simp only [Bool.not_true,Bool.false_eq_true,if_false,Bool.true_and]
   exact ih'
theorem l108_1 (n:Nat) (ts:Option (List T2)) (o:Option (List E9)) (hl:(o.getD []).length≤4611686018427387904) (he:(ts.getD []).length=(o.getD []).length) (x0 x2 x3 x4 x6:D) :
  q0o [qbb (RP (n+2))] M0 0 [.d x0,.d (d9 o),.d x2,.d x3,.d x4,.d (dT ts),.d x6,.d (d9 o),.d (il (o.getD []).length),.d (il 0)]=if inL (ts.getD []) (o.getD [])=true then some (1,[.d x0,.d (d9 o),.d x2,.d x3,.d x4,.d (dT ts),.d x6]) else some (0,[.d (bl false)]):=by
 have:=q0T (β:=Unit) (o.getD []) hl (qbb (RP (n+2))) (fun i _=>[.d x0,.d (d9 o),.d x2,.d x3,.d x4,.d (dT ts),.d x6,.d (d9 o),.d (il (o.getD []).length),.d (il (i:Nat))]) (fun _ _=>True)
  (fun i r _=>if inL ((ts.getD []).drop i) r=true then some (1,[.d x0,.d (d9 o),.d x2,.d x3,.d x4,.d (dT ts),.d x6]) else some (0,[.d (bl false)]))
  (fun _ q _=>by rw [←he,List.drop_length];simp [qbb,inL,he]) ?_ M0 () trivial (q2A hl)
 ·simpa using this
 ·intro i e r _ q hi hd hlt hw _ ih
  have ih':=ih () trivial
  have hlt':(i:Int) < ((o.getD []).length:Int):=by omega
  obtain ⟨t,ht,hdt⟩:=qbP (l:=ts.getD []) (i:=i) (by omega)
  rw [hdt,inL]
  simp only [qbb,q02,q06,q0A,q00,hlt',decide_true,if_true,q5N hi,qhM ht,rT,r9,q0b,q0j,q08,s185 n t e,q01,q0z,q0D,q0c,q04,q0s,hw]
  cases hq:inT t e with
  | false=>simp
  | true =>
   simp only [Bool.not_true,Bool.false_eq_true,if_false,Bool.true_and]
   exact ih'
theorem l108_2 (n:Nat) (ts:Option (List T2)) (o:Option (List E9)) (hl:(o.getD []).length≤4611686018427387904) (he:(ts.getD []).length=(o.getD []).length) (x0 x1:D) :
  q0o [qba (RP (n+2))] M0 0 [.d x0,.d x1,.d (dT ts),.d (d9 o),.d (il (o.getD []).length),.d (il 0)]=if inL (ts.getD []) (o.getD [])=true then some (1,[]) else some (0,[.d (bl false)]):=by
 have:=q0T (β:=Unit) (o.getD []) hl (qba (RP (n+2))) (fun i _=>[.d x0,.d x1,.d (dT ts),.d (d9 o),.d (il (o.getD []).length),.d (il (i:Nat))]) (fun _ _=>True)
  (fun i r _=>if inL ((ts.getD []).drop i) r=true then some (1,[]) else some (0,[.d (bl false)]))
  (fun _ q _=>by rw [←he,List.drop_length];simp [qba,inL,he]) ?_ M0 () trivial (q2A hl)
 ·simpa using this
 ·intro i e r _ q hi hd hlt hw _ ih
  have ih':=ih () trivial
  have hlt':(i:Int) < ((o.getD []).length:Int):=by omega
  obtain ⟨t,ht,hdt⟩:=qbP (l:=ts.getD []) (i:=i) (by omega)
  rw [hdt,inL]
  simp only [qba,q02,q06,q0A,q00,hlt',decide_true,if_true,q5N hi,qhM ht,rT,r9,q0b,q0j,q08,s185 n t e,q01,q0z,q0D,q0c,q04,q0s,hw]
  cases hq:inT t e with
  | false=>simp
  | true =>
   simp only [Bool.not_true,Bool.false_eq_true,if_false,Bool.true_and]
   exact ih'
def areT (a b c:List E9) (ta tb tc:List T2):Bool:=inL ta a&&(inL tb b&&inL tc c)
theorem q8g {a b c:List E9} {ta tb tc:List T2}:areT a b c ta tb tc=true↔TrueT a b c ta tb tc:=by
 unfold areT
 simp only [Bool.and_eq_true]
 exact ⟨fun h=>⟨h.1,h.2.1,h.2.2⟩,fun h=>⟨h.a,h.b,h.c⟩⟩
theorem qgn {ts:List T2} {l:List E9} (h:¬ ts.length=l.length):inL ts l=false:=by
 cases hq:inL ts l with
 | false=>rfl
 | true=>exact absurd (q80 hq) h
theorem s108 (n:Nat) (a b c:Option (List E9)) (O:D) (ta tb tc:Option (List T2)) (ha:(a.getD []).length≤4611686018427387904) (hb:(b.getD []).length≤4611686018427387904) (hc:(c.getD []).length≤4611686018427387904) :
  FN (n+3) 108 [d9 a,d9 b,d9 c,O,dT ta,dT tb,dT tc]=some (0,[.d (bl (areT (a.getD []) (b.getD []) (c.getD []) (ta.getD []) (tb.getD []) (tc.getD [])))]):=by
 rw [FS,qn4]
 have nn:∀ {x y:Nat},¬ x=y→(x:Int)≠(y:Int):=fun h h'=>h (by omega)
 simp only [G108,lenT,q5A,q0Y,q00,q0D,q0c,decide_eq_true_eq,areT]
 by_cases h1:(ta.getD []).length=(a.getD []).length
 ·rw [if_neg (by simp [h1])]
  by_cases h2:(tb.getD []).length=(b.getD []).length
  ·rw [if_neg (by simp [h2])]
   by_cases h3:(tc.getD []).length=(c.getD []).length
   ·rw [if_neg (by simp [h3])]
    simp only [q04,q0r,l108_0 n ta a ha h1]
    cases inL (ta.getD []) (a.getD []) with
    | false=>simp
    | true =>
     simp only [if_true,q1z,q02,q06,q5A,l108_1 n tb b hb h2]
     cases inL (tb.getD []) (b.getD []) with
     | false=>simp
     | true =>
      simp only [if_true,q1z,q02,q06,q5A,l108_2 n tc c hc h3]
      cases inL (tc.getD []) (c.getD [])<;>simp
   ·rw [if_pos (nn h3),qgn h3];simp
  ·rw [if_pos (nn h2),qgn h2];simp
 ·rw [if_pos (nn h1),qgn h1];simp
theorem q2i (b:(Nat→List Yr→Out)→List Yr→Out) (ys:List Yr) (r:Out) (h:∀ k,b k ys=r):q0o [b] M0 0 ys=r :=
 q3g (σ:=Unit) [b] (fun _=>(0,ys)) (fun _=>0) (fun _=>True) (fun _=>r) (fun _ k _ _=>⟨b,rfl,h k⟩) M0 () trivial (by unfold M0;omega)
def qgG (ts:List T2) (l:List E9) (i:Nat):List E9:=q1L (ts.take i) (l.take i)++l.drop i
theorem qjf {ts:List T2} {l:List E9} (h:ts.length=l.length) (i:Nat):(qgG ts l i).length=l.length:=by
 unfold qgG
 rw [List.length_append,q31 (by simp [h])]
 simp;omega
theorem qlr {ts:List T2} {l:List E9} (h:ts.length=l.length) {i:Nat} (hi:i < l.length):(qgG ts l i)[i]?=l[i]?:=by
 unfold qgG
 have:(q1L (ts.take i) (l.take i)).length=i:=by rw [q31 (by simp [h])];simp;omega
 rw [List.getElem?_append_right (by omega),this];simp
theorem qaH:∀ {ts:List T2} {l:List E9} (t:T2) (e:E9),ts.length=l.length→q1L (ts++[t]) (l++[e])=q1L ts l++[fixE t e]
 | [],[],_,_,_=>rfl
 | [],_::_,_,_,h=>by simp at h
 | _::_,[],_,_,h=>by simp at h
 | _::ts,_::l,t,e,h=>by simp only [List.cons_append,q1L,qaH (ts:=ts) (l:=l) t e (by simpa using h)]
theorem qgF {ts:List T2} {l:List E9} (h:ts.length=l.length) {i:Nat} {t:T2} {e:E9} (ht:ts[i]?=some t) (he:l[i]?=some e):(qgG ts l i).set i (fixE t e)=qgG ts l (i+1):=by
 have hi:i < l.length:=(List.getElem?_eq_some_iff.1 he).1
 have hl:(q1L (ts.take i) (l.take i)).length=i:=by rw [q31 (by simp [h])];simp;omega
 unfold qgG
 rw [List.take_add_one,List.take_add_one,ht,he]
 simp only [Option.toList_some]
 rw [qaH t e (by simp [h]),List.append_assoc,List.set_append_right _ _ (by omega),hl,Nat.sub_self]
 have hd:l.drop i=e::l.drop (i+1):=by
  rw [List.drop_eq_getElem_cons hi]
  have:=(List.getElem?_eq_some_iff.1 he).2
  rw [this]
 rw [hd];rfl
theorem q4m (ts:List T2) (l:List E9) (hn:ts.length=l.length) (hl:l.length≤1000000) (body:(Nat→List Yr→Out)→List Yr→Out) (st:Nat→Rr→List Yr) (ex:Rr→Out)
  (h0:∀ k rows,rows.length=l.length→body k (st ts.length rows)=ex rows)
  (h1:∀ (i:Nat) (t:T2) (e:E9) (rows:Rr) k,ts[i]?=some t→rows[i]?=some (r9 e)→rows.length=l.length→(i:Int) < (ts.length:Int)→i < l.length→IntKind.i64.wrap ((i:Int)+1)=((i+1:Nat):Int)→body k (st i rows)=k 0 (st (i+1) (rows.set i (r9 (fixE t e))))) :
  q0o [body] M0 0 (st 0 (l.map r9))=ex ((q1L ts l).map r9):=by
 have:=q3g (σ:=Nat) [body] (fun i=>(0,st i ((qgG ts l i).map r9))) (fun i=>l.length - i) (fun i=>i≤l.length) (fun _=>ex ((q1L ts l).map r9)) ?_ M0 0 (Nat.zero_le _) (by unfold M0;omega)
 ·simpa [qgG,q1L] using this
 ·intro i k hi ih
  refine ⟨body,rfl,?_⟩
  simp only
  by_cases h:i < l.length
  ·have ih':=ih (i+1) (by omega) (by omega)
   obtain ⟨e,he⟩:∃ e,l[i]?=some e:=⟨_,List.getElem?_eq_getElem h⟩
   obtain ⟨t,ht⟩:∃ t,ts[i]?=some t:=⟨_,List.getElem?_eq_getElem (by omega)⟩
   rw [h1 i t e _ k ht (by rw [List.getElem?_map,qlr hn h,he];rfl) (by rw [List.length_map,qjf hn]) (by omega) h (by rw [q0m (by omega) (by omega)];omega),← List.map_set,qgF hn ht he]
   exact ih'
  ·have e:i=l.length:=by omega
   have e2:qgG ts l i=q1L ts l:=by
    unfold qgG
    rw [e,List.drop_length,List.append_nil,List.take_length,List.take_of_length_le (by omega)]
   rw [e2]
   have e3:i=ts.length:=by omega
   rw [e3]
   exact h0 k _ (by rw [List.length_map,q31 hn])
theorem q5r {rows:Rr} {i:Nat} {e:E9} {w:List D} (h:rows[i]?=some (r9 e)):(rows.set i w)[i]?=some w:=by
 have:=(List.getElem?_eq_some_iff.1 h).1
 simp [this]
theorem l109_0 (n:Nat) (ts:Option (List T2)) (l:List E9) (hn:(ts.getD []).length=l.length) (hl:l.length≤1000000) (x1:D) (x2:D) (x6:Rr) (x7:Rr) (x11:Nat) (x12:Nat) (x13:Nat) (x14:Nat) (x15:D):q0o [qb9 (RP n)] M0 0 [.d (dT ts),.d x1,.d x2,.d (dT ts),.d (il (ts.getD []).length),.d (il 0),.r x6,.r x7,.r (l.map r9),.n l.length,.n l.length,.n x11,.n x12,.n x13,.n x14,.d x15]=some (0,[.d (dT ts),.d x1,.d x2,.r x6,.r x7,.r ((q1L (ts.getD []) l).map r9),.n l.length,.n l.length,.n x11,.n x12,.n x13,.n x14,.d x15]):=by
 refine q4m (ts.getD []) l hn hl (qb9 (RP n)) (fun i rows=>[.d (dT ts),.d x1,.d x2,.d (dT ts),.d (il (ts.getD []).length),.d (il (i:Nat)),.r x6,.r x7,.r rows,.n l.length,.n l.length,.n x11,.n x12,.n x13,.n x14,.d x15]) (fun rows=>some (0,[.d (dT ts),.d x1,.d x2,.r x6,.r x7,.r rows,.n l.length,.n l.length,.n x11,.n x12,.n x13,.n x14,.d x15])) ?_ ?_
 ·intro k rows hr;simp [qb9]
 ·intro i t e rows k ht hr hrl hlt hil hw
  have h1:(0:Int)≤(i:Int)∧(i:Int) < (l.length:Int):=by omega
  have h2:=q5r (w:=[il e.src,il e.a,il e.b,il t.b,il t.b,il e.t1,il e.t2,il e.kn,il e.un]) hr
  simp only [qb9,q02,q06,q0Q,q0P,q0G,q0Z,q0A,q00,hlt,decide_true,if_true,qhM ht,rT,q0B,q0K,hrl,q6Z,h1,and_self,Int.toNat_natCast,q3y,hr,r9,List.length_cons,List.length_nil,q0b,q0j,q3S,List.length_set,h2,q04,q0s,hw,List.set_set]
  rfl
theorem l109_1 (n:Nat) (ts:Option (List T2)) (l:List E9) (hn:(ts.getD []).length=l.length) (hl:l.length≤1000000) (x1:D) (x2:D) (x6:Rr) (x10:Nat) (x11:Nat) (x12:D) (x13:D):q0o [qb8 (RP n)] M0 0 [.d (dT ts),.d x1,.d x2,.d (dT ts),.d (il (ts.getD []).length),.d (il 0),.r x6,.r (l.map r9),.n l.length,.n l.length,.n x10,.n x11,.d x12,.d x13]=some (0,[.d (dT ts),.d x1,.d x2,.r x6,.r ((q1L (ts.getD []) l).map r9),.n l.length,.n l.length,.n x10,.n x11,.d x12,.d x13]):=by
 refine q4m (ts.getD []) l hn hl (qb8 (RP n)) (fun i rows=>[.d (dT ts),.d x1,.d x2,.d (dT ts),.d (il (ts.getD []).length),.d (il (i:Nat)),.r x6,.r rows,.n l.length,.n l.length,.n x10,.n x11,.d x12,.d x13]) (fun rows=>some (0,[.d (dT ts),.d x1,.d x2,.r x6,.r rows,.n l.length,.n l.length,.n x10,.n x11,.d x12,.d x13])) ?_ ?_
 ·intro k rows hr;simp [qb8]
 ·intro i t e rows k ht hr hrl hlt hil hw
  have h1:(0:Int)≤(i:Int)∧(i:Int) < (l.length:Int):=by omega
  have h2:=q5r (w:=[il e.src,il e.a,il e.b,il t.b,il t.b,il e.t1,il e.t2,il e.kn,il e.un]) hr
  simp only [qb8,q02,q06,q0Q,q0P,q0G,q0Z,q0A,q00,hlt,decide_true,if_true,qhM ht,rT,q0B,q0K,hrl,q6Z,h1,and_self,Int.toNat_natCast,q3y,hr,r9,List.length_cons,List.length_nil,q0b,q0j,q3S,List.length_set,h2,q04,q0s,hw,List.set_set]
  rfl
theorem l109_2 (n:Nat) (ts:Option (List T2)) (h:ts.getD []=[]) (x1:D) (x2:D) (x6:Rr) (x7:Rr) (x8:D) (x9:Nat) (x10:Nat) (x11:Nat) (x12:Nat) (x13:D):q0o [qhu (RP n)] M0 0 [.d (dT ts),.d x1,.d x2,.d (dT ts),.d (il (ts.getD []).length),.d (il 0),.r x6,.r x7,.d x8,.n x9,.n x10,.n x11,.n x12,.d x13]=some (0,[.d (dT ts),.d x1,.d x2,.r x6,.r x7,.d x8,.n x9,.n x10,.n x11,.n x12,.d x13]) :=
 q2i _ _ _ fun k=>by rw [h];simp [qhu]
theorem l109_3 (n:Nat) (ts:Option (List T2)) (l:List E9) (hn:(ts.getD []).length=l.length) (hl:l.length≤1000000) (x1:D) (x2:D) (x6:Rr) (x10:D) (x11:Nat) (x12:Nat) (x13:D):q0o [qb7 (RP n)] M0 0 [.d (dT ts),.d x1,.d x2,.d (dT ts),.d (il (ts.getD []).length),.d (il 0),.r x6,.r (l.map r9),.n l.length,.n l.length,.d x10,.n x11,.n x12,.d x13]=some (0,[.d (dT ts),.d x1,.d x2,.r x6,.r ((q1L (ts.getD []) l).map r9),.n l.length,.n l.length,.d x10,.n x11,.n x12,.d x13]):=by
 refine q4m (ts.getD []) l hn hl (qb7 (RP n)) (fun i rows=>[.d (dT ts),.d x1,.d x2,.d (dT ts),.d (il (ts.getD []).length),.d (il (i:Nat)),.r x6,.r rows,.n l.length,.n l.length,.d x10,.n x11,.n x12,.d x13]) (fun rows=>some (0,[.d (dT ts),.d x1,.d x2,.r x6,.r rows,.n l.length,.n l.length,.d x10,.n x11,.n x12,.d x13])) ?_ ?_
 ·intro k rows hr;simp [qb7]
 ·intro i t e rows k ht hr hrl hlt hil hw
  have h1:(0:Int)≤(i:Int)∧(i:Int) < (l.length:Int):=by omega
  have h2:=q5r (w:=[il e.src,il e.a,il e.b,il t.b,il t.b,il e.t1,il e.t2,il e.kn,il e.un]) hr
  simp only [qb7,q02,q06,q0Q,q0P,q0G,q0Z,q0A,q00,hlt,decide_true,if_true,qhM ht,rT,q0B,q0K,hrl,q6Z,h1,and_self,Int.toNat_natCast,q3y,hr,r9,List.length_cons,List.length_nil,q0b,q0j,q3S,List.length_set,h2,q04,q0s,hw,List.set_set]
  rfl
theorem l109_4 (n:Nat) (ts:Option (List T2)) (h:ts.getD []=[]) (x0:D) (x2:D) (x6:Rr) (x7:D) (x8:D) (x9:Nat) (x10:Nat) (x11:D):q0o [qht (RP n)] M0 0 [.d x0,.d (dT ts),.d x2,.d (dT ts),.d (il (ts.getD []).length),.d (il 0),.r x6,.d x7,.d x8,.n x9,.n x10,.d x11]=some (0,[.d x0,.d (dT ts),.d x2,.r x6,.d x7,.d x8,.n x9,.n x10,.d x11]) :=
 q2i _ _ _ fun k=>by rw [h];simp [qht]
theorem l109_5 (n:Nat) (ts:Option (List T2)) (h:ts.getD []=[]) (x1:D) (x2:D) (x6:Rr) (x7:D) (x8:D) (x9:Nat) (x10:Nat) (x11:D):q0o [qhs (RP n)] M0 0 [.d (dT ts),.d x1,.d x2,.d (dT ts),.d (il (ts.getD []).length),.d (il 0),.r x6,.d x7,.d x8,.n x9,.n x10,.d x11]=some (0,[.d (dT ts),.d x1,.d x2,.r x6,.d x7,.d x8,.n x9,.n x10,.d x11]) :=
 q2i _ _ _ fun k=>by rw [h];simp [qhs]
theorem l109_6 (n:Nat) (ts:Option (List T2)) (h:ts.getD []=[]) (x0:D) (x2:D) (x6:Rr) (x7:D) (x8:D) (x9:Nat) (x10:Nat) (x11:D):q0o [qhr (RP n)] M0 0 [.d x0,.d (dT ts),.d x2,.d (dT ts),.d (il (ts.getD []).length),.d (il 0),.r x6,.d x7,.d x8,.n x9,.n x10,.d x11]=some (0,[.d x0,.d (dT ts),.d x2,.r x6,.d x7,.d x8,.n x9,.n x10,.d x11]) :=
 q2i _ _ _ fun k=>by rw [h];simp [qhr]
theorem l109_7 (n:Nat) (ts:Option (List T2)) (l:List E9) (hn:(ts.getD []).length=l.length) (hl:l.length≤1000000) (x1:D) (x2:D) (x9:D) (x10:D) (x11:D):q0o [qb6 (RP n)] M0 0 [.d (dT ts),.d x1,.d x2,.d (dT ts),.d (il (ts.getD []).length),.d (il 0),.r (l.map r9),.n l.length,.n l.length,.d x9,.d x10,.d x11]=some (0,[.d (dT ts),.d x1,.d x2,.r ((q1L (ts.getD []) l).map r9),.n l.length,.n l.length,.d x9,.d x10,.d x11]):=by
 refine q4m (ts.getD []) l hn hl (qb6 (RP n)) (fun i rows=>[.d (dT ts),.d x1,.d x2,.d (dT ts),.d (il (ts.getD []).length),.d (il (i:Nat)),.r rows,.n l.length,.n l.length,.d x9,.d x10,.d x11]) (fun rows=>some (0,[.d (dT ts),.d x1,.d x2,.r rows,.n l.length,.n l.length,.d x9,.d x10,.d x11])) ?_ ?_
 ·intro k rows hr;simp [qb6]
 ·intro i t e rows k ht hr hrl hlt hil hw
  have h1:(0:Int)≤(i:Int)∧(i:Int) < (l.length:Int):=by omega
  have h2:=q5r (w:=[il e.src,il e.a,il e.b,il t.b,il t.b,il e.t1,il e.t2,il e.kn,il e.un]) hr
  simp only [qb6,q02,q06,q0Q,q0P,q0G,q0Z,q0A,q00,hlt,decide_true,if_true,qhM ht,rT,q0B,q0K,hrl,q6Z,h1,and_self,Int.toNat_natCast,q3y,hr,r9,List.length_cons,List.length_nil,q0b,q0j,q3S,List.length_set,h2,q04,q0s,hw,List.set_set]
  rfl
theorem l109_8 (n:Nat) (ts:Option (List T2)) (h:ts.getD []=[]) (x0:D) (x2:D) (x6:D) (x7:D) (x8:D) (x9:D):q0o [qhq (RP n)] M0 0 [.d x0,.d (dT ts),.d x2,.d (dT ts),.d (il (ts.getD []).length),.d (il 0),.d x6,.d x7,.d x8,.d x9]=some (0,[.d x0,.d (dT ts),.d x2,.d x6,.d x7,.d x8,.d x9]) :=
 q2i _ _ _ fun k=>by rw [h];simp [qhq]
theorem l109_9 (n:Nat) (ts:Option (List T2)) (h:ts.getD []=[]) (x3:D) (x4:D) (x5:D) (x6:D):q0o [qhp (RP n)] M0 0 [.d (dT ts),.d (il (ts.getD []).length),.d (il 0),.d x3,.d x4,.d x5,.d x6]=some (0,[.d x3,.d x4,.d x5,.d x6]) :=
 q2i _ _ _ fun k=>by rw [h];simp [qhp]
theorem qld (n:Nat) (ts:Option (List T2)) (h:ts.getD []=[]) (x1:D) (x2:D) (x6:Rr) (x7:D) (x8:Nat) (x9:Nat) (x10:D) (x11:D):q0o [qc8 (RP n)] M0 0 [.d (dT ts),.d x1,.d x2,.d (dT ts),.d (il (ts.getD []).length),.d (il 0),.r x6,.d x7,.n x8,.n x9,.d x10,.d x11]=some (0,[.d (dT ts),.d x1,.d x2,.r x6,.d x7,.n x8,.n x9,.d x10,.d x11]) :=
 q2i _ _ _ fun k=>by rw [h];simp [qc8]
theorem qlc (n:Nat) (ts:Option (List T2)) (h:ts.getD []=[]) (x1:D) (x2:D) (x6:D) (x7:D) (x8:D) (x9:D):q0o [qc7 (RP n)] M0 0 [.d (dT ts),.d x1,.d x2,.d (dT ts),.d (il (ts.getD []).length),.d (il 0),.d x6,.d x7,.d x8,.d x9]=some (0,[.d (dT ts),.d x1,.d x2,.d x6,.d x7,.d x8,.d x9]) :=
 q2i _ _ _ fun k=>by rw [h];simp [qc7]
theorem qlb (n:Nat) (ts:Option (List T2)) (h:ts.getD []=[]) (x0:D) (x2:D) (x6:D) (x7:D) (x8:D) (x9:D):q0o [qc6 (RP n)] M0 0 [.d x0,.d (dT ts),.d x2,.d (dT ts),.d (il (ts.getD []).length),.d (il 0),.d x6,.d x7,.d x8,.d x9]=some (0,[.d x0,.d (dT ts),.d x2,.d x6,.d x7,.d x8,.d x9]) :=
 q2i _ _ _ fun k=>by rw [h];simp [qc6]
theorem qla (n:Nat) (ts:Option (List T2)) (h:ts.getD []=[]) (x3:D) (x4:D) (x5:D) (x6:D):q0o [qc5 (RP n)] M0 0 [.d (dT ts),.d (il (ts.getD []).length),.d (il 0),.d x3,.d x4,.d x5,.d x6]=some (0,[.d x3,.d x4,.d x5,.d x6]) :=
 q2i _ _ _ fun k=>by rw [h];simp [qc5]
theorem ql9 (n:Nat) (ts:Option (List T2)) (l:List E9) (hn:(ts.getD []).length=l.length) (hl:l.length≤1000000) (x4:D) (x5:D) (x8:D):q0o [q8s (RP n)] M0 0 [.d (dT ts),.d (il (ts.getD []).length),.d (il 0),.r (l.map r9),.d x4,.d x5,.n l.length,.n l.length,.d x8]=some (0,[.r ((q1L (ts.getD []) l).map r9),.d x4,.d x5,.n l.length,.n l.length,.d x8]):=by
 refine q4m (ts.getD []) l hn hl (q8s (RP n)) (fun i rows=>[.d (dT ts),.d (il (ts.getD []).length),.d (il (i:Nat)),.r rows,.d x4,.d x5,.n l.length,.n l.length,.d x8]) (fun rows=>some (0,[.r rows,.d x4,.d x5,.n l.length,.n l.length,.d x8])) ?_ ?_
 ·intro k rows hr;simp [q8s]
 ·intro i t e rows k ht hr hrl hlt hil hw
  have h1:(0:Int)≤(i:Int)∧(i:Int) < (l.length:Int):=by omega
  have h2:=q5r (w:=[il e.src,il e.a,il e.b,il t.b,il t.b,il e.t1,il e.t2,il e.kn,il e.un]) hr
  simp only [q8s,q02,q06,q0Q,q0P,q0G,q0Z,q0A,q00,hlt,decide_true,if_true,qhM ht,rT,q0B,q0K,hrl,q6Z,h1,and_self,Int.toNat_natCast,q3y,hr,r9,List.length_cons,List.length_nil,q0b,q0j,q3S,List.length_set,h2,q04,q0s,hw,List.set_set]
  rfl
theorem ql8 (n:Nat) (ts:Option (List T2)) (l:List E9) (hn:(ts.getD []).length=l.length) (hl:l.length≤1000000) (x0:D) (x2:D) (x7:D) (x10:D) (x11:D):q0o [q8r (RP n)] M0 0 [.d x0,.d (dT ts),.d x2,.d (dT ts),.d (il (ts.getD []).length),.d (il 0),.r (l.map r9),.d x7,.n l.length,.n l.length,.d x10,.d x11]=some (0,[.d x0,.d (dT ts),.d x2,.r ((q1L (ts.getD []) l).map r9),.d x7,.n l.length,.n l.length,.d x10,.d x11]):=by
 refine q4m (ts.getD []) l hn hl (q8r (RP n)) (fun i rows=>[.d x0,.d (dT ts),.d x2,.d (dT ts),.d (il (ts.getD []).length),.d (il (i:Nat)),.r rows,.d x7,.n l.length,.n l.length,.d x10,.d x11]) (fun rows=>some (0,[.d x0,.d (dT ts),.d x2,.r rows,.d x7,.n l.length,.n l.length,.d x10,.d x11])) ?_ ?_
 ·intro k rows hr;simp [q8r]
 ·intro i t e rows k ht hr hrl hlt hil hw
  have h1:(0:Int)≤(i:Int)∧(i:Int) < (l.length:Int):=by omega
  have h2:=q5r (w:=[il e.src,il e.a,il e.b,il t.b,il t.b,il e.t1,il e.t2,il e.kn,il e.un]) hr
  simp only [q8r,q02,q06,q0Q,q0P,q0G,q0Z,q0A,q00,hlt,decide_true,if_true,qhM ht,rT,q0B,q0K,hrl,q6Z,h1,and_self,Int.toNat_natCast,q3y,hr,r9,List.length_cons,List.length_nil,q0b,q0j,q3S,List.length_set,h2,q04,q0s,hw,List.set_set]
  rfl
theorem ql7 (n:Nat) (ts:Option (List T2)) (h:ts.getD []=[]) (x3:D) (x4:D) (x5:D) (x6:D):q0o [qc4 (RP n)] M0 0 [.d (dT ts),.d (il (ts.getD []).length),.d (il 0),.d x3,.d x4,.d x5,.d x6]=some (0,[.d x3,.d x4,.d x5,.d x6]) :=
 q2i _ _ _ fun k=>by rw [h];simp [qc4]
theorem ql6 (n:Nat) (ts:Option (List T2)) (l:List E9) (hn:(ts.getD []).length=l.length) (hl:l.length≤1000000) (x0:D) (x2:D) (x6:Rr) (x8:D) (x11:Nat) (x12:Nat) (x13:D):q0o [q8q (RP n)] M0 0 [.d x0,.d (dT ts),.d x2,.d (dT ts),.d (il (ts.getD []).length),.d (il 0),.r x6,.r (l.map r9),.d x8,.n l.length,.n l.length,.n x11,.n x12,.d x13]=some (0,[.d x0,.d (dT ts),.d x2,.r x6,.r ((q1L (ts.getD []) l).map r9),.d x8,.n l.length,.n l.length,.n x11,.n x12,.d x13]):=by
 refine q4m (ts.getD []) l hn hl (q8q (RP n)) (fun i rows=>[.d x0,.d (dT ts),.d x2,.d (dT ts),.d (il (ts.getD []).length),.d (il (i:Nat)),.r x6,.r rows,.d x8,.n l.length,.n l.length,.n x11,.n x12,.d x13]) (fun rows=>some (0,[.d x0,.d (dT ts),.d x2,.r x6,.r rows,.d x8,.n l.length,.n l.length,.n x11,.n x12,.d x13])) ?_ ?_
 ·intro k rows hr;simp [q8q]
 ·intro i t e rows k ht hr hrl hlt hil hw
  have h1:(0:Int)≤(i:Int)∧(i:Int) < (l.length:Int):=by omega
  have h2:=q5r (w:=[il e.src,il e.a,il e.b,il t.b,il t.b,il e.t1,il e.t2,il e.kn,il e.un]) hr
  simp only [q8q,q02,q06,q0Q,q0P,q0G,q0Z,q0A,q00,hlt,decide_true,if_true,qhM ht,rT,q0B,q0K,hrl,q6Z,h1,and_self,Int.toNat_natCast,q3y,hr,r9,List.length_cons,List.length_nil,q0b,q0j,q3S,List.length_set,h2,q04,q0s,hw,List.set_set]
  rfl
end
section
theorem qlD (l:List E9) (n:Nat) (h:n=l.length):(.sl 9 ((l.map r9).take n):D)=d9 (some l):=by rw [h,qfl];rfl
theorem qlE (l:List E5):(.sl 5 ((l.map r5).take l.length):D)=d5 (some l):=by rw [List.take_of_length_le (by simp)];rfl
def q85 (ts:Option (List T2)) (o:Option (List E9)):Option (List E9):=o.map (q1L (ts.getD []))
theorem q3Z (ts:Option (List T2)) (o:Option (List E9)):(q85 ts o).getD []=q1L (ts.getD []) (o.getD []):=by
 cases o with
 | none=>simp [q85];cases ts.getD []<;>rfl
 | some l=>rfl
set_option maxHeartbeats 4000000 in
theorem s109 (n:Nat) (a b c:Option (List E9)) (o:Option (List E5)) (ta tb tc:Option (List T2)) (ha:(a.getD []).length≤60) (hb:(b.getD []).length≤60) (hc:(c.getD []).length≤60) (ho:(o.getD []).length≤60)
  (h1:(ta.getD []).length=(a.getD []).length) (h2:(tb.getD []).length=(b.getD []).length) (h3:(tc.getD []).length=(c.getD []).length) :
  FN (n+3) 109 [d9 a,d9 b,d9 c,d5 o,dT ta,dT tb,dT tc]=some (0,[.d (q0e (q85 ta a) (q85 tb b) (q85 tc c) o)]):=by
 rw [FS,qn3]
 unfold G109
 rw [q08,s96 n a b c o (by omega) (by omega) (by omega) (by omega)]
 cases a<;>cases b<;>cases c<;>cases o<;>simp only [Option.getD_none,Option.getD_some,List.length_nil,List.length_eq_zero_iff] at ha hb hc ho h1 h2 h3
 all_goals
  try have g1:=(q31 h1).symm
  try have g2:=(q31 h2).symm
  try have g3:=(q31 h3).symm
  try have k1:=Nat.le_trans ha (show 60≤1000000 by omega)
  try have k2:=Nat.le_trans hb (show 60≤1000000 by omega)
  try have k3:=Nat.le_trans hc (show 60≤1000000 by omega)
  simp only [Option.isSome_none,Option.isSome_some,ix96,lv9,lv5]
  refine bnd_to _ (by simp only [↓q01,↓q2N,q02,q06,q0G,q0Z,q0B,q0K,if_true,q1n,q0J,qlE,List.length_map,q0c];exact rfl) ?_
  simp only [↓q01,↓q2N,lenT,q02,q06,q0r,q04]
  simp (disch:=assumption) only [↓q01,q02,q06,q0Q,q0P,q0G,q0Z,q0B,q0K,if_true,q1n,q0J,List.length_map,lenT,q0r,q04,qe5,qhE,qhD,l109_0,l109_1,l109_2,l109_3,l109_4,l109_5,l109_6,l109_7,l109_8,l109_9,qld,qlc,qlb,qla,ql9,ql8,ql7,ql6,qlD,q31,q0c,q5t]
  rfl
end
end Go.VE
