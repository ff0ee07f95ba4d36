/- Family: Moved (program). (Made by fa44.py.) -/
import Derived.Test.YtobeabinccohlaaGreatMg3
import Derived.Test.YtobeabinccohlaaGreatMi
import Derived.Test.YtobeabinccohlaaGreatMt
import Derived.KernelRfl
import Derived.Test.YtobeabinccohlaaGreatMh
import Derived.Test.YtobeabinccohlaaGreatRows
namespace Go.VE
open Go.RowKit Go.Proofs
def wo9 (s:Int) (l:List E9):List E9:=l.filter fun e=>!decide (e.src=s)
def wo5 (s:Int) (l:List E5):List E5:=l.filter fun e=>!decide (e.src=s)
def wk9 (s:Int) (o:Option (List E9)):Option (List E9):=o.map (wo9 s)
def wk5 (s:Int) (o:Option (List E5)):Option (List E5):=o.map (wo5 s)
theorem qbs (s:Int):wk9 s none=none:=rfl
theorem qbt (s:Int):wk5 s none=none:=rfl
theorem q1W (s:Int) (o:Option (List E9)):(wk9 s o).getD []=wo9 s (o.getD []):=by cases o<;>rfl
theorem q6P (s:Int) (o:Option (List E5)):(wk5 s o).getD []=wo5 s (o.getD []):=by cases o<;>rfl
theorem q23 (s:Int) (l:List E9):(wo9 s l).length≤l.length:=List.length_filter_le _ _
theorem q7w (s:Int) (l:List E5):(wo5 s l).length≤l.length:=List.length_filter_le _ _
theorem qaX {s:Int} {l:List E9} {e:E9} (h:e∈wo9 s l):e∈l:=(List.mem_filter.1 h).1
theorem GoodK.wo {a b c:List E9} {o:List E5} (h:GoodK a b c o) (s:Int):GoodK (wo9 s a) (wo9 s b) (wo9 s c) (wo5 s o) :=
 ⟨fun e he=>h.fam e (qaX he),fun e he=>h.less e (qaX he),fun e he=>h.by0 e (qaX he),Nat.le_trans (q23 ..) h.la,Nat.le_trans (q23 ..) h.lb,Nat.le_trans (q23 ..) h.lc,Nat.le_trans (q7w ..) h.lo⟩
theorem s98 (n:Nat) (e:E9) (s:Int):FN (n+1) 98 (r9 e++[il s])=some (0,[.d (bl (decide (e.src=s)))]):=by
 rw [r9]
 simp only [List.cons_append,List.nil_append]
 rw [F98]
 simp only [G98,q0K,q0e]
theorem d98 (n:Nat) (e:E9) (s:Int):FD (n+1) (.fn 98 [.dp [il s] 0]) [.agg 9] (r9 e)=some (0,[.d (bl (decide (e.src=s)))]) :=
 q4n [.agg 9,.ptr 1] [.agg (r9 e)] (by decide) rfl (by kernel_rfl) rfl (by kernel_rfl) (s98 n e s)
theorem s100 (n:Nat) (e:E9) (s:Int):FN (n+1) 100 (r9 e++[il s])=some (0,[.d (bl (decide (e.src=s)))]):=by
 rw [r9]
 simp only [List.cons_append,List.nil_append]
 rw [F100]
 simp only [G100,q0K,q0e]
theorem d100 (n:Nat) (e:E9) (s:Int):FD (n+1) (.fn 100 [.dp [il s] 0]) [.agg 9] (r9 e)=some (0,[.d (bl (decide (e.src=s)))]) :=
 q4n [.agg 9,.ptr 1] [.agg (r9 e)] (by decide) rfl (by kernel_rfl) rfl (by kernel_rfl) (s100 n e s)
theorem s102 (n:Nat) (e:E9) (s:Int):FN (n+1) 102 (r9 e++[il s])=some (0,[.d (bl (decide (e.src=s)))]):=by
 rw [r9]
 simp only [List.cons_append,List.nil_append]
 rw [F102]
 simp only [G102,q0K,q0e]
theorem d102 (n:Nat) (e:E9) (s:Int):FD (n+1) (.fn 102 [.dp [il s] 0]) [.agg 9] (r9 e)=some (0,[.d (bl (decide (e.src=s)))]) :=
 q4n [.agg 9,.ptr 1] [.agg (r9 e)] (by decide) rfl (by kernel_rfl) rfl (by kernel_rfl) (s102 n e s)
theorem s104 (n:Nat) (e:E5) (s:Int):FN (n+1) 104 (r5 e++[il s])=some (0,[.d (bl (decide (e.src=s)))]):=by
 rw [r5]
 simp only [List.cons_append,List.nil_append]
 rw [F104]
 simp only [G104,q0K,q0e]
theorem d104 (n:Nat) (e:E5) (s:Int):FD (n+1) (.fn 104 [.dp [il s] 0]) [.agg 5] (r5 e)=some (0,[.d (bl (decide (e.src=s)))]) :=
 q4n [.agg 5,.ptr 1] [.agg (r5 e)] (by decide) rfl (by kernel_rfl) rfl (by kernel_rfl) (s104 n e s)
theorem qfQ (n:Nat) (s:Int) (l:List E9) (hl:l.length*72≤140737488351232):∃ rest:Rr,FN (n+3) 1000097 [.sl 9 (l.map r9),.fn 98 [.dp [il s] 0]]=some (0,[.d (d9 (wk9 s (some l))),.d (.sl 9 rest)]):=by
 obtain ⟨rest,h⟩:=qbG (n+1) (.fn 98 [.dp [il s] 0]) (fun e=>decide (e.src=s)) l (by omega) (fun e _=>d98 n e s) (fun e _=>d98 (n+1) e s)
 refine ⟨rest,h.trans ?_⟩
 simp only [d9,wk9,wo9,Option.map_some,dSl]
theorem qfP (n:Nat) (s:Int) (l:List E9) (hl:l.length*72≤140737488351232):∃ rest:Rr,FN (n+3) 1000099 [.sl 9 (l.map r9),.fn 100 [.dp [il s] 0]]=some (0,[.d (d9 (wk9 s (some l))),.d (.sl 9 rest)]):=by
 obtain ⟨rest,h⟩:=qbF (n+1) (.fn 100 [.dp [il s] 0]) (fun e=>decide (e.src=s)) l (by omega) (fun e _=>d100 n e s) (fun e _=>d100 (n+1) e s)
 refine ⟨rest,h.trans ?_⟩
 simp only [d9,wk9,wo9,Option.map_some,dSl]
theorem qfO (n:Nat) (s:Int) (l:List E9) (hl:l.length*72≤140737488351232):∃ rest:Rr,FN (n+3) 1000101 [.sl 9 (l.map r9),.fn 102 [.dp [il s] 0]]=some (0,[.d (d9 (wk9 s (some l))),.d (.sl 9 rest)]):=by
 obtain ⟨rest,h⟩:=qbE (n+1) (.fn 102 [.dp [il s] 0]) (fun e=>decide (e.src=s)) l (by omega) (fun e _=>d102 n e s) (fun e _=>d102 (n+1) e s)
 refine ⟨rest,h.trans ?_⟩
 simp only [d9,wk9,wo9,Option.map_some,dSl]
theorem qfN (n:Nat) (s:Int) (l:List E5) (hl:l.length*40≤140737488351232):∃ rest:Rr,FN (n+3) 1000103 [.sl 5 (l.map r5),.fn 104 [.dp [il s] 0]]=some (0,[.d (d5 (wk5 s (some l))),.d (.sl 5 rest)]):=by
 obtain ⟨rest,h⟩:=qbD (n+1) (.fn 104 [.dp [il s] 0]) (fun e=>decide (e.src=s)) l (by omega) (fun e _=>d104 n e s) (fun e _=>d104 (n+1) e s)
 refine ⟨rest,h.trans ?_⟩
 simp only [d5,wk5,wo5,Option.map_some,dSl]
theorem if2 {α:Type} (p q:Prop) [Decidable p] [Decidable q] (x y:α):(if p then (if q then x else y) else y)=if p∧q then x else y:=by
 by_cases h1:p<;>by_cases h2:q<;>simp [h1,h2]
theorem if3 {α:Type} (p q r:Prop) [Decidable p] [Decidable q] [Decidable r] (x y:α):(if p then (if q then (if r then x else y) else y) else y)=if p∧q∧r then x else y:=by
 by_cases h1:p<;>by_cases h2:q<;>by_cases h3:r<;>simp [h1,h2,h3]
theorem if4 {α:Type} (p q r s:Prop) [Decidable p] [Decidable q] [Decidable r] [Decidable s] (x y:α):(if p then (if q then (if r then (if s then x else y) else y) else y) else y)=if p∧q∧r∧s then x else y:=by
 by_cases h1:p<;>by_cases h2:q<;>by_cases h3:r<;>by_cases h4:s<;>simp [h1,h2,h3,h4]
def q4v (s:Int) (a b c:List E9) (o:List E5):Prop:=((wo9 s a).length:Int)=a.length∧((wo9 s b).length:Int)=b.length∧((wo9 s c).length:Int)=c.length∧((wo5 s o).length:Int)=o.length
instance (s:Int) (a b c:List E9) (o:List E5):Decidable (q4v s a b c o):=by unfold q4v;infer_instance
def q6g (s k:Int) (a b c:Option (List E9)) (o:Option (List E5)) (d:Int):Int→List Int:=q1s (q0T k (wo9 s (a.getD []))) (q0T k (wo9 s (b.getD []))) (q0T k (wo9 s (c.getD []))) (q4J k (wo5 s (o.getD []))) d
def qdo (s k:Int) (a b c:Option (List E9)) (o:Option (List E5)) (d:Int):Option (List Int):=(nzO (q0O (a.getD []))).map (List.filter (q5V (fk k a b c o d) (q6g s k a b c o d)))
theorem qiL (s k:Int) (a b c:Option (List E9)) (o:Option (List E5)) (d:Int):fo (kn9 k (wk9 s a)) (kn9 k (wk9 s b)) (kn9 k (wk9 s c)) (kn5 k (wk5 s o)) d=q6g s k a b c o d:=by
 funext p;unfold fo q6g;rw [q0H,q0H,q0H,q3w,q1W,q1W,q1W,q6P]
set_option maxRecDepth 20000 in
set_option maxHeartbeats 4000000 in
theorem s39 (n:Nat) (s d k:Int) (a b c:Option (List E9)) (o:Option (List E5)) (ha:(a.getD []).length*72≤140737488351232) (hb:(b.getD []).length*72≤140737488351232) (hc:(c.getD []).length*72≤140737488351232) (ho:(o.getD []).length*40≤140737488351232) :
  FN (n+109) 39 [d9 a,d9 b,d9 c,d5 o,il s,il d,il k]=if q0U (q0m (a.getD []) (b.getD []) (c.getD []) (o.getD [])) false false 0 0 [d,k]=0 then (if q4v s (a.getD []) (b.getD []) (c.getD []) (o.getD []) then some (0,[.d (dI none),.d (il 3)]) else some (0,[.d (dI (qdo s k a b c o d)),.d (il 0)])) else some (0,[.d (dI none),.d (il (q0U (q0m (a.getD []) (b.getD []) (c.getD []) (o.getD [])) false false 0 0 [d,k]))]):=by
 rw [F39]
 have h73:=qbj (n+98) 0 0 d k a b c o ha hb hc ho false false
 by_cases he:q0U (q0m (a.getD []) (b.getD []) (c.getD []) (o.getD [])) false false 0 0 [d,k]=0
 ·rw [if_pos he]
  have g:=q4C k he
  have gw:GoodK ((kn9 k (wk9 s a)).getD []) ((kn9 k (wk9 s b)).getD []) ((kn9 k (wk9 s c)).getD []) ((kn5 k (wk5 s o)).getD []):=by
   rw [q0H,q0H,q0H,q3w,q1W,q1W,q1W,q6P]
   exact ((q1o (q1i he)).wo s).cnt k
  have hla:=(q16 (q1i he)).1
  have h93:=k93 n a (d9 b) (d9 c) (d5 o) d (by omega) (q1F he).1 g gw
  rw [fo_kn,qiL] at h93
  have h94:=s94 (n+103) k (wk9 s a) (wk9 s b) (wk9 s c) (wk5 s o) (by rw [q1W];have:=q23 s (a.getD []);omega) (by rw [q1W];have:=q23 s (b.getD []);omega) (by rw [q1W];have:=q23 s (c.getD []);omega) (by rw [q6P];have:=q7w s (o.getD []);omega)
  have hp:∀ (a b c:Option (List E9)) (o:Option (List E5)) (q:List D→Out),(RP (n+108)).ptrW 4 (q0Y a b c o) q=q [d9 a,d9 b,d9 c,d5 o]:=fun a b c o q=>q2d _ 4 q rfl
  have hx:(nzO (q0O (a.getD []))).map (List.filter (q5V (fk k a b c o d) (q6g s k a b c o d)))=qdo s k a b c o d:=rfl
  rw [hx] at h93
  generalize qdo s k a b c o d=M at h93 ⊢
  have h96:=s96 (n+106) a b c o ha hb hc ho
  have hN:q4v s (a.getD []) (b.getD []) (c.getD []) (o.getD [])=((((wk9 s a).getD []).length:Int)=(a.getD []).length∧(((wk9 s b).getD []).length:Int)=(b.getD []).length∧(((wk9 s c).getD []).length:Int)=(c.getD []).length∧(((wk5 s o).getD []).length:Int)=(o.getD []).length):=by
   rw [q1W,q1W,q1W,q6P];rfl
  simp only [hN]
  clear hN hx
  simp only [q03,q0R,G39,q07,q0v,q1f,h73,q56,he,if_true,q00,q02,q05,q0w,ne_eq,not_true_eq_false,decide_false,q01,Bool.false_eq_true,if_false,h96]
  clear h73 he g gw hla
  obtain ⟨_,ka⟩:=sk (qfQ (n+105) s)
  obtain ⟨_,kb⟩:=sk (qfP (n+105) s)
  obtain ⟨_,kc⟩:=sk (qfO (n+105) s)
  obtain ⟨_,ko⟩:=sk (qfN (n+105) s)
  cases a<;>cases b<;>cases c<;>cases o<;>try simp only [qbs,qbt] at h94 h93
  all_goals
   try simp only [Option.getD_some] at ha hb hc ho
   simp only [Option.isSome_none,Option.isSome_some,ix96,↓q00,↓q1M,lv9,lv5]
   simp (disch:=first | exact ha | exact hb | exact hc | exact ho) only [q07,s97n,s99n,s101n,s103n,ka,kb,kc,ko,qbs,qbt,q00,q02,q05,q0x,q0E,q0y,q0C,if_true,q0e,q5b,q6I,q0X,C39_0,q5J,qfD,q0K,q01,decide_eq_true_eq,h94,hp,q08,q0r,h93,q03,q12,true_and,and_true]
   first | rfl | exact if2 _ _ _ _ | exact if3 _ _ _ _ _ | exact if4 _ _ _ _ _ _
 ·rw [if_neg he]
  simp only [G39,q07,q03,q0R,q0v,q1f,h73,q56,if_neg he,q00,q02,q05,q0w,q01]
  rw [if_pos (by simpa using he)]
  simp [dI,dSl]
end Go.VE
namespace Go.VE
open Go.RowKit Go.Proofs
def kinA:Option (List E9):=some [⟨1,10,3,0,0,100,100,0,0⟩,⟨2,11,3,0,0,100,100,0,0⟩,⟨3,12,5,0,10,90,100,0,0⟩,⟨4,11,7,40,50,60,60,0,0⟩]
def kinB:Option (List E9):=some [⟨20,5,3,20,30,70,70,8,0⟩]
def kinC:Option (List E9):=some [⟨30,10,0,50,50,52,55,0,0⟩,⟨31,12,10,0,0,100,100,0,0⟩]
def kinO:Option (List E5):=some [⟨40,11,9,5,0⟩]
theorem s168 (n:Nat) (x:Int):FN (n+1) 168 [il x]=some (0,[.d (il x),.d (il x)]):=by rw [F168];simp [G168]
theorem s88 (n:Nat):FN (n+2) 88 []=some (0,[.d (d9 kinA),.d (d9 kinB),.d (d9 kinC),.d (d5 kinO)]):=by
 rw [F88]
 simp only [G88,q07,q03,s168,q00,q02,q05,q0D,q0v,q0y,List.length_cons,List.length_nil,q0C,if_true,q0q,q1f,q0e,List.take_succ_cons,List.take_zero]
 simp [kinA,kinB,kinC,kinO,d9,d5,r9,r5,dSl]
theorem kA:(kinA.getD []).length*72≤140737488351232:=by decide
theorem kB:(kinB.getD []).length*72≤140737488351232:=by decide
theorem kC:(kinC.getD []).length*72≤140737488351232:=by decide
theorem kO:(kinO.getD []).length*40≤140737488351232:=by decide
theorem x1 (n:Nat):FN (n+110) 12 [d9 kinA,d9 kinB,d9 kinC,d5 kinO,il 11,il 45,il 9]=some (0,[.d (dI (some [3,7])),.d (il 0)]):=by
 rw [s12 (n+99) 11 45 9 kinA kinB kinC kinO kA kB kC kO,if_pos (by decide +kernel),show q0F 45 11 (q0T 9 (kinA.getD []))=[3,7] by decide +kernel]
theorem x2 (n:Nat):FN (n+110) 14 [d9 kinA,d9 kinB,d9 kinC,d5 kinO,il 5,il 25,il 9]=some (0,[.d (dI (some [3,5])),.d (il 0)]):=by
 rw [s14 (n+5) 5 25 9 kinA kinB kinC kinO kA kB kC kO,if_pos (by decide +kernel),show q0d 25 (q0T 9 (kinB.getD [])) 5=[3,5] by decide +kernel]
theorem x3 (n:Nat):FN (n+110) 16 [d9 kinA,d9 kinB,d9 kinC,d5 kinO,il 12,il 51,il 9]=some (0,[.d (dI (some [0])),.d (il 0)]):=by
 rw [s16 (n+4) 12 51 9 kinA kinB kinC kinO kA kB kC kO,if_pos (by decide +kernel),show q24 9 kinA kinB kinC kinO 51 12=[0] by decide +kernel]
theorem x4 (n:Nat):FN (n+110) 18 [d9 kinA,d9 kinB,d9 kinC,d5 kinO,il 12,il 53,il 9]=some (0,[.d (il 2),.d (il 0)]):=by
 rw [s18 (n+3) 12 53 9 kinA kinB kinC kinO kA kB kC kO,if_pos (by decide +kernel),show q1B (q0T 9 (kinA.getD [])) (q0T 9 (kinC.getD [])) (q4J 9 (kinO.getD [])) 53 12=2 by decide +kernel]
theorem x5 (n:Nat):FN (n+110) 20 [d9 kinA,d9 kinB,d9 kinC,d5 kinO,il 11,il 7,il 55,il 9]=some (0,[.d (il 1),.d (il 0)]):=by
 rw [s20 (n+3) 11 7 55 9 kinA kinB kinC kinO kA kB kC kO,if_pos (by decide +kernel),show q4l (q24 9 kinA kinB kinC kinO 55 11) 7=1 by decide +kernel]
theorem x6 (n:Nat):FN (n+110) 32 [d9 kinA,d9 kinB,d9 kinC,d5 kinO,il 3,il 35,il 9]=some (0,[.d (dI (some [10,11,12])),.d (il 0)]):=by
 rw [s32 n 3 35 9 kinA kinB kinC kinO kA kB kC kO,if_pos (by decide +kernel),show q4q 9 kinA kinB kinC kinO 35 3=some [10,11,12] by decide +kernel]
theorem x7 (n:Nat):FN (n+110) 29 [d9 kinA,d9 kinB,d9 kinC,d5 kinO,il 3,il 53,il 9]=some (0,[.d (il 0),.d (il 2),.d (il 0)]):=by
 rw [s29 n 3 53 9 kinA kinB kinC kinO kA kB kC kO,if_pos (by decide +kernel),show (((q4q 9 kinA kinB kinC kinO 53 3).getD []).length:Int)=0 by decide +kernel,show (((qc6 9 kinA kinB kinC kinO 53 3).getD []).length:Int)=2 by decide +kernel]
theorem x8 (n:Nat):FN (n+110) 39 [d9 kinA,d9 kinB,d9 kinC,d5 kinO,il 30,il 53,il 9]=some (0,[.d (dI (some [10,12])),.d (il 0)]):=by
 rw [s39 (n+1) 30 53 9 kinA kinB kinC kinO kA kB kC kO,if_pos (by decide +kernel),if_neg (by decide +kernel),show qdo 30 9 kinA kinB kinC kinO 53=some [10,12] by decide +kernel]
theorem x9 (n:Nat):FN (n+110) 37 [d9 kinA,d9 kinB,d9 kinC,d5 kinO,il 10,il 4,il 9]=some (0,[.d (dI (some [11])),.d (il 0)]):=by
 rw [s37 (n+1) 10 4 9 kinA kinB kinC kinO kA kB kC kO,if_pos (by decide +kernel),show (nzO (q0O (kinA.getD []))).map (List.filter (q5V (fk 4 kinA kinB kinC kinO 10) (fk 9 kinA kinB kinC kinO 10)))=some [11] by decide +kernel]
theorem x10 (n:Nat):FN (n+110) 18 [d9 kinA,d9 kinB,d9 kinC,d5 kinO,il 11,il 10,il 9]=some (0,[.d (il 0),.d (il 0)]):=by
 rw [s18 (n+3) 11 10 9 kinA kinB kinC kinO kA kB kC kO,if_pos (by decide +kernel),show q1B (q0T 9 (kinA.getD [])) (q0T 9 (kinC.getD [])) (q4J 9 (kinO.getD [])) 10 11=0 by decide +kernel]
theorem q8r (n:Nat) (l:List Int) (hl:l.length≤100):FN (n+1) 22 [dI (some l),dI (some l)]=some (0,[.d (bl true)]):=by
 rw [s22 n (some l) (some l) (by simp only [Option.getD_some];omega)];simp
theorem a23 {Fn:Nat→List D→Out} {FnD:D→List Sh→List D→Out} {m:Nat} (A B C O L1 L2 L3 L6 L8 L9:D) (h88:Fn 88 []=some (0,[.d A,.d B,.d C,.d O]))
  (h1:Fn 12 [A,B,C,O,il 11,il 45,il 9]=some (0,[.d L1,.d (il 0)])) (h2:Fn 14 [A,B,C,O,il 5,il 25,il 9]=some (0,[.d L2,.d (il 0)])) (h3:Fn 16 [A,B,C,O,il 12,il 51,il 9]=some (0,[.d L3,.d (il 0)]))
  (h4:Fn 18 [A,B,C,O,il 12,il 53,il 9]=some (0,[.d (il 2),.d (il 0)])) (h5:Fn 20 [A,B,C,O,il 11,il 7,il 55,il 9]=some (0,[.d (il 1),.d (il 0)])) (h6:Fn 32 [A,B,C,O,il 3,il 35,il 9]=some (0,[.d L6,.d (il 0)]))
  (h7:Fn 29 [A,B,C,O,il 3,il 53,il 9]=some (0,[.d (il 0),.d (il 2),.d (il 0)])) (h8:Fn 39 [A,B,C,O,il 30,il 53,il 9]=some (0,[.d L8,.d (il 0)])) (h9:Fn 37 [A,B,C,O,il 10,il 4,il 9]=some (0,[.d L9,.d (il 0)]))
  (h10:Fn 18 [A,B,C,O,il 11,il 10,il 9]=some (0,[.d (il 0),.d (il 0)]))
  (q1:Fn 22 [L1,.sl 1 [[il 3],[il 7]]]=some (0,[.d (bl true)])) (q2:Fn 22 [L2,.sl 1 [[il 3],[il 5]]]=some (0,[.d (bl true)])) (q3:Fn 22 [L3,.sl 1 [[il 0]]]=some (0,[.d (bl true)])) (q6:Fn 22 [L6,.sl 1 [[il 10],[il 11],[il 12]]]=some (0,[.d (bl true)]))
  (q8:Fn 22 [L8,.sl 1 [[il 10],[il 12]]]=some (0,[.d (bl true)])) (q9:Fn 22 [L9,.sl 1 [[il 11]]]=some (0,[.d (bl true)])):G23 (q06 Fn FnD m)=some (0,[.d (bl true)]):=by
 simp only [G23,q07,q03,h88,q00,q02,q05,h1,h2,h3,h4,h5,h6,h7,h8,h9,h10,q0K,decide_true,q01,if_true,q0v,q1f,qdX,q0e,q1,q2,q3,q6,q8,q9,Bool.false_eq_true,if_false,and_self]
theorem s23 (n:Nat):FN (n+111) 23 []=some (0,[.d (bl true)]):=by
 rw [F23]
 exact a23 (d9 kinA) (d9 kinB) (d9 kinC) (d5 kinO) (dI (some [3,7])) (dI (some [3,5])) (dI (some [0])) (dI (some [10,11,12])) (dI (some [10,12])) (dI (some [11])) (s88 (n+108)) (x1 n) (x2 n) (x3 n) (x4 n) (x5 n) (x6 n) (x7 n) (x8 n) (x9 n) (x10 n)
  (q8r (n+109) [3,7] (by decide)) (q8r (n+109) [3,5] (by decide)) (q8r (n+109) [0] (by decide)) (q8r (n+109) [10,11,12] (by decide)) (q8r (n+109) [10,12] (by decide)) (q8r (n+109) [11] (by decide))
end Go.VE
namespace Go.VE
open Go.RowKit Go.Proofs
set_option maxRecDepth 10000 in
theorem l45_0 (n:Nat) (s:Int) (o:Option (List E9)) (hl:(o.getD []).length*72≤140737488351232) (x1 x2 x3:D):q0u [L45_0 (RP n),L45_1 (RP n)] M0 0 [.d (il s),.d (d9 o),.d x1,.d x2,.d x3,.d (d9 o),.d (il (o.getD []).length),.d (il 0)] =
  q3H [.d (il s),.d (d9 o),.d x1,.d x2,.d x3] (fun rs=>[.d (il s),.d (d9 o),.d x1,.d x2,.d x3,.r rs,.n rs.length,.n rs.length]) ((o.getD []).filterMap (fun e=>if !decide (e.src=s) then some (r9 e) else none)):=by
 refine q1h (o.getD []) (by omega) (fun e=>if !decide (e.src=s) then some (r9 e) else none) _ _ (fun i=>[.d (il s),.d (d9 o),.d x1,.d x2,.d x3,.d (d9 o),.d (il (o.getD []).length),.d (il (i:Nat))]) (fun i rs=>[.d (il s),.d (d9 o),.d x1,.d x2,.d x3,.d (d9 o),.d (il (o.getD []).length),.d (il (i:Nat)),.r rs,.n rs.length,.n rs.length]) [.d (il s),.d (d9 o),.d x1,.d x2,.d x3] (fun rs=>[.d (il s),.d (d9 o),.d x1,.d x2,.d x3,.r rs,.n rs.length,.n rs.length]) ?_ ?_ ?_ ?_
 ·intro q;simp [L45_0]
 ·intro rs q;simp [L45_1]
 ·intro i c q hi hlt hw
  simp only [L45_0,q02,q05,q0p,q01,hlt,decide_true,if_true,q41 hi,q0D,q0y,q0v,q0C,q0q,List.length_cons,List.length_nil,List.take_succ_cons,List.take_zero,q0V,q0t,q03,q0k,hw,r9,q08,q0r,q0w]
  by_cases hc:c.src=s
  ·simp [hc]
  ·simp only [hc,ne_eq,not_false_eq_true,decide_true,decide_false,Bool.not_false,if_true]
   rw [if_pos (by simp [])]
 ·intro i c rs q hi hlt hw hrs
  simp only [L45_1,q02,q05,q0B,q0A,q0x,q0E,q0p,q01,hlt,decide_true,if_true,q41 hi,q0D,q0y,q0v,q0C,q0q,List.length_cons,List.length_nil,List.take_succ_cons,List.take_zero,q0t,q03,q0k,hw,r9,q08,q0r,q0w,q18,q1S,List.length_append]
  by_cases hc:c.src=s
  ·simp [hc]
  ·simp only [hc,ne_eq,not_false_eq_true,decide_true,decide_false,Bool.not_false,if_true]
   rw [if_pos (by simp [];omega)]
set_option maxRecDepth 10000 in
theorem l45_1 (n:Nat) (s:Int) (o:Option (List E9)) (hl:(o.getD []).length*72≤140737488351232) (x0 x2 x3 p0:D):q0u [L45_2 (RP n),L45_3 (RP n)] M0 0 [.d (il s),.d x0,.d (d9 o),.d x2,.d x3,.d (d9 o),.d (il (o.getD []).length),.d (il 0),.d p0] =
  q3H [.d (il s),.d x0,.d (d9 o),.d x2,.d x3,.d p0] (fun rs=>[.d (il s),.d x0,.d (d9 o),.d x2,.d x3,.r rs,.d p0,.n rs.length,.n rs.length]) ((o.getD []).filterMap (fun e=>if !decide (e.src=s) then some (r9 e) else none)):=by
 refine q1h (o.getD []) (by omega) (fun e=>if !decide (e.src=s) then some (r9 e) else none) _ _ (fun i=>[.d (il s),.d x0,.d (d9 o),.d x2,.d x3,.d (d9 o),.d (il (o.getD []).length),.d (il (i:Nat)),.d p0]) (fun i rs=>[.d (il s),.d x0,.d (d9 o),.d x2,.d x3,.d (d9 o),.d (il (o.getD []).length),.d (il (i:Nat)),.r rs,.d p0,.n rs.length,.n rs.length]) [.d (il s),.d x0,.d (d9 o),.d x2,.d x3,.d p0] (fun rs=>[.d (il s),.d x0,.d (d9 o),.d x2,.d x3,.r rs,.d p0,.n rs.length,.n rs.length]) ?_ ?_ ?_ ?_
 ·intro q;simp [L45_2]
 ·intro rs q;simp [L45_3]
 ·intro i c q hi hlt hw
  simp only [L45_2,q02,q05,q0p,q01,hlt,decide_true,if_true,q41 hi,q0D,q0y,q0v,q0C,q0q,List.length_cons,List.length_nil,List.take_succ_cons,List.take_zero,q0V,q0t,q03,q0k,hw,r9,q08,q0r,q0w]
  by_cases hc:c.src=s
  ·simp [hc]
  ·simp only [hc,ne_eq,not_false_eq_true,decide_true,decide_false,Bool.not_false,if_true]
   rw [if_pos (by simp [])]
 ·intro i c rs q hi hlt hw hrs
  simp only [L45_3,q02,q05,q0B,q0A,q0x,q0E,q0p,q01,hlt,decide_true,if_true,q41 hi,q0D,q0y,q0v,q0C,q0q,List.length_cons,List.length_nil,List.take_succ_cons,List.take_zero,q0t,q03,q0k,hw,r9,q08,q0r,q0w,q18,q1S,List.length_append]
  by_cases hc:c.src=s
  ·simp [hc]
  ·simp only [hc,ne_eq,not_false_eq_true,decide_true,decide_false,Bool.not_false,if_true]
   rw [if_pos (by simp [];omega)]
set_option maxRecDepth 10000 in
theorem l45_2 (n:Nat) (s:Int) (o:Option (List E9)) (hl:(o.getD []).length*72≤140737488351232) (x0 x1 x3 p0 p1:D):q0u [L45_4 (RP n),L45_5 (RP n)] M0 0 [.d (il s),.d x0,.d x1,.d (d9 o),.d x3,.d (d9 o),.d (il (o.getD []).length),.d (il 0),.d p0,.d p1] =
  q3H [.d (il s),.d x0,.d x1,.d (d9 o),.d x3,.d p0,.d p1] (fun rs=>[.d (il s),.d x0,.d x1,.d (d9 o),.d x3,.r rs,.d p0,.d p1,.n rs.length,.n rs.length]) ((o.getD []).filterMap (fun e=>if !decide (e.src=s) then some (r9 e) else none)):=by
 refine q1h (o.getD []) (by omega) (fun e=>if !decide (e.src=s) then some (r9 e) else none) _ _ (fun i=>[.d (il s),.d x0,.d x1,.d (d9 o),.d x3,.d (d9 o),.d (il (o.getD []).length),.d (il (i:Nat)),.d p0,.d p1]) (fun i rs=>[.d (il s),.d x0,.d x1,.d (d9 o),.d x3,.d (d9 o),.d (il (o.getD []).length),.d (il (i:Nat)),.r rs,.d p0,.d p1,.n rs.length,.n rs.length]) [.d (il s),.d x0,.d x1,.d (d9 o),.d x3,.d p0,.d p1] (fun rs=>[.d (il s),.d x0,.d x1,.d (d9 o),.d x3,.r rs,.d p0,.d p1,.n rs.length,.n rs.length]) ?_ ?_ ?_ ?_
 ·intro q;simp [L45_4]
 ·intro rs q;simp [L45_5]
 ·intro i c q hi hlt hw
  simp only [L45_4,q02,q05,q0p,q01,hlt,decide_true,if_true,q41 hi,q0D,q0y,q0v,q0C,q0q,List.length_cons,List.length_nil,List.take_succ_cons,List.take_zero,q0V,q0t,q03,q0k,hw,r9,q08,q0r,q0w]
  by_cases hc:c.src=s
  ·simp [hc]
  ·simp only [hc,ne_eq,not_false_eq_true,decide_true,decide_false,Bool.not_false,if_true]
   rw [if_pos (by simp [])]
 ·intro i c rs q hi hlt hw hrs
  simp only [L45_5,q02,q05,q0B,q0A,q0x,q0E,q0p,q01,hlt,decide_true,if_true,q41 hi,q0D,q0y,q0v,q0C,q0q,List.length_cons,List.length_nil,List.take_succ_cons,List.take_zero,q0t,q03,q0k,hw,r9,q08,q0r,q0w,q18,q1S,List.length_append]
  by_cases hc:c.src=s
  ·simp [hc]
  ·simp only [hc,ne_eq,not_false_eq_true,decide_true,decide_false,Bool.not_false,if_true]
   rw [if_pos (by simp [];omega)]
set_option maxRecDepth 10000 in
theorem l45_3 (n:Nat) (s:Int) (o:Option (List E5)) (hl:(o.getD []).length*40≤140737488351232) (x0 x1 x2 p0 p1 p2:D):q0u [L45_6 (RP n),L45_7 (RP n)] M0 0 [.d (il s),.d x0,.d x1,.d x2,.d (d5 o),.d (d5 o),.d (il (o.getD []).length),.d (il 0),.d p0,.d p1,.d p2] =
  q3H [.d x0,.d x1,.d x2,.d (d5 o),.d p0,.d p1,.d p2] (fun rs=>[.d x0,.d x1,.d x2,.d (d5 o),.r rs,.d p0,.d p1,.d p2,.n rs.length,.n rs.length]) ((o.getD []).filterMap (fun e=>if !decide (e.src=s) then some (r5 e) else none)):=by
 refine q1h (o.getD []) (by omega) (fun e=>if !decide (e.src=s) then some (r5 e) else none) _ _ (fun i=>[.d (il s),.d x0,.d x1,.d x2,.d (d5 o),.d (d5 o),.d (il (o.getD []).length),.d (il (i:Nat)),.d p0,.d p1,.d p2]) (fun i rs=>[.d (il s),.d x0,.d x1,.d x2,.d (d5 o),.d (d5 o),.d (il (o.getD []).length),.d (il (i:Nat)),.r rs,.d p0,.d p1,.d p2,.n rs.length,.n rs.length]) [.d x0,.d x1,.d x2,.d (d5 o),.d p0,.d p1,.d p2] (fun rs=>[.d x0,.d x1,.d x2,.d (d5 o),.r rs,.d p0,.d p1,.d p2,.n rs.length,.n rs.length]) ?_ ?_ ?_ ?_
 ·intro q;simp [L45_6]
 ·intro rs q;simp [L45_7]
 ·intro i c q hi hlt hw
  simp only [L45_6,q02,q05,q0p,q01,hlt,decide_true,if_true,qfB hi,q0D,q0y,q0v,q0C,q0q,List.length_cons,List.length_nil,List.take_succ_cons,List.take_zero,q0V,q0t,q03,q0k,hw,r5,q08,q0r,q0w]
  by_cases hc:c.src=s
  ·simp [hc]
  ·simp only [hc,ne_eq,not_false_eq_true,decide_true,decide_false,Bool.not_false,if_true]
   rw [if_pos (by simp [])]
 ·intro i c rs q hi hlt hw hrs
  simp only [L45_7,q02,q05,q0B,q0A,q0x,q0E,q0p,q01,hlt,decide_true,if_true,qfB hi,q0D,q0y,q0v,q0C,q0q,List.length_cons,List.length_nil,List.take_succ_cons,List.take_zero,q0t,q03,q0k,hw,r5,q08,q0r,q0w,q18,q1S,List.length_append]
  by_cases hc:c.src=s
  ·simp [hc]
  ·simp only [hc,ne_eq,not_false_eq_true,decide_true,decide_false,Bool.not_false,if_true]
   rw [if_pos (by simp [];omega)]
def q8i (s:Int) (a b c:List E9) (o:List E5):Bool:=decide (((wo9 s a).length:Int)+(wo9 s b).length+(wo9 s c).length+(wo5 s o).length < (a.length:Int)+b.length+c.length+o.length)
theorem q7Q (s:Int) (a b c:List E9) (o:List E5):q8i s a b c o=false↔q4v s a b c o:=by
 have h1:=q23 s a;have h2:=q23 s b;have h3:=q23 s c;have h4:=q7w s o
 unfold q8i q4v
 rw [decide_eq_false_iff_not]
 omega
theorem qj2 {Fn:Nat→List D→Out} {FnD:D→List Sh→List D→Out} {m:Nat} {l:List E9} {e0:List Yr} {e1:Rr→List Yr} {k0 k1:List Yr→Out} {R:D→Out} (h0:k0 e0=R (.lit (.slice none 0 0))) (h1:∀ w ws,k1 (e1 (w::ws))=R (.sl 9 (w::ws))) :
  (q06 Fn FnD m).bnd (q3H e0 e1 (l.map r9)) [k0,k1]=R (d9 (nzO l)):=by
 rw [←nz9];exact q2q h0 h1
theorem collL {Fn:Nat→List D→Out} {FnD:D→List Sh→List D→Out} {m:Nat} {l:List E5} {e0:List Yr} {e1:Rr→List Yr} {k0 k1:List Yr→Out} {R:D→Nat→Out} (h0:k0 e0=R (.lit (.slice none 0 0)) 0) (h1:∀ w ws,(w::ws).length=l.length→k1 (e1 (w::ws))=R (.sl 5 (w::ws)) l.length) :
  (q06 Fn FnD m).bnd (q3H e0 e1 (l.map r5)) [k0,k1]=R (d5 (nzO l)) l.length:=by
 cases l with
 | nil=>exact h0
 | cons x xs=>exact h1 (r5 x) (xs.map r5) (by simp)
set_option maxRecDepth 20000 in
theorem s45 (n:Nat) (s:Int) (a b c:Option (List E9)) (o:Option (List E5)) (ha:(a.getD []).length*72≤140737488351232) (hb:(b.getD []).length*72≤140737488351232) (hc:(c.getD []).length*72≤140737488351232) (ho:(o.getD []).length*40≤140737488351232) :
  FN (n+1) 45 [d9 a,d9 b,d9 c,d5 o,il s]=some (0,[.d (d9 (nzO (wo9 s (a.getD [])))),.d (d9 (nzO (wo9 s (b.getD [])))),.d (d9 (nzO (wo9 s (c.getD [])))),.d (d5 (nzO (wo5 s (o.getD [])))),.d (bl (q8i s (a.getD []) (b.getD []) (c.getD []) (o.getD [])))]):=by
 rw [F45]
 have f9:∀ l:List E9,l.filterMap (fun e=>if !decide (e.src=s) then some (r9 e) else none)=(wo9 s l).map r9:=fun l=>q2m _ _ l
 have f5:∀ l:List E5,l.filterMap (fun e=>if !decide (e.src=s) then some (r5 e) else none)=(wo5 s l).map r5:=fun l=>q2m _ _ l
 have h1:=q23 s (a.getD []);have h2:=q23 s (b.getD []);have h3:=q23 s (c.getD []);have h4:=q7w s (o.getD [])
 simp only [G45,q5J,q03,q0n,l45_0 n s a ha,f9]
 rw [qj2 (R:=fun d=>some (0,[.d (il s),.d (d9 a),.d (d9 b),.d (d9 c),.d (d5 o),.d d])) (by simp) (by intros;simp)]
 simp only [q00,q02,q05,q5J,l45_1 n s b hb,f9]
 rw [qj2 (R:=fun d=>some (0,[.d (il s),.d (d9 a),.d (d9 b),.d (d9 c),.d (d5 o),.d (d9 (nzO (wo9 s (a.getD [])))),.d d])) (by simp) (by intros;simp)]
 simp only [q00,q02,q05,q5J,l45_2 n s c hc,f9]
 rw [qj2 (R:=fun d=>some (0,[.d (il s),.d (d9 a),.d (d9 b),.d (d9 c),.d (d5 o),.d (d9 (nzO (wo9 s (a.getD [])))),.d (d9 (nzO (wo9 s (b.getD [])))),.d d])) (by simp) (by intros;simp)]
 simp only [q00,q02,q05,qfD,l45_3 n s o ho,f5]
 rw [collL (R:=fun d z=>some (0,[.d (d9 (nzO (wo9 s (a.getD [])))),.d (d9 (nzO (wo9 s (b.getD [])))),.d (d9 (nzO (wo9 s (c.getD [])))),.d d,.d (bl (decide (((wo9 s (a.getD [])).length:Int)+(wo9 s (b.getD [])).length+(wo9 s (c.getD [])).length+(z:Nat) < ((a.getD []).length:Int)+(b.getD []).length+(c.getD []).length+(o.getD []).length)))])) ?_ ?_]
 ·rfl
 ·simp only [q02,q05,q5J,qfD,q0b,q0k,q0p,q0e,q12]
  rw [q0f (x:=((wo9 s (a.getD [])).length:Int)+(wo9 s (b.getD [])).length) (by omega) (by omega),q0f (x:=((wo9 s (a.getD [])).length:Int)+(wo9 s (b.getD [])).length+(wo9 s (c.getD [])).length) (by omega) (by omega),q0f (x:=((wo9 s (a.getD [])).length:Int)+(wo9 s (b.getD [])).length+(wo9 s (c.getD [])).length+0) (by omega) (by omega),
   q0f (x:=((a.getD []).length:Int)+(b.getD []).length) (by omega) (by omega),q0f (x:=((a.getD []).length:Int)+(b.getD []).length+(c.getD []).length) (by omega) (by omega),q0f (x:=((a.getD []).length:Int)+(b.getD []).length+(c.getD []).length+(o.getD []).length) (by omega) (by omega)]
  rfl
 ·intro w ws hz
  simp only [q02,q05,q0x,q0E,q0B,q0A,q5J,qfD,q0b,q0k,q5y,q0p,q0e,q0y,q0C,if_true,q1f,q0q,List.take_length]
  simp only [hz]
  rw [q0f (x:=((wo9 s (a.getD [])).length:Int)+(wo9 s (b.getD [])).length) (by omega) (by omega),q0f (x:=((wo9 s (a.getD [])).length:Int)+(wo9 s (b.getD [])).length+(wo9 s (c.getD [])).length) (by omega) (by omega),q0f (x:=((wo9 s (a.getD [])).length:Int)+(wo9 s (b.getD [])).length+(wo9 s (c.getD [])).length+(wo5 s (o.getD [])).length) (by omega) (by omega),
   q0f (x:=((a.getD []).length:Int)+(b.getD []).length) (by omega) (by omega),q0f (x:=((a.getD []).length:Int)+(b.getD []).length+(c.getD []).length) (by omega) (by omega),q0f (x:=((a.getD []).length:Int)+(b.getD []).length+(c.getD []).length+(o.getD []).length) (by omega) (by omega)]
end Go.VE
namespace Go.VE
open Go.RowKit Go.Proofs
theorem s31 (n:Nat) (a:Option (List E9)) (b c o:D) (hl:(a.getD []).length≤1000000):FN (n+2) 31 [d9 a,b,c,o]=some (0,[.d (dI (nzO (q0O (a.getD []))))]):=by
 rw [F31]
 simp only [G31,q5J,q03,q0n]
 by_cases hne:a.getD []=[]
 ·rw [hne]
  have h0:q0u [L31_0 (RP (n+1)),L31_1 (RP (n+1))] M0 0 [.d (d9 a),.d (il (([]:List E9).length:Int)),.d (il 0)]=some (0,[]) :=
   q2i (σ:=Unit) [L31_0 (RP (n+1)),L31_1 (RP (n+1))] (fun _=>(0,[.d (d9 a),.d (il (([]:List E9).length:Int)),.d (il 0)])) (fun _=>0) (fun _=>True) (fun _=>some (0,[])) (fun s k _ _=>⟨_,rfl,by simp [L31_0]⟩) M0 () trivial (by unfold M0;omega)
  rw [h0]
  rfl
 ·have hL:((a.getD []).map (·.a)).length=(a.getD []).length:=by simp
  have hat:∀ (i:Nat) (x:Int),((a.getD []).map (·.a))[i]?=some x→∃ e,(a.getD [])[i]?=some e∧e.a=x:=fun i x hi=>by
   rw [List.getElem?_map] at hi
   cases h0:(a.getD [])[i]? with
   | none=>rw [h0] at hi;simp at hi
   | some e=>rw [h0] at hi;exact ⟨e,rfl,by simpa using hi⟩
  have:=q7F ((a.getD []).map (·.a)) (by simpa using hl) (by simpa using hne) (L31_0 (RP (n+1))) (L31_1 (RP (n+1))) (fun i=>[.d (d9 a),.d (il (a.getD []).length),.d (il (i:Nat))])
   (fun i acc=>[.d (dI (some acc)),.d (d9 a),.d (il (a.getD []).length),.d (il (i:Nat))]) (fun acc=>some (1,[.d (dI (some acc))])) ?_ ?_ ?_
  ·rw [show il 0=il ((0:Nat):Int) from rfl,this,qed (qbZ hne)]
   simp [q0O]
  ·intro acc k
   rw [hL]
   simp [L31_1]
  ·intro x k hi hlt
   rw [hL] at hlt
   obtain ⟨e,he,rfl⟩:=hat _ _ hi
   have h9:=q41 (Fn:=FN (n+1)) (FnD:=q1w Tryz.prog (cf3 tb Tryz.prog) (FN (n+1))) (m:=M0) he
   simp only [L31_0,q02,q05,q0p,q01,Int.natCast_zero,hlt,decide_true,if_true]
   rw [show ((il 0):D)=il ((0:Nat):Int) from rfl,h9]
   simp only [r9,q08,q0r,q07,q12,q9b,q00,q02,q03,q0k,Int.natCast_zero]
   rw [show IntKind.i64.wrap (0+1)=((1:Nat):Int) from rfl]
  ·intro i x acc k hi hlt hw hu hal
   rw [hL] at hlt
   obtain ⟨e,he,rfl⟩:=hat _ _ hi
   have hput:=s92 n (some acc) e.a (by simp only [Option.getD_some];omega) hu
   simp only [Option.getD_some] at hput
   simp only [L31_1,q02,q05,q0p,q01,hlt,decide_true,if_true,q41 he,r9,q08,q0r,q07,hput,q00,q03,q0k,hw]
section
variable {a b c:List E9} {o:List E5} (n:Nat) (f d x3 p:Int) (hd:0≤d∧d≤4166) (g:GoodK a b c o) (P:List Int) (hP:P.length≤1000000)
include hd g hP
end
end Go.VE
namespace Go.VE
open Go.RowKit Go.Proofs
section
variable {a b c a' b' c':List E9} {o o':List E5} (n:Nat) (d:Int) (hd:0≤d∧d≤4166) (g:GoodK a b c o) (g':GoodK a' b' c' o') (P:List Int) (hP:P.length≤1000000)
include hd g g' hP
end
section
variable (n:Nat) (p f d k l:Int) (a b c:Option (List E9)) (o:Option (List E5)) (ha:(a.getD []).length*72≤140737488351232) (hb:(b.getD []).length*72≤140737488351232) (hc:(c.getD []).length*72≤140737488351232) (ho:(o.getD []).length*40≤140737488351232)
include ha hb hc ho
end
end Go.VE
namespace Go.VE
open Go.RowKit Go.Shelf Go.Proofs
set_option maxRecDepth 100000
def rho:Ren:=⟨fun x=>if x=21 then 159 else if x=27 then 212 else if x=28 then 213 else if x=35 then 217 else if x=39 then 220 else 0,fun x=>if x=22 then 30 else x,fun x=>x⟩
theorem lays21:Lays2.n21 Tryz.prog rho where
 mixed:=by kernel_rfl
 f21:=by kernel_rfl
 f27:=by kernel_rfl
 f28:=by kernel_rfl
 f35:=by kernel_rfl
 f39:=by kernel_rfl
 t0:=by kernel_rfl
 a0:=fun w=>by kernel_rfl
 z0:=fun w=>by kernel_rfl
 v0:=fun w=>by kernel_rfl
 t3:=by kernel_rfl
 a3:=fun w=>by kernel_rfl
 z3:=fun w=>by kernel_rfl
 v3:=fun w=>by kernel_rfl
 t4:=by kernel_rfl
 a4:=fun w=>by kernel_rfl
 z4:=fun w=>by kernel_rfl
 v4:=fun w=>by kernel_rfl
 t22:=by kernel_rfl
 a22:=fun w=>by kernel_rfl
 z22:=fun w=>by kernel_rfl
 v22:=fun w=>by kernel_rfl
 i3:=by kernel_rfl
theorem qi8:qfJ Tryz.prog (cf3 tb Tryz.prog):=by
 intro f p h
 by_cases hf:f=159
 ·subst hf
  have e:(cf3 tb Tryz.prog).sp 159=some (1,3,8):=by kernel_rfl
  rw [e] at h
  cases h
  exact qcf lays21
 ·exfalso
  have e:(cf3 tb Tryz.prog).sp f=none:=by
   show spT f=none
   unfold spT
   split
   ·exact absurd rfl hf
   ·rfl
  rw [e] at h
  cases h
end Go.VE
namespace Go.VE
open Go.RowKit Go.Proofs Go.Proofs.YtobeabinccohlaaGreat
set_option maxRecDepth 100000
theorem qis:Tryz.prog.follows .mixedOrders=true:=lays21.mixed
theorem qfy (n:Nat):qdr Tryz.prog (cf3 tb Tryz.prog) (FN n):=qhZ qis qi8 n
theorem qaH (n:Nat):qha Tryz.prog (cf3 tb Tryz.prog) (FN n):=qjh qis qi8 n
theorem own:ownKnob Tryz.prog.godebug=none:=by kernel_rfl
theorem q7z:laidOutB Tryz.prog=true:=by kernel_rfl
theorem o3 {n:Nat} {ds:List D} (h:HasT Tryz.prog (n+1) 3 ds):∃ z,ds=[il z]∧-9223372036854775808≤z∧z≤9223372036854775807:=h.int Tryz.underlying3
theorem o47 {n:Nat} {ds:List D} (h:HasT Tryz.prog (n+2) 47 ds):∃ a b,ds=[il a,il b]:=by
 obtain ⟨a,b,rfl,h1,c,d,rfl,h2,rfl⟩:=h.struct Tryz.underlying47 rfl
 obtain ⟨x,rfl,_⟩:=o3 h1
 obtain ⟨y,rfl,_⟩:=o3 h2
 exact ⟨x,y,rfl⟩
theorem oE9 {n:Nat} {ds:List D} (h:q4j (HasT Tryz.prog (n+2)) [3,3,3,47,47,3,3] ds):∃ e:E9,ds=r9 e:=by
 obtain ⟨a1,b1,rfl,h1,a2,b2,rfl,h2,a3,b3,rfl,h3,a4,b4,rfl,h4,a5,b5,rfl,h5,a6,b6,rfl,h6,a7,b7,rfl,h7,rfl⟩:=h
 obtain ⟨x1,rfl,_⟩:=o3 h1
 obtain ⟨x2,rfl,_⟩:=o3 h2
 obtain ⟨x3,rfl,_⟩:=o3 h3
 obtain ⟨y1,y2,rfl⟩:=o47 h4
 obtain ⟨z1,z2,rfl⟩:=o47 h5
 obtain ⟨x6,rfl,_⟩:=o3 h6
 obtain ⟨x7,rfl,_⟩:=o3 h7
 exact ⟨⟨x1,x2,x3,y1,y2,z1,z2,x6,x7⟩,rfl⟩
theorem o82 {n:Nat} {ds:List D} (h:HasT Tryz.prog (n+3) 82 ds):∃ e:E5,ds=r5 e:=by
 obtain ⟨a1,b1,rfl,h1,a2,b2,rfl,h2,a3,b3,rfl,h3,a4,b4,rfl,h4,a5,b5,rfl,h5,rfl⟩:=h.struct Tryz.underlying82 rfl
 obtain ⟨x1,rfl,_⟩:=o3 h1
 obtain ⟨x2,rfl,_⟩:=o3 h2
 obtain ⟨x3,rfl,_⟩:=o3 h3
 obtain ⟨x4,rfl,_⟩:=o3 h4
 obtain ⟨x5,rfl,_⟩:=o3 h5
 exact ⟨⟨x1,x2,x3,x4,x5⟩,rfl⟩
theorem qc1 {α:Type} {f:α→List D}:∀ {o:Option Rr},(∀ r∈o.getD [],∃ c,r=f c)→∃ q:Option (List α),o=q.map (·.map f)
 | none,_=>⟨none,rfl⟩
 | some rows,h=>by
  obtain ⟨l,hl⟩:=qbH (f:=f) (rows:=rows) h
  exact ⟨some l,by rw [hl];rfl⟩
theorem qeb {n t e:Nat} {ds:List D} (hu:Tryz.prog.underlying t=some (.slice e)) (hc:Tryz.prog.cellsOf e=9) (hb:Tryz.prog.bytesOf e=72) (he:∀ r,HasT Tryz.prog (n+3) e r→∃ x:E9,r=r9 x) (h:HasT Tryz.prog (n+4) t ds):∃ o:Option (List E9),ds=[d9 o]∧(o.getD []).length*72≤140737488351232:=by
 obtain ⟨o,rfl,h1,h2⟩:=h.sl hu hc hb
 obtain ⟨q,rfl⟩:=qc1 (f:=r9) fun r hr=>he r (h2 r hr)
 refine ⟨q,rfl,?_⟩
 cases q with
 | none=>simp
 | some l=>simpa using h1
theorem o50 {n:Nat} {r:List D} (h:HasT Tryz.prog (n+3) 50 r):∃ x:E9,r=r9 x:=oE9 (h.struct Tryz.underlying50 rfl)
theorem o52 {n:Nat} {r:List D} (h:HasT Tryz.prog (n+3) 52 r):∃ x:E9,r=r9 x:=oE9 (h.struct Tryz.underlying52 rfl)
theorem o54 {n:Nat} {r:List D} (h:HasT Tryz.prog (n+3) 54 r):∃ x:E9,r=r9 x:=oE9 (h.struct Tryz.underlying54 rfl)
theorem o25 {n:Nat} {ds:List D} (h:HasT Tryz.prog (n+4) 25 ds):∃ o:Option (List E5),ds=[d5 o]∧(o.getD []).length*40≤140737488351232:=by
 obtain ⟨o,rfl,h1,h2⟩:=h.sl (c:=5) (b:=40) Tryz.underlying25 (by kernel_rfl) (by kernel_rfl)
 obtain ⟨q,rfl⟩:=qc1 (f:=r5) fun r hr=>o82 (h2 r hr)
 refine ⟨q,rfl,?_⟩
 cases q with
 | none=>simp
 | some l=>simpa using h1
theorem o27 {n:Nat} {ds:List D} (h:HasT Tryz.prog (n+5) 27 ds):∃ (a b c:Option (List E9)) (o:Option (List E5)),ds=[d9 a,d9 b,d9 c,d5 o]∧(a.getD []).length*72≤140737488351232∧(b.getD []).length*72≤140737488351232∧(c.getD []).length*72≤140737488351232∧(o.getD []).length*40≤140737488351232:=by
 obtain ⟨a1,b1,rfl,h1,a2,b2,rfl,h2,a3,b3,rfl,h3,a4,b4,rfl,h4,rfl⟩:=h.struct Tryz.underlying27 rfl
 obtain ⟨a,rfl,ha⟩:=qeb Tryz.underlying22 (by kernel_rfl) (by kernel_rfl) (fun r hr=>o50 hr) h1
 obtain ⟨b,rfl,hb⟩:=qeb Tryz.underlying23 (by kernel_rfl) (by kernel_rfl) (fun r hr=>o52 hr) h2
 obtain ⟨c,rfl,hc⟩:=qeb Tryz.underlying24 (by kernel_rfl) (by kernel_rfl) (fun r hr=>o54 hr) h3
 obtain ⟨o,rfl,ho⟩:=o25 h4
 exact ⟨a,b,c,o,rfl,ha,hb,hc,ho⟩
theorem o29 {n:Nat} {ds:List D} (h:HasT Tryz.prog (n+2) 29 ds):∃ p f d k,ds=[il p,il f,il d,il k]:=by
 obtain ⟨a1,b1,rfl,h1,a2,b2,rfl,h2,a3,b3,rfl,h3,a4,b4,rfl,h4,rfl⟩:=h.struct Tryz.underlying29 rfl
 obtain ⟨x1,rfl,_⟩:=o3 h1
 obtain ⟨x2,rfl,_⟩:=o3 h2
 obtain ⟨x3,rfl,_⟩:=o3 h3
 obtain ⟨x4,rfl,_⟩:=o3 h4
 exact ⟨x1,x2,x3,x4,rfl⟩
end Go.VE
namespace Go.VE
open Go.RowKit Go.Proofs
end Go.VE
namespace Go.VE
open Go.RowKit Go.Proofs
structure Nar1 (x e:E9):Prop where
 src:x.src=e.src
 a:x.a=e.a
 b:x.b=e.b
 kn:x.kn=e.kn
 un:x.un=e.un
 f:e.f1≤x.f1∧x.f1≤x.f2∧x.f2≤e.f2
 t:e.t1≤x.t1∧x.t1≤x.t2∧x.t2≤e.t2
def NarL:List E9→List E9→Prop
 | [],[]=>True
 | x::l,e::m=>Nar1 x e∧NarL l m
 | _,_=>False
theorem NarL.app:∀ {l1 m1 l2 m2:List E9},NarL l1 m1→NarL l2 m2→NarL (l1++l2) (m1++m2)
 | [],[],_,_,_,h=>h
 | _::_,_::_,_,_,h1,h2=>⟨h1.1,NarL.app h1.2 h2⟩
theorem NarL.rev:∀ {l m:List E9},NarL l m→NarL l.reverse m.reverse
 | [],[],_=>trivial
 | x::l,e::m,h=>by
  rw [List.reverse_cons,List.reverse_cons]
  exact NarL.app (NarL.rev h.2) ⟨h.1,trivial⟩
theorem NarL.len:∀ {l m:List E9},NarL l m→l.length=m.length
 | [],[],_=>rfl
 | x::l,e::m,h=>by simp [NarL.len h.2]
theorem qaA (l:List E9):below l l.length=l.reverse:=by simp [below]
theorem NarL.below {l m:List E9} (h:NarL l m):NarL (below l l.length) (below m m.length):=by
 rw [qaA,qaA];exact h.rev
theorem NarL.cnt (k:Int):∀ {l m:List E9},NarL l m→NarL (q0T k l) (q0T k m)
 | [],[],_=>trivial
 | x::l,e::m,h=>by
  have ih:=NarL.cnt k h.2
  unfold q0T at ih ⊢
  rw [List.filter_cons,List.filter_cons,h.1.kn,h.1.un]
  split
  ·exact ⟨h.1,ih⟩
  ·exact ih
theorem NarL.mem:∀ {l m:List E9},NarL l m→∀ x∈l,∃ e∈m,Nar1 x e
 | [],[],_,x,hx=>by simp at hx
 | y::l,e::m,h,x,hx=>by
  rcases List.mem_cons.1 hx with rfl | hx
  ·exact ⟨e,by simp,h.1⟩
  ·obtain ⟨e',h1,h2⟩:=NarL.mem h.2 x hx
   exact ⟨e',by simp [h1],h2⟩
theorem Nar1.rfl' {e:E9} (h:e.f1≤e.f2∧e.t1≤e.t2):Nar1 e e:=⟨rfl,rfl,rfl,rfl,rfl,⟨by omega,h.1,by omega⟩,⟨by omega,h.2,by omega⟩⟩
theorem NarL.rfl':∀ {l:List E9},(∀ e∈l,e.f1≤e.f2∧e.t1≤e.t2)→NarL l l
 | [],_=>trivial
 | e::l,h=>⟨Nar1.rfl' (h e (by simp)),NarL.rfl' fun e he=>h e (by simp [he])⟩
theorem NarL.set:∀ {l:List E9} {i:Nat} {x e:E9},(∀ e∈l,e.f1≤e.f2∧e.t1≤e.t2)→l[i]?=some e→Nar1 x e→NarL (l.set i x) l
 | [],i,x,e,_,h,_=>by simp at h
 | y::l,0,x,e,h,hi,hx=>by
  simp at hi;subst hi
  exact ⟨hx,NarL.rfl' fun e he=>h e (by simp [he])⟩
 | y::l,i+1,x,e,h,hi,hx=>⟨Nar1.rfl' (h y (by simp)),NarL.set (fun e he=>h e (by simp [he])) (by simpa using hi) hx⟩
end Go.VE
namespace Go.VE
open Go.RowKit Go.Proofs
end Go.VE
namespace Go.VE
open Go.RowKit Go.Proofs
theorem qay {Fn:Nat→List D→Out} {FnD:D→List Sh→List D→Out} {m:Nat} {X:Out} (V:Out) {ks:List (List Yr→Out)} {R:Out} (h1:X=V) (h2:(q06 Fn FnD m).bnd V ks=R):(q06 Fn FnD m).bnd X ks=R:=by rw [h1];exact h2
end Go.VE
namespace Go.VE
open Go.RowKit Go.Proofs
section
variable {Fn:Nat→List D→Out} {FnD:D→List Sh→List D→Out} {m:Nat}
end
end Go.VE
namespace Go.VE
open Go.RowKit Go.Proofs
theorem NarL.as:∀ {l m:List E9},NarL l m→l.map (·.a)=m.map (·.a)
 | [],[],_=>rfl
 | x::l,e::m,h=>by rw [List.map_cons,List.map_cons,h.1.a,NarL.as h.2]
end Go.VE
namespace Go.VE
open Go.RowKit Go.Proofs
theorem q9z {T:Tb3} {P:Program} {Fn:Nat→List D→Out} {t f:Nat} {name:String} {row:List D} {sh:List Sh} {xs:List D} {z w:D} (hlt:f < 1000000) (hm:qhA P t name=some f) (hash:T.ash f=some sh) (hx:q1U sh [.agg row]=some xs)
  (hr:T.rsk f=[[(false,[.d]),(false,[.d])]]) (hf:Fn f xs=some (0,[.d z,.d w])):q1w P (cf3 T P) Fn (.ifc t true row) [.met name 2] []=some (0,[.d z,.d w]):=by
 have h1:(cf3 T P).ash f=some sh:=by simp only [cf3,if_pos hlt,hash]
 have h2:(cf3 T P).rsk f=[[(false,[.d]),(false,[.d])]]:=hr
 show qbp P (cf3 T P) Fn t true row [.met name 2]=_
 simp only [qbp,hm,invV,h1,h2,hx,hf]
 rfl
theorem tim200 (n:Nat) (e:E9):FD (n+1) (.ifc 200 true (r9 e)) [.met "leazing/family.times" 2] []=some (0,[.d (il e.kn),.d (il e.un)]) :=
 q9z (f:=237) (sh:=[.agg 9]) (xs:=r9 e) (by decide) (by kernel_rfl) (by kernel_rfl) rfl (by kernel_rfl) (by rw [r9,F237];simp [G237])
theorem tim201 (n:Nat) (e:E9):FD (n+1) (.ifc 201 true (r9 e)) [.met "leazing/family.times" 2] []=some (0,[.d (il e.kn),.d (il e.un)]) :=
 q9z (f:=239) (sh:=[.agg 9]) (xs:=r9 e) (by decide) (by kernel_rfl) (by kernel_rfl) rfl (by kernel_rfl) (by rw [r9,F239];simp [G239])
theorem tim202 (n:Nat) (e:E9):FD (n+1) (.ifc 202 true (r9 e)) [.met "leazing/family.times" 2] []=some (0,[.d (il e.kn),.d (il e.un)]) :=
 q9z (f:=241) (sh:=[.agg 9]) (xs:=r9 e) (by decide) (by kernel_rfl) (by kernel_rfl) rfl (by kernel_rfl) (by rw [r9,F241];simp [G241])
theorem tim203 (n:Nat) (e:E5):FD (n+1) (.ifc 203 true (r5 e)) [.met "leazing/family.times" 2] []=some (0,[.d (il e.kn),.d (il e.un)]) :=
 q9z (f:=243) (sh:=[.agg 5]) (xs:=r5 e) (by decide) (by kernel_rfl) (by kernel_rfl) rfl (by kernel_rfl) (by rw [r5,F243];simp [G243])
def tm (kn un:Int):List Int:=if un=0 then [kn] else [kn,un]
def tmL {α:Type} (kn un:α→Int) (l:List α):List Int:=l.flatMap fun e=>tm (kn e) (un e)
theorem q92 {α:Type} (kn un:α→Int) (e:α) (l:List α):tmL kn un (e::l)=tm (kn e) (un e)++tmL kn un l:=rfl
theorem q28 (acc l m:List Int):q0a acc (l++m)=q0a (q0a acc l) m:=List.foldl_append ..
theorem qhh (kn un:Int):(tm kn un).length≤2:=by unfold tm;split<;>simp
theorem tm_ne (kn un:Int) (acc:List Int):q0a acc (tm kn un)≠[]:=q3f _ (by unfold tm;split<;>simp)
theorem qhG (kn un:Int) (acc:List Int):(q0a acc (tm kn un)).length≤acc.length+2:=by
 have h1:=q3R (tm kn un) acc;have h2:=qhh kn un;omega
def stA (x2 x3 x4 x5 x6 l:D) (len i:Int) (acc:List Int):List Yr:=[.n acc.length,.n acc.length,.d x2,.d x3,.d x4,.d x5,.d x6,.d l,.d (il len),.d (il i),.r (acc.map rI)]
section
variable {α:Type} {F:α→D} {kn un:α→Int}
set_option maxRecDepth 20000 in
theorem b44_18 (n:Nat) (hs:∀ e,FD (n+4) (F e) [.met "leazing/family.times" 2] []=some (0,[.d (il (kn e)),.d (il (un e))])) {l:List α} {i:Nat} {e:α} (hi:l[i]?=some e) (hlt:(i:Int) < (l.length:Int)) (hw:IntKind.i64.wrap ((i:Int)+1)=(i:Int)+1) {acc:List Int} (hu:Up acc) (ha:acc.length≤1000000) (x2 x3 x4 x5 x6:D) (k:Nat→List Yr→Out) :
  L44_18 (RP (n+4)) k (stA x2 x3 x4 x5 x6 (dEn F l) l.length i acc)=k 0 (stA x2 x3 x4 x5 x6 (dEn F l) l.length ((i:Int)+1) (q0a acc (tm (kn e) (un e)))):=by
 have hse:q1w Tryz.prog (cf3 tb Tryz.prog) (FN (n+4)) (F e) [.met "leazing/family.times" 2] []=some (0,[.d (il (kn e)),.d (il (un e))]):=hs e
 have p1:=q1j n acc (kn e) (by omega) hu
 have hl1:=q2Q (kn e) acc
 have p2:=q1j n (ins (kn e) acc) (un e) (by omega) (q3s _ hu)
 simp only [stA,L44_18,q02,q05,q0B,q0A,q0x,q0E,q0p,q01,hlt,decide_true,if_true,rowE hi,q08,q2P,hse,q00,q0y,List.length_map,q0C,q1f,q07,p1,q0X,q03,q0w,q0k,hw]
 by_cases h:un e=0
 ·simp [h,tm,q0a]
 ·simp only [h,ne_eq,not_false_eq_true,decide_true,if_true,p2,q00,q02,q0X,List.length_map,tm,if_false,q0a,List.foldl_cons,List.foldl_nil]
set_option maxRecDepth 20000 in
theorem qcq (n:Nat) (hs:∀ e,FD (n+4) (F e) [.met "leazing/family.times" 2] []=some (0,[.d (il (kn e)),.d (il (un e))])) (l:List α) (hl:l.length≤60) {acc:List Int} (hu:Up acc) (ha:acc.length≤1000) (x2 x3 x4 x5 x6:D) :
  q0u [L44_18 (RP (n+4))] M0 0 (stA x2 x3 x4 x5 x6 (dEn F l) l.length 0 acc)=some (0,[.n (q0a acc (tmL kn un l)).length,.n (q0a acc (tmL kn un l)).length,.d x2,.d x3,.d x4,.d x5,.d x6,.r ((q0a acc (tmL kn un l)).map rI)]):=by
 have:=q0z (β:=List Int) l (by omega) (L44_18 (RP (n+4))) (fun i acc=>stA x2 x3 x4 x5 x6 (dEn F l) l.length i acc) (fun i acc=>Up acc∧acc.length≤1000+2*i)
  (fun _ r acc=>some (0,[.n (q0a acc (tmL kn un r)).length,.n (q0a acc (tmL kn un r)).length,.d x2,.d x3,.d x4,.d x5,.d x6,.r ((q0a acc (tmL kn un r)).map rI)]))
  (fun b k _=>by simp [L44_18,stA,tmL,q0a]) ?_ M0 acc ⟨hu,by omega⟩ (by unfold M0;omega)
 ·simpa using this
 ·intro i e r acc k hi hd hlt hw hI ih
  rw [b44_18 n hs hi (by omega) hw hI.1 (by omega)]
  have:=qhG (kn e) (un e) acc
  have ih':=ih (q0a acc (tm (kn e) (un e))) ⟨q1l _ hI.1,by omega⟩
  rw [q92,q28]
  exact ih'
end
end Go.VE
namespace Go.VE
open Go.RowKit Go.Proofs
section
variable {α:Type} {F:α→D} {kn un:α→Int}
def enT (z:Nat→List Yr) (st:Nat→List Int→List Yr) (s:Nat×List Int):Nat×List Yr:=match s.2 with
 | []=>(0,z s.1)
 | y::r=>(2,st s.1 (y::r))
theorem qf2 (z:Nat→List Yr) (st:Nat→List Int→List Yr) {i:Nat} {acc:List Int} (h:acc≠[]):enT z st (i,acc)=(2,st i acc):=by
 cases acc with
 | nil=>exact absurd rfl h
 | cons _ _=>rfl
def stZ (x2 x3 x4 x5 x6 l:D) (len i:Int):List Yr:=[.d x2,.d x3,.d x4,.d x5,.d x6,.d l,.d (il len),.d (il i)]
def exT (x2 x3 x4 x5 x6:D):List Int→Out
 | []=>some (0,[.d x2,.d x3,.d x4,.d x5,.d x6])
 | y::r=>some (2,[.n (y::r).length,.n (y::r).length,.d x2,.d x3,.d x4,.d x5,.d x6,.r ((y::r).map rI)])
theorem exT_ne (x2 x3 x4 x5 x6:D) {l:List Int} (h:l≠[]):exT x2 x3 x4 x5 x6 l=some (2,[.n l.length,.n l.length,.d x2,.d x3,.d x4,.d x5,.d x6,.r (l.map rI)]):=by
 cases l with
 | nil=>exact absurd rfl h
 | cons _ _=>rfl
set_option maxRecDepth 20000 in
theorem b44_0 (n:Nat) (hs:∀ e,FD (n+4) (F e) [.met "leazing/family.times" 2] []=some (0,[.d (il (kn e)),.d (il (un e))])) {l:List α} {i:Nat} {e:α} (hi:l[i]?=some e) (hlt:(i:Int) < (l.length:Int)) (hw:IntKind.i64.wrap ((i:Int)+1)=(i:Int)+1) (x2 x3 x4 x5 x6:D) (k:Nat→List Yr→Out) :
  L44_0 (RP (n+4)) k (stZ x2 x3 x4 x5 x6 (dEn F l) l.length i)=k 2 (stA x2 x3 x4 x5 x6 (dEn F l) l.length ((i:Int)+1) (q0a [] (tm (kn e) (un e)))):=by
 have hse:q1w Tryz.prog (cf3 tb Tryz.prog) (FN (n+4)) (F e) [.met "leazing/family.times" 2] []=some (0,[.d (il (kn e)),.d (il (un e))]):=hs e
 have p1:=qgj (kn e) (n+1)
 have p2:=q1j n [kn e] (un e) (by simp) (by simp [Up])
 simp only [stZ,stA,L44_0,q02,q05,q0p,q01,hlt,decide_true,if_true,rowE hi,q08,q2P,hse,q00,q12,q07,p1,Bool.false_eq_true,if_false,q0D,q0v,q0y,List.length_cons,List.length_nil,q0C,q0V,q0q,List.take_succ_cons,List.take_zero,q0t,q03,q0w,q0k,hw]
 rw [if_pos (by simp),show ((il 0):D)=il ((0:Nat):Int) from rfl,qil _ _ _ _ (by simp)]
 by_cases h:un e=0
 ·simp [h,tm,q0a,ins,rI]
 ·simp only [h,ne_eq,not_false_eq_true,decide_true,if_true,List.take_nil,List.nil_append,List.drop_nil,List.append_nil,List.length_cons,List.length_nil,q1f]
  rw [show ((.sl 1 [[il (kn e)]]):D)=.sl 1 ([kn e].map rI) from rfl,p2]
  simp only [q00,q02,q0X,List.length_map,tm,h,if_false]
  rfl
set_option maxRecDepth 20000 in
theorem b44_2 (n:Nat) (hs:∀ e,FD (n+4) (F e) [.met "leazing/family.times" 2] []=some (0,[.d (il (kn e)),.d (il (un e))])) {l:List α} {i:Nat} {e:α} (hi:l[i]?=some e) (hlt:(i:Int) < (l.length:Int)) (hw:IntKind.i64.wrap ((i:Int)+1)=(i:Int)+1) {acc:List Int} (hu:Up acc) (ha:acc.length≤1000000) (x2 x3 x4 x5 x6:D) (k:Nat→List Yr→Out) :
  L44_2 (RP (n+4)) k (stA x2 x3 x4 x5 x6 (dEn F l) l.length i acc)=k 2 (stA x2 x3 x4 x5 x6 (dEn F l) l.length ((i:Int)+1) (q0a acc (tm (kn e) (un e)))):=by
 have hse:q1w Tryz.prog (cf3 tb Tryz.prog) (FN (n+4)) (F e) [.met "leazing/family.times" 2] []=some (0,[.d (il (kn e)),.d (il (un e))]):=hs e
 have p1:=q1j n acc (kn e) (by omega) hu
 have hl1:=q2Q (kn e) acc
 have p2:=q1j n (ins (kn e) acc) (un e) (by omega) (q3s _ hu)
 simp only [stA,L44_2,q02,q05,q0B,q0A,q0x,q0E,q0p,q01,hlt,decide_true,if_true,rowE hi,q08,q2P,hse,q00,q0y,List.length_map,q0C,q1f,q07,p1,q0X,q03,q0w,q0k,hw]
 by_cases h:un e=0
 ·simp [h,tm,q0a]
 ·simp only [h,ne_eq,not_false_eq_true,decide_true,if_true,p2,q00,q02,q0X,List.length_map,tm,if_false,q0a,List.foldl_cons,List.foldl_nil]
set_option maxRecDepth 20000 in
theorem qgT (n:Nat) (hs:∀ e,FD (n+4) (F e) [.met "leazing/family.times" 2] []=some (0,[.d (il (kn e)),.d (il (un e))])) (l:List α) (hl:l.length≤60) (x2 x3 x4 x5 x6:D) :
  q0u [L44_0 (RP (n+4)),L44_1 (RP (n+4)),L44_2 (RP (n+4))] M0 0 (stZ x2 x3 x4 x5 x6 (dEn F l) l.length 0)=exT x2 x3 x4 x5 x6 (q0a [] (tmL kn un l)):=by
 have key:=q2i (σ:=Nat×List Int) [L44_0 (RP (n+4)),L44_1 (RP (n+4)),L44_2 (RP (n+4))] (enT (fun i=>stZ x2 x3 x4 x5 x6 (dEn F l) l.length i) (fun i acc=>stA x2 x3 x4 x5 x6 (dEn F l) l.length i acc)) (fun s=>l.length - s.1)
  (fun s=>s.1≤l.length∧Up s.2∧s.2.length≤2*s.1∧(s.2=[]→s.1=0)) (fun s=>exT x2 x3 x4 x5 x6 (q0a s.2 (tmL kn un (l.drop s.1)))) ?_ M0 (0,[]) ⟨by simp,by simp,by simp,fun _=>rfl⟩ (by unfold M0;simp only;omega)
 ·simpa [enT] using key
 ·rintro ⟨i,acc⟩ k ⟨g1,g2,g3,g4⟩ ih
  simp only at g1 g2 g3 g4 ih ⊢
  by_cases h:i < l.length
  ·have hd:=List.drop_eq_getElem_cons h
   have hi:l[i]?=some l[i]:=List.getElem?_eq_getElem h
   have hw:IntKind.i64.wrap ((i:Int)+1)=(i:Int)+1:=q0f (by omega) (by omega)
   have hlen:=qhG (kn l[i]) (un l[i]) acc
   have ih':=ih (i+1,q0a acc (tm (kn l[i]) (un l[i]))) ⟨by simp only;omega,q1l _ g2,by simp only;omega,fun h=>absurd h (tm_ne _ _ _)⟩ (by simp only;omega)
   rw [hd,q92,q28]
   rw [qf2 _ _ (tm_ne _ _ _)] at ih'
   by_cases ha:acc=[]
   ·subst ha
    exact ⟨L44_0 (RP (n+4)),rfl,by rw [show (enT (fun i=>stZ x2 x3 x4 x5 x6 (dEn F l) l.length i) (fun i acc=>stA x2 x3 x4 x5 x6 (dEn F l) l.length i acc) (i,[])).2=stZ x2 x3 x4 x5 x6 (dEn F l) l.length i from rfl,b44_0 n hs hi (by omega) hw];exact ih'⟩
   ·rw [qf2 _ _ ha]
    exact ⟨L44_2 (RP (n+4)),rfl,by simp only;rw [b44_2 n hs hi (by omega) hw g2 (by omega)];exact ih'⟩
  ·have hil:i=l.length:=by omega
   subst hil
   simp only [List.drop_length]
   by_cases ha:acc=[]
   ·subst ha
    exact ⟨L44_0 (RP (n+4)),rfl,by simp [enT,L44_0,stZ,tmL,q0a,exT]⟩
   ·rw [qf2 _ _ ha]
    refine ⟨L44_2 (RP (n+4)),rfl,?_⟩
    rw [show q0a acc (tmL kn un [])=acc from rfl,exT_ne _ _ _ _ _ ha]
    simp [L44_2,stA]
end
end Go.VE
namespace Go.VE
open Go.RowKit Go.Proofs
section
variable {Fn:Nat→List D→Out} {FnD:D→List Sh→List D→Out} {m:Nat}
theorem qhs (a b c d:Out):(q06 Fn FnD m).selI 4 (il 0) [a,b,c,d]=a:=rfl
theorem qhr (a b c d:Out):(q06 Fn FnD m).selI 4 (il 1) [a,b,c,d]=b:=rfl
theorem qhq (a b c d:Out):(q06 Fn FnD m).selI 4 (il 2) [a,b,c,d]=c:=rfl
theorem qhp (a b c d:Out):(q06 Fn FnD m).selI 4 (il 3) [a,b,c,d]=d:=rfl
end
def enO (X0 X1 X2 X3:D) (z:Int):List Int→Nat×List Yr
 | []=>(0,[.d X0,.d X1,.d X2,.d X3,.d (il z)])
 | y::r=>(2,[.n (y::r).length,.n (y::r).length,.d X0,.d X1,.d X2,.d X3,.d (il z),.r ((y::r).map rI)])
theorem q3j (X0 X1 X2 X3:D) (z:Int) {l:List Int} (h:l≠[]):enO X0 X1 X2 X3 z l=(2,[.n l.length,.n l.length,.d X0,.d X1,.d X2,.d X3,.d (il z),.r (l.map rI)]):=by
 cases l with
 | nil=>exact absurd rfl h
 | cons _ _=>rfl
theorem q27 (l:List Int) {acc:List Int} (h:acc≠[]):q0a acc l≠[]:=by
 cases acc with
 | nil=>exact absurd rfl h
 | cons y r =>
  intro e
  have h1:=(q11 y l (y::r)).2 (.inl (by simp))
  rw [e] at h1;simp at h1
section
variable {α:Type} {F:α→D} {kn un:α→Int}
theorem o44_0 (n:Nat) (hs:∀ e,FD (n+4) (F e) [.met "leazing/family.times" 2] []=some (0,[.d (il (kn e)),.d (il (un e))])) (l:List α) (hl:l.length≤60) (X1 X2 X3:D) (k:Nat→List Yr→Out) :
  L44_12 (RP (n+4)) k (enO (dEn F l) X1 X2 X3 0 []).2=k (enO (dEn F l) X1 X2 X3 1 (q0a [] (tmL kn un l))).1 (enO (dEn F l) X1 X2 X3 1 (q0a [] (tmL kn un l))).2:=by
 have h:q0u [L44_0 (RP (n+4)),L44_1 (RP (n+4)),L44_2 (RP (n+4))] M0 0 [.d (dEn F l),.d X1,.d X2,.d X3,.d (il 0),.d (dEn F l),.d (il l.length),.d (il 0)]=exT (dEn F l) X1 X2 X3 (il 0) (q0a [] (tmL kn un l)):=qgT n hs l hl (dEn F l) X1 X2 X3 (il 0)
 have hw:IntKind.i64.wrap ((0:Int)+1)=1:=by decide
 have hlt:(0:Int) < 4:=by decide
 simp only [enO,L44_12,q02,q05,q03,q0p,hlt,decide_true,q01,if_true,qhs,qaI,q0n,h]
 cases q0a [] (tmL kn un l) with
 | nil=>simp only [exT,q00,q02,q05,q0k,hw]
 | cons y r=>simp only [exT,q9W,q02,q05,q0B,q0A,q0x,q0E,q0k,hw]
theorem p44_0 (n:Nat) (hs:∀ e,FD (n+4) (F e) [.met "leazing/family.times" 2] []=some (0,[.d (il (kn e)),.d (il (un e))])) (l:List α) (hl:l.length≤60) (X1 X2 X3:D) (k:Nat→List Yr→Out) {acc:List Int} (hu:Up acc) (ha:acc.length≤1000) (hne:acc≠[]) :
  L44_22 (RP (n+4)) k (enO (dEn F l) X1 X2 X3 0 acc).2=k 2 (enO (dEn F l) X1 X2 X3 1 (q0a acc (tmL kn un l))).2:=by
 have h:q0u [L44_18 (RP (n+4))] M0 0 [.n acc.length,.n acc.length,.d (dEn F l),.d X1,.d X2,.d X3,.d (il 0),.d (dEn F l),.d (il l.length),.d (il 0),.r (acc.map rI)]=some (0,[.n (q0a acc (tmL kn un l)).length,.n (q0a acc (tmL kn un l)).length,.d (dEn F l),.d X1,.d X2,.d X3,.d (il 0),.r ((q0a acc (tmL kn un l)).map rI)]):=qcq n hs l hl hu ha (dEn F l) X1 X2 X3 (il 0)
 have hw:IntKind.i64.wrap ((0:Int)+1)=1:=by decide
 have hlt:(0:Int) < 4:=by decide
 have hn:=q27 (tmL kn un l) hne
 rw [q3j _ _ _ _ _ hne,q3j _ _ _ _ _ hn]
 simp only [L44_22,q02,q05,q0B,q0A,q0x,q0E,q03,q0p,hlt,decide_true,q01,if_true,qhs,qaI,q0n,h,q00,q0k,hw]
theorem o44_1 (n:Nat) (hs:∀ e,FD (n+4) (F e) [.met "leazing/family.times" 2] []=some (0,[.d (il (kn e)),.d (il (un e))])) (l:List α) (hl:l.length≤60) (X0 X2 X3:D) (k:Nat→List Yr→Out) :
  L44_12 (RP (n+4)) k (enO X0 (dEn F l) X2 X3 1 []).2=k (enO X0 (dEn F l) X2 X3 2 (q0a [] (tmL kn un l))).1 (enO X0 (dEn F l) X2 X3 2 (q0a [] (tmL kn un l))).2:=by
 have h:q0u [L44_3 (RP (n+4)),L44_4 (RP (n+4)),L44_5 (RP (n+4))] M0 0 [.d X0,.d (dEn F l),.d X2,.d X3,.d (il 1),.d (dEn F l),.d (il l.length),.d (il 0)]=exT X0 (dEn F l) X2 X3 (il 1) (q0a [] (tmL kn un l)):=qgT n hs l hl X0 (dEn F l) X2 X3 (il 1)
 have hw:IntKind.i64.wrap ((1:Int)+1)=2:=by decide
 have hlt:(1:Int) < 4:=by decide
 simp only [enO,L44_12,q02,q05,q03,q0p,hlt,decide_true,q01,if_true,qhr,qaI,q0n,h]
 cases q0a [] (tmL kn un l) with
 | nil=>simp only [exT,q00,q02,q05,q0k,hw]
 | cons y r=>simp only [exT,q9W,q02,q05,q0B,q0A,q0x,q0E,q0k,hw]
theorem p44_1 (n:Nat) (hs:∀ e,FD (n+4) (F e) [.met "leazing/family.times" 2] []=some (0,[.d (il (kn e)),.d (il (un e))])) (l:List α) (hl:l.length≤60) (X0 X2 X3:D) (k:Nat→List Yr→Out) {acc:List Int} (hu:Up acc) (ha:acc.length≤1000) (hne:acc≠[]) :
  L44_22 (RP (n+4)) k (enO X0 (dEn F l) X2 X3 1 acc).2=k 2 (enO X0 (dEn F l) X2 X3 2 (q0a acc (tmL kn un l))).2:=by
 have h:q0u [L44_19 (RP (n+4))] M0 0 [.n acc.length,.n acc.length,.d X0,.d (dEn F l),.d X2,.d X3,.d (il 1),.d (dEn F l),.d (il l.length),.d (il 0),.r (acc.map rI)]=some (0,[.n (q0a acc (tmL kn un l)).length,.n (q0a acc (tmL kn un l)).length,.d X0,.d (dEn F l),.d X2,.d X3,.d (il 1),.r ((q0a acc (tmL kn un l)).map rI)]):=qcq n hs l hl hu ha X0 (dEn F l) X2 X3 (il 1)
 have hw:IntKind.i64.wrap ((1:Int)+1)=2:=by decide
 have hlt:(1:Int) < 4:=by decide
 have hn:=q27 (tmL kn un l) hne
 rw [q3j _ _ _ _ _ hne,q3j _ _ _ _ _ hn]
 simp only [L44_22,q02,q05,q0B,q0A,q0x,q0E,q03,q0p,hlt,decide_true,q01,if_true,qhr,qaI,q0n,h,q00,q0k,hw]
theorem o44_2 (n:Nat) (hs:∀ e,FD (n+4) (F e) [.met "leazing/family.times" 2] []=some (0,[.d (il (kn e)),.d (il (un e))])) (l:List α) (hl:l.length≤60) (X0 X1 X3:D) (k:Nat→List Yr→Out) :
  L44_12 (RP (n+4)) k (enO X0 X1 (dEn F l) X3 2 []).2=k (enO X0 X1 (dEn F l) X3 3 (q0a [] (tmL kn un l))).1 (enO X0 X1 (dEn F l) X3 3 (q0a [] (tmL kn un l))).2:=by
 have h:q0u [L44_6 (RP (n+4)),L44_7 (RP (n+4)),L44_8 (RP (n+4))] M0 0 [.d X0,.d X1,.d (dEn F l),.d X3,.d (il 2),.d (dEn F l),.d (il l.length),.d (il 0)]=exT X0 X1 (dEn F l) X3 (il 2) (q0a [] (tmL kn un l)):=qgT n hs l hl X0 X1 (dEn F l) X3 (il 2)
 have hw:IntKind.i64.wrap ((2:Int)+1)=3:=by decide
 have hlt:(2:Int) < 4:=by decide
 simp only [enO,L44_12,q02,q05,q03,q0p,hlt,decide_true,q01,if_true,qhq,qaI,q0n,h]
 cases q0a [] (tmL kn un l) with
 | nil=>simp only [exT,q00,q02,q05,q0k,hw]
 | cons y r=>simp only [exT,q9W,q02,q05,q0B,q0A,q0x,q0E,q0k,hw]
theorem p44_2 (n:Nat) (hs:∀ e,FD (n+4) (F e) [.met "leazing/family.times" 2] []=some (0,[.d (il (kn e)),.d (il (un e))])) (l:List α) (hl:l.length≤60) (X0 X1 X3:D) (k:Nat→List Yr→Out) {acc:List Int} (hu:Up acc) (ha:acc.length≤1000) (hne:acc≠[]) :
  L44_22 (RP (n+4)) k (enO X0 X1 (dEn F l) X3 2 acc).2=k 2 (enO X0 X1 (dEn F l) X3 3 (q0a acc (tmL kn un l))).2:=by
 have h:q0u [L44_20 (RP (n+4))] M0 0 [.n acc.length,.n acc.length,.d X0,.d X1,.d (dEn F l),.d X3,.d (il 2),.d (dEn F l),.d (il l.length),.d (il 0),.r (acc.map rI)]=some (0,[.n (q0a acc (tmL kn un l)).length,.n (q0a acc (tmL kn un l)).length,.d X0,.d X1,.d (dEn F l),.d X3,.d (il 2),.r ((q0a acc (tmL kn un l)).map rI)]):=qcq n hs l hl hu ha X0 X1 (dEn F l) X3 (il 2)
 have hw:IntKind.i64.wrap ((2:Int)+1)=3:=by decide
 have hlt:(2:Int) < 4:=by decide
 have hn:=q27 (tmL kn un l) hne
 rw [q3j _ _ _ _ _ hne,q3j _ _ _ _ _ hn]
 simp only [L44_22,q02,q05,q0B,q0A,q0x,q0E,q03,q0p,hlt,decide_true,q01,if_true,qhq,qaI,q0n,h,q00,q0k,hw]
theorem o44_3 (n:Nat) (hs:∀ e,FD (n+4) (F e) [.met "leazing/family.times" 2] []=some (0,[.d (il (kn e)),.d (il (un e))])) (l:List α) (hl:l.length≤60) (X0 X1 X2:D) (k:Nat→List Yr→Out) :
  L44_12 (RP (n+4)) k (enO X0 X1 X2 (dEn F l) 3 []).2=k (enO X0 X1 X2 (dEn F l) 4 (q0a [] (tmL kn un l))).1 (enO X0 X1 X2 (dEn F l) 4 (q0a [] (tmL kn un l))).2:=by
 have h:q0u [L44_9 (RP (n+4)),L44_10 (RP (n+4)),L44_11 (RP (n+4))] M0 0 [.d X0,.d X1,.d X2,.d (dEn F l),.d (il 3),.d (dEn F l),.d (il l.length),.d (il 0)]=exT X0 X1 X2 (dEn F l) (il 3) (q0a [] (tmL kn un l)):=qgT n hs l hl X0 X1 X2 (dEn F l) (il 3)
 have hw:IntKind.i64.wrap ((3:Int)+1)=4:=by decide
 have hlt:(3:Int) < 4:=by decide
 simp only [enO,L44_12,q02,q05,q03,q0p,hlt,decide_true,q01,if_true,qhp,qaI,q0n,h]
 cases q0a [] (tmL kn un l) with
 | nil=>simp only [exT,q00,q02,q05,q0k,hw]
 | cons y r=>simp only [exT,q9W,q02,q05,q0B,q0A,q0x,q0E,q0k,hw]
theorem p44_3 (n:Nat) (hs:∀ e,FD (n+4) (F e) [.met "leazing/family.times" 2] []=some (0,[.d (il (kn e)),.d (il (un e))])) (l:List α) (hl:l.length≤60) (X0 X1 X2:D) (k:Nat→List Yr→Out) {acc:List Int} (hu:Up acc) (ha:acc.length≤1000) (hne:acc≠[]) :
  L44_22 (RP (n+4)) k (enO X0 X1 X2 (dEn F l) 3 acc).2=k 2 (enO X0 X1 X2 (dEn F l) 4 (q0a acc (tmL kn un l))).2:=by
 have h:q0u [L44_21 (RP (n+4))] M0 0 [.n acc.length,.n acc.length,.d X0,.d X1,.d X2,.d (dEn F l),.d (il 3),.d (dEn F l),.d (il l.length),.d (il 0),.r (acc.map rI)]=some (0,[.n (q0a acc (tmL kn un l)).length,.n (q0a acc (tmL kn un l)).length,.d X0,.d X1,.d X2,.d (dEn F l),.d (il 3),.r ((q0a acc (tmL kn un l)).map rI)]):=qcq n hs l hl hu ha X0 X1 X2 (dEn F l) (il 3)
 have hw:IntKind.i64.wrap ((3:Int)+1)=4:=by decide
 have hlt:(3:Int) < 4:=by decide
 have hn:=q27 (tmL kn un l) hne
 rw [q3j _ _ _ _ _ hne,q3j _ _ _ _ _ hn]
 simp only [L44_22,q02,q05,q0B,q0A,q0x,q0E,q03,q0p,hlt,decide_true,q01,if_true,qhp,qaI,q0n,h,q00,q0k,hw]
end
def q3J (T0 T1 T2 T3:List Int) (i:Int):List Int:=if i=0 then T0++(T1++(T2++T3)) else if i=1 then T1++(T2++T3) else if i=2 then T2++T3 else if i=3 then T3 else []
def exG:List Int→Out
 | []=>some (0,[])
 | y::r=>some (2,[.n (y::r).length,.n (y::r).length,.r ((y::r).map rI)])
theorem exG_ne {l:List Int} (h:l≠[]):exG l=some (2,[.n l.length,.n l.length,.r (l.map rI)]):=by
 cases l with
 | nil=>exact absurd rfl h
 | cons _ _=>rfl
theorem q4b {α:Type} (kn un:α→Int):∀ l:List α,(tmL kn un l).length≤2*l.length
 | []=>by simp [tmL]
 | e::l=>by
  have h1:=qhh (kn e) (un e)
  have h2:=q4b kn un l
  rw [q92,List.length_append,List.length_cons];omega
set_option maxRecDepth 20000 in
theorem l44 (n:Nat) (a b c:List E9) (o:List E5) (ha:a.length≤60) (hb:b.length≤60) (hc:c.length≤60) (ho:o.length≤60) :
  q0u [L44_12 (RP (n+9)),L44_17 (RP (n+9)),L44_22 (RP (n+9))] M0 0 [.d (q4m 200 a),.d (q4m 201 b),.d (q4m 202 c),.d (qdc o),.d (il 0)]=exG (q0a [] (tmL E9.kn E9.un a++(tmL E9.kn E9.un b++(tmL E9.kn E9.un c++tmL E5.kn E5.un o)))):=by
 have t0:∀ e:E9,FD (n+5+4) (.ifc 200 true (r9 e)) [.met "leazing/family.times" 2] []=some (0,[.d (il e.kn),.d (il e.un)]):=tim200 (n+8)
 have t1:∀ e:E9,FD (n+5+4) (.ifc 201 true (r9 e)) [.met "leazing/family.times" 2] []=some (0,[.d (il e.kn),.d (il e.un)]):=tim201 (n+8)
 have t2:∀ e:E9,FD (n+5+4) (.ifc 202 true (r9 e)) [.met "leazing/family.times" 2] []=some (0,[.d (il e.kn),.d (il e.un)]):=tim202 (n+8)
 have t3:∀ e:E5,FD (n+5+4) (.ifc 203 true (r5 e)) [.met "leazing/family.times" 2] []=some (0,[.d (il e.kn),.d (il e.un)]):=tim203 (n+8)
 have la:=q4b E9.kn E9.un a
 have lb:=q4b E9.kn E9.un b
 have lc:=q4b E9.kn E9.un c
 have lo:=q4b E5.kn E5.un o
 refine q2i (σ:=Int×List Int) [L44_12 (RP (n+9)),L44_17 (RP (n+9)),L44_22 (RP (n+9))] (fun s=>enO (q4m 200 a) (q4m 201 b) (q4m 202 c) (qdc o) s.1 s.2) (fun s=>(4 - s.1).toNat) (fun s=>(s.1=0∨s.1=1∨s.1=2∨s.1=3∨s.1=4)∧Up s.2∧(s.2.length:Int)≤120*s.1)
  (fun s=>exG (q0a s.2 (q3J (tmL E9.kn E9.un a) (tmL E9.kn E9.un b) (tmL E9.kn E9.un c) (tmL E5.kn E5.un o) s.1))) ?_ M0 (0,[]) ⟨by simp,by simp,by simp⟩ (by unfold M0;simp)
 rintro ⟨i,acc⟩ k ⟨g1,g2,g3⟩ ih
 simp only at g1 g2 g3 ih ⊢
 have next:∀ (j:Int) (T:List Int),i+1=j→(j=1∨j=2∨j=3∨j=4)→T.length≤120→k (enO (q4m 200 a) (q4m 201 b) (q4m 202 c) (qdc o) j (q0a acc T)).1 (enO (q4m 200 a) (q4m 201 b) (q4m 202 c) (qdc o) j (q0a acc T)).2=exG (q0a (q0a acc T) (q3J (tmL E9.kn E9.un a) (tmL E9.kn E9.un b) (tmL E9.kn E9.un c) (tmL E5.kn E5.un o) j)):=fun j T h1 h2 h3=>by
  have hl:=q3R T acc
  exact ih (j,q0a acc T) ⟨by simp only;omega,q1l _ g2,by simp only;omega⟩ (by simp only;omega)
 by_cases hn:acc=[]
 ·subst hn
  refine ⟨L44_12 (RP (n+9)),rfl,?_⟩
  rcases g1 with rfl | rfl | rfl | rfl | rfl
  ·have:=next 1 (tmL E9.kn E9.un a) rfl (by omega) (by omega)
   rw [show q3J (tmL E9.kn E9.un a) (tmL E9.kn E9.un b) (tmL E9.kn E9.un c) (tmL E5.kn E5.un o) 0=tmL E9.kn E9.un a++q3J (tmL E9.kn E9.un a) (tmL E9.kn E9.un b) (tmL E9.kn E9.un c) (tmL E5.kn E5.un o) 1 from rfl,q28,← this]
   exact o44_0 (n+5) t0 a ha (q4m 201 b) (q4m 202 c) (qdc o) k
  ·have:=next 2 (tmL E9.kn E9.un b) rfl (by omega) (by omega)
   rw [show q3J (tmL E9.kn E9.un a) (tmL E9.kn E9.un b) (tmL E9.kn E9.un c) (tmL E5.kn E5.un o) 1=tmL E9.kn E9.un b++q3J (tmL E9.kn E9.un a) (tmL E9.kn E9.un b) (tmL E9.kn E9.un c) (tmL E5.kn E5.un o) 2 from rfl,q28,← this]
   exact o44_1 (n+5) t1 b hb (q4m 200 a) (q4m 202 c) (qdc o) k
  ·have:=next 3 (tmL E9.kn E9.un c) rfl (by omega) (by omega)
   rw [show q3J (tmL E9.kn E9.un a) (tmL E9.kn E9.un b) (tmL E9.kn E9.un c) (tmL E5.kn E5.un o) 2=tmL E9.kn E9.un c++q3J (tmL E9.kn E9.un a) (tmL E9.kn E9.un b) (tmL E9.kn E9.un c) (tmL E5.kn E5.un o) 3 from rfl,q28,← this]
   exact o44_2 (n+5) t2 c hc (q4m 200 a) (q4m 201 b) (qdc o) k
  ·have:=next 4 (tmL E5.kn E5.un o) rfl (by omega) (by omega)
   rw [show q0a (q0a [] (tmL E5.kn E5.un o)) (q3J (tmL E9.kn E9.un a) (tmL E9.kn E9.un b) (tmL E9.kn E9.un c) (tmL E5.kn E5.un o) 4)=q0a [] (tmL E5.kn E5.un o) from rfl] at this
   rw [show q3J (tmL E9.kn E9.un a) (tmL E9.kn E9.un b) (tmL E9.kn E9.un c) (tmL E5.kn E5.un o) 3=tmL E5.kn E5.un o from rfl,← this]
   exact o44_3 (n+5) t3 o ho (q4m 200 a) (q4m 201 b) (q4m 202 c) k
  ·simp [enO,L44_12,q3J,q0a,exG]
 ·have ha2:acc.length≤1000:=by omega
  rw [q3j _ _ _ _ _ hn]
  refine ⟨L44_22 (RP (n+9)),rfl,?_⟩
  rw [←q3j _ _ _ _ _ hn]
  rcases g1 with rfl | rfl | rfl | rfl | rfl
  ·have:=next 1 (tmL E9.kn E9.un a) rfl (by omega) (by omega)
   rw [show q3J (tmL E9.kn E9.un a) (tmL E9.kn E9.un b) (tmL E9.kn E9.un c) (tmL E5.kn E5.un o) 0=tmL E9.kn E9.un a++q3J (tmL E9.kn E9.un a) (tmL E9.kn E9.un b) (tmL E9.kn E9.un c) (tmL E5.kn E5.un o) 1 from rfl,q28,← this]
   refine (p44_0 (n+5) t0 a ha (q4m 201 b) (q4m 202 c) (qdc o) k g2 ha2 hn).trans ?_
   simp only [q3j _ _ _ _ _ (q27 _ hn)];rfl
  ·have:=next 2 (tmL E9.kn E9.un b) rfl (by omega) (by omega)
   rw [show q3J (tmL E9.kn E9.un a) (tmL E9.kn E9.un b) (tmL E9.kn E9.un c) (tmL E5.kn E5.un o) 1=tmL E9.kn E9.un b++q3J (tmL E9.kn E9.un a) (tmL E9.kn E9.un b) (tmL E9.kn E9.un c) (tmL E5.kn E5.un o) 2 from rfl,q28,← this]
   refine (p44_1 (n+5) t1 b hb (q4m 200 a) (q4m 202 c) (qdc o) k g2 ha2 hn).trans ?_
   simp only [q3j _ _ _ _ _ (q27 _ hn)];rfl
  ·have:=next 3 (tmL E9.kn E9.un c) rfl (by omega) (by omega)
   rw [show q3J (tmL E9.kn E9.un a) (tmL E9.kn E9.un b) (tmL E9.kn E9.un c) (tmL E5.kn E5.un o) 2=tmL E9.kn E9.un c++q3J (tmL E9.kn E9.un a) (tmL E9.kn E9.un b) (tmL E9.kn E9.un c) (tmL E5.kn E5.un o) 3 from rfl,q28,← this]
   refine (p44_2 (n+5) t2 c hc (q4m 200 a) (q4m 201 b) (qdc o) k g2 ha2 hn).trans ?_
   simp only [q3j _ _ _ _ _ (q27 _ hn)];rfl
  ·have:=next 4 (tmL E5.kn E5.un o) rfl (by omega) (by omega)
   rw [show q0a (q0a acc (tmL E5.kn E5.un o)) (q3J (tmL E9.kn E9.un a) (tmL E9.kn E9.un b) (tmL E9.kn E9.un c) (tmL E5.kn E5.un o) 4)=q0a acc (tmL E5.kn E5.un o) from rfl] at this
   rw [show q3J (tmL E9.kn E9.un a) (tmL E9.kn E9.un b) (tmL E9.kn E9.un c) (tmL E5.kn E5.un o) 3=tmL E5.kn E5.un o from rfl,← this]
   refine (p44_3 (n+5) t3 o ho (q4m 200 a) (q4m 201 b) (q4m 202 c) k g2 ha2 hn).trans ?_
   simp only [q3j _ _ _ _ _ (q27 _ hn)];rfl
  ·rw [show q3J (tmL E9.kn E9.un a) (tmL E9.kn E9.un b) (tmL E9.kn E9.un c) (tmL E5.kn E5.un o) 4=[] from rfl,qcX,exG_ne hn,q3j _ _ _ _ _ hn]
   simp [L44_22]
def q2L (a b c:List E9) (o:List E5):List Int:=q0a [] (tmL E9.kn E9.un a++(tmL E9.kn E9.un b++(tmL E9.kn E9.un c++tmL E5.kn E5.un o)))
theorem s44 (n:Nat) (a b c:Option (List E9)) (o:Option (List E5)) (ha:(a.getD []).length*72≤140737488351232) (hb:(b.getD []).length*72≤140737488351232) (hc:(c.getD []).length*72≤140737488351232) (ho:(o.getD []).length*40≤140737488351232) :
  FN (n+10) 44 [d9 a,d9 b,d9 c,d5 o]=if q0m (a.getD []) (b.getD []) (c.getD []) (o.getD [])=true then some (0,[.d (dI (nzO (q2L (a.getD []) (b.getD []) (c.getD []) (o.getD [])))),.d (il 0)]) else some (0,[.d (dI none),.d (il 34)]):=by
 rw [F44]
 simp only [G44,q07,s56 n a b c o ha hb hc ho,q00,q02,q03,q0w,q01,q0e,q12]
 by_cases hok:q0m (a.getD []) (b.getD []) (c.getD []) (o.getD [])=true
 ·obtain ⟨l1,l2,l3,l4⟩:=q16 hok
  simp only [hok,if_true,ne_eq,not_true_eq_false,decide_false,Bool.false_eq_true,if_false,s105 (n+8) a b c o ha hb hc ho,q00,q02,q05,q0n,l44 n _ _ _ _ l1 l2 l3 l4,q2L]
  cases q0a [] (tmL E9.kn E9.un (a.getD [])++(tmL E9.kn E9.un (b.getD [])++(tmL E9.kn E9.un (c.getD [])++tmL E5.kn E5.un (o.getD [])))) with
  | nil=>rfl
  | cons y r=>simp [exG,nzO,dI,dSl,List.take_of_length_le]
 ·simp [hok];rfl
end Go.VE
