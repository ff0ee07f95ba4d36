/- The statement FamilyHeads: whatever the kin, the family, the days and the source are, Sure, May, Heads, Changed and Moved agree with the specification. -/
import Derived.Test.YtobeabinccohlaaGreatMg4
import Derived.Test.YtobeabinccohlaaGreatMi
import Derived.Test.YtobeabinccohlaaGreatMt
import Derived.KernelRfl
import Derived.Test.YtobeabinccohlaaGreatMh
import Derived.Test.YtobeabinccohlaaGreatRows
namespace Go.VE
open Go.RowKit Go.Proofs
theorem s31 (n:Nat) (a:Option (List E9)) (b c o:D) (hl:(a.getD []).length≤1000000):FN (n+2) 31 [d9 a,b,c,o]=some (0,[.d (dI (nzO (q0O (a.getD []))))]):=by
 rw [F31]
 simp only [G31,q5J,q03,q0n]
 by_cases hne:a.getD []=[]
 ·rw [hne]
  have h0:q0u [L31_0 (RP (n+1)),L31_1 (RP (n+1))] M0 0 [.d (d9 a),.d (il (([]:List E9).length:Int)),.d (il 0)]=some (0,[]) :=
   q2i (σ:=Unit) [L31_0 (RP (n+1)),L31_1 (RP (n+1))] (fun _=>(0,[.d (d9 a),.d (il (([]:List E9).length:Int)),.d (il 0)])) (fun _=>0) (fun _=>True) (fun _=>some (0,[])) (fun s k _ _=>⟨_,rfl,by simp [L31_0]⟩) M0 () trivial (by unfold M0;omega)
  rw [h0]
  rfl
 ·have hL:((a.getD []).map (·.a)).length=(a.getD []).length:=by simp
  have hat:∀ (i:Nat) (x:Int),((a.getD []).map (·.a))[i]?=some x→∃ e,(a.getD [])[i]?=some e∧e.a=x:=fun i x hi=>by
   rw [List.getElem?_map] at hi
   cases h0:(a.getD [])[i]? with
   | none=>rw [h0] at hi;simp at hi
   | some e=>rw [h0] at hi;exact ⟨e,rfl,by simpa using hi⟩
  have:=q7F ((a.getD []).map (·.a)) (by simpa using hl) (by simpa using hne) (L31_0 (RP (n+1))) (L31_1 (RP (n+1))) (fun i=>[.d (d9 a),.d (il (a.getD []).length),.d (il (i:Nat))])
   (fun i acc=>[.d (dI (some acc)),.d (d9 a),.d (il (a.getD []).length),.d (il (i:Nat))]) (fun acc=>some (1,[.d (dI (some acc))])) ?_ ?_ ?_
  ·rw [show il 0=il ((0:Nat):Int) from rfl,this,qed (qbZ hne)]
   simp [q0O]
  ·intro acc k
   rw [hL]
   simp [L31_1]
  ·intro x k hi hlt
   rw [hL] at hlt
   obtain ⟨e,he,rfl⟩:=hat _ _ hi
   have h9:=q41 (Fn:=FN (n+1)) (FnD:=q1w Tryz.prog (cf3 tb Tryz.prog) (FN (n+1))) (m:=M0) he
   simp only [L31_0,q02,q05,q0p,q01,Int.natCast_zero,hlt,decide_true,if_true]
   rw [show ((il 0):D)=il ((0:Nat):Int) from rfl,h9]
   simp only [r9,q08,q0r,q07,q12,q9b,q00,q02,q03,q0k,Int.natCast_zero]
   rw [show IntKind.i64.wrap (0+1)=((1:Nat):Int) from rfl]
  ·intro i x acc k hi hlt hw hu hal
   rw [hL] at hlt
   obtain ⟨e,he,rfl⟩:=hat _ _ hi
   have hput:=s92 n (some acc) e.a (by simp only [Option.getD_some];omega) hu
   simp only [Option.getD_some] at hput
   simp only [L31_1,q02,q05,q0p,q01,hlt,decide_true,if_true,q41 he,r9,q08,q0r,q07,hput,q00,q03,q0k,hw]
theorem qj1 {Fn:Nat→List D→Out} {FnD:D→List Sh→List D→Out} {m:Nat} {l:List Int} {e0:List Yr} {e1:Rr→List Yr} {k0 k1:List Yr→Out} {R:D→Out} (h0:k0 e0=R (.lit (.slice none 0 0))) (h1:∀ w ws,k1 (e1 (w::ws))=R (.sl 1 (w::ws))) :
  (q06 Fn FnD m).bnd (q3H e0 e1 (l.map rI)) [k0,k1]=R (dI (nzO l)):=by
 cases l with
 | nil=>exact h0
 | cons w ws=>exact h1 (rI w) (ws.map rI)
section
variable {a b c:List E9} {o:List E5} (n:Nat) (f d x3 p:Int) (hd:0≤d∧d≤4166) (g:GoodK a b c o) (P:List Int) (hP:P.length≤1000000)
include hd g hP
set_option maxRecDepth 20000 in
theorem l33:q0u [L33_0 (RP (n+8)),L33_1 (RP (n+8))] M0 0 [.d (il p),.d (il f),.d (il d),.d (il x3),.d (dI (nzO P)),.d (il P.length),.d (il 0),.d (d9 (nzO a)),.d (d9 (nzO b)),.d (d9 (nzO c)),.d (d5 (nzO o))] =
  q3H [] (fun rs=>[.n rs.length,.n rs.length,.r rs]) ((P.filter fun q=>decide (q4l (q1s a b c o d q) f=1)).map rI):=by
 rw [←q2m]
 refine q1h P (by omega) (fun q=>if decide (q4l (q1s a b c o d q) f=1) then some (rI q) else none) _ _ (fun i=>[.d (il p),.d (il f),.d (il d),.d (il x3),.d (dI (nzO P)),.d (il P.length),.d (il (i:Nat)),.d (d9 (nzO a)),.d (d9 (nzO b)),.d (d9 (nzO c)),.d (d5 (nzO o))])
  (fun i rs=>[.d (il p),.d (il f),.d (il d),.d (il x3),.n rs.length,.n rs.length,.d (dI (nzO P)),.d (il P.length),.d (il (i:Nat)),.r rs,.d (d9 (nzO a)),.d (d9 (nzO b)),.d (d9 (nzO c)),.d (d5 (nzO o))]) [] (fun rs=>[.n rs.length,.n rs.length,.r rs]) ?_ ?_ ?_ ?_
 ·intro k;simp [L33_0]
 ·intro rs k;simp [L33_1]
 ·intro i q k hi hlt hw
  have hi':((nzO P).getD [])[i]?=some q:=by rw [q0b];exact hi
  have hlen:(q1s a b c o d q).length≤100:=q1t (q1y ..) fun z hz=>q19 g.fam g.less hz
  have h87:=s87 (n+6) (some (q1s a b c o d q)) f (by simp only [Option.getD_some];omega)
  simp only [Option.getD_some] at h87
  simp only [L33_0,q02,q05,q0p,q01,hlt,decide_true,if_true,q2S hi',rI,q08,q07,qfF n d q hd g,q00,h87,q0K,q03,q0D,q0y,q0v,q0C,q0q,List.length_cons,List.length_nil,List.take_succ_cons,List.take_zero,q0V,q0t,q0k,hw]
  by_cases hc:q4l (q1s a b c o d q) f=1
  ·simp only [hc,decide_true,if_true]
   rw [if_pos (by simp [])]
  ·simp only [hc,decide_false,if_false,Bool.false_eq_true]
 ·intro i q rs k hi hlt hw hrs
  have hi':((nzO P).getD [])[i]?=some q:=by rw [q0b];exact hi
  have hlen:(q1s a b c o d q).length≤100:=q1t (q1y ..) fun z hz=>q19 g.fam g.less hz
  have h87:=s87 (n+6) (some (q1s a b c o d q)) f (by simp only [Option.getD_some];omega)
  simp only [Option.getD_some] at h87
  simp only [L33_1,q02,q05,q0B,q0A,q0x,q0E,q0p,q01,hlt,decide_true,if_true,q2S hi',rI,q08,q07,qfF n d q hd g,q00,h87,q0K,q03,q0D,q0y,q0v,q0C,q0q,List.length_cons,List.length_nil,List.take_succ_cons,List.take_zero,q0t,q0k,hw,q18,q1S,List.length_append]
  by_cases hc:q4l (q1s a b c o d q) f=1
  ·simp only [hc,decide_true,if_true]
   rw [if_pos (by simp [];omega)]
  ·simp only [hc,decide_false,if_false,Bool.false_eq_true]
set_option maxRecDepth 20000 in
theorem l35:q0u [L35_0 (RP (n+8)),L35_1 (RP (n+8))] M0 0 [.d (il p),.d (il f),.d (il d),.d (il x3),.d (dI (nzO P)),.d (il P.length),.d (il 0),.d (d9 (nzO a)),.d (d9 (nzO b)),.d (d9 (nzO c)),.d (d5 (nzO o))] =
  q3H [] (fun rs=>[.n rs.length,.n rs.length,.r rs]) ((P.filter fun q=>decide (f∈q1s a b c o d q)).map rI):=by
 rw [←q2m]
 refine q1h P (by omega) (fun q=>if decide (f∈q1s a b c o d q) then some (rI q) else none) _ _ (fun i=>[.d (il p),.d (il f),.d (il d),.d (il x3),.d (dI (nzO P)),.d (il P.length),.d (il (i:Nat)),.d (d9 (nzO a)),.d (d9 (nzO b)),.d (d9 (nzO c)),.d (d5 (nzO o))])
  (fun i rs=>[.d (il p),.d (il f),.d (il d),.d (il x3),.n rs.length,.n rs.length,.d (dI (nzO P)),.d (il P.length),.d (il (i:Nat)),.r rs,.d (d9 (nzO a)),.d (d9 (nzO b)),.d (d9 (nzO c)),.d (d5 (nzO o))]) [] (fun rs=>[.n rs.length,.n rs.length,.r rs]) ?_ ?_ ?_ ?_
 ·intro k;simp [L35_0]
 ·intro rs k;simp [L35_1]
 ·intro i q k hi hlt hw
  have hi':((nzO P).getD [])[i]?=some q:=by rw [q0b];exact hi
  have hlen:(q1s a b c o d q).length≤100:=q1t (q1y ..) fun z hz=>q19 g.fam g.less hz
  have h41:=s41 (n+7) (some (q1s a b c o d q)) f (by simp only [Option.getD_some];omega)
  simp only [Option.getD_some] at h41
  simp only [L35_0,q02,q05,q0p,q01,hlt,decide_true,if_true,q2S hi',rI,q08,q07,qfF n d q hd g,q00,h41,q0D,q0y,q0v,q0C,q0q,List.length_cons,List.length_nil,List.take_succ_cons,List.take_zero,q0V,q0t,q03,q0k,hw]
  by_cases hc:f∈q1s a b c o d q
  ·simp only [hc,decide_true,if_true]
   rw [if_pos (by simp [])]
  ·simp only [hc,decide_false,if_false,Bool.false_eq_true]
 ·intro i q rs k hi hlt hw hrs
  have hi':((nzO P).getD [])[i]?=some q:=by rw [q0b];exact hi
  have hlen:(q1s a b c o d q).length≤100:=q1t (q1y ..) fun z hz=>q19 g.fam g.less hz
  have h41:=s41 (n+7) (some (q1s a b c o d q)) f (by simp only [Option.getD_some];omega)
  simp only [Option.getD_some] at h41
  simp only [L35_1,q02,q05,q0B,q0A,q0x,q0E,q0p,q01,hlt,decide_true,if_true,q2S hi',rI,q08,q07,qfF n d q hd g,q00,h41,q0D,q0y,q0v,q0C,q0q,List.length_cons,List.length_nil,List.take_succ_cons,List.take_zero,q0t,q03,q0k,hw,q18,q1S,List.length_append]
  by_cases hc:f∈q1s a b c o d q
  ·simp only [hc,decide_true,if_true]
   rw [if_pos (by simp [];omega)]
  ·simp only [hc,decide_false,if_false,Bool.false_eq_true]
end
end Go.VE
namespace Go.VE
open Go.RowKit Go.Proofs
section
variable {a b c a' b' c':List E9} {o o':List E5} (n:Nat) (d:Int) (hd:0≤d∧d≤4166) (g:GoodK a b c o) (g':GoodK a' b' c' o') (P:List Int) (hP:P.length≤1000000)
include hd g g' hP
set_option maxRecDepth 20000 in
theorem l95:q0u [L95_0 (RP (n+8)),L95_1 (RP (n+8))] M0 0 [.d (il d),.d (d9 (nzO a)),.d (d9 (nzO b)),.d (d9 (nzO c)),.d (d5 (nzO o)),.d (d9 (nzO a')),.d (d9 (nzO b')),.d (d9 (nzO c')),.d (d5 (nzO o')),.d (dI (nzO P)),.d (il P.length),.d (il 0)] =
  q3H [] (fun rs=>[.n rs.length,.n rs.length,.r rs]) ((P.filter (q5V (q1s a b c o d) (q1s a' b' c' o' d))).map rI):=by
 rw [←q2m]
 refine q1h P (by omega) (fun q=>if q5V (q1s a b c o d) (q1s a' b' c' o' d) q then some (rI q) else none) _ _ (fun i=>[.d (il d),.d (d9 (nzO a)),.d (d9 (nzO b)),.d (d9 (nzO c)),.d (d5 (nzO o)),.d (d9 (nzO a')),.d (d9 (nzO b')),.d (d9 (nzO c')),.d (d5 (nzO o')),.d (dI (nzO P)),.d (il P.length),.d (il (i:Nat))])
  (fun i rs=>[.d (il d),.d (d9 (nzO a)),.d (d9 (nzO b)),.d (d9 (nzO c)),.d (d5 (nzO o)),.d (d9 (nzO a')),.d (d9 (nzO b')),.d (d9 (nzO c')),.d (d5 (nzO o')),.n rs.length,.n rs.length,.d (dI (nzO P)),.d (il P.length),.d (il (i:Nat)),.r rs]) [] (fun rs=>[.n rs.length,.n rs.length,.r rs]) ?_ ?_ ?_ ?_
 ·intro k;simp [L95_0]
 ·intro rs k;simp [L95_1]
 ·intro i q k hi hlt hw
  have hi':((nzO P).getD [])[i]?=some q:=by rw [q0b];exact hi
  have hlen:(q1s a b c o d q).length≤100:=q1t (q1y ..) fun z hz=>q19 g.fam g.less hz
  have h22:=s22 (n+7) (some (q1s a b c o d q)) (some (q1s a' b' c' o' d q)) (by simp only [Option.getD_some];omega)
  simp only [Option.getD_some] at h22
  simp only [L95_0,q02,q05,q0p,q01,hlt,decide_true,if_true,q2S hi',rI,q08,q07,qfF n d q hd g,qfF n d q hd g',q00,h22,q0I,q0D,q0y,q0v,q0C,q0q,List.length_cons,List.length_nil,List.take_succ_cons,List.take_zero,q0V,q0t,q03,q0k,hw,q5V]
  by_cases hc:q1s a b c o d q=q1s a' b' c' o' d q
  ·simp [hc]
  ·simp only [hc,decide_false,Bool.not_false,if_true]
   rw [if_pos (by simp [])]
 ·intro i q rs k hi hlt hw hrs
  have hi':((nzO P).getD [])[i]?=some q:=by rw [q0b];exact hi
  have hlen:(q1s a b c o d q).length≤100:=q1t (q1y ..) fun z hz=>q19 g.fam g.less hz
  have h22:=s22 (n+7) (some (q1s a b c o d q)) (some (q1s a' b' c' o' d q)) (by simp only [Option.getD_some];omega)
  simp only [Option.getD_some] at h22
  simp only [L95_1,q02,q05,q0B,q0A,q0x,q0E,q0p,q01,hlt,decide_true,if_true,q2S hi',rI,q08,q07,qfF n d q hd g,qfF n d q hd g',q00,h22,q0I,q0D,q0y,q0v,q0C,q0q,List.length_cons,List.length_nil,List.take_succ_cons,List.take_zero,q0t,q03,q0k,hw,q18,q1S,List.length_append,q5V]
  by_cases hc:q1s a b c o d q=q1s a' b' c' o' d q
  ·simp [hc]
  ·simp only [hc,decide_false,Bool.not_false,if_true]
   rw [if_pos (by simp [];omega)]
end
theorem s95 (n:Nat) (d:Int) (hd:0≤d∧d≤4166) {a b c a' b' c':List E9} {o o':List E5} (g:GoodK a b c o) (g':GoodK a' b' c' o') (z:Option (List E9)) (x1 x2 x3:D) (hz:(z.getD []).length≤1000000) :
  FN (n+9) 95 [d9 z,x1,x2,x3,d9 (nzO a),d9 (nzO b),d9 (nzO c),d5 (nzO o),d9 (nzO a'),d9 (nzO b'),d9 (nzO c'),d5 (nzO o'),il d]=some (0,[.d (dI (nzO ((q0O (z.getD [])).filter (q5V (q1s a b c o d) (q1s a' b' c' o' d)))))]):=by
 rw [F95]
 have hlp:=q1N (z.getD [])
 simp only [G95,q07,s31 (n+6) z x1 x2 x3 hz,q00,q02,q2I,q0b,q03,q0n,l95 n d hd g g' (q0O (z.getD [])) (by omega)]
 exact qj1 (R:=fun x=>some (0,[.d x])) (by simp) (by intros;simp)
section
variable (n:Nat) (p f d k l:Int) (a b c:Option (List E9)) (o:Option (List E5)) (ha:(a.getD []).length*72≤140737488351232) (hb:(b.getD []).length*72≤140737488351232) (hc:(c.getD []).length*72≤140737488351232) (ho:(o.getD []).length*40≤140737488351232)
def qi6 (k:Int) (a b c:Option (List E9)) (o:Option (List E5)) (d f:Int):List Int:=(q0O (q0T k (a.getD []))).filter fun q=>decide (q4l (q24 k a b c o d q) f=1)
def mayR (k:Int) (a b c:Option (List E9)) (o:Option (List E5)) (d f:Int):List Int:=(q0O (q0T k (a.getD []))).filter fun q=>decide (f∈q24 k a b c o d q)
theorem qaL:(q4q k a b c o d f).getD []=qi6 k a b c o d f:=q1X
theorem qek:(qc6 k a b c o d f).getD []=mayR k a b c o d f:=by
 unfold qc6 mayR
 rw [q1X]
 congr 1;funext q
 unfold q4l
 by_cases h:f∈q24 k a b c o d q
 ·simp only [h,if_true,decide_true];split<;>rfl
 ·simp [h]
include ha hb hc ho
set_option maxRecDepth 20000 in
theorem s33:FN (n+9) 33 [d9 a,d9 b,d9 c,d5 o,il p,il f,il d,il k]=if q0U (q0m (a.getD []) (b.getD []) (c.getD []) (o.getD [])) true true 1 f [d,k]=0 then some (0,[.d (dI (nzO (qi6 k a b c o d f))),.d (il 0)]) else some (0,[.d (dI none),.d (il (q0U (q0m (a.getD []) (b.getD []) (c.getD []) (o.getD [])) true true 1 f [d,k]))]):=by
 rw [F33]
 have h76:=s76 (n+2) 1 f d k a b c o ha hb hc ho
 simp only [G33,q07,q0R,s77,q00,q02,q05,if_true,Bool.false_eq_true,if_false,h76,q03]
 by_cases he:q0U (q0m (a.getD []) (b.getD []) (c.getD []) (o.getD [])) true true 1 f [d,k]=0
 ·rw [if_pos he,if_pos he]
  have g:=(q1o (q1i he)).cnt k
  have hla:=g.la
  have hlp:=q1N (q0T k (a.getD []))
  have h31:=s31 (n+6) (nzO (q0T k (a.getD []))) (d9 (nzO (q0T k (b.getD [])))) (d9 (nzO (q0T k (c.getD [])))) (d5 (nzO (q4J k (o.getD [])))) (by rw [q0b];omega)
  rw [q0b] at h31
  simp only [q00,q02,q05,q0w,ne_eq,not_true_eq_false,decide_false,q01,Bool.false_eq_true,if_false,h31,q2I,q0b,q0n,l33 n f d k p (q1F he).1 g (q0O (q0T k (a.getD []))) (by omega)]
  exact qj1 (R:=fun x=>some (0,[.d x,.d (il 0)])) (by simp) (by intros;simp)
 ·rw [if_neg he,if_neg he]
  simp only [qaU,q00,q02,q05,q0w,q01]
  rw [if_pos (by simpa using he)]
  simp [dI,dSl]
set_option maxRecDepth 20000 in
theorem s35:FN (n+9) 35 [d9 a,d9 b,d9 c,d5 o,il p,il f,il d,il k]=if q0U (q0m (a.getD []) (b.getD []) (c.getD []) (o.getD [])) true true 1 f [d,k]=0 then some (0,[.d (dI (nzO (mayR k a b c o d f))),.d (il 0)]) else some (0,[.d (dI none),.d (il (q0U (q0m (a.getD []) (b.getD []) (c.getD []) (o.getD [])) true true 1 f [d,k]))]):=by
 rw [F35]
 have h76:=s76 (n+2) 1 f d k a b c o ha hb hc ho
 simp only [G35,q07,q0R,s77,q00,q02,q05,if_true,Bool.false_eq_true,if_false,h76,q03]
 by_cases he:q0U (q0m (a.getD []) (b.getD []) (c.getD []) (o.getD [])) true true 1 f [d,k]=0
 ·rw [if_pos he,if_pos he]
  have g:=(q1o (q1i he)).cnt k
  have hla:=g.la
  have hlp:=q1N (q0T k (a.getD []))
  have h31:=s31 (n+6) (nzO (q0T k (a.getD []))) (d9 (nzO (q0T k (b.getD [])))) (d9 (nzO (q0T k (c.getD [])))) (d5 (nzO (q4J k (o.getD [])))) (by rw [q0b];omega)
  rw [q0b] at h31
  simp only [q00,q02,q05,q0w,ne_eq,not_true_eq_false,decide_false,q01,Bool.false_eq_true,if_false,h31,q2I,q0b,q0n,l35 n f d k p (q1F he).1 g (q0O (q0T k (a.getD []))) (by omega)]
  exact qj1 (R:=fun x=>some (0,[.d x,.d (il 0)])) (by simp) (by intros;simp)
 ·rw [if_neg he,if_neg he]
  simp only [qaU,q00,q02,q05,q0w,q01]
  rw [if_pos (by simpa using he)]
  simp [dI,dSl]
theorem s36:FN (n+10) 36 [d9 a,d9 b,d9 c,d5 o,il p,il f,il d,il k]=if q0U (q0m (a.getD []) (b.getD []) (c.getD []) (o.getD [])) true true 1 f [d,k]=0 then some (0,[.d (il ((qi6 k a b c o d f).length:Int)),.d (il ((mayR k a b c o d f).length:Int)),.d (il 0)]) else some (0,[.d (il 0),.d (il 0),.d (il (q0U (q0m (a.getD []) (b.getD []) (c.getD []) (o.getD [])) true true 1 f [d,k]))]):=by
 rw [F36]
 simp only [G36,q07,s33 n p f d k a b c o ha hb hc ho,s35 n p f d k a b c o ha hb hc ho]
 by_cases he:q0U (q0m (a.getD []) (b.getD []) (c.getD []) (o.getD [])) true true 1 f [d,k]=0
 ·rw [if_pos he,if_pos he,if_pos he]
  simp only [q00,q02,q05,q2I,q0b,q0e]
 ·rw [if_neg he,if_neg he,if_neg he]
  simp only [q00,q02,q05,q2I,Option.getD_none,List.length_nil,q0e]
  rfl
omit ha hb hc ho in
theorem qgZ {ok:Bool} {d k l:Int}:q0U ok false false 0 0 [d,k,l]=if q0U ok true true 1 1 [d,k]=0 then (if 0≤l∧l≤4166 then 0 else 6) else q0U ok true true 1 1 [d,k]:=by
 unfold q0U
 cases ok with
 | false=>simp
 | true =>
  simp only [List.any_cons,List.any_nil,Bool.or_false]
  by_cases h1:0≤d∧d≤4166<;>by_cases h2:0≤k∧k≤4166<;>by_cases h3:0≤l∧l≤4166<;>simp only [h1,h2,h3,decide_true,decide_false,Bool.not_true,Bool.not_false,Bool.or_true,Bool.or_false,Bool.false_eq_true,if_true,if_false,and_self]<;>simp
omit ha hb hc ho in
theorem qh0 {ok:Bool} {ds:List Int}:q0U ok true true 1 1 ds=q0U ok false false 0 0 ds:=by
 unfold q0U;simp
set_option maxRecDepth 20000 in
theorem s38:FN (n+10) 38 [d9 a,d9 b,d9 c,d5 o,il p,il f,il d,il k,il l]=if q0U (q0m (a.getD []) (b.getD []) (c.getD []) (o.getD [])) false false 0 0 [d,k,l]=0 then some (0,[.d (dI (nzO ((q0O (a.getD [])).filter (q5V (fk k a b c o d) (fk l a b c o d))))),.d (il 0)]) else some (0,[.d (dI none),.d (il (q0U (q0m (a.getD []) (b.getD []) (c.getD []) (o.getD [])) false false 0 0 [d,k,l]))]):=by
 rw [F38]
 have h76:=s76 (n+3) 1 1 d k a b c o ha hb hc ho
 have h43:=s43 (n+7) l a b c o ha hb hc ho
 simp only [G38,q07,q0R,s77,q00,q02,q05,Bool.false_eq_true,if_false,h76,q03,qgZ (l:=l)]
 by_cases he:q0U (q0m (a.getD []) (b.getD []) (c.getD []) (o.getD [])) true true 1 1 [d,k]=0
 ·rw [if_pos he]
  have g:=(q1o (q1i he)).cnt k
  have g':=(q1o (q1i he)).cnt l
  have hla:=(q16 (q1i he)).1
  have h95:=s95 n d (q1F he).1 g g' a (d9 b) (d9 c) (d5 o) (by omega)
  simp only [q00,q02,q05,q0w,ne_eq,not_true_eq_false,decide_false,q01,Bool.false_eq_true,if_false,s25,q0I,h43,h95,q0e,he,if_true]
  by_cases hl:0≤l∧l≤4166
  ·simp only [hl,and_self,decide_true,Bool.not_true,Bool.false_eq_true,if_false,if_true]
   rfl
  ·simp only [hl,decide_false,Bool.not_false,if_true,if_false]
   rfl
 ·rw [if_neg he]
  simp only [qaU,q00,q02,q05,q0w,q01,if_neg he]
  rw [if_pos (by simpa using he)]
  simp [dI,dSl]
set_option maxRecDepth 20000 in
theorem s40 (s:Int):FN (n+10) 40 [d9 a,d9 b,d9 c,d5 o,il s,il p,il f,il d,il k]=if q0U (q0m (a.getD []) (b.getD []) (c.getD []) (o.getD [])) false false 0 0 [d,k]=0 then (if q4v s (a.getD []) (b.getD []) (c.getD []) (o.getD []) then some (0,[.d (dI none),.d (il 3)]) else some (0,[.d (dI (nzO ((q0O (a.getD [])).filter (q5V (fk k a b c o d) (q6g s k a b c o d))))),.d (il 0)])) else some (0,[.d (dI none),.d (il (q0U (q0m (a.getD []) (b.getD []) (c.getD []) (o.getD [])) false false 0 0 [d,k]))]):=by
 rw [F40]
 have h76:=s76 (n+3) 1 1 d k a b c o ha hb hc ho
 have h45:=s45 (n+8) s a b c o ha hb hc ho
 have w1:=q23 s (a.getD []);have w2:=q23 s (b.getD []);have w3:=q23 s (c.getD []);have w4:=q7w s (o.getD [])
 have h43:=s43 (n+7) k (nzO (wo9 s (a.getD []))) (nzO (wo9 s (b.getD []))) (nzO (wo9 s (c.getD []))) (nzO (wo5 s (o.getD []))) (by rw [q0b];omega) (by rw [q0b];omega) (by rw [q0b];omega) (by rw [q0b];omega)
 simp only [q0b] at h43
 rw [qh0] at h76
 simp only [G40,q07,q0R,s77,q00,q02,q05,Bool.false_eq_true,if_false,h76,q03]
 by_cases he:q0U (q0m (a.getD []) (b.getD []) (c.getD []) (o.getD [])) false false 0 0 [d,k]=0
 ·rw [if_pos he,if_pos he]
  have g:=(q1o (q1i he)).cnt k
  have g':=((q1o (q1i he)).wo s).cnt k
  have hla:=(q16 (q1i he)).1
  have h95:=s95 n d (q1F he).1 g g' a (d9 b) (d9 c) (d5 o) (by omega)
  have hfn:=q7Q s (a.getD []) (b.getD []) (c.getD []) (o.getD [])
  simp only [q00,q02,q05,q0w,ne_eq,not_true_eq_false,decide_false,q01,Bool.false_eq_true,if_false,h45,q0I,h43,h95,q0e]
  generalize q8i s (a.getD []) (b.getD []) (c.getD []) (o.getD [])=q at hfn ⊢
  cases q with
  | false =>
   simp only [hfn.1 rfl,if_true,Bool.not_false]
   simp [dI,dSl]
  | true =>
   have hn:¬ q4v s (a.getD []) (b.getD []) (c.getD []) (o.getD []):=fun h=>by have:=hfn.2 h;cases this
   simp only [hn,if_false,Bool.not_true,Bool.false_eq_true]
   rfl
 ·rw [if_neg he,if_neg he]
  simp only [qaU,q00,q02,q05,q0w,q01]
  rw [if_pos (by simpa using he)]
  simp [dI,dSl]
end
end Go.VE
namespace Go.VE
open Go.RowKit Go.Shelf Go.Proofs
set_option maxRecDepth 100000
def rho:Ren:=⟨fun x=>if x=21 then 159 else if x=27 then 212 else if x=28 then 213 else if x=35 then 217 else if x=39 then 220 else 0,fun x=>if x=22 then 30 else x,fun x=>x⟩
theorem lays21:Lays2.n21 Tryz.prog rho where
 mixed:=by kernel_rfl
 f21:=by kernel_rfl
 f27:=by kernel_rfl
 f28:=by kernel_rfl
 f35:=by kernel_rfl
 f39:=by kernel_rfl
 t0:=by kernel_rfl
 a0:=fun w=>by kernel_rfl
 z0:=fun w=>by kernel_rfl
 v0:=fun w=>by kernel_rfl
 t3:=by kernel_rfl
 a3:=fun w=>by kernel_rfl
 z3:=fun w=>by kernel_rfl
 v3:=fun w=>by kernel_rfl
 t4:=by kernel_rfl
 a4:=fun w=>by kernel_rfl
 z4:=fun w=>by kernel_rfl
 v4:=fun w=>by kernel_rfl
 t22:=by kernel_rfl
 a22:=fun w=>by kernel_rfl
 z22:=fun w=>by kernel_rfl
 v22:=fun w=>by kernel_rfl
 i3:=by kernel_rfl
theorem qi8:qfJ Tryz.prog (cf3 tb Tryz.prog):=by
 intro f p h
 by_cases hf:f=159
 ·subst hf
  have e:(cf3 tb Tryz.prog).sp 159=some (1,3,8):=by kernel_rfl
  rw [e] at h
  cases h
  exact qcf lays21
 ·exfalso
  have e:(cf3 tb Tryz.prog).sp f=none:=by
   show spT f=none
   unfold spT
   split
   ·exact absurd rfl hf
   ·rfl
  rw [e] at h
  cases h
end Go.VE
namespace Go.VE
open Go.RowKit Go.Proofs Go.Proofs.YtobeabinccohlaaGreat
set_option maxRecDepth 100000
theorem qis:Tryz.prog.follows .mixedOrders=true:=lays21.mixed
theorem qfy (n:Nat):qdr Tryz.prog (cf3 tb Tryz.prog) (FN n):=qhZ qis qi8 n
theorem qaH (n:Nat):qha Tryz.prog (cf3 tb Tryz.prog) (FN n):=qjh qis qi8 n
theorem own:ownKnob Tryz.prog.godebug=none:=by kernel_rfl
theorem q7z:laidOutB Tryz.prog=true:=by kernel_rfl
theorem o3 {n:Nat} {ds:List D} (h:HasT Tryz.prog (n+1) 3 ds):∃ z,ds=[il z]∧-9223372036854775808≤z∧z≤9223372036854775807:=h.int Tryz.underlying3
theorem o47 {n:Nat} {ds:List D} (h:HasT Tryz.prog (n+2) 47 ds):∃ a b,ds=[il a,il b]:=by
 obtain ⟨a,b,rfl,h1,c,d,rfl,h2,rfl⟩:=h.struct Tryz.underlying47 rfl
 obtain ⟨x,rfl,_⟩:=o3 h1
 obtain ⟨y,rfl,_⟩:=o3 h2
 exact ⟨x,y,rfl⟩
theorem oE9 {n:Nat} {ds:List D} (h:q4j (HasT Tryz.prog (n+2)) [3,3,3,47,47,3,3] ds):∃ e:E9,ds=r9 e:=by
 obtain ⟨a1,b1,rfl,h1,a2,b2,rfl,h2,a3,b3,rfl,h3,a4,b4,rfl,h4,a5,b5,rfl,h5,a6,b6,rfl,h6,a7,b7,rfl,h7,rfl⟩:=h
 obtain ⟨x1,rfl,_⟩:=o3 h1
 obtain ⟨x2,rfl,_⟩:=o3 h2
 obtain ⟨x3,rfl,_⟩:=o3 h3
 obtain ⟨y1,y2,rfl⟩:=o47 h4
 obtain ⟨z1,z2,rfl⟩:=o47 h5
 obtain ⟨x6,rfl,_⟩:=o3 h6
 obtain ⟨x7,rfl,_⟩:=o3 h7
 exact ⟨⟨x1,x2,x3,y1,y2,z1,z2,x6,x7⟩,rfl⟩
theorem o82 {n:Nat} {ds:List D} (h:HasT Tryz.prog (n+3) 82 ds):∃ e:E5,ds=r5 e:=by
 obtain ⟨a1,b1,rfl,h1,a2,b2,rfl,h2,a3,b3,rfl,h3,a4,b4,rfl,h4,a5,b5,rfl,h5,rfl⟩:=h.struct Tryz.underlying82 rfl
 obtain ⟨x1,rfl,_⟩:=o3 h1
 obtain ⟨x2,rfl,_⟩:=o3 h2
 obtain ⟨x3,rfl,_⟩:=o3 h3
 obtain ⟨x4,rfl,_⟩:=o3 h4
 obtain ⟨x5,rfl,_⟩:=o3 h5
 exact ⟨⟨x1,x2,x3,x4,x5⟩,rfl⟩
theorem qc1 {α:Type} {f:α→List D}:∀ {o:Option Rr},(∀ r∈o.getD [],∃ c,r=f c)→∃ q:Option (List α),o=q.map (·.map f)
 | none,_=>⟨none,rfl⟩
 | some rows,h=>by
  obtain ⟨l,hl⟩:=qbH (f:=f) (rows:=rows) h
  exact ⟨some l,by rw [hl];rfl⟩
theorem qeb {n t e:Nat} {ds:List D} (hu:Tryz.prog.underlying t=some (.slice e)) (hc:Tryz.prog.cellsOf e=9) (hb:Tryz.prog.bytesOf e=72) (he:∀ r,HasT Tryz.prog (n+3) e r→∃ x:E9,r=r9 x) (h:HasT Tryz.prog (n+4) t ds):∃ o:Option (List E9),ds=[d9 o]∧(o.getD []).length*72≤140737488351232:=by
 obtain ⟨o,rfl,h1,h2⟩:=h.sl hu hc hb
 obtain ⟨q,rfl⟩:=qc1 (f:=r9) fun r hr=>he r (h2 r hr)
 refine ⟨q,rfl,?_⟩
 cases q with
 | none=>simp
 | some l=>simpa using h1
theorem o50 {n:Nat} {r:List D} (h:HasT Tryz.prog (n+3) 50 r):∃ x:E9,r=r9 x:=oE9 (h.struct Tryz.underlying50 rfl)
theorem o52 {n:Nat} {r:List D} (h:HasT Tryz.prog (n+3) 52 r):∃ x:E9,r=r9 x:=oE9 (h.struct Tryz.underlying52 rfl)
theorem o54 {n:Nat} {r:List D} (h:HasT Tryz.prog (n+3) 54 r):∃ x:E9,r=r9 x:=oE9 (h.struct Tryz.underlying54 rfl)
theorem o25 {n:Nat} {ds:List D} (h:HasT Tryz.prog (n+4) 25 ds):∃ o:Option (List E5),ds=[d5 o]∧(o.getD []).length*40≤140737488351232:=by
 obtain ⟨o,rfl,h1,h2⟩:=h.sl (c:=5) (b:=40) Tryz.underlying25 (by kernel_rfl) (by kernel_rfl)
 obtain ⟨q,rfl⟩:=qc1 (f:=r5) fun r hr=>o82 (h2 r hr)
 refine ⟨q,rfl,?_⟩
 cases q with
 | none=>simp
 | some l=>simpa using h1
theorem o27 {n:Nat} {ds:List D} (h:HasT Tryz.prog (n+5) 27 ds):∃ (a b c:Option (List E9)) (o:Option (List E5)),ds=[d9 a,d9 b,d9 c,d5 o]∧(a.getD []).length*72≤140737488351232∧(b.getD []).length*72≤140737488351232∧(c.getD []).length*72≤140737488351232∧(o.getD []).length*40≤140737488351232:=by
 obtain ⟨a1,b1,rfl,h1,a2,b2,rfl,h2,a3,b3,rfl,h3,a4,b4,rfl,h4,rfl⟩:=h.struct Tryz.underlying27 rfl
 obtain ⟨a,rfl,ha⟩:=qeb Tryz.underlying22 (by kernel_rfl) (by kernel_rfl) (fun r hr=>o50 hr) h1
 obtain ⟨b,rfl,hb⟩:=qeb Tryz.underlying23 (by kernel_rfl) (by kernel_rfl) (fun r hr=>o52 hr) h2
 obtain ⟨c,rfl,hc⟩:=qeb Tryz.underlying24 (by kernel_rfl) (by kernel_rfl) (fun r hr=>o54 hr) h3
 obtain ⟨o,rfl,ho⟩:=o25 h4
 exact ⟨a,b,c,o,rfl,ha,hb,hc,ho⟩
theorem o29 {n:Nat} {ds:List D} (h:HasT Tryz.prog (n+2) 29 ds):∃ p f d k,ds=[il p,il f,il d,il k]:=by
 obtain ⟨a1,b1,rfl,h1,a2,b2,rfl,h2,a3,b3,rfl,h3,a4,b4,rfl,h4,rfl⟩:=h.struct Tryz.underlying29 rfl
 obtain ⟨x1,rfl,_⟩:=o3 h1
 obtain ⟨x2,rfl,_⟩:=o3 h2
 obtain ⟨x3,rfl,_⟩:=o3 h3
 obtain ⟨x4,rfl,_⟩:=o3 h4
 exact ⟨x1,x2,x3,x4,rfl⟩
theorem qcw (ok:Bool) (f:Int) (ds:List Int):q0U ok true true 1 f ds=q0U ok false true 0 f ds:=by
 unfold q0U;simp
end Go.VE
namespace Go.VE
open Go.RowKit Go.Proofs
theorem a5 {Fn:Nat→List D→Out} {FnD:D→List Sh→List D→Out} {m:Nat} (A B C O L1 L1' L2 L2' L4 L4' L5 L5':D) (p f d k x y e1 e2 e3 e4 e5 lo hi:Int)
  (h32:Fn 32 [A,B,C,O,il f,il d,il k]=some (0,[.d L1,.d (il e1)])) (h33:Fn 33 [A,B,C,O,il p,il f,il d,il k]=some (0,[.d L1',.d (il e1)]))
  (h34:Fn 34 [A,B,C,O,il f,il d,il k]=some (0,[.d L2,.d (il e2)])) (h35:Fn 35 [A,B,C,O,il p,il f,il d,il k]=some (0,[.d L2',.d (il e2)]))
  (h29:Fn 29 [A,B,C,O,il f,il d,il k]=some (0,[.d (il lo),.d (il hi),.d (il e3)])) (h36:Fn 36 [A,B,C,O,il p,il f,il d,il k]=some (0,[.d (il lo),.d (il hi),.d (il e3)]))
  (h37:Fn 37 [A,B,C,O,il d,il k,il x]=some (0,[.d L4,.d (il e4)])) (h38:Fn 38 [A,B,C,O,il p,il f,il d,il k,il x]=some (0,[.d L4',.d (il e4)]))
  (h39:Fn 39 [A,B,C,O,il y,il d,il k]=some (0,[.d L5,.d (il e5)])) (h40:Fn 40 [A,B,C,O,il y,il p,il f,il d,il k]=some (0,[.d L5',.d (il e5)]))
  (q1:Fn 22 [L1,L1']=some (0,[.d (bl true)])) (q2:Fn 22 [L2,L2']=some (0,[.d (bl true)])) (q4:Fn 22 [L4,L4']=some (0,[.d (bl true)])) (q5:Fn 22 [L5,L5']=some (0,[.d (bl true)])) (h23:Fn 23 []=some (0,[.d (bl true)])) :
  G5 (q06 Fn FnD m) A B C O (il p) (il f) (il d) (il k) (il x) (il y)=some (0,[.d (bl true)]):=by
 simp only [G5,q07,h32,h33,h34,h35,h29,h36,h37,h38,h39,h40,q00,q02,q05,q1,q2,q4,q5,h23,q01,q0K,qdX,Bool.false_eq_true,if_false,and_self,decide_true,if_true,q0e]
theorem q78 (n:Nat) (l m:Option (List Int)) (h:l.getD []=m.getD []) (hl:(l.getD []).length≤1000):FN (n+1) 22 [dI l,dI m]=some (0,[.d (bl true)]):=by
 rw [s22 n l m (by omega)];simp [h]
theorem two2 {n:Nat} {c:Prop} [Decidable c] {u v:Out} {l m:Option (List Int)} {e:Int} (hu:u=if c then some (0,[.d (dI l),.d (il 0)]) else some (0,[.d (dI none),.d (il e)])) (hv:v=if c then some (0,[.d (dI m),.d (il 0)]) else some (0,[.d (dI none),.d (il e)]))
  (h:l.getD []=m.getD []) (hl:c→(l.getD []).length≤1000):∃ L M x,u=some (0,[.d L,.d (il x)])∧v=some (0,[.d M,.d (il x)])∧FN (n+1) 22 [L,M]=some (0,[.d (bl true)]):=by
 subst hu hv
 by_cases hc:c
 ·rw [if_pos hc,if_pos hc];exact ⟨_,_,_,rfl,rfl,q78 n l m h (hl hc)⟩
 ·rw [if_neg hc,if_neg hc];exact ⟨_,_,_,rfl,rfl,q78 n none none rfl (by simp)⟩
theorem two3 {c:Prop} [Decidable c] {u v:Out} {g h g' h' e:Int} (hu:u=if c then some (0,[.d (il g),.d (il h),.d (il 0)]) else some (0,[.d (il 0),.d (il 0),.d (il e)])) (hv:v=if c then some (0,[.d (il g'),.d (il h'),.d (il 0)]) else some (0,[.d (il 0),.d (il 0),.d (il e)])) (h1:g=g') (h2:h=h') :
  ∃ x y z,u=some (0,[.d (il x),.d (il y),.d (il z)])∧v=some (0,[.d (il x),.d (il y),.d (il z)]):=by
 subst hu hv h1 h2
 by_cases hc:c
 ·rw [if_pos hc];exact ⟨_,_,_,rfl,rfl⟩
 ·rw [if_neg hc];exact ⟨_,_,_,rfl,rfl⟩
theorem two4 {n:Nat} {c q:Prop} [Decidable c] [Decidable q] {u v:Out} {l m:Option (List Int)} {e:Int} (hu:u=if c then (if q then some (0,[.d (dI none),.d (il 3)]) else some (0,[.d (dI l),.d (il 0)])) else some (0,[.d (dI none),.d (il e)])) (hv:v=if c then (if q then some (0,[.d (dI none),.d (il 3)]) else some (0,[.d (dI m),.d (il 0)])) else some (0,[.d (dI none),.d (il e)]))
  (h:l.getD []=m.getD []) (hl:c→(l.getD []).length≤1000):∃ L M x,u=some (0,[.d L,.d (il x)])∧v=some (0,[.d M,.d (il x)])∧FN (n+1) 22 [L,M]=some (0,[.d (bl true)]):=by
 subst hu hv
 by_cases hc:c
 ·rw [if_pos hc,if_pos hc]
  by_cases hq:q
  ·rw [if_pos hq,if_pos hq];exact ⟨_,_,_,rfl,rfl,q78 n none none rfl (by simp)⟩
  ·rw [if_neg hq,if_neg hq];exact ⟨_,_,_,rfl,rfl,q78 n l m h (hl hc)⟩
 ·rw [if_neg hc,if_neg hc];exact ⟨_,_,_,rfl,rfl,q78 n none none rfl (by simp)⟩
theorem q4S (q:Int→Bool) (l:List E9) (h:l.length≤60):((q0O l).filter q).length≤1000:=by
 have h1:=List.length_filter_le q (q0O l)
 have h2:=q1N l
 omega
theorem s5 (n:Nat) (p f d k x y:Int) (a b c:Option (List E9)) (o:Option (List E5)) (ha:(a.getD []).length*72≤140737488351232) (hb:(b.getD []).length*72≤140737488351232) (hc:(c.getD []).length*72≤140737488351232) (ho:(o.getD []).length*40≤140737488351232) :
  G5 (RP (n+111)) (d9 a) (d9 b) (d9 c) (d5 o) (il p) (il f) (il d) (il k) (il x) (il y)=some (0,[.d (bl true)]):=by
 have h32:=s32 (n+1) f d k a b c o ha hb hc ho
 have h33:=s33 (n+102) p f d k a b c o ha hb hc ho
 have h34:=s34 (n+1) f d k a b c o ha hb hc ho
 have h35:=s35 (n+102) p f d k a b c o ha hb hc ho
 have h29:=s29 (n+1) f d k a b c o ha hb hc ho
 have h36:=s36 (n+101) p f d k a b c o ha hb hc ho
 have h37:=s37 (n+2) d k x a b c o ha hb hc ho
 have h38:=s38 (n+101) p f d k x a b c o ha hb hc ho
 have h39:=s39 (n+2) y d k a b c o ha hb hc ho
 have h40:=s40 (n+101) p f d k a b c o ha hb hc ho y
 rw [qcw] at h33 h35 h36
 have l1:∀ {ps fs:Bool} {p f:Int} {ds:List Int},q0U (q0m (a.getD []) (b.getD []) (c.getD []) (o.getD [])) ps fs p f ds=0→(a.getD []).length≤60:=fun he=>(q16 (q1i he)).1
 have l2:(q0T k (a.getD [])).length≤(a.getD []).length:=q5I _ _
 obtain ⟨L1,M1,e1,h32,h33,q1⟩:=two2 (n:=n+110) h32 h33 (by rw [qaL,q0b]) (fun he=>by rw [qaL];exact q4S _ _ (by have:=l1 he;omega))
 obtain ⟨L2,M2,e2,h34,h35,q2⟩:=two2 (n:=n+110) h34 h35 (by rw [qek,q0b]) (fun he=>by rw [qek];exact q4S _ _ (by have:=l1 he;omega))
 obtain ⟨lo,hi,e3,h29,h36⟩:=two3 h29 h36 (by rw [qaL]) (by rw [qek])
 obtain ⟨L4,M4,e4,h37,h38,q4⟩:=two2 (n:=n+110) h37 h38 (by rw [q1X,q0b]) (fun he=>by rw [q1X];exact q4S _ _ (l1 he))
 obtain ⟨L5,M5,e5,h39,h40,q5⟩:=two4 (n:=n+110) h39 h40 (by rw [qdo,q1X,q0b]) (fun he=>by rw [qdo,q1X];exact q4S _ _ (l1 he))
 exact a5 _ _ _ _ _ _ _ _ _ _ _ _ _ _ _ _ _ _ _ _ _ _ _ _ _ h32 h33 h34 h35 h29 h36 h37 h38 h39 h40 q1 q2 q4 q5 (s23 n)
set_option maxRecDepth 100000 in
theorem o59 {n:Nat} {ds:List D} (h:HasT Tryz.prog (n+2) 59 ds):∃ x y,ds=[il x,il y]:=by
 obtain ⟨a,b,rfl,h1,c,d,rfl,h2,rfl⟩:=h.arr Tryz.underlying59
 obtain ⟨x,rfl,_⟩:=o3 h1
 obtain ⟨y,rfl,_⟩:=o3 h2
 exact ⟨x,y,rfl⟩
end Go.VE
namespace Go.VE
open Go.RowKit Go.Proofs Go.Proofs.YtobeabinccohlaaGreat
set_option maxRecDepth 100000
theorem q8l (vds:List VD) (h:VTs Tryz.prog 8 [27,29,59] vds):SC Tryz.prog 5 vds (.one (.d (bl true))):=by
 obtain ⟨_,_,rfl,h1,h⟩:=q1K h
 obtain ⟨_,_,rfl,h2,h⟩:=q1K h
 obtain ⟨_,_,rfl,h3,h⟩:=q1K h
 cases q86 h
 obtain ⟨_,rfl,k1⟩:=h1.agg_ Tryz.underlying27
 obtain ⟨_,rfl,k2⟩:=h2.agg_ Tryz.underlying29
 obtain ⟨_,rfl,k3⟩:=h3.arr_ Tryz.underlying59
 obtain ⟨a,b,c,o,rfl,ha,hb,hc,ho⟩:=o27 k1
 obtain ⟨p,f,d,k,rfl⟩:=o29 k2
 obtain ⟨x,y,rfl⟩:=o59 k3
 refine qew (T:=tb) (fuel:=400) (m0:=M0) (xs:=[d9 a,d9 b,d9 c,d5 o,il p,il f,il d,il k,il x,il y]) qis (qfy 111) (qaH 111) qi8 (by decide) (sh:=[.agg 4,.agg 4,.agg 2]) rfl rfl rfl ?_
 rw [G5_eq]
 exact s5 0 p f d k x y a b c o ha hb hc ho
end Go.VE
namespace Go.Proofs.YtobeabinccohlaaGreat
open Go.VE Go.RowKit
set_option maxRecDepth 100000
theorem q5S (os:Os) (started:os.Started) (H:Type) (enc:TypeId×Value→H) :
  ReturnsInHanded {} Tryz.checked os 5 .any (Rows.familyHeadsSpec.pre6 enc Tryz.prog Tryz.f5 Rows.familyHeadsRow.domain false) (Rows.familyHeadsSpec.post enc Tryz.prog Tryz.f5 false true false false) :=
 qex (C:=Tryz.checked) (n:=8) (tb:=4) own started (by kernel_rfl) Tryz.func5
  (ChangeSpec.witness6 (enc:=enc) (C:=Tryz.checked) false ⟨#[],#[.agg #[.slice none 0 0,.slice none 0 0,.slice none 0 0,.slice none 0 0],.agg #[.int .i64 0,.int .i64 0,.int .i64 0,.int .i64 0],.agg #[.int .i64 0,.int .i64 0]],[]⟩ 8 (by kernel_rfl) (by kernel_rfl) (by kernel_rfl) (by kernel_rfl))
  q7z (by kernel_rfl) (by kernel_rfl) Tryz.underlying4 rfl
  (fun ds hd=>by
   rw [show Tryz.f5.params.toList=[27,29,59] by kernel_rfl] at hd
   match ds,hd with
   | [a,b,c],_=>rfl)
  (fun vds h=>q8l vds h)
theorem q6O:Rows.familyHeadsRow.holds Tryz.pinned (OpenSpec.ofChange Rows.familyHeadsSpec) :=
 OpenClaim.holds_of_wide 5 Tryz.f5 rfl rfl rfl rfl rfl rfl rfl ⟨rfl,rfl,rfl,rfl,rfl⟩ rfl rfl rfl rfl rfl (by kernel_rfl) Tryz.func5 (by kernel_rfl)
  (of_decide_eq_true (by kernel_rfl)) (by unfold Func.isWrapper;first | (rw [if_pos (by decide +kernel)];kernel_rfl) | (rw [if_neg (by decide +kernel)];exact ⟨rfl,rfl⟩))
  (fun os started H enc _=>q5S os started H enc)
theorem familyHeads_holds:Rows.FamilyHeadsSaid:=q6O
#print axioms familyHeads_holds
end Go.Proofs.YtobeabinccohlaaGreat
