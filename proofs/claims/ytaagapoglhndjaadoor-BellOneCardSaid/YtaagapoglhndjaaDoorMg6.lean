/- Bell: the six watches at first; what is asked of them. -/
import Derived.Test.YtaagapoglhndjaaDoorMg5
import Derived.Test.YtaagapoglhndjaaDoorMg2
import Derived.Test.YtaagapoglhndjaaDoorChecked
import Derived.Test.YtaagapoglhndjaaDoorMh
import Derived.KernelRfl
import Derived.WalkKit
import Derived.LoopN
import Derived.Shelf.Strings.BuilderF
import Derived.Test.YtaagapoglhndjaaDoorMt
import Derived.Test.YtaagapoglhndjaaDoorMg0
import Derived.Test.YtaagapoglhndjaaDoorMg1
namespace Go.VE
open Go.RowKit Go.Proofs
section
set_option maxRecDepth 100000
def rP (p:P3):List D:=[il p.1,il p.2.1,dT p.2.2]
abbrev dP (o:Option (List P3)):D:=dL 3 rP o
def fields:List Int:=[3,5,8,9]
theorem s101 (n:Nat):FN (n+1) 101 []=some (0,[.d (dL 1 rI (some fields))]):=by
 rw [FS,qjY]
 simp only [G101,q0k,q0o,q09,q0v,List.length_cons,List.length_nil,Nat.reduceAdd,q0O,if_true,q0K,q2N,q0t]
 rfl
abbrev allB:List Brd:=[(3,63),(5,7),(8,42),(9,12)]
theorem l99 (n:Nat) {k:Nat} (hk:k < 6):q1b [qdd (RP (n+3))] M0 0 [.d (il k),.n 4,.n 4,.n 0,.d (il 0),.r [],.r (allB.map rB)]=some (0,[.n (bk k).length,.r ((bk k).map rB)]):=by
 have:=q0L (β:=List Brd) allB (by simp) (qdd (RP (n+3))) (fun i g=>[.d (il k),.n 4,.n 4,.n g.length,.d (il i),.r (g.map rB),.r (allB.map rB)]) (fun i g=>g.length≤i)
  (fun i r g=>some (0,[.n (g++r.filter fun b=>b.2.toNat.testBit k).length,.r ((g++r.filter fun b=>b.2.toNat.testBit k).map rB)])) ?_ ?_ M0 [] (by simp) (q2K (by simp))
 ·simpa [bk] using this
 ·intro g j _
  simp [qdd]
 ·intro i e r g j hi hd hlt hw hg ih
  have hlt4:i < 4:=hlt
  have hlt':(i:Int) < ((4:Nat):Int):=by omega
  have h6:six e.2:=by
   have:=List.mem_of_getElem? hi
   simp only [List.mem_cons,List.not_mem_nil,or_false] at this
   rcases this with rfl | rfl | rfl | rfl<;>(unfold six;omega)
  have hrow:(allB.map rB)[i]?=some (rB e):=by rw [List.getElem?_map,hi];rfl
  have h71:=fun x=>s71 n x h6 (k:Int)
  have hfit:=qjy (a:=g.length) (b:=1) (c:=16) (by omega) (by omega) (by omega)
  have hl4:(allB.map rB).length=4:=rfl
  have hc:(rB e).length=2:=rfl
  generalize hA:allB.map rB=A at hrow hl4
  rw [List.filter_cons]
  cases hb:e.2.toNat.testBit k with
  | false =>
   have ih0:=ih g (by omega)
   simp only [q1h,hA] at ih0
   simp only [qdd,q06,q0a,q0e,q0g,q0h,q0j,q1A,q0V,hlt',decide_true,q04,if_true,q0v,hl4,q0O,q1K,Int.natCast_nonneg,true_and,Int.toNat_natCast,q3n,hrow,hc,cB0,cB1,q0i,h71,q02,q1k hk,hb,Bool.false_eq_true,if_false,q0T,q09,hw]
   exact ih0
  | true =>
   have ih0:=ih (g++[e]) (by simp;omega)
   simp only [q1h,hA] at ih0
   rw [if_pos rfl,show g++e::r.filter (fun b=>b.2.toNat.testBit k)=(g++[e])++r.filter (fun b=>b.2.toNat.testBit k) by simp,← ih0]
   simp only [qdd,q06,q0a,q0e,q0g,q0h,q0j,q1A,q0V,hlt',decide_true,q04,if_true,q0v,hl4,q0O,q1K,Int.natCast_nonneg,Int.toNat_natCast,q3n,hrow,hc,cB0,cB1,q0i,h71,q02,q1k hk,hb,q0o,q0k,List.length_cons,List.length_nil,List.length_map,List.length_append,Nat.zero_add,q0K,List.take,q0n,q0Q,hfit,and_self,q0I,q0T,q09,hw,List.map_append,List.map_cons,List.map_nil]
   rfl
theorem s99 (n:Nat) {k:Nat} (hk:k < 6):FN (n+4) 99 [il k]=some (0,[.d (dB (opN (bk k)))]):=by
 rw [FS,G99_eq]
 have h:=l99 n hk
 have e:allB.map rB=[[il 3,il 63],[il 5,il 7],[il 8,il 42],[il 9,il 12]]:=rfl
 rw [e] at h
 simp only [G99,q10,q0k,q0o,q09]
 rw [h]
 simp only [q02,q0e,q0h,q0j,q0v,List.length_map,q0O,if_true,qgG,q0t]
def w0 (k:Nat):W4:=((k:Int),opN (bk k),none,0)
def ws0:List W4:=(List.range 6).map w0
theorem qhF:∀ k:Nat,k < 6→okP (k:Int) (bk k) [] 0=true:=by decide
theorem s55 (n:Nat):FN (n+9) 55 []=some (0,[.d (dW (some ws0)),.d (dP none),.d (bl true)]):=by
 rw [FS,G55_eq]
 have:=q30 (β:=List W4) 6 (by omega) (qhQ (RP (n+8))) (fun i g=>[.d (il i),.r (g.map rWt),.n g.length]) (fun i g=>g.length=i)
  (fun i g=>some (0,[.r ((g++(rg i).map w0).map rWt),.n (g++(rg i).map w0).length])) ?_ ?_ [] rfl
 ·simp only [G55,q10,q09,q0u,q0k,q0o]
  simp only [List.map_nil,List.length_nil,Int.natCast_zero,List.nil_append] at this
  rw [this]
  simp only [q02,q0h,q0e,q0g,q0v,List.length_map,q0O,if_true,qgG,q6A,q0t]
  rfl
 ·intro g k hg
  simp [qhQ,rg]
 ·intro i g k hi hg hw ih
  have h99:=s99 (n+4) hi
  have hok:=q3w.1 (qhF i hi)
  have h9:=s9 (n+3) (i:Int) (opN (bk i)) (by rw [q42];have:=q8b (qhF i hi);omega)
  rw [q42,if_pos hok.1,if_pos hok.2.1] at h9
  have hfit:(g.length+1)*64≤140737488355328∧g.length+1≤9223372036854775807:=by omega
  have ih0:=ih (g++[w0 i]) (by simp [hg])
  rw [q8N hi,List.map_cons,show g++w0 i::(rg (i+1)).map w0=(g++[w0 i])++(rg (i+1)).map w0 by simp,← ih0]
  simp only [qhQ,q06,q0a,q0e,q0g,q0h,q0j,q09,q0V,show (i:Int) < 6 by omega,decide_true,q04,if_true,q0i,h99,q02,h9,q2a,ne_eq,not_true,decide_false,Bool.false_eq_true,if_false,q0o,q0k,q0v,List.length_cons,List.length_nil,List.length_map,List.length_append,Nat.zero_add,q0O,q0K,List.take,q0n,q0Q,hfit,and_self,q0I,q0T,hw,q1h,List.map_append,List.map_cons,List.map_nil]
  rfl
theorem qhY {k:Nat} {w:W4} (h:ws0[k]?=some w):k < 6∧w=w0 k:=by
 unfold ws0 at h
 rw [List.getElem?_map] at h
 cases hk:(List.range 6)[k]? with
 | none=>rw [hk] at h;cases h
 | some j =>
  rw [hk] at h
  simp only [Option.map_some,Option.some.injEq] at h
  obtain ⟨h1,h2⟩:=List.getElem?_eq_some_iff.1 hk
  rw [List.getElem_range] at h2
  subst h2
  exact ⟨by simpa using h1,h.symm⟩
theorem good0:GoodW ws0 []:=by
 refine ⟨rfl,fun k w h=>?_,fun k w a v h _ s hs=>?_,fun p hp=>by cases hp⟩
 ·obtain ⟨h6,rfl⟩:=qhY h
  exact ⟨rfl,q42 _,qhF k h6⟩
 ·obtain ⟨h6,rfl⟩:=qhY h
  cases hs
theorem GoodW.chk_ {ws:List W4} {ps:List P3} (hG:GoodW ws ps):∀ (l:List W4) (i:Nat),ws.drop i=l→chk (qcJ ws i) l=true
 | [],_,_=>rfl
 | w::r,i,h=>by
  have hi:i < ws.length:=by
   rcases Nat.lt_or_ge i ws.length with h' | h'
   ·exact h'
   ·rw [List.drop_eq_nil_of_le h'] at h;cases h
  rw [List.drop_eq_getElem_cons hi] at h
  injection h with h1 h2
  have hw:ws[i]?=some w:=by rw [List.getElem?_eq_getElem hi,h1]
  have ih:=hG.chk_ r (i+1) h2
  rw [q5W hw] at ih
  rw [chk,ih,Bool.and_true,Bool.and_eq_true]
  refine ⟨wOK hG hw,?_⟩
  cases i with
  | zero=>rfl
  | succ i =>
   have hi':i < ws.length:=by omega
   have hv:=List.getElem?_eq_getElem hi'
   rw [q5W hv]
   simp only [ltO,decide_eq_true_eq]
   rw [(hG.wat _ _ hv).1,(hG.wat _ _ hw).1]
   omega
theorem qej {ws:List W4} {ps:List P3} (hG:GoodW ws ps) {fld:Int} {k:Nat} {w:W4} (hw:ws[k]?=some w) (h:opnW fld w=true):∃ e∈bk k,e.1=fld∧(rf k e (stk w)).opn=true:=by
 obtain ⟨a1,a2,_⟩:=hG.wat k w hw
 unfold opnW at h
 rw [a2] at h
 cases hx:bix fld (bk k) with
 | none=>rw [hx] at h;cases h
 | some j =>
  rw [hx] at h
  simp only at h
  have:=q6f hx
  exact ⟨_,this.1,this.2,by rw [←a1];exact h⟩
theorem qig {α:Type} {p:α→Bool}:∀ {l:List α},(l.Pairwise fun a b=>¬ (p a=true∧p b=true))→(l.filter p).length≤1
 | [],_=>by simp
 | a::r,h=>by
  cases h with
  | cons h1 h2 =>
   rw [List.filter_cons]
   split
   ·rename_i ha
    have:r.filter p=[]:=by
     rw [List.filter_eq_nil_iff]
     intro b hb hpb
     exact h1 b hb ⟨ha,hpb⟩
    simp [this]
   ·exact qig h2
theorem GoodW.who1 {ws:List W4} {ps:List P3} (hG:GoodW ws ps) (fld:Int):(q7J fld ws).length≤1:=by
 unfold q7J
 rw [List.length_map]
 refine qig ?_
 rw [List.pairwise_iff_getElem]
 rintro i j hi hj hij ⟨h1,h2⟩
 have hv:=List.getElem?_eq_getElem hi
 have hw:=List.getElem?_eq_getElem hj
 obtain ⟨e,he,hef,ho⟩:=qej hG hv h1
 obtain ⟨e',he',hef',ho'⟩:=qej hG hw h2
 exact hG.open1 (by omega) hv hw he he' (by rw [hef,hef']) ho ho'
theorem q9L {me h:Int} {bs:List Brd} {ss:List Stk} (h1:okP me bs ss h=true):bs.length≤4611686018427387904∧ss.length≤4611686018427387904:=by
 have:=q8b h1;have:=q54 h1;omega
theorem GoodW.small {ws:List W4} {ps:List P3} (hG:GoodW ws ps):∀ w∈ws,qdF w:=fun w hm=>by
 obtain ⟨k,hk,rfl⟩:=List.mem_iff_getElem.1 hm
 have:=wOK hG (List.getElem?_eq_getElem hk)
 exact q9L this
theorem GoodW.holds {ws:List W4} {ps:List P3} (hG:GoodW ws ps) (n:Nat) {a:Nat} {w:W4} (hw:ws[a]?=some w) (fld:Int) (b:Nat):∃ x g,FN (n+6) 31 [il w.1,dB w.2.1,dS w.2.2.1,il w.2.2.2,il fld,il b]=some (0,[.d (bl x),.d (il g)])∧(g=0→x=true→∃ e∈bk a,e.1=fld∧q0C a b ((rf a e (stk w)).no b)=true):=by
 obtain ⟨a1,a2,_⟩:=hG.wat a w hw
 have hok:=wOK hG hw
 have hsm:=q9L hok
 have h31:=s31 n w.1 w.2.2.2 w.2.1 w.2.2.1 fld (b:Int) hsm.2 hsm.1
 change _=ofR w.1 (w.2.1.getD []) (stk w) w.2.2.2 fld qjN _ at h31
 rw [h31]
 unfold ofR
 rw [if_pos hok]
 cases hx:bix fld (w.2.1.getD []) with
 | none=>exact ⟨false,94,rfl,fun h=>by cases h⟩
 | some j =>
  simp only [qiH]
  split
  ·exact ⟨false,1,rfl,fun h=>by cases h⟩
  ·refine ⟨_,0,rfl,fun _ h=>?_⟩
   have hm:=q6f hx
   rw [a2] at hm
   refine ⟨_,hm.1,hm.2,?_⟩
   rw [a2,a1] at h
   exact h
end
section
set_option maxRecDepth 100000
section
variable {ws:List W4} {ps:List P3} (hG:GoodW ws ps) (o:Option (List P3))
include hG
theorem l57_0 (n:Nat) {fi:Nat} {fld:Int} (hf:fields[fi]?=some fld) {a:Nat} (ha:a < 6) :
  q1b [qfG (RP (n+6))] M0 0 [.d (dW (some ws)),.d (dP o),.d (dL 1 rI (some fields)),.d (il fi),.d (il a),.d (il ((a:Int)+1))]=some (1,[.d (dW (some ws)),.d (dP o),.d (dL 1 rI (some fields)),.d (il fi),.d (il a)]):=by
 have:=q30 (β:=Unit) (5 - a) (by omega) (qfG (RP (n+6))) (fun i _=>[.d (dW (some ws)),.d (dP o),.d (dL 1 rI (some fields)),.d (il fi),.d (il a),.d (il ((a:Int)+1+i))]) (fun _ _=>True)
  (fun _ _=>some (1,[.d (dW (some ws)),.d (dP o),.d (dL 1 rI (some fields)),.d (il fi),.d (il a)])) ?_ ?_ () trivial
 ·simpa using this
 ·intro _ k _
  have:¬ ((a:Int)+1+((5 - a:Nat):Int) < 6):=by omega
  simp [qfG,this]
 ·intro i _ k hi _ _ ih
  have hb:a+1+i < 6:=by omega
  have hla:a < ws.length:=by rw [hG.len];exact ha
  have hlb:a+1+i < ws.length:=by rw [hG.len];exact hb
  have hv:=List.getElem?_eq_getElem hla
  have hw:=List.getElem?_eq_getElem hlb
  generalize ws[a]=v at hv
  generalize ws[a+1+i]=w at hw
  obtain ⟨x,g,h1,k1⟩:=hG.holds n hv fld (a+1+i)
  obtain ⟨y,g',h2,k2⟩:=hG.holds n hw fld a
  have hcast:((a+1+i:Nat):Int)=(a:Int)+1+i:=by omega
  rw [hcast] at h1
  have hv':((some ws).getD [])[a]?=some v:=hv
  have hw':((some ws).getD [])[a+1+i]?=some w:=hw
  have r2:=fun k=>rowW (Fn:=FN (n+6)) (FnD:=q2L Tryd.prog (cf3 tb Tryd.prog) (FN (n+6))) (m:=M0) hw' k
  rw [hcast] at r2
  have hf':((some fields).getD [])[fi]?=some fld:=hf
  have hlt:(a:Int)+1+i < 6:=by omega
  have hc:(RP (n+6)).cell (rI fld) 0=il fld:=rfl
  have hwr:IntKind.i64.wrap ((a:Int)+1+i+1)=(a:Int)+1+((i+1:Nat):Int):=by rw [q3v (by omega) (by omega)];omega
  have ih0:=ih () trivial
  have hno:¬ (g=0∧g'=0∧x=true∧y=true):=by
   rintro ⟨e1,e2,e3,e4⟩
   obtain ⟨e,he,hef,hwi⟩:=k1 e1 e3
   obtain ⟨e',he',hef',hwi'⟩:=k2 e2 e4
   exact hG.one (by omega) hv hw he he' (by rw [hef,hef']) hwi hwi'
  simp only [qfG,q06,q0a,q09,q0V,hlt,decide_true,q04,if_true,rowW hv',r2,qi4 hf' (show (rI fld).length=1 from rfl),hc,cW0,cW1,cW2,cW3,q0i,h1,h2,q02,q0H,q0T,hwr]
  by_cases e1:g=0
  ·by_cases e2:g'=0
   ·cases x with
    | false=>simp only [e1,e2,decide_true,if_true,Bool.false_eq_true,if_false];exact ih0
    | true =>
     cases y with
     | false=>simp only [e1,e2,decide_true,if_true,Bool.false_eq_true,if_false];exact ih0
     | true=>exact absurd ⟨e1,e2,rfl,rfl⟩ hno
   ·simp only [e1,e2,decide_true,if_true,decide_false,Bool.false_eq_true,if_false];exact ih0
  ·simp only [e1,decide_false,Bool.false_eq_true,if_false];exact ih0
theorem l57_1 (n:Nat) {fi:Nat} {fld:Int} (hf:fields[fi]?=some fld) :
  q1b [qfF (RP (n+6))] M0 0 [.d (dW (some ws)),.d (dP o),.d (dL 1 rI (some fields)),.d (il fi),.d (il 0)]=some (0,[.d (dW (some ws)),.d (dP o),.d (dL 1 rI (some fields)),.d (il fi)]):=by
 have:=q30 (β:=Unit) 6 (by omega) (qfF (RP (n+6))) (fun i _=>[.d (dW (some ws)),.d (dP o),.d (dL 1 rI (some fields)),.d (il fi),.d (il i)]) (fun _ _=>True)
  (fun _ _=>some (0,[.d (dW (some ws)),.d (dP o),.d (dL 1 rI (some fields)),.d (il fi)])) ?_ ?_ () trivial
 ·exact this
 ·intro _ k _
  simp [qfF]
 ·intro i _ k hi _ hw ih
  have ih0:=ih () trivial
  rw [q1h] at ih0
  have hl:=l57_0 hG o n hf hi
  simp only [qfF,q06,q0a,q09,q0V,show (i:Int) < 6 by omega,decide_true,q04,if_true,q0T,hw,q10,hl,q1C]
  exact ih0
theorem l57_2 (n:Nat):q1b [qfE (RP (n+6))] M0 0 [.d (dW (some ws)),.d (dP o),.d (dL 1 rI (some fields)),.d (il 0)]=some (0,[]):=by
 have:=q0L (β:=Unit) fields (by simp [fields]) (qfE (RP (n+6))) (fun i _=>[.d (dW (some ws)),.d (dP o),.d (dL 1 rI (some fields)),.d (il i)]) (fun _ _=>True) (fun _ _ _=>some (0,[])) ?_ ?_ M0 () trivial (q2K (by simp [fields]))
 ·exact this
 ·intro _ k _
  simp [qfE,q5c,fields]
 ·intro i fld r _ k hi hd hlt hw _ ih
  have ih0:=ih () trivial
  rw [q1h] at ih0
  have hi':((some fields).getD [])[i]?=some fld:=hi
  have hlt':(i:Int) < ((((some fields).getD []).length:Nat):Int):=by
   show (i:Int) < ((fields.length:Nat):Int)
   omega
  have hc:(RP (n+6)).cell (rI fld) 0=il fld:=rfl
  have hsm:=hG.small
  have h47:=s47 (n+1) (some ws) (by show ws.length≤_;rw [hG.len];omega) hsm fld
  have hfl:inn fld 1 99=true:=by
   have:=List.mem_of_getElem? hi
   simp only [fields,List.mem_cons,List.not_mem_nil,or_false] at this
   rcases this with rfl | rfl | rfl | rfl<;>rfl
  have h1:=hG.who1 fld
  unfold whoR at h47
  rw [if_pos (show chk none ((some ws).getD [])=true from hG.chk_ ws 0 rfl),if_neg (by show ¬ 6 < ws.length;rw [hG.len];omega),if_pos hfl] at h47
  have hl:=l57_1 hG o n hi
  have h1':¬ ((1:Int) < (((opN (q7J fld ((some ws).getD []))).getD []).length:Nat)):=by
   rw [q42]
   show ¬ ((1:Int) < ((q7J fld ws).length:Nat))
   omega
  simp only [qfE,q06,q0a,q5c,q09,q0V,hlt',decide_true,q04,if_true,qi4 hi' (show (rI fld).length=1 from rfl),hc,q0i,h47,q02,q2a,ne_eq,not_true,decide_false,Bool.false_eq_true,if_false,q2s,h1',q10,hl,q0T,hw]
  exact ih0
theorem s57 (n:Nat):FN (n+7) 57 [dW (some ws),dP o]=some (0,[.d (bl true)]):=by
 rw [FS,G57_eq]
 have hl:=l57_2 hG o n
 simp only [G57,q0i,s101,q02,q06,q10,q09,hl,q0u,q0t]
end
end
section
set_option maxRecDepth 100000
end
section
open Go.Shelf
set_option maxRecDepth 100000
set_option maxHeartbeats 4000000
theorem itoa1 (w:World):Calls Tryd.prog 117 #[.int .i64 1] w fun e w'=>e=.returned (.string ⟨#[49]⟩)∧w'=w:=by
 go_enter Tryd.func117,Tryd.ntmps117
 go_wp2
 go_ret
 exact ⟨rfl,rfl⟩
theorem itoa0 (w:World):Calls Tryd.prog 117 #[.int .i64 0] w fun e w'=>e=.returned (.string ⟨#[48]⟩)∧w'=w:=by
 go_enter Tryd.func117,Tryd.ntmps117
 go_wp2
 go_ret
 exact ⟨rfl,rfl⟩
theorem itoa7 (w:World):Calls Tryd.prog 117 #[.int .i64 7] w fun e w'=>e=.returned (.string ⟨#[55]⟩)∧w'=w:=by
 go_enter Tryd.func117,Tryd.ntmps117
 go_wp2
 go_ret
 exact ⟨rfl,rfl⟩
theorem row2 (w:World) (b:Nat) (h0:w.cell? ⟨b,0,none⟩=some (.int .i64 7)) (h1:w.cell? ⟨b,1,none⟩=some (.int .i64 1)) :
  Calls Tryd.prog 109 #[.string ⟨#[119,97,110,116,115]⟩,.slice (some ⟨b,0,none⟩) 2 2] w fun e w'=>e=.returned (.string ⟨#[119,97,110,116,115,32,55,32,49,10]⟩)∧w'=w:=by
 go_enter Tryd.func109,Tryd.ntmps109
 go_wp2
 refine wp_loop_rounds 3 ?_
 rw [rounds_succ]
 go_wp2_with (go_at_call 117;refine (itoa7 _).mono ?_;rintro e w' ⟨rfl,rfl⟩)
 rw [rounds_succ]
 go_wp2_with (go_at_call 117;refine (itoa1 _).mono ?_;rintro e w' ⟨rfl,rfl⟩)
 rw [rounds_succ]
 go_wp2
 go_ret
 exact ⟨rfl,rfl⟩
theorem row3 (w:World) (b:Nat) (h0:w.cell? ⟨b,0,none⟩=some (.int .i64 7)) (h1:w.cell? ⟨b,1,none⟩=some (.int .i64 0)) (h2:w.cell? ⟨b,2,none⟩=some (.int .i64 1)) :
  Calls Tryd.prog 109 #[.string ⟨#[116,97,108,108,121]⟩,.slice (some ⟨b,0,none⟩) 3 3] w fun e w'=>e=.returned (.string ⟨#[116,97,108,108,121,32,55,32,48,32,49,10]⟩)∧w'=w:=by
 go_enter Tryd.func109,Tryd.ntmps109
 go_wp2
 refine wp_loop_rounds 4 ?_
 rw [rounds_succ]
 go_wp2_with (go_at_call 117;refine (itoa7 _).mono ?_;rintro e w' ⟨rfl,rfl⟩)
 rw [rounds_succ]
 go_wp2_with (go_at_call 117;refine (itoa0 _).mono ?_;rintro e w' ⟨rfl,rfl⟩)
 rw [rounds_succ]
 go_wp2_with (go_at_call 117;refine (itoa1 _).mono ?_;rintro e w' ⟨rfl,rfl⟩)
 rw [rounds_succ]
 go_wp2
 go_ret
 exact ⟨rfl,rfl⟩
def rhoB:Ren:=⟨fun x=>if x=166 then 108 else if x=240 then 116 else if x=276 then 122 else if x=169 then 110 else 0,fun x=>if x=72 then 141 else if x=70 then 138 else if x=37 then 139 else if x=164 then 155 else if x=75 then 143 else if x=127 then 154 else if x=80 then 147 else x,fun x=>x⟩
theorem qjl:Lays.n166 Tryd.prog rhoB where
 mixed:=by kernel_rfl
 f166:=by kernel_rfl
 f240:=by kernel_rfl
 f276:=by kernel_rfl
 t0:=by kernel_rfl
 a0:=fun w=>by kernel_rfl
 z0:=fun w=>by kernel_rfl
 v0:=fun w=>by kernel_rfl
 t3:=by kernel_rfl
 a3:=fun w=>by kernel_rfl
 z3:=fun w=>by kernel_rfl
 v3:=fun w=>by kernel_rfl
 t4:=by kernel_rfl
 a4:=fun w=>by kernel_rfl
 z4:=fun w=>by kernel_rfl
 v4:=fun w=>by kernel_rfl
 t9:=by kernel_rfl
 a9:=fun w=>by kernel_rfl
 z9:=fun w=>by kernel_rfl
 v9:=fun w=>by kernel_rfl
 t20:=by kernel_rfl
 a20:=fun w=>by kernel_rfl
 z20:=fun w=>by kernel_rfl
 v20:=fun w=>by kernel_rfl
 t37:=by kernel_rfl
 a37:=fun w=>by kernel_rfl
 z37:=fun w=>by kernel_rfl
 v37:=fun w=>by kernel_rfl
 t70:=by kernel_rfl
 a70:=fun w=>by kernel_rfl
 z70:=fun w=>by kernel_rfl
 v70:=fun w=>by kernel_rfl
 t72:=by kernel_rfl
 a72:=fun w=>by kernel_rfl
 z72:=fun w=>by kernel_rfl
 v72:=fun w=>by kernel_rfl
 t75:=by kernel_rfl
 a75:=fun w=>by kernel_rfl
 z75:=fun w=>by kernel_rfl
 v75:=fun w=>by kernel_rfl
 t164:=by kernel_rfl
 a164:=fun w=>by kernel_rfl
 z164:=fun w=>by kernel_rfl
 v164:=fun w=>by kernel_rfl
theorem qjk:Lays.n169 Tryd.prog rhoB where
 mixed:=by kernel_rfl
 f169:=by kernel_rfl
 t0:=by kernel_rfl
 a0:=fun w=>by kernel_rfl
 z0:=fun w=>by kernel_rfl
 v0:=fun w=>by kernel_rfl
 t3:=by kernel_rfl
 a3:=fun w=>by kernel_rfl
 z3:=fun w=>by kernel_rfl
 v3:=fun w=>by kernel_rfl
 t9:=by kernel_rfl
 a9:=fun w=>by kernel_rfl
 z9:=fun w=>by kernel_rfl
 v9:=fun w=>by kernel_rfl
 t37:=by kernel_rfl
 a37:=fun w=>by kernel_rfl
 z37:=fun w=>by kernel_rfl
 v37:=fun w=>by kernel_rfl
 t70:=by kernel_rfl
 a70:=fun w=>by kernel_rfl
 z70:=fun w=>by kernel_rfl
 v70:=fun w=>by kernel_rfl
 t72:=by kernel_rfl
 a72:=fun w=>by kernel_rfl
 z72:=fun w=>by kernel_rfl
 v72:=fun w=>by kernel_rfl
 t127:=by kernel_rfl
 a127:=fun w=>by kernel_rfl
 z127:=fun w=>by kernel_rfl
 v127:=fun w=>by kernel_rfl
theorem qiu:Builder.Extra Tryd.prog rhoB where
 sizeBuilder:=by kernel_rfl
 liesBuilder:=by kernel_rfl
 t5:=by kernel_rfl
 a5:=fun w=>by kernel_rfl
 z5:=fun w=>by kernel_rfl
 v5:=fun w=>by kernel_rfl
 infoByte:=by kernel_rfl
 cellsByte:=by kernel_rfl
 sizeByte:=by kernel_rfl
 neB5:=by decide
theorem wS (B b:Nat) (bs:List Value) (s:ByteArray) (w:World) (h:Lib.IsBuilderF 141 5 B b bs w) (hlen:bs.length+s.size≤140737488355328) (hBw:B≤w.heap.size) :
  Calls Tryd.prog 108 #[.pointer (some ⟨b,0,none⟩),.string s] w fun e w'=>e=.returned (.tuple #[.int .i64 s.size,.nilIface])∧(Lib.BuilderAtF 141 5 B b (.pointer (some ⟨b,0,none⟩)) (bs++Lib.strCells s) w'∧Below B w w'):=Any.Builder_WriteString_f qjl qiu B b bs s w h hlen hBw
theorem wStr (B b:Nat) (l:List UInt8) (w:World) (h:Lib.IsBuilderF 141 5 B b (Lib.byteCells l) w) (hBw:B≤w.heap.size) :
  Calls Tryd.prog 110 #[.pointer (some ⟨b,0,none⟩)] w fun e w'=>e=.returned (.string ⟨l.toArray⟩)∧(Lib.IsBuilderF 141 5 B b (Lib.byteCells l) w'∧Below B w w'):=Any.Builder_String_any_f qjk qiu B b l w h hBw
end
section
open Go.Shelf
set_option maxRecDepth 100000
set_option maxHeartbeats 4000000
theorem print2 (w:World) (a:Nat) (o c:Nat) (_:2≤c) (h0:w.cell? ⟨a,o,none⟩=some (.int .i64 2)) (h1:w.cell? ⟨a,o+1,none⟩=some (.int .i64 7)) (h2:w.cell? ⟨a,o+2,none⟩=some (.int .i64 0)) (h3:w.cell? ⟨a,o+3,none⟩=some (.int .i64 1))
  (h4:w.cell? ⟨a,o+4,none⟩=some (.int .i64 1)) (h5:w.cell? ⟨a,o+5,none⟩=some (.int .i64 7)) (h6:w.cell? ⟨a,o+6,none⟩=some (.int .i64 0)) (h7:w.cell? ⟨a,o+7,none⟩=some (.int .i64 1))
  (hf:Calls Tryd.prog 105 #[.slice (some ⟨a,o,none⟩) 2 c,(.func (.func 106) #[] #[])] w fun e w'=>e=.returned (.bool false)∧Below w.heap.size w w') :
  Calls Tryd.prog 76 #[.slice (some ⟨a,o,none⟩) 2 c] w fun e w'=>e=.returned (.tuple #[.string ⟨#[119,97,110,116,115,32,55,32,49,10,116,97,108,108,121,32,55,32,48,32,49,10]⟩,.int .i64 0])∧Below w.heap.size w w':=by
 have ha:a < w.heap.size:=by
  unfold World.cell? at h0
  simp only at h0
  rcases Nat.lt_or_ge a w.heap.size with h | h
  ·exact h
  ·rw [Array.getElem?_eq_none h] at h0;cases h0
 go_enter Tryd.func76,Tryd.ntmps76
 go_wp2_with (go_at_call 105;refine hf.mono ?_)
 rintro e w1 ⟨rfl,b1⟩
 have ha1:a < w1.heap.size:=Nat.lt_of_lt_of_le ha b1.size
 have g0:=(b1.cell (p:=⟨a,o,none⟩) ha).trans h0
 have g1:=(b1.cell (p:=⟨a,o+1,none⟩) ha).trans h1
 have g2:=(b1.cell (p:=⟨a,o+2,none⟩) ha).trans h2
 have g3:=(b1.cell (p:=⟨a,o+3,none⟩) ha).trans h3
 have g4:=(b1.cell (p:=⟨a,o+4,none⟩) ha).trans h4
 have g5:=(b1.cell (p:=⟨a,o+5,none⟩) ha).trans h5
 have g6:=(b1.cell (p:=⟨a,o+6,none⟩) ha).trans h6
 have g7:=(b1.cell (p:=⟨a,o+7,none⟩) ha).trans h7
 clear h0 h1 h2 h3 h4 h5 h6 h7 hf
 go_wp2
 refine wp_loop_rounds 3 ?_
 rw [rounds_succ]
 go_wp2_with (go_at_call 109;refine (row2 _ _ (by simp [go_sem]) (by simp [go_sem])).mono ?_)
 rintro e w2 ⟨rfl,rfl⟩
 have k0:Lib.IsBuilderF 141 5 w1.heap.size w1.heap.size [] (w1.alloc (.cells #[.pointer none,.slice none 0 0] 141)):=Lib.IsBuilderF.of (Lib.fresh_isBuilder 141 5 w1)
 have c0:Below w1.heap.size w1 (w1.alloc (.cells #[.pointer none,.slice none 0 0] 141)):=(Below.refl _ w1).alloc (Nat.le_refl _) _
 go_wp2_with (go_at_call 108;refine (wS w1.heap.size w1.heap.size [] _ _ ((k0.imp (·.alloc _) (·.alloc _)).imp (·.alloc _) (·.alloc _)) (by decide) (((c0.alloc c0.size _).alloc (c0.alloc c0.size _).size _).size)).mono ?_)
 rintro e w3 ⟨rfl,k3,d3⟩
 have c3:=((c0.alloc c0.size _).alloc (c0.alloc c0.size _).size _).trans d3
 clear d3 k0 c0
 have ha3:a < w3.heap.size:=Nat.lt_of_lt_of_le ha1 c3.size
 have f4:=(c3.cell (p:=⟨a,o+4,none⟩) ha1).trans g4
 have f5:=(c3.cell (p:=⟨a,o+5,none⟩) ha1).trans g5
 have f6:=(c3.cell (p:=⟨a,o+6,none⟩) ha1).trans g6
 have f7:=(c3.cell (p:=⟨a,o+7,none⟩) ha1).trans g7
 clear g0 g1 g2 g3 g4 g5 g6 g7
 go_wp2
 rw [rounds_succ]
 go_wp2_with (go_at_call 109;refine (row3 _ _ (by simp [go_sem]) (by simp [go_sem]) (by simp [go_sem])).mono ?_)
 rintro e w4 ⟨rfl,rfl⟩
 have c4:=(c3.alloc c3.size (.cells #[.int .i64 1,.int .i64 7,.int .i64 0,.int .i64 1] 87)).alloc ((c3.alloc c3.size (.cells #[.int .i64 1,.int .i64 7,.int .i64 0,.int .i64 1] 87)).size) (.cells #[.int .i64 7,.int .i64 0,.int .i64 1] 3)
 go_wp2_with (go_at_call 108;refine (wS w1.heap.size w1.heap.size _ _ _ (.inr ((k3.alloc _).alloc _)) (by decide) c4.size).mono ?_)
 rintro e w5 ⟨rfl,k5,d5⟩
 have c5:=c4.trans d5
 clear d5 c4 k3 f4 f5 f6 f7
 go_wp2
 rw [rounds_succ]
 have k6:Lib.IsBuilderF 141 5 w1.heap.size w1.heap.size (Lib.byteCells [119,97,110,116,115,32,55,32,49,10,116,97,108,108,121,32,55,32,48,32,49,10]) w5:=.inr k5
 go_wp2_with (go_at_call 110;refine (wStr w1.heap.size w1.heap.size _ _ k6 c5.size).mono ?_)
 rintro e w6 ⟨rfl,_,d6⟩
 go_wp2
 go_ret2
 refine ⟨rfl,?_⟩
 have c6:=c5.trans d6
 exact b1.trans ⟨c6.os,c6.tape,c6.output,c6.size,fun k hk=>c6.block k (Nat.lt_of_lt_of_le hk b1.size)⟩
end
section
set_option maxRecDepth 100000
set_option maxHeartbeats 0
def ySt (p:Int) (bs:D) (l:D) (h e:Int):Out:=some (0,[.d (il p),.d bs,.d l,.d (il h),.d (il e)])
def eBs:D:=.sl 2 [[il 7,il 11]]
def q1H (a b c d:Int):List D:=[il a,il b,il c,il d]
def eSt (p:Int) (l:D) (h:Int):List D:=[il p,eBs,l,il h]
def eNo:D:=.lit (.slice none 0 0)
theorem e9_0:FN 14 9 [il 0,eBs]=ySt 0 eBs eNo 0 0:=by kernel_rfl
theorem e9_1:FN 14 9 [il 1,eBs]=ySt 1 eBs eNo 0 0:=by kernel_rfl
theorem e9_3:FN 14 9 [il 3,eBs]=ySt 3 eBs eNo 0 0:=by kernel_rfl
theorem e41:FN 14 41 (eSt 3 eNo 0++[il 7])=some (0,[.d (.sl 1 [[il 0],[il 1]]),.d (il 0)]):=by kernel_rfl
theorem e19:FN 14 19 (eSt 1 eNo 0++[il 7])=ySt 1 eBs (.sl 4 [q1H 2 7 0 1]) 0 0:=by kernel_rfl
theorem qhx:FN 14 43 (eSt 1 (.sl 4 [q1H 2 7 0 1]) 0++[il 0])=some (0,[.d (il 1),.d (il 0),.d (.sl 3 [[il 7,il 0,il 0]]),.d (il 0)]):=by kernel_rfl
theorem qhu:FN 14 49 (eSt 1 (.sl 4 [q1H 2 7 0 1]) 0)=ySt 1 eBs (.sl 4 [q1H 2 7 0 1]) 1 0:=by kernel_rfl
theorem qhw:FN 14 43 (eSt 1 (.sl 4 [q1H 2 7 0 1]) 1++[il 0])=some (0,[.d (il 1),.d (il 0),.d (.sl 3 [[il 7,il 0,il 1]]),.d (il 0)]):=by kernel_rfl
theorem qhz:FN 14 27 (eSt 0 eNo 0++[il 1,il 0,.sl 3 [[il 7,il 0,il 1]]])=ySt 0 eBs (.sl 4 [q1H 3 7 1 1]) 0 0:=by kernel_rfl
theorem e25:FN 14 25 (eSt 0 (.sl 4 [q1H 3 7 1 1]) 0)=ySt 0 eBs (.sl 4 [q1H 3 7 1 1,q1H 1 7 1 1]) 0 0:=by kernel_rfl
theorem e29:FN 14 29 (eSt 0 (.sl 4 [q1H 3 7 1 1,q1H 1 7 1 1]) 0++[il 7,il 1])=some (0,[.d (il 1),.d (il 0)]):=by kernel_rfl
theorem qht:FN 14 49 (eSt 0 (.sl 4 [q1H 3 7 1 1,q1H 1 7 1 1]) 0)=ySt 0 eBs (.sl 4 [q1H 3 7 1 1,q1H 1 7 1 1]) 2 0:=by kernel_rfl
theorem qhv:FN 14 43 (eSt 0 (.sl 4 [q1H 3 7 1 1,q1H 1 7 1 1]) 2++[il 1])=some (0,[.d (il 0),.d (il 1),.d (.sl 3 [[il 7,il 1,il 0]]),.d (il 0)]):=by kernel_rfl
theorem qhy:FN 14 27 (eSt 1 (.sl 4 [q1H 2 7 0 1]) 1++[il 0,il 1,.sl 3 [[il 7,il 1,il 0]]])=ySt 1 eBs (.sl 4 [q1H 2 7 0 1,q1H 1 7 0 1]) 1 0:=by kernel_rfl
theorem e33:FN 14 33 (eSt 1 (.sl 4 [q1H 2 7 0 1,q1H 1 7 0 1]) 1++[il 7,il 0])=some (0,[.d (bl true),.d (il 0)]):=by kernel_rfl
theorem e21:FN 14 21 (eSt 1 (.sl 4 [q1H 2 7 0 1,q1H 1 7 0 1]) 1++[il 7])=ySt 1 eBs (.sl 4 [q1H 2 7 0 1,q1H 1 7 0 1,q1H 4 7 0 1,q1H 2 7 0 2]) 1 0:=by kernel_rfl
theorem e47:FN 14 47 [.sl 4 [eSt 0 (.sl 4 [q1H 3 7 1 1,q1H 1 7 1 1]) 2,eSt 1 (.sl 4 [q1H 2 7 0 1,q1H 1 7 0 1,q1H 4 7 0 1,q1H 2 7 0 2]) 1,eSt 3 eNo 0],il 7]=some (0,[.d (.sl 1 [[il 1]]),.d (il 0)]):=by kernel_rfl
end
section
set_option maxRecDepth 100000
set_option maxHeartbeats 0
theorem qjb:Tryd.prog.follows .mixedOrders=true:=by kernel_rfl
theorem qiJ:qgb Tryd.prog (cf3 tb Tryd.prog):=fun f p h=>by
 have:(cf3 tb Tryd.prog).sp f=none:=rfl
 rw [this] at h;cases h
def two:List (List D):=[q1H 2 7 0 1,q1H 1 7 0 1]
def twoS:D:=.lit (.string ⟨#[119,97,110,116,115,32,55,32,49,10,116,97,108,108,121,32,55,32,48,32,49,10]⟩)
theorem e105:FN 8 105 [.sl 4 two,.fn 106 []]=some (0,[.d (bl false)]):=by kernel_rfl
theorem sc105:SC Tryd.prog 105 [.one (.sl 4 two),.one (.fn 106 [])] (.one (.d (bl false))) :=
 qfY (P:=Tryd.prog) (T:=tb) qjb qiJ 8 105 [.one,.one] [.sl 4 two,.fn 106 []] _ 0 [.d (bl false)] [(false,[.d])] rfl rfl e105 rfl
theorem qgJ:SC Tryd.prog 76 [.one (.sl 4 two)] (.tup [.one (.d twoS),.one (.d (il 0))]):=by
 refine ⟨fun xs w=>enters_of Tryd.func76 (by kernel_rfl) rfl xs w,?_⟩
 intro w U vs hU hv
 obtain ⟨vs⟩:=vs
 simp only [VDF,VDR,DR] at hv
 obtain ⟨v,_,rfl,⟨a,c,rfl,hc,hm,hb⟩,rfl⟩:=hv
 obtain ⟨b,o,rfl,hb1,hr⟩:=hb (by decide)
 have hr':=hr
 simp only [two,q1H,RR,CR,DR,il,Nat.add_assoc,Nat.reduceAdd] at hr
 obtain ⟨_,⟨⟨_,h0,rfl,_⟩,⟨_,h1,rfl,_⟩,⟨_,h2,rfl,_⟩,⟨_,h3,rfl,_⟩,_⟩,_,⟨⟨_,h4,rfl,_⟩,⟨_,h5,rfl,_⟩,⟨_,h6,rfl,_⟩,⟨_,h7,rfl,_⟩,_⟩,_⟩:=hr
 refine (print2 w b o c hc h0 h1 h2 h3 h4 h5 h6 h7 ?_).mono ?_
 ·refine (sc105.2 w U _ hU ?_).mono ?_
  ·simp only [VDF,VDR,DR]
   exact ⟨_,_,rfl,⟨⟨b,o,none⟩,c,rfl,hc,hm,fun _=>⟨b,o,rfl,hb1,hr'⟩⟩,_,_,rfl,⟨#[],rfl,by simp [FR]⟩,rfl⟩
  ·rintro e w' ⟨v,U',bs,rfl,hbe,_,_,_,_,hrv⟩
   simp only [RvR,RcR,DR,bl] at hrv
   obtain ⟨_,rfl,_⟩:=hrv
   exact ⟨rfl,hbe⟩
 ·rintro e w' ⟨rfl,hbe⟩
  refine ⟨_,U,[],rfl,hbe,fun _ h=>h,fun x hx=>⟨Nat.lt_of_lt_of_le (hU x hx) hbe.size,.inl hx⟩,List.nodup_nil,by simp,?_⟩
  simp only [RvR,RvF,RcR,DR,twoS,il]
  exact ⟨_,rfl,_,_,[],[],rfl,rfl,⟨rfl,rfl,rfl⟩,_,_,[],[],rfl,rfl,⟨rfl,rfl,rfl⟩,rfl,rfl⟩
end
section
set_option maxRecDepth 100000
set_option maxHeartbeats 0
open Classical in
noncomputable def FnP (f:Nat) (xs:List D):Out:=if f=76∧xs=[.sl 4 two] then some (0,[.d twoS,.d (il 0)]) else FN 14 f xs
theorem pE {f:Nat} {xs:List D} (h:f≠76):FnP f xs=FN 14 f xs:=if_neg fun e=>h e.1
theorem pP:FnP 76 [.sl 4 two]=some (0,[.d twoS,.d (il 0)]):=if_pos ⟨rfl,rfl⟩
theorem FnP_ok:qbr Tryd.prog (cf3 tb Tryd.prog) FnP:=by
 intro f sh xs vs j ys rs h1 h2 h3 h4
 unfold FnP at h3
 split at h3
 ·rename_i hc
  obtain ⟨rfl,rfl⟩:=hc
  simp only [Option.some.injEq,Prod.mk.injEq] at h3
  obtain ⟨rfl,rfl⟩:=h3
  have e1:(cf3 tb Tryd.prog).ash 76=some [.one]:=rfl
  rw [e1] at h1
  cases h1
  cases h2
  have e2:((cf3 tb Tryd.prog).rsk 76)[0]?=some [(false,[.d]),(false,[.d])]:=rfl
  rw [e2] at h4
  cases h4
  exact qgJ
 ·exact qfY qjb qiJ 14 f sh xs vs j ys rs h1 h2 h3 h4
theorem qk1:qcA Tryd.prog (cf3 tb Tryd.prog) FnP:=fun f ms xs zs h1 h2=>by
 rw [pE (by omega)] at h2
 exact qfX qjb qiJ 14 f ms xs zs h1 h2
theorem e45a:FN 14 45 [.sl 1 [[il 0],[il 1]],.sl 1 [[il 0],[il 1]]]=some (0,[.d (bl true)]):=by kernel_rfl
theorem e45b:FN 14 45 [.sl 1 [[il 1]],.sl 1 [[il 1]]]=some (0,[.d (bl true)]):=by kernel_rfl
theorem e46a:FN 14 46 [il 1,il 0,.sl 3 [[il 7,il 0,il 0]],il 1,il 0,.sl 3 [[il 7,il 0,il 0]]]=some (0,[.d (bl true)]):=by kernel_rfl
theorem e46b:FN 14 46 [il 1,il 0,.sl 3 [[il 7,il 0,il 1]],il 1,il 0,.sl 3 [[il 7,il 0,il 1]]]=some (0,[.d (bl true)]):=by kernel_rfl
theorem e46c:FN 14 46 [il 0,il 1,.sl 3 [[il 7,il 1,il 0]],il 0,il 1,.sl 3 [[il 7,il 1,il 0]]]=some (0,[.d (bl true)]):=by kernel_rfl
theorem r_eqlS {Fn:Nat→List D→Out} {FnD:D→List Sh→List D→Out} {m:Nat} (s:ByteArray) (k:D→Out):(q01 Fn FnD m).bin .eql false (.lit (.string s)) (.lit (.string s)) k=k (bl true):=by
 simp [q01,q7w,aStr,qdm,bl]
theorem r_litS {Fn:Nat→List D→Out} {FnD:D→List Sh→List D→Out} {m:Nat} (s:ByteArray):(q01 Fn FnD m).lit (.string s)=.lit (.string s):=rfl
theorem g18a {Fn:Nat→List D→Out} {FnD:D→List Sh→List D→Out} (e9_0:Fn 9 [il 0,eBs]=ySt 0 eBs eNo 0 0)
  (e9_1:Fn 9 [il 1,eBs]=ySt 1 eBs eNo 0 0)
  (e9_3:Fn 9 [il 3,eBs]=ySt 3 eBs eNo 0 0)
  (e41:Fn 41 (eSt 3 eNo 0++[il 7])=some (0,[.d (.sl 1 [[il 0],[il 1]]),.d (il 0)]))
  (e19:Fn 19 (eSt 1 eNo 0++[il 7])=ySt 1 eBs (.sl 4 [q1H 2 7 0 1]) 0 0)
  (qhx:Fn 43 (eSt 1 (.sl 4 [q1H 2 7 0 1]) 0++[il 0])=some (0,[.d (il 1),.d (il 0),.d (.sl 3 [[il 7,il 0,il 0]]),.d (il 0)]))
  (qhu:Fn 49 (eSt 1 (.sl 4 [q1H 2 7 0 1]) 0)=ySt 1 eBs (.sl 4 [q1H 2 7 0 1]) 1 0)
  (qhw:Fn 43 (eSt 1 (.sl 4 [q1H 2 7 0 1]) 1++[il 0])=some (0,[.d (il 1),.d (il 0),.d (.sl 3 [[il 7,il 0,il 1]]),.d (il 0)]))
  (qhz:Fn 27 (eSt 0 eNo 0++[il 1,il 0,.sl 3 [[il 7,il 0,il 1]]])=ySt 0 eBs (.sl 4 [q1H 3 7 1 1]) 0 0)
  (e25:Fn 25 (eSt 0 (.sl 4 [q1H 3 7 1 1]) 0)=ySt 0 eBs (.sl 4 [q1H 3 7 1 1,q1H 1 7 1 1]) 0 0)
  (e29:Fn 29 (eSt 0 (.sl 4 [q1H 3 7 1 1,q1H 1 7 1 1]) 0++[il 7,il 1])=some (0,[.d (il 1),.d (il 0)]))
  (qht:Fn 49 (eSt 0 (.sl 4 [q1H 3 7 1 1,q1H 1 7 1 1]) 0)=ySt 0 eBs (.sl 4 [q1H 3 7 1 1,q1H 1 7 1 1]) 2 0)
  (qhv:Fn 43 (eSt 0 (.sl 4 [q1H 3 7 1 1,q1H 1 7 1 1]) 2++[il 1])=some (0,[.d (il 0),.d (il 1),.d (.sl 3 [[il 7,il 1,il 0]]),.d (il 0)]))
  (qhy:Fn 27 (eSt 1 (.sl 4 [q1H 2 7 0 1]) 1++[il 0,il 1,.sl 3 [[il 7,il 1,il 0]]])=ySt 1 eBs (.sl 4 [q1H 2 7 0 1,q1H 1 7 0 1]) 1 0)
  (e33:Fn 33 (eSt 1 (.sl 4 [q1H 2 7 0 1,q1H 1 7 0 1]) 1++[il 7,il 0])=some (0,[.d (bl true),.d (il 0)]))
  (e21:Fn 21 (eSt 1 (.sl 4 [q1H 2 7 0 1,q1H 1 7 0 1]) 1++[il 7])=ySt 1 eBs (.sl 4 [q1H 2 7 0 1,q1H 1 7 0 1,q1H 4 7 0 1,q1H 2 7 0 2]) 1 0)
  (e47:Fn 47 [.sl 4 [eSt 0 (.sl 4 [q1H 3 7 1 1,q1H 1 7 1 1]) 2,eSt 1 (.sl 4 [q1H 2 7 0 1,q1H 1 7 0 1,q1H 4 7 0 1,q1H 2 7 0 2]) 1,eSt 3 eNo 0],il 7]=some (0,[.d (.sl 1 [[il 1]]),.d (il 0)]))
  (e45a:Fn 45 [.sl 1 [[il 0],[il 1]],.sl 1 [[il 0],[il 1]]]=some (0,[.d (bl true)]))
  (e45b:Fn 45 [.sl 1 [[il 1]],.sl 1 [[il 1]]]=some (0,[.d (bl true)]))
  (e46a:Fn 46 [il 1,il 0,.sl 3 [[il 7,il 0,il 0]],il 1,il 0,.sl 3 [[il 7,il 0,il 0]]]=some (0,[.d (bl true)]))
  (e46b:Fn 46 [il 1,il 0,.sl 3 [[il 7,il 0,il 1]],il 1,il 0,.sl 3 [[il 7,il 0,il 1]]]=some (0,[.d (bl true)]))
  (e46c:Fn 46 [il 0,il 1,.sl 3 [[il 7,il 1,il 0]],il 0,il 1,.sl 3 [[il 7,il 1,il 0]]]=some (0,[.d (bl true)]))
  (pP:Fn 76 [.sl 4 two]=some (0,[.d twoS,.d (il 0)])):G18 (q01 Fn FnD M0)=some (0,[.d (bl true)]):=by
 simp only [ySt,eBs,q1H,eSt,eNo,two,twoS,List.cons_append,List.nil_append] at e9_0 e9_1 e9_3 e41 e19 qhx qhu qhw qhz e25 e29 qht qhv qhy e33 e21 e47 pP
 simp only [G18,q0k,q09,q0u,q0o,q0v,List.length_cons,List.length_nil,q0O,Nat.zero_add,if_true,q0K,List.take,q2N,q0i,q02,q06,q0a,e9_0,e9_1,e9_3,e41,e19,qhx,qhu,qhw,qhz,e25,e29,qht,qhv,qhy,e33,e21,e47,pP,
  q0H,decide_true,q04,q0t,e45a,e45b,e46a,e46b,e46c,qe5,List.all_cons,List.all_nil,yl_b,Bool.and_self,r_eqlS,r_litS]
theorem pq {f:Nat} {xs:List D} {o:Out} (h:FN 14 f xs=o) (hf:f≠76):FnP f xs=o:=(pE hf).trans h
theorem g18:G18 (q01 FnP (q2L Tryd.prog (cf3 tb Tryd.prog) FnP) M0)=some (0,[.d (bl true)]) :=
 g18a (pq e9_0 (by decide)) (pq e9_1 (by decide)) (pq e9_3 (by decide)) (pq e41 (by decide)) (pq e19 (by decide)) (pq qhx (by decide)) (pq qhu (by decide)) (pq qhw (by decide)) (pq qhz (by decide)) (pq e25 (by decide)) (pq e29 (by decide)) (pq qht (by decide)) (pq qhv (by decide)) (pq qhy (by decide)) (pq e33 (by decide)) (pq e21 (by decide)) (pq e47 (by decide)) (pq e45a (by decide)) (pq e45b (by decide)) (pq e46a (by decide)) (pq e46b (by decide)) (pq e46c (by decide)) pP
theorem qiM:SC Tryd.prog 18 [] (.one (.d (bl true))) :=
 qb8 (T:=tb) (P:=Tryd.prog) qjb FnP_ok qk1 qiJ (fuel:=400) (m0:=M0) (xs:=[]) (j:=0) (ys:=[.d (bl true)]) (rs:=[(false,[.d])]) (by rw [prR];exact (G18_eq _).trans g18) (by decide) (sh:=[]) rfl rfl rfl
end
section
set_option maxRecDepth 100000
theorem o3 {n:Nat} {ds:List D} (h:HasT Tryd.prog (n+1) 3 ds):∃ z,ds=[il z]∧-9223372036854775808≤z∧z≤9223372036854775807:=h.int Tryd.underlying3
theorem qgO {α:Type} {f:α→List D}:∀ {o:Option Rr},(∀ r∈o.getD [],∃ c,r=f c)→∃ q:Option (List α),o=q.map (·.map f)
 | none,_=>⟨none,rfl⟩
 | some rows,h=>by
  obtain ⟨l,hl⟩:=qbz (f:=f) (rows:=rows) h
  exact ⟨some l,by rw [hl];rfl⟩
theorem oL {α:Type} {f:α→List D} {n t e c b:Nat} {ds:List D} (hu:Tryd.prog.underlying t=some (.slice e)) (hc:Tryd.prog.cellsOf e=c) (hb:Tryd.prog.bytesOf e=b) (he:∀ r,HasT Tryd.prog n e r→∃ x,r=f x) (h:HasT Tryd.prog (n+1) t ds):∃ o,ds=[dL c f o]∧(o.getD []).length*b≤140737488351232:=by
 obtain ⟨o,rfl,h1,h2⟩:=h.sl hu hc hb
 obtain ⟨q,rfl⟩:=qgO (f:=f) fun r hr=>he r (h2 r hr)
 refine ⟨q,rfl,?_⟩
 cases q with
 | none=>simp
 | some l=>simpa using h1
noncomputable def FnS (n:Nat) (f:Nat) (xs:List D):Out:=if f=18∧xs=[] then some (0,[.d (bl true)]) else FN n f xs
theorem FnS_ok (n:Nat):qbr Tryd.prog (cf3 tb Tryd.prog) (FnS n):=by
 intro f sh xs vs j ys rs h1 h2 h3 h4
 unfold FnS at h3
 split at h3
 ·rename_i hc
  obtain ⟨rfl,rfl⟩:=hc
  simp only [Option.some.injEq,Prod.mk.injEq] at h3
  obtain ⟨rfl,rfl⟩:=h3
  have e1:(cf3 tb Tryd.prog).ash 18=some []:=rfl
  rw [e1] at h1
  cases h1
  cases h2
  have e2:((cf3 tb Tryd.prog).rsk 18)[0]?=some [(false,[.d])]:=rfl
  rw [e2] at h4
  cases h4
  exact qiM
 ·exact qfY qjb qiJ n f sh xs vs j ys rs h1 h2 h3 h4
theorem FnS_18 (n:Nat):FnS n 18 []=some (0,[.d (bl true)]):=by simp [FnS]
theorem qcz {n f:Nat} {xs:List D} {o:Out} (h:FN n f xs=o) (hf:f≠18):FnS n f xs=o:=by rw [←h];simp [FnS,hf]
theorem qk0 (n:Nat):qcA Tryd.prog (cf3 tb Tryd.prog) (FnS n):=fun f ms xs zs h1 h2=>by
 rw [qcz rfl (by omega)] at h2
 exact qfX qjb qiJ n f ms xs zs h1 h2
end
section
set_option maxRecDepth 100000
def newZ (me:Int) (l:List Brd):Int:=if par me=true then (if q1T me l=true then 0 else 90) else 1
def rW (z me:Int) (o:Option (List Brd)):Out:=if z=0 then some (0,[.d (il me),.d (dB o),.d (dS none),.d (il 0),.d (il z)]) else some (0,[.d (il 0),.d (dB none),.d (dS none),.d (il 0),.d (il z)])
theorem t9 (n:Nat) (me:Int) (o:Option (List Brd)) (hl:(o.getD []).length≤4611686018427387904):FN (n+5) 9 [il me,dB o]=rW (newZ me (o.getD [])) me o:=by
 rw [s9 _ _ _ hl];unfold rW newZ
 by_cases h1:par me=true
 ·by_cases h2:q1T me (o.getD [])=true
  ·simp only [h1,h2,if_true];rfl
  ·simp only [h1,h2,if_true];rfl
 ·simp only [h1];rfl
end
section
set_option maxRecDepth 100000
end
section
set_option maxRecDepth 100000
theorem qbf (l:List Tld):dTn l=dT (opN l):=by cases l<;>rfl
theorem GoodW.tell {ws:List W4} {ps:List P3} (hG:GoodW ws ps) {k b:Nat} {w:W4} (hw:ws[k]?=some w) (hb:b < 6) (hkb:k≠b):GoodW ws (ps++[((k:Int),(b:Int),opN (q6N k (bk k) (bnd w) b))]):=by
 obtain ⟨a1,a2,a3⟩:=hG.wat k w hw
 have hk:k < 6:=by rw [←hG.len];exact (List.getElem?_eq_some_iff.1 hw).1
 have hh:=qgQ a3
 have hbd:okP k (bk k) (bnd w) w.2.2.2=true:=qdx a3 (by omega)
 have htld:∀ e∈bk k,∀ t,q9m k (bnd w) b e=some t→t.1=e.1∧t.2.1=(rf k e (bnd w)).no b∧qbU t=true:=fun e he t ht=>by
  unfold q9m at ht
  split at ht
  ·simp only [Option.some.injEq] at ht
   subst ht
   refine ⟨rfl,by rw [Int.toNat_natCast];rfl,?_⟩
   have hr:=qdO hbd he
   have h1:=(qbV a3 he).1
   have h2:=hr.1
   have h3:=(hr.2 b).1
   unfold rf at h2 h3
   simp only [qbU,h1,Bool.true_and]
   simp only [inn,Bool.and_eq_true,decide_eq_true_eq,Int.toNat_natCast]
   omega
  ·cases ht
 refine hG.add ?_ ?_
 ·simp only [q42]
  have hl:(q6N k (bk k) (bnd w) b).length≤4:=by
   unfold q6N
   exact Nat.le_trans (List.length_filterMap_le _ _) (q8b a3)
  have h1:par (k:Int)=true:=q16.2 (by omega)
  have h2:par (b:Int)=true:=q16.2 (by omega)
  have h3:¬ ((k:Int)=(b:Int)):=by omega
  have h5:okL qbU (·.1) none (q6N k (bk k) (bnd w) b)=true:=by
   have key:∀ {bs:List Brd} {p:Option Int},qat bs→(∀ e∈bs,e∈bk k)→(∀ e∈bs,ltO p e.1=true)→okL qbU (·.1) p (bs.filterMap (q9m k (bnd w) b))=true:=by
    intro bs
    induction bs with
    | nil=>intro p _ _ _;rfl
    | cons e r ih =>
     intro p hr hm hp
     cases hr with
     | cons h1 h2 =>
      rw [List.filterMap_cons]
      cases he:q9m k (bnd w) b e with
      | none=>exact ih h2 (fun x hx=>hm x (by simp [hx])) fun x hx=>hp x (by simp [hx])
      | some t =>
       obtain ⟨t1,_,t2⟩:=htld e (hm e (by simp)) t he
       simp only [okL,t2,Bool.true_and]
       rw [t1,hp e (by simp),Bool.true_and]
       exact ih h2 (fun x hx=>hm x (by simp [hx])) fun x hx=>by simp only [ltO,decide_eq_true_eq];exact h1 x hx
   exact key (q12 a3) (fun _ h=>h) fun _ _=>rfl
  simp only [qcL,h1,h2,h3,h5,hl,decide_true,decide_false,Bool.not_false,Bool.true_and]
 ·intro t ht a c v ha hc hv e he het
  simp only [q42] at ht
  simp only [Int.natCast_inj] at ha hc
  subst ha
  subst hc
  rw [hw] at hv
  cases hv
  obtain ⟨e',he',hte⟩:=List.mem_filterMap.1 ht
  obtain ⟨t1,t2,_⟩:=htld e' he' t hte
  have:e=e':=qdN (q12 a3) he he' (by rw [het,t1])
  rw [t2,this]
  exact Int.le_refl _
theorem bk_ne {k:Nat} (h:k < 6):bk k≠[]:=by
 have:∀ k,k < 6→bk k≠[]:=by decide
 exact this k h
theorem s100 (n:Nat) {k:Nat} (hk:k < 6) {b:Option (List Brd)} (hb:b.getD []=bk k) (x0 x1 x3 x4 x5 x7 x8:D) (f:Int):∃ fld j,FN (n+2) 100 [x0,x1,il f,x3,x4,x5,dB b,x7,x8]=some (0,[.d (il fld)])∧bix fld (bk k)=some j:=by
 have hok:=qhF k hk
 have h4:=q8b hok
 have h1:0 < (bk k).length:=List.length_pos_iff.2 (bk_ne hk)
 have hm:=q2Z (x:=f) (m:=((bk k).length:Int)) (by omega)
 have hz:q2n f ((bk k).length:Int)=((q2n f ((bk k).length:Int)).toNat:Int):=by omega
 generalize hi:(q2n f ((bk k).length:Int)).toNat=i at hz
 have hlt:i < (bk k).length:=by omega
 have hrow:(b.getD [])[i]?=some (bk k)[i]:=by rw [hb,List.getElem?_eq_getElem hlt]
 refine ⟨(bk k)[i].1,i,?_,qcn (q12 hok) hlt⟩
 rw [FS,qjZ]
 have h96:=s96 n f ((bk k).length:Int) (by omega) (by omega)
 have hne:¬ (((bk k).length:Int)=0):=by omega
 simp only [G100,q5c,hb,q09,q0H,hne,decide_false,q04,Bool.false_eq_true,if_false,q0i,h96,q02,q06,hz,q6y hrow,cB0,q0t]
end
end Go.VE
