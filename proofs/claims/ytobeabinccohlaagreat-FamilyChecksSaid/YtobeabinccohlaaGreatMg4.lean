/- Family: those for whom an answer is so; who moves (program). -/
import Derived.Test.YtobeabinccohlaaGreatMg3
import Derived.Test.YtobeabinccohlaaGreatMg0
import Derived.Test.YtobeabinccohlaaGreatMt
import Derived.KernelRfl
import Derived.Test.YtobeabinccohlaaGreatMh
import Derived.Test.YtobeabinccohlaaGreatRows
namespace Go.VE
open Go.RowKit Go.Proofs
theorem qky {Fn:Nat→List D→Out} {f:Nat} (sh':List Sh) {vs:List VD} {xs:List D} {z:D} (hlt:f < 1000000) (hash:tb.ash f=some sh') (hx:q1A sh' vs=some xs)
  (hr:tb.rsk f=[[(false,[.d])]]) (hf:Fn f xs=some (0,[.d z])):FnV (cf3 tb Tryz.prog) Fn f vs=some (0,[.d z]):=by
 have h1:(cf3 tb Tryz.prog).ash f=some sh':=by simp only [cf3,if_pos hlt,hash]
 have h2:qbE ((cf3 tb Tryz.prog).rsk f)=true:=by simp only [cf3,hr];rfl
 simp only [FnV,h1,hx,h2,if_true,hf]
theorem qhr (y:Int) (r:List Int):(.sl 1 (((y::r).map rI).take ((y::r).map rI).length):D)=dI (some (y::r)):=by rw [List.take_length];rfl
section
variable {a b c:Option (List E9)} {o:Option (List E5)}
set_option maxRecDepth 20000 in
theorem l89 (n:Nat) (d f:Int) (is:D) (q:Int→Bool) (hq:∀ z,FD (n+107) is [.one] (rI z)=some (0,[.d (bl (q z))])) (hd:0≤d∧d≤4166) (g:GoodK (a.getD []) (b.getD []) (c.getD []) (o.getD []))
  (l:List Int) (hl:l.length≤4611686018427387904) (i0:Nat) (h0:i0 < l.length) (h1:(l.take (i0+1)).filter (fun p=>!(!q (q8w (q3I (a.getD []) (b.getD []) (c.getD []) (o.getD []) d p) f)))=l.take i0) :
  ∃ (i:Nat) (ks:List Int),q0p [qf0 (RP (n+108))] M0 0 [.n l.length,.n l.length,.d is,.d (q0I a b c o),.d (il f),.d (il d),.d (il i0),.d (il ((i0+1:Nat):Int)),.r (l.map rI)]=some (0,[.n l.length,.n l.length,.d (il (i:Int)),.r (ks.map rI)])∧i < l.length∧ks.length=l.length∧ks.take i=l.filter (fun p=>!(!q (q8w (q3I (a.getD []) (b.getD []) (c.getD []) (o.getD []) d p) f))):=by
 refine q6o l hl (fun p=>!q (q8w (q3I (a.getD []) (b.getD []) (c.getD []) (o.getD []) d p) f)) (qf0 (RP (n+108))) (fun i j ks=>[.n l.length,.n l.length,.d is,.d (q0I a b c o),.d (il f),.d (il d),.d (il (i:Nat)),.d (il (j:Nat)),.r (ks.map rI)])
  (fun i ks=>some (0,[.n l.length,.n l.length,.d (il ((i:Nat):Int)),.r (ks.map rI)])) ?_ ?_ i0 h0 h1
 ·intro i ks k hk
  simp [qf0]
 ·intro i j ks e e2 k _ hj hi hij hjl hil hks hwj hwi
  have hkr:(ks.map rI)[j]?=some (rI e):=by rw [List.getElem?_map,hj];rfl
  have hkr2:(ks.map rI)[i]?=some (rI e2):=by rw [List.getElem?_map,hi];rfl
  have h169:=s169 (n+1) d f e is q hq hd g
  simp only [qf0,q03,q08,q0P,q0O,q0F,q0V,q99,q0n,q00,hjl,decide_true,if_true,q0Q,List.length_map,q0T,hks]
  rw [q9b _ _ _ ⟨by omega,hjl⟩,Int.toNat_natCast,q3T 1 _ _ _ _ hkr rfl]
  simp only [rI,q0c,q0a,h169,q01,q03,q0N,q00,q05,q0o,hwj,hwi]
  cases hqv:q (q8w (q3I (a.getD []) (b.getD []) (c.getD []) (o.getD []) d e) f) with
  | true =>
   simp only [Bool.not_true,Bool.not_false,if_true,Bool.false_eq_true,if_false]
   rw [q9b _ _ _ ⟨by omega,hil⟩,Int.toNat_natCast,q3T 1 _ _ _ _ hkr2 rfl]
   simp only [q98,List.map_set,rI]
  | false =>
   simp only [Bool.not_true,Bool.not_false,if_true,Bool.false_eq_true,if_false]
set_option maxRecDepth 20000 in
theorem k89 (n:Nat) (d f:Int) (is:D) (q:Int→Bool) (hq0:∀ z,FD (n+106) is [.one] (rI z)=some (0,[.d (bl (q z))])) (hq:∀ z,FD (n+107) is [.one] (rI z)=some (0,[.d (bl (q z))])) (hd:0≤d∧d≤4166) (g:GoodK (a.getD []) (b.getD []) (c.getD []) (o.getD [])) :
  FN (n+109) 89 [d9 a,d9 b,d9 c,d5 o,il f,il d,is]=some (0,[.d (dI ((nzO (q4q (a.getD []))).map (List.filter fun p=>q (q8w (q3I (a.getD []) (b.getD []) (c.getD []) (o.getD []) d p) f))))]):=by
 rw [F89]
 have hla:=g.la
 have hlp:=q9o (a.getD [])
 have hp:∀ k:List D→Out,(RP (n+108)).ptrW 4 (.dp [d9 a,d9 b,d9 c,d5 o] 0) k=k [d9 a,d9 b,d9 c,d5 o]:=fun k=>q21 _ 4 k rfl
 have h111:=s111 (n+103) a (d9 b) (d9 c) (d5 o) (by omega)
 have hdk:(.dp [d9 a,d9 b,d9 c,d5 o] 0:D)=q0I a b c o:=rfl
 simp only [G89,q68,q3w,hp,q0c,q0B,q0a,h111]
 have hi:=fun l hl=>s186 (n+107) l hl (.fn 169 [.dp [is] 0,.dp [q0I a b c o] 0,.dp [il f] 0,.dp [il d] 0]) (fun p=>!q (q8w (q3I (a.getD []) (b.getD []) (c.getD []) (o.getD []) d p) f)) (fun e _=>d169 n d f e is q hq0 hd g)
 generalize hl:q4q (a.getD [])=l at hlp ⊢
 cases l with
 | nil =>
  have:=hi none (by simp)
  simp only [q3a,q01,q03,q4E,hdk,this,q6l,fnd,q05,q0S,q00,Option.getD_none]
  simp [nzO,dI,dSl]
 | cons y r =>
  have h2:=hi (some (y::r)) (by simp only [Option.getD_some];omega)
  simp only [Option.getD_some] at h2
  have el:((y::r).map rI).take ((y::r).map rI).length=(y::r).map rI:=List.take_length
  simp only [q01,q0F,q0Q,q0T,if_true,q0M,q1k,q4E,hdk,qhr,h2,q03,q2Y,List.all_cons,List.all_nil,qft,Bool.and_true,q05,q0S,q00,decide_eq_true_eq,q0e]
  have hres:dI ((nzO (y::r)).map (List.filter fun p=>q (q8w (q3I (a.getD []) (b.getD []) (c.getD []) (o.getD []) d p) f)))=dI (some ((y::r).filter fun p=>q (q8w (q3I (a.getD []) (b.getD []) (c.getD []) (o.getD []) d p) f))):=rfl
  rw [hres]
  generalize hy:(y::r)=l at *
  unfold q6l
  cases hf:fnd (fun p=>!q (q8w (q3I (a.getD []) (b.getD []) (c.getD []) (o.getD []) d p) f)) l with
  | none =>
   simp only [if_true]
   have:=q3C hf
   simp only [Bool.not_not] at this
   rw [this]
  | some i0 =>
   obtain ⟨h0,h1⟩:=q3B hf
   simp only
   rw [if_neg (by omega),q0o,q0l (by omega) (by omega),q0q,List.length_map]
   obtain ⟨i,ks,e1,e2,e3,e4⟩:=l89 n d f is q hq hd g l (by omega) i0 h0 h1
   rw [show ((i0:Nat):Int)+1=((i0+1:Nat):Int) by simp,e1]
   have ek:(ks.map rI).length=l.length:=by simp [e3]
   simp only [q01,q03,q08,q0P,q0O,q0F,q0V,ek,if_true]
   rw [q5z _ _ _ _ e2]
   have ea:i+(l.length - i)=l.length:=by omega
   have et:((ks.map rI).take i++List.replicate (l.length - i) [il 0]).length=l.length:=by
    simp [e3];omega
   simp only [q1Q,ea,q3V,q6y,et,if_true]
   rw [q5A _ _ _ _ (by omega)]
   simp only [Bool.not_not] at e4
   have er:((ks.map rI).take i++List.replicate (l.length - i) [il 0]).take i=(l.filter fun p=>q (q8w (q3I (a.getD []) (b.getD []) (c.getD []) (o.getD []) d p) f)).map rI:=by
    rw [List.take_append_of_le_length (by simp [e3];omega),List.take_take,Nat.min_self,← List.map_take,e4]
   rw [er]
   rfl
theorem d82 (n:Nat) (d p:Int) (hd:0≤d∧d≤4166) (g:GoodK (a.getD []) (b.getD []) (c.getD []) (o.getD [])) :
  FD (n+105) (.fn 2000082 [q0I a b c o]) [.one,.one] [il p,il d]=some (0,[.d (dI (some (q3I (a.getD []) (b.getD []) (c.getD []) (o.getD []) d p)))]):=by
 have h:FnV (cf3 tb Tryz.prog) (FN (n+105)) 82 [.one (q0I a b c o),.one (il p),.one (il d)]=some (0,[.d (dI (some (q3I (a.getD []) (b.getD []) (c.getD []) (o.getD []) d p)))]) :=
  qky [.ptr 4,.one,.one] (by decide) rfl (by kernel_rfl) (by kernel_rfl) (k82 n d p hd g)
 have h2:q1q Tryz.prog (cf3 tb Tryz.prog) (FN (n+105)) (.fn 2000082 [q0I a b c o]) [.one,.one] [il p,il d]=if 2000082 < 2000000 then FnV (cf3 tb Tryz.prog) (FN (n+105)) 2000082 ([.one (il p),.one (il d)]++[.one (q0I a b c o)]) else FnV (cf3 tb Tryz.prog) (FN (n+105)) 82 [.one (q0I a b c o),.one (il p),.one (il d)]:=by kernel_rfl
 show q1q Tryz.prog (cf3 tb Tryz.prog) (FN (n+105)) (.fn 2000082 [q0I a b c o]) [.one,.one] [il p,il d]=_
 rw [h2,if_neg (by decide),h]
end
set_option maxRecDepth 20000 in
theorem s171 (n:Nat) (a b:List Int) (ha:a.length≤4611686018427387904):FN (n+1) 171 [dI (some a),dI (some b)]=some (0,[.d (bl (decide (a=b)))]):=by
 rw [F171]
 simp only [G171,q5K,Option.getD_some,q12,q00,decide_eq_true_eq,q15,q0e,q05,q0q]
 by_cases hlen:a.length=b.length
 ·rw [if_neg (by simp [hlen])]
  have:=q0u (β:=Unit) a ha (qc7 (RP n)) (fun i _=>[.d (dI (some a)),.d (dI (some b)),.d (il a.length),.d (il i)]) (fun _ _=>True)
   (fun i r _=>if r=b.drop i then some (1,[]) else some (0,[.d (bl false)]))
   (fun _ k _=>by rw [hlen,List.drop_length];simp [qc7]) ?_ M0 () trivial (q2J ha)
  ·simp only [Int.natCast_zero,List.drop_zero] at this
   rw [this]
   by_cases h:a=b<;>simp [h]
  ·intro i e r _ k hi hd hlt hw _ ih
   have ih':=ih () trivial
   have hlt':(i:Int) < (a.length:Int):=by omega
   have hlb:i < b.length:=by omega
   have hb:b[i]?=some (b[i]'hlb):=List.getElem?_eq_getElem hlb
   have hdb:b.drop i=b[i]'hlb::b.drop (i+1):=List.drop_eq_getElem_cons hlb
   have hi1:((some a).getD [])[i]?=some e:=hi
   have hi2:((some b).getD [])[i]?=some (b[i]'hlb):=hb
   simp only [qc7,q03,q08,q0n,q00,hlt',decide_true,if_true,q5s hi1,q5s hi2,rI,q0c,q12,q05,q0o,hw,q15,q0e,decide_eq_true_eq]
   rw [hdb]
   generalize b[i]'hlb=f
   generalize b.drop (i+1)=t at ih' ⊢
   by_cases h:e=f
   ·subst h
    rw [if_neg (by simp)]
    refine Eq.trans ih' ?_
    simp
   ·rw [if_pos h,if_neg (by simp [h])]
 ·rw [if_pos (by omega)]
  have:¬ a=b:=fun e=>hlen (by rw [e])
  simp [this]
end Go.VE
namespace Go.VE
open Go.RowKit Go.Proofs
def q8z (x y:Int→List Int) (p:Int):Bool:=!decide (x p=y p)
section
variable {a b c:Option (List E9)} {o:Option (List E5)} {a' b' c':Option (List E9)} {o':Option (List E5)}
abbrev fo (a b c:Option (List E9)) (o:Option (List E5)) (d:Int):Int→List Int:=q3I (a.getD []) (b.getD []) (c.getD []) (o.getD []) d
theorem s170 (n:Nat) (d p:Int) (hd:0≤d∧d≤4166) (g:GoodK (a.getD []) (b.getD []) (c.getD []) (o.getD [])) (g':GoodK (a'.getD []) (b'.getD []) (c'.getD []) (o'.getD [])) :
  FN (n+106) 170 [il p,.fn 2000082 [q0I a b c o],il d,q0I a' b' c' o']=some (0,[.d (bl (!q8z (fo a b c o d) (fo a' b' c' o' d) p))]):=by
 rw [F170]
 have hp:∀ k:List D→Out,(RP (n+105)).ptrW 4 (q0I a' b' c' o') k=k [d9 a',d9 b',d9 c',d5 o']:=fun k=>q21 _ 4 k rfl
 have hz:q1q Tryz.prog (cf3 tb Tryz.prog) (FN (n+105)) (.fn 2000082 [q0I a b c o]) [.one,.one] [il p,il d]=_:=d82 n d p hd g
 have hlen:=qe3 d p g
 simp only [G170,q1P,hz,q01,hp,q0c,q0B,q0a,k82 n d p hd g',q03,s171 (n+104) _ _ (by omega:(q3I (a.getD []) (b.getD []) (c.getD []) (o.getD []) d p).length≤4611686018427387904),q0e]
 simp [q8z]
theorem d170 (n:Nat) (d p:Int) (hd:0≤d∧d≤4166) (g:GoodK (a.getD []) (b.getD []) (c.getD []) (o.getD [])) (g':GoodK (a'.getD []) (b'.getD []) (c'.getD []) (o'.getD [])) :
  FD (n+106) (.fn 170 [.dp [.fn 2000082 [q0I a b c o]] 0,.dp [il d] 0,.dp [q0I a' b' c' o'] 0]) [.one] (rI p)=some (0,[.d (bl (!q8z (fo a b c o d) (fo a' b' c' o' d) p))]) :=
 q3F [.one,.ptr 1,.ptr 1,.ptr 1] [.one (il p)] (by decide) rfl (by kernel_rfl) rfl (by kernel_rfl) (s170 n d p hd g g')
set_option maxRecDepth 20000 in
theorem l93 (n:Nat) (d:Int) (hd:0≤d∧d≤4166) (g:GoodK (a.getD []) (b.getD []) (c.getD []) (o.getD [])) (g':GoodK (a'.getD []) (b'.getD []) (c'.getD []) (o'.getD []))
  (l:List Int) (hl:l.length≤4611686018427387904) (i0:Nat) (h0:i0 < l.length) (h1:(l.take (i0+1)).filter (fun p=>!(!q8z (fo a b c o d) (fo a' b' c' o' d) p))=l.take i0) :
  ∃ (i:Nat) (ks:List Int),q0p [qeZ (RP (n+107))] M0 0 [.n l.length,.n l.length,.d (il d),.d (q0I a' b' c' o'),.d (il i0),.d (il ((i0+1:Nat):Int)),.d (d9 a),.d (d9 b),.d (d9 c),.d (d5 o),.r (l.map rI)]=some (0,[.n l.length,.n l.length,.d (il (i:Int)),.d (d9 a),.d (d9 b),.d (d9 c),.d (d5 o),.r (ks.map rI)])∧i < l.length∧ks.length=l.length∧ks.take i=l.filter (fun p=>!(!q8z (fo a b c o d) (fo a' b' c' o' d) p)):=by
 refine q6o l hl (fun p=>!q8z (fo a b c o d) (fo a' b' c' o' d) p) (qeZ (RP (n+107))) (fun i j ks=>[.n l.length,.n l.length,.d (il d),.d (q0I a' b' c' o'),.d (il (i:Nat)),.d (il (j:Nat)),.d (d9 a),.d (d9 b),.d (d9 c),.d (d5 o),.r (ks.map rI)])
  (fun i ks=>some (0,[.n l.length,.n l.length,.d (il ((i:Nat):Int)),.d (d9 a),.d (d9 b),.d (d9 c),.d (d5 o),.r (ks.map rI)])) ?_ ?_ i0 h0 h1
 ·intro i ks k hk
  simp [qeZ]
 ·intro i j ks e e2 k _ hj hi hij hjl hil hks hwj hwi
  have hkr:(ks.map rI)[j]?=some (rI e):=by rw [List.getElem?_map,hj];rfl
  have hkr2:(ks.map rI)[i]?=some (rI e2):=by rw [List.getElem?_map,hi];rfl
  have h170:=s170 (n+1) d e hd g g'
  simp only [q0I] at h170
  simp only [qeZ,q03,q08,q0P,q0O,q0F,q0V,q99,q0n,q00,hjl,decide_true,if_true,q0Q,List.length_map,q0T,hks,q4E,q68,q0I]
  rw [q9b _ _ _ ⟨by omega,hjl⟩,Int.toNat_natCast,q3T 1 _ _ _ _ hkr rfl]
  simp only [rI,q0c,q0a,h170,q01,q03,q2Y,List.all_cons,List.all_nil,yl_b,Bool.and_true,if_true,q0N,q00,q05,q0o,hwj,hwi]
  cases hqv:q8z (fo a b c o d) (fo a' b' c' o' d) e with
  | true =>
   simp only [Bool.not_true,Bool.not_false,if_true,Bool.false_eq_true,if_false]
   rw [q9b _ _ _ ⟨by omega,hil⟩,Int.toNat_natCast,q3T 1 _ _ _ _ hkr2 rfl]
   simp only [q98,List.map_set,rI]
  | false =>
   simp only [Bool.not_true,Bool.not_false,if_true,Bool.false_eq_true,if_false]
set_option maxRecDepth 20000 in
theorem k93 (n:Nat) (z:Option (List E9)) (x1 x2 x3:D) (d:Int) (hz:(z.getD []).length≤1000000) (hd:0≤d∧d≤4166) (g:GoodK (a.getD []) (b.getD []) (c.getD []) (o.getD [])) (g':GoodK (a'.getD []) (b'.getD []) (c'.getD []) (o'.getD [])) :
  FN (n+108) 93 [d9 z,x1,x2,x3,d9 a,d9 b,d9 c,d5 o,d9 a',d9 b',d9 c',d5 o',il d]=some (0,[.d (dI ((nzO (q4q (z.getD []))).map (List.filter (q8z (fo a b c o d) (fo a' b' c' o' d)))))]):=by
 rw [F93]
 have hlp:=q9o (z.getD [])
 have h111:=s111 (n+102) z x1 x2 x3 hz
 simp only [G93,q0a,h111]
 have hi:=fun l hl=>s186 (n+106) l hl (.fn 170 [.dp [.fn 2000082 [q0I a b c o]] 0,.dp [il d] 0,.dp [q0I a' b' c' o'] 0]) (fun p=>!q8z (fo a b c o d) (fo a' b' c' o' d) p) (fun e _=>d170 n d e hd g g')
 have hdk:(.dp [d9 a,d9 b,d9 c,d5 o] 0:D)=q0I a b c o:=rfl
 have hdk':(.dp [d9 a',d9 b',d9 c',d5 o'] 0:D)=q0I a' b' c' o':=rfl
 generalize hl:q4q (z.getD [])=l at hlp ⊢
 cases l with
 | nil =>
  have:=hi none (by simp)
  simp only [q3a,q01,q03,q4E,q68,hdk,hdk',this,q6l,fnd,q2Y,List.all_cons,List.all_nil,qft,Bool.and_true,if_true,q05,q0S,q00,Option.getD_none]
  simp [nzO,dI,dSl]
 | cons y r =>
  have h2:=hi (some (y::r)) (by simp only [Option.getD_some];omega)
  simp only [Option.getD_some] at h2
  simp only [q01,q0F,q0Q,q0T,if_true,q0M,q1k,q4E,q68,hdk,hdk',qhr,h2,q03,q2Y,List.all_cons,List.all_nil,qft,Bool.and_true,q05,q0S,q00,decide_eq_true_eq,q0e]
  have hres:dI ((nzO (y::r)).map (List.filter (q8z (fo a b c o d) (fo a' b' c' o' d))))=dI (some ((y::r).filter (q8z (fo a b c o d) (fo a' b' c' o' d)))):=rfl
  rw [hres]
  generalize hy:(y::r)=l at *
  unfold q6l
  cases hf:fnd (fun p=>!q8z (fo a b c o d) (fo a' b' c' o' d) p) l with
  | none =>
   simp only [if_true]
   have:=q3C hf
   simp only [Bool.not_not] at this
   rw [show (l.filter (q8z (fo a b c o d) (fo a' b' c' o' d)))=l.filter (fun p=>q8z (fo a b c o d) (fo a' b' c' o' d) p) from rfl,this]
  | some i0 =>
   obtain ⟨h0,h1⟩:=q3B hf
   simp only
   rw [if_neg (by omega),q0o,q0l (by omega) (by omega),q0q,List.length_map]
   obtain ⟨i,ks,e1,e2,e3,e4⟩:=l93 n d hd g g' l (by omega) i0 h0 h1
   rw [show ((i0:Nat):Int)+1=((i0+1:Nat):Int) by simp,e1]
   have ek:(ks.map rI).length=l.length:=by simp [e3]
   simp only [q01,q03,q08,q0P,q0O,q0F,q0V,ek,if_true]
   rw [q5z _ _ _ _ e2]
   have ea:i+(l.length - i)=l.length:=by omega
   have et:((ks.map rI).take i++List.replicate (l.length - i) [il 0]).length=l.length:=by
    simp [e3];omega
   simp only [q1Q,ea,q3V,q6y,et,if_true]
   rw [q5A _ _ _ _ (by omega)]
   simp only [Bool.not_not] at e4
   have er:((ks.map rI).take i++List.replicate (l.length - i) [il 0]).take i=(l.filter (q8z (fo a b c o d) (fo a' b' c' o' d))).map rI:=by
    rw [List.take_append_of_le_length (by simp [e3];omega),List.take_take,Nat.min_self,← List.map_take,e4]
   rw [er]
   rfl
end
theorem askE_3 {ok ps fs:Bool} {p f d k l:Int} (h:q2l ok ps fs p f [d,k,l]=0):(0≤d∧d≤4166)∧(0≤k∧k≤4166)∧0≤l∧l≤4166:=by
 unfold q2l at h
 split at h
 ·simp at h
 ·split at h
  ·simp at h
  ·split at h
   ·simp at h
   ·split at h
    ·simp at h
    ·rename_i hh
     simp only [List.any_cons,List.any_nil,Bool.or_false,Bool.or_eq_true,Bool.not_eq_true',decide_eq_false_iff_not,not_or,Decidable.not_not] at hh
     exact hh
def fk (k:Int) (a b c:Option (List E9)) (o:Option (List E5)) (d:Int):Int→List Int:=q72 k a b c o d
theorem fo_kn (k:Int) (a b c:Option (List E9)) (o:Option (List E5)) (d:Int):fo (kn9 k a) (kn9 k b) (kn9 k c) (kn5 k o) d=fk k a b c o d:=by
 funext p;unfold fo fk q72;rw [q0s,q0s,q0s,q2Q]
section
variable (n:Nat) (p f d k l:Int) (a b c:Option (List E9)) (o:Option (List E5)) (ha:(a.getD []).length*72≤140737488351232) (hb:(b.getD []).length*72≤140737488351232) (hc:(c.getD []).length*72≤140737488351232) (ho:(o.getD []).length*40≤140737488351232)
include ha hb hc ho
set_option maxRecDepth 20000 in
theorem s37:FN (n+109) 37 [d9 a,d9 b,d9 c,d5 o,il d,il k,il l]=if q2l (q0D (a.getD []) (b.getD []) (c.getD []) (o.getD [])) false false 0 0 [d,k,l]=0 then some (0,[.d (dI ((nzO (q4q (a.getD []))).map (List.filter (q8z (fk k a b c o d) (fk l a b c o d))))),.d (il 0)]) else some (0,[.d (dI none),.d (il (q2l (q0D (a.getD []) (b.getD []) (c.getD []) (o.getD [])) false false 0 0 [d,k,l]))]):=by
 rw [F37]
 have h73:=s73 (n+98) 0 0 false false a b c o [d,k] l (by simp) ha hb hc ho
 rw [show dI (some ([d,k]++[l]))=.sl 1 [[il d],[il k],[il l]] from rfl,show [d,k]++[l]=[d,k,l] from rfl] at h73
 have h94:=s94 (n+103) k a b c o ha hb hc ho
 simp only [G37,q0a,q05,q15,q0K,q1k,h73]
 by_cases he:q2l (q0D (a.getD []) (b.getD []) (c.getD []) (o.getD [])) false false 0 0 [d,k,l]=0
 ·have g:=q42 k he
  have g':=q42 l he
  have hl:=(q1y (q5W he)).1
  rw [if_pos he]
  have hp:∀ (k:Int) (q:List D→Out),(RP (n+108)).ptrW 4 (q0I (kn9 k a) (kn9 k b) (kn9 k c) (kn5 k o)) q=q [d9 (kn9 k a),d9 (kn9 k b),d9 (kn9 k c),d5 (kn5 k o)]:=fun k q=>q21 _ 4 q rfl
  simp only [q4R,he,if_true,q01,q03,q08,q12,ne_eq,not_true_eq_false,decide_false,q00,Bool.false_eq_true,if_false,h94,hp,q0c,q0B,k93 n a (d9 b) (d9 c) (d5 o) d (by omega) (askE_3 he).1 g g',q0e,fo_kn]
 ·rw [if_neg he]
  simp only [q4R,if_neg he,q01,q03,q08,q12,q00]
  rw [if_pos (by simpa using he)]
  simp [dI,dSl]
def qci (k:Int) (a b c:Option (List E9)) (o:Option (List E5)) (d f:Int):Option (List Int):=(nzO (q4q (q4l k (a.getD [])))).map (List.filter fun p=>decide (q8w (q72 k a b c o d p) f=1))
def mayL (k:Int) (a b c:Option (List E9)) (o:Option (List E5)) (d f:Int):Option (List Int):=(nzO (q4q (q4l k (a.getD [])))).map (List.filter fun p=>decide (q8w (q72 k a b c o d p) f≠0))
omit ha hb hc ho in
theorem k89s (he:q2l (q0D (a.getD []) (b.getD []) (c.getD []) (o.getD [])) false true 0 f [d,k]=0):FN (n+109) 89 [d9 (kn9 k a),d9 (kn9 k b),d9 (kn9 k c),d5 (kn5 k o),il f,il d,.fn 90 []]=some (0,[.d (dI (qci k a b c o d f))]):=by
 rw [k89 n d f (.fn 90 []) (fun z=>decide (z=1)) (fun z=>d90 (n+105) z) (fun z=>d90 (n+106) z) (q4a he).1 (q42 k he)]
 unfold qci q72
 rw [q0s,q0s,q0s,q2Q]
omit ha hb hc ho in
theorem k89m (he:q2l (q0D (a.getD []) (b.getD []) (c.getD []) (o.getD [])) false true 0 f [d,k]=0):FN (n+109) 89 [d9 (kn9 k a),d9 (kn9 k b),d9 (kn9 k c),d5 (kn5 k o),il f,il d,.fn 91 []]=some (0,[.d (dI (mayL k a b c o d f))]):=by
 rw [k89 n d f (.fn 91 []) (fun z=>decide (z≠0)) (fun z=>d91 (n+105) z) (fun z=>d91 (n+106) z) (q4a he).1 (q42 k he)]
 unfold mayL q72
 rw [q0s,q0s,q0s,q2Q]
set_option maxRecDepth 20000 in
theorem s32:FN (n+110) 32 [d9 a,d9 b,d9 c,d5 o,il f,il d,il k]=if q2l (q0D (a.getD []) (b.getD []) (c.getD []) (o.getD [])) false true 0 f [d,k]=0 then some (0,[.d (dI (qci k a b c o d f)),.d (il 0)]) else some (0,[.d (dI none),.d (il (q2l (q0D (a.getD []) (b.getD []) (c.getD []) (o.getD [])) false true 0 f [d,k]))]):=by
 rw [F32]
 simp only [G32,q0a,s79,q01,q03,q08,q0K,q1k,qcW (n+99) 0 f d k a b c o ha hb hc ho false true]
 by_cases he:q2l (q0D (a.getD []) (b.getD []) (c.getD []) (o.getD [])) false true 0 f [d,k]=0
 ·rw [if_pos he]
  have hp:∀ q:List D→Out,(RP (n+109)).ptrW 4 (q0I (kn9 k a) (kn9 k b) (kn9 k c) (kn5 k o)) q=q [d9 (kn9 k a),d9 (kn9 k b),d9 (kn9 k c),d5 (kn5 k o)]:=fun q=>q21 _ 4 q rfl
  simp only [q4R,he,if_true,q01,q03,q08,q05,q12,ne_eq,not_true_eq_false,decide_false,q00,Bool.false_eq_true,if_false,hp,q0c,q0B,q4E,k89s n f d k a b c o he,q0e]
 ·rw [if_neg he]
  simp only [q4R,if_neg he,q01,q03,q08,q05,q12,q00]
  rw [if_pos (by simpa using he)]
  simp [dI,dSl]
set_option maxRecDepth 20000 in
theorem s29:FN (n+110) 29 [d9 a,d9 b,d9 c,d5 o,il f,il d,il k]=if q2l (q0D (a.getD []) (b.getD []) (c.getD []) (o.getD [])) false true 0 f [d,k]=0 then some (0,[.d (il (((qci k a b c o d f).getD []).length:Int)),.d (il (((mayL k a b c o d f).getD []).length:Int)),.d (il 0)]) else some (0,[.d (il 0),.d (il 0),.d (il (q2l (q0D (a.getD []) (b.getD []) (c.getD []) (o.getD [])) false true 0 f [d,k]))]):=by
 rw [F29]
 simp only [G29,q0a,s79,q01,q03,q08,q0K,q1k,qcW (n+99) 0 f d k a b c o ha hb hc ho false true]
 by_cases he:q2l (q0D (a.getD []) (b.getD []) (c.getD []) (o.getD [])) false true 0 f [d,k]=0
 ·rw [if_pos he]
  have hp:∀ q:List D→Out,(RP (n+109)).ptrW 4 (q0I (kn9 k a) (kn9 k b) (kn9 k c) (kn5 k o)) q=q [d9 (kn9 k a),d9 (kn9 k b),d9 (kn9 k c),d5 (kn5 k o)]:=fun q=>q21 _ 4 q rfl
  simp only [q4R,he,if_true,q01,q03,q08,q05,q12,ne_eq,not_true_eq_false,decide_false,q00,Bool.false_eq_true,if_false,hp,q0c,q0B,q4E,k89s n f d k a b c o he,k89m n f d k a b c o he,q5K,q0e]
 ·rw [if_neg he]
  simp only [q4R,if_neg he,q01,q03,q08,q05,q12,q00]
  rw [if_pos (by simpa using he)]
  simp
end
end Go.VE
namespace Go.VE
open Go.RowKit Go.Proofs
def wo9 (s:Int) (l:List E9):List E9:=l.filter fun e=>!decide (e.src=s)
def wo5 (s:Int) (l:List E5):List E5:=l.filter fun e=>!decide (e.src=s)
def wk9 (s:Int) (o:Option (List E9)):Option (List E9):=o.map (wo9 s)
def wk5 (s:Int) (o:Option (List E5)):Option (List E5):=o.map (wo5 s)
theorem qaX (s:Int):wk9 s none=none:=rfl
theorem qaY (s:Int):wk5 s none=none:=rfl
theorem q1C (s:Int) (o:Option (List E9)):(wk9 s o).getD []=wo9 s (o.getD []):=by cases o<;>rfl
theorem q6e (s:Int) (o:Option (List E5)):(wk5 s o).getD []=wo5 s (o.getD []):=by cases o<;>rfl
theorem q5I (s:Int) (l:List E9):(wo9 s l).length≤l.length:=List.length_filter_le _ _
theorem qe2 (s:Int) (l:List E5):(wo5 s l).length≤l.length:=List.length_filter_le _ _
theorem qab {s:Int} {l:List E9} {e:E9} (h:e∈wo9 s l):e∈l:=(List.mem_filter.1 h).1
theorem GoodK.wo {a b c:List E9} {o:List E5} (h:GoodK a b c o) (s:Int):GoodK (wo9 s a) (wo9 s b) (wo9 s c) (wo5 s o) :=
 ⟨fun e he=>h.fam e (qab he),fun e he=>h.less e (qab he),fun e he=>h.by0 e (qab he),Nat.le_trans (q5I ..) h.la,Nat.le_trans (q5I ..) h.lb,Nat.le_trans (q5I ..) h.lc,Nat.le_trans (qe2 ..) h.lo⟩
theorem s98 (n:Nat) (e:E9) (s:Int):FN (n+1) 98 (r9 e++[il s])=some (0,[.d (bl (decide (e.src=s)))]):=by
 rw [r9]
 simp only [List.cons_append,List.nil_append]
 rw [F98]
 simp only [G98,q0S,q0e]
theorem d98 (n:Nat) (e:E9) (s:Int):FD (n+1) (.fn 98 [.dp [il s] 0]) [.agg 9] (r9 e)=some (0,[.d (bl (decide (e.src=s)))]) :=
 q3F [.agg 9,.ptr 1] [.agg (r9 e)] (by decide) rfl (by kernel_rfl) rfl (by kernel_rfl) (s98 n e s)
theorem s100 (n:Nat) (e:E9) (s:Int):FN (n+1) 100 (r9 e++[il s])=some (0,[.d (bl (decide (e.src=s)))]):=by
 rw [r9]
 simp only [List.cons_append,List.nil_append]
 rw [F100]
 simp only [G100,q0S,q0e]
theorem d100 (n:Nat) (e:E9) (s:Int):FD (n+1) (.fn 100 [.dp [il s] 0]) [.agg 9] (r9 e)=some (0,[.d (bl (decide (e.src=s)))]) :=
 q3F [.agg 9,.ptr 1] [.agg (r9 e)] (by decide) rfl (by kernel_rfl) rfl (by kernel_rfl) (s100 n e s)
theorem s102 (n:Nat) (e:E9) (s:Int):FN (n+1) 102 (r9 e++[il s])=some (0,[.d (bl (decide (e.src=s)))]):=by
 rw [r9]
 simp only [List.cons_append,List.nil_append]
 rw [F102]
 simp only [G102,q0S,q0e]
theorem d102 (n:Nat) (e:E9) (s:Int):FD (n+1) (.fn 102 [.dp [il s] 0]) [.agg 9] (r9 e)=some (0,[.d (bl (decide (e.src=s)))]) :=
 q3F [.agg 9,.ptr 1] [.agg (r9 e)] (by decide) rfl (by kernel_rfl) rfl (by kernel_rfl) (s102 n e s)
theorem s104 (n:Nat) (e:E5) (s:Int):FN (n+1) 104 (r5 e++[il s])=some (0,[.d (bl (decide (e.src=s)))]):=by
 rw [r5]
 simp only [List.cons_append,List.nil_append]
 rw [F104]
 simp only [G104,q0S,q0e]
theorem d104 (n:Nat) (e:E5) (s:Int):FD (n+1) (.fn 104 [.dp [il s] 0]) [.agg 5] (r5 e)=some (0,[.d (bl (decide (e.src=s)))]) :=
 q3F [.agg 5,.ptr 1] [.agg (r5 e)] (by decide) rfl (by kernel_rfl) rfl (by kernel_rfl) (s104 n e s)
theorem qfx (n:Nat) (s:Int) (l:List E9) (hl:l.length*72≤140737488351232):∃ rest:Rr,FN (n+3) 1000097 [.sl 9 (l.map r9),.fn 98 [.dp [il s] 0]]=some (0,[.d (d9 (wk9 s (some l))),.d (.sl 9 rest)]):=by
 obtain ⟨rest,h⟩:=qb8 (n+1) (.fn 98 [.dp [il s] 0]) (fun e=>decide (e.src=s)) l (by omega) (fun e _=>d98 n e s) (fun e _=>d98 (n+1) e s)
 refine ⟨rest,h.trans ?_⟩
 simp only [d9,wk9,wo9,Option.map_some,dSl]
theorem qfw (n:Nat) (s:Int) (l:List E9) (hl:l.length*72≤140737488351232):∃ rest:Rr,FN (n+3) 1000099 [.sl 9 (l.map r9),.fn 100 [.dp [il s] 0]]=some (0,[.d (d9 (wk9 s (some l))),.d (.sl 9 rest)]):=by
 obtain ⟨rest,h⟩:=qb7 (n+1) (.fn 100 [.dp [il s] 0]) (fun e=>decide (e.src=s)) l (by omega) (fun e _=>d100 n e s) (fun e _=>d100 (n+1) e s)
 refine ⟨rest,h.trans ?_⟩
 simp only [d9,wk9,wo9,Option.map_some,dSl]
theorem qfv (n:Nat) (s:Int) (l:List E9) (hl:l.length*72≤140737488351232):∃ rest:Rr,FN (n+3) 1000101 [.sl 9 (l.map r9),.fn 102 [.dp [il s] 0]]=some (0,[.d (d9 (wk9 s (some l))),.d (.sl 9 rest)]):=by
 obtain ⟨rest,h⟩:=qb6 (n+1) (.fn 102 [.dp [il s] 0]) (fun e=>decide (e.src=s)) l (by omega) (fun e _=>d102 n e s) (fun e _=>d102 (n+1) e s)
 refine ⟨rest,h.trans ?_⟩
 simp only [d9,wk9,wo9,Option.map_some,dSl]
theorem qfu (n:Nat) (s:Int) (l:List E5) (hl:l.length*40≤140737488351232):∃ rest:Rr,FN (n+3) 1000103 [.sl 5 (l.map r5),.fn 104 [.dp [il s] 0]]=some (0,[.d (d5 (wk5 s (some l))),.d (.sl 5 rest)]):=by
 obtain ⟨rest,h⟩:=qb5 (n+1) (.fn 104 [.dp [il s] 0]) (fun e=>decide (e.src=s)) l (by omega) (fun e _=>d104 n e s) (fun e _=>d104 (n+1) e s)
 refine ⟨rest,h.trans ?_⟩
 simp only [d5,wk5,wo5,Option.map_some,dSl]
theorem if2 {α:Type} (p q:Prop) [Decidable p] [Decidable q] (x y:α):(if p then (if q then x else y) else y)=if p∧q then x else y:=by
 by_cases h1:p<;>by_cases h2:q<;>simp [h1,h2]
theorem if3 {α:Type} (p q r:Prop) [Decidable p] [Decidable q] [Decidable r] (x y:α):(if p then (if q then (if r then x else y) else y) else y)=if p∧q∧r then x else y:=by
 by_cases h1:p<;>by_cases h2:q<;>by_cases h3:r<;>simp [h1,h2,h3]
theorem if4 {α:Type} (p q r s:Prop) [Decidable p] [Decidable q] [Decidable r] [Decidable s] (x y:α):(if p then (if q then (if r then (if s then x else y) else y) else y) else y)=if p∧q∧r∧s then x else y:=by
 by_cases h1:p<;>by_cases h2:q<;>by_cases h3:r<;>by_cases h4:s<;>simp [h1,h2,h3,h4]
def q8g (s:Int) (a b c:List E9) (o:List E5):Prop:=((wo9 s a).length:Int)=a.length∧((wo9 s b).length:Int)=b.length∧((wo9 s c).length:Int)=c.length∧((wo5 s o).length:Int)=o.length
instance (s:Int) (a b c:List E9) (o:List E5):Decidable (q8g s a b c o):=by unfold q8g;infer_instance
def qg6 (s k:Int) (a b c:Option (List E9)) (o:Option (List E5)) (d:Int):Int→List Int:=q3I (q4l k (wo9 s (a.getD []))) (q4l k (wo9 s (b.getD []))) (q4l k (wo9 s (c.getD []))) (qfp k (wo5 s (o.getD []))) d
def movL (s k:Int) (a b c:Option (List E9)) (o:Option (List E5)) (d:Int):Option (List Int):=(nzO (q4q (a.getD []))).map (List.filter (q8z (fk k a b c o d) (qg6 s k a b c o d)))
theorem qiT (s k:Int) (a b c:Option (List E9)) (o:Option (List E5)) (d:Int):fo (kn9 k (wk9 s a)) (kn9 k (wk9 s b)) (kn9 k (wk9 s c)) (kn5 k (wk5 s o)) d=qg6 s k a b c o d:=by
 funext p;unfold fo qg6;rw [q0s,q0s,q0s,q2Q,q1C,q1C,q1C,q6e]
set_option maxRecDepth 20000 in
set_option maxHeartbeats 4000000 in
theorem s39 (n:Nat) (s d k:Int) (a b c:Option (List E9)) (o:Option (List E5)) (ha:(a.getD []).length*72≤140737488351232) (hb:(b.getD []).length*72≤140737488351232) (hc:(c.getD []).length*72≤140737488351232) (ho:(o.getD []).length*40≤140737488351232) :
  FN (n+109) 39 [d9 a,d9 b,d9 c,d5 o,il s,il d,il k]=if q2l (q0D (a.getD []) (b.getD []) (c.getD []) (o.getD [])) false false 0 0 [d,k]=0 then (if q8g s (a.getD []) (b.getD []) (c.getD []) (o.getD []) then some (0,[.d (dI none),.d (il 3)]) else some (0,[.d (dI (movL s k a b c o d)),.d (il 0)])) else some (0,[.d (dI none),.d (il (q2l (q0D (a.getD []) (b.getD []) (c.getD []) (o.getD [])) false false 0 0 [d,k]))]):=by
 rw [F39]
 have h73:=qcW (n+98) 0 0 d k a b c o ha hb hc ho false false
 by_cases he:q2l (q0D (a.getD []) (b.getD []) (c.getD []) (o.getD [])) false false 0 0 [d,k]=0
 ·rw [if_pos he]
  have g:=q42 k he
  have gw:GoodK ((kn9 k (wk9 s a)).getD []) ((kn9 k (wk9 s b)).getD []) ((kn9 k (wk9 s c)).getD []) ((kn5 k (wk5 s o)).getD []):=by
   rw [q0s,q0s,q0s,q2Q,q1C,q1C,q1C,q6e]
   exact ((qak (q5W he)).wo s).cnt k
  have hla:=(q1y (q5W he)).1
  have h93:=k93 n a (d9 b) (d9 c) (d5 o) d (by omega) (q4a he).1 g gw
  rw [fo_kn,qiT] at h93
  have h94:=s94 (n+103) k (wk9 s a) (wk9 s b) (wk9 s c) (wk5 s o) (by rw [q1C];have:=q5I s (a.getD []);omega) (by rw [q1C];have:=q5I s (b.getD []);omega) (by rw [q1C];have:=q5I s (c.getD []);omega) (by rw [q6e];have:=qe2 s (o.getD []);omega)
  have hp:∀ (a b c:Option (List E9)) (o:Option (List E5)) (q:List D→Out),(RP (n+108)).ptrW 4 (q0I a b c o) q=q [d9 a,d9 b,d9 c,d5 o]:=fun a b c o q=>q21 _ 4 q rfl
  have hx:(nzO (q4q (a.getD []))).map (List.filter (q8z (fk k a b c o d) (qg6 s k a b c o d)))=movL s k a b c o d:=rfl
  rw [hx] at h93
  generalize movL s k a b c o d=M at h93 ⊢
  have h96:=s96 (n+106) a b c o ha hb hc ho
  have hN:q8g s (a.getD []) (b.getD []) (c.getD []) (o.getD [])=((((wk9 s a).getD []).length:Int)=(a.getD []).length∧(((wk9 s b).getD []).length:Int)=(b.getD []).length∧(((wk9 s c).getD []).length:Int)=(c.getD []).length∧(((wk5 s o).getD []).length:Int)=(o.getD []).length):=by
   rw [q1C,q1C,q1C,q6e];rfl
  simp only [hN]
  clear hN hx
  simp only [q05,q15,G39,q0a,q0K,q1k,h73,q4R,he,if_true,q01,q03,q08,q12,ne_eq,not_true_eq_false,decide_false,q00,Bool.false_eq_true,if_false,h96]
  clear h73 he g gw hla
  obtain ⟨_,ka⟩:=sk (qfx (n+105) s)
  obtain ⟨_,kb⟩:=sk (qfw (n+105) s)
  obtain ⟨_,kc⟩:=sk (qfv (n+105) s)
  obtain ⟨_,ko⟩:=sk (qfu (n+105) s)
  cases a<;>cases b<;>cases c<;>cases o<;>try simp only [qaX,qaY] at h94 h93
  all_goals
   try simp only [Option.getD_some] at ha hb hc ho
   simp only [Option.isSome_none,Option.isSome_some,ix96,↓q01,↓q3a,lv9,lv5]
   simp (disch:=first | exact ha | exact hb | exact hc | exact ho) only [q0a,s97n,s99n,s101n,s103n,ka,kb,kc,ko,qaX,qaY,q01,q03,q08,q0F,q0V,q0Q,q0T,if_true,q0e,q4E,q68,q0H,q4b,q65,qfl,q0S,q00,decide_eq_true_eq,h94,hp,q0c,q0B,h93,q05,q1e,true_and,and_true]
   first | rfl | exact if2 _ _ _ _ | exact if3 _ _ _ _ _ | exact if4 _ _ _ _ _ _
 ·rw [if_neg he]
  simp only [G39,q0a,q05,q15,q0K,q1k,h73,q4R,if_neg he,q01,q03,q08,q12,q00]
  rw [if_pos (by simpa using he)]
  simp [dI,dSl]
end Go.VE
namespace Go.VE
open Go.RowKit Go.Proofs
def kinA:Option (List E9):=some [⟨1,10,3,0,0,100,100,0,0⟩,⟨2,11,3,0,0,100,100,0,0⟩,⟨3,12,5,0,10,90,100,0,0⟩,⟨4,11,7,40,50,60,60,0,0⟩]
def kinB:Option (List E9):=some [⟨20,5,3,20,30,70,70,8,0⟩]
def kinC:Option (List E9):=some [⟨30,10,0,50,50,52,55,0,0⟩,⟨31,12,10,0,0,100,100,0,0⟩]
def kinO:Option (List E5):=some [⟨40,11,9,5,0⟩]
theorem s168 (n:Nat) (x:Int):FN (n+1) 168 [il x]=some (0,[.d (il x),.d (il x)]):=by rw [F168];simp [G168]
theorem s88 (n:Nat):FN (n+2) 88 []=some (0,[.d (d9 kinA),.d (d9 kinB),.d (d9 kinC),.d (d5 kinO)]):=by
 rw [F88]
 simp only [G88,q0a,q05,s168,q01,q03,q08,q1i,q0K,q0Q,List.length_cons,List.length_nil,q0T,if_true,q0M,q1k,q0e,List.take_succ_cons,List.take_zero]
 simp [kinA,kinB,kinC,kinO,d9,d5,r9,r5,dSl]
theorem kA:(kinA.getD []).length*72≤140737488351232:=by decide
theorem kB:(kinB.getD []).length*72≤140737488351232:=by decide
theorem kC:(kinC.getD []).length*72≤140737488351232:=by decide
theorem kO:(kinO.getD []).length*40≤140737488351232:=by decide
theorem x1 (n:Nat):FN (n+110) 12 [d9 kinA,d9 kinB,d9 kinC,d5 kinO,il 11,il 45,il 9]=some (0,[.d (dI (some [3,7])),.d (il 0)]):=by
 rw [s12 (n+99) 11 45 9 kinA kinB kinC kinO kA kB kC kO,if_pos (by decide +kernel),show q1d 45 11 (q4l 9 (kinA.getD []))=[3,7] by decide +kernel]
theorem x2 (n:Nat):FN (n+110) 14 [d9 kinA,d9 kinB,d9 kinC,d5 kinO,il 5,il 25,il 9]=some (0,[.d (dI (some [3,5])),.d (il 0)]):=by
 rw [s14 (n+5) 5 25 9 kinA kinB kinC kinO kA kB kC kO,if_pos (by decide +kernel),show q0f 25 (q4l 9 (kinB.getD [])) 5=[3,5] by decide +kernel]
theorem x3 (n:Nat):FN (n+110) 16 [d9 kinA,d9 kinB,d9 kinC,d5 kinO,il 12,il 51,il 9]=some (0,[.d (dI (some [0])),.d (il 0)]):=by
 rw [s16 (n+4) 12 51 9 kinA kinB kinC kinO kA kB kC kO,if_pos (by decide +kernel),show q72 9 kinA kinB kinC kinO 51 12=[0] by decide +kernel]
theorem x4 (n:Nat):FN (n+110) 18 [d9 kinA,d9 kinB,d9 kinC,d5 kinO,il 12,il 53,il 9]=some (0,[.d (il 2),.d (il 0)]):=by
 rw [s18 (n+3) 12 53 9 kinA kinB kinC kinO kA kB kC kO,if_pos (by decide +kernel),show q5N (q4l 9 (kinA.getD [])) (q4l 9 (kinC.getD [])) (qfp 9 (kinO.getD [])) 53 12=2 by decide +kernel]
theorem x5 (n:Nat):FN (n+110) 20 [d9 kinA,d9 kinB,d9 kinC,d5 kinO,il 11,il 7,il 55,il 9]=some (0,[.d (il 1),.d (il 0)]):=by
 rw [s20 (n+3) 11 7 55 9 kinA kinB kinC kinO kA kB kC kO,if_pos (by decide +kernel),show q8w (q72 9 kinA kinB kinC kinO 55 11) 7=1 by decide +kernel]
theorem x6 (n:Nat):FN (n+110) 32 [d9 kinA,d9 kinB,d9 kinC,d5 kinO,il 3,il 35,il 9]=some (0,[.d (dI (some [10,11,12])),.d (il 0)]):=by
 rw [s32 n 3 35 9 kinA kinB kinC kinO kA kB kC kO,if_pos (by decide +kernel),show qci 9 kinA kinB kinC kinO 35 3=some [10,11,12] by decide +kernel]
theorem x7 (n:Nat):FN (n+110) 29 [d9 kinA,d9 kinB,d9 kinC,d5 kinO,il 3,il 53,il 9]=some (0,[.d (il 0),.d (il 2),.d (il 0)]):=by
 rw [s29 n 3 53 9 kinA kinB kinC kinO kA kB kC kO,if_pos (by decide +kernel),show (((qci 9 kinA kinB kinC kinO 53 3).getD []).length:Int)=0 by decide +kernel,show (((mayL 9 kinA kinB kinC kinO 53 3).getD []).length:Int)=2 by decide +kernel]
theorem x8 (n:Nat):FN (n+110) 39 [d9 kinA,d9 kinB,d9 kinC,d5 kinO,il 30,il 53,il 9]=some (0,[.d (dI (some [10,12])),.d (il 0)]):=by
 rw [s39 (n+1) 30 53 9 kinA kinB kinC kinO kA kB kC kO,if_pos (by decide +kernel),if_neg (by decide +kernel),show movL 30 9 kinA kinB kinC kinO 53=some [10,12] by decide +kernel]
theorem x9 (n:Nat):FN (n+110) 37 [d9 kinA,d9 kinB,d9 kinC,d5 kinO,il 10,il 4,il 9]=some (0,[.d (dI (some [11])),.d (il 0)]):=by
 rw [s37 (n+1) 10 4 9 kinA kinB kinC kinO kA kB kC kO,if_pos (by decide +kernel),show (nzO (q4q (kinA.getD []))).map (List.filter (q8z (fk 4 kinA kinB kinC kinO 10) (fk 9 kinA kinB kinC kinO 10)))=some [11] by decide +kernel]
theorem x10 (n:Nat):FN (n+110) 18 [d9 kinA,d9 kinB,d9 kinC,d5 kinO,il 11,il 10,il 9]=some (0,[.d (il 0),.d (il 0)]):=by
 rw [s18 (n+3) 11 10 9 kinA kinB kinC kinO kA kB kC kO,if_pos (by decide +kernel),show q5N (q4l 9 (kinA.getD [])) (q4l 9 (kinC.getD [])) (qfp 9 (kinO.getD [])) 10 11=0 by decide +kernel]
theorem q7y (n:Nat) (l:List Int) (hl:l.length≤100):FN (n+1) 22 [dI (some l),dI (some l)]=some (0,[.d (bl true)]):=by
 rw [s22 n (some l) (some l) (by simp only [Option.getD_some];omega)];simp
theorem a23 {Fn:Nat→List D→Out} {FnD:D→List Sh→List D→Out} {m:Nat} (A B C O L1 L2 L3 L6 L8 L9:D) (h88:Fn 88 []=some (0,[.d A,.d B,.d C,.d O]))
  (h1:Fn 12 [A,B,C,O,il 11,il 45,il 9]=some (0,[.d L1,.d (il 0)])) (h2:Fn 14 [A,B,C,O,il 5,il 25,il 9]=some (0,[.d L2,.d (il 0)])) (h3:Fn 16 [A,B,C,O,il 12,il 51,il 9]=some (0,[.d L3,.d (il 0)]))
  (h4:Fn 18 [A,B,C,O,il 12,il 53,il 9]=some (0,[.d (il 2),.d (il 0)])) (h5:Fn 20 [A,B,C,O,il 11,il 7,il 55,il 9]=some (0,[.d (il 1),.d (il 0)])) (h6:Fn 32 [A,B,C,O,il 3,il 35,il 9]=some (0,[.d L6,.d (il 0)]))
  (h7:Fn 29 [A,B,C,O,il 3,il 53,il 9]=some (0,[.d (il 0),.d (il 2),.d (il 0)])) (h8:Fn 39 [A,B,C,O,il 30,il 53,il 9]=some (0,[.d L8,.d (il 0)])) (h9:Fn 37 [A,B,C,O,il 10,il 4,il 9]=some (0,[.d L9,.d (il 0)]))
  (h10:Fn 18 [A,B,C,O,il 11,il 10,il 9]=some (0,[.d (il 0),.d (il 0)]))
  (q1:Fn 22 [L1,.sl 1 [[il 3],[il 7]]]=some (0,[.d (bl true)])) (q2:Fn 22 [L2,.sl 1 [[il 3],[il 5]]]=some (0,[.d (bl true)])) (q3:Fn 22 [L3,.sl 1 [[il 0]]]=some (0,[.d (bl true)])) (q6:Fn 22 [L6,.sl 1 [[il 10],[il 11],[il 12]]]=some (0,[.d (bl true)]))
  (q8:Fn 22 [L8,.sl 1 [[il 10],[il 12]]]=some (0,[.d (bl true)])) (q9:Fn 22 [L9,.sl 1 [[il 11]]]=some (0,[.d (bl true)])):G23 (q04 Fn FnD m)=some (0,[.d (bl true)]):=by
 simp only [G23,q0a,q05,h88,q01,q03,q08,h1,h2,h3,h4,h5,h6,h7,h8,h9,h10,q0S,decide_true,q00,if_true,q0K,q1k,qhl,q0e,q1,q2,q3,q6,q8,q9,Bool.false_eq_true,if_false,and_self]
theorem s23 (n:Nat):FN (n+111) 23 []=some (0,[.d (bl true)]):=by
 rw [F23]
 exact a23 (d9 kinA) (d9 kinB) (d9 kinC) (d5 kinO) (dI (some [3,7])) (dI (some [3,5])) (dI (some [0])) (dI (some [10,11,12])) (dI (some [10,12])) (dI (some [11])) (s88 (n+108)) (x1 n) (x2 n) (x3 n) (x4 n) (x5 n) (x6 n) (x7 n) (x8 n) (x9 n) (x10 n)
  (q7y (n+109) [3,7] (by decide)) (q7y (n+109) [3,5] (by decide)) (q7y (n+109) [0] (by decide)) (q7y (n+109) [10,11,12] (by decide)) (q7y (n+109) [10,12] (by decide)) (q7y (n+109) [11] (by decide))
end Go.VE
namespace Go.VE
open Go.RowKit Go.Proofs
end Go.VE
namespace Go.VE
open Go.RowKit Go.Proofs
section
variable {a b c:List E9} {o:List E5} (n:Nat) (f d x3 p:Int) (hd:0≤d∧d≤4166) (g:GoodK a b c o) (P:List Int) (hP:P.length≤1000000)
include hd g hP
end
end Go.VE
namespace Go.VE
open Go.RowKit Go.Proofs
section
variable {a b c a' b' c':List E9} {o o':List E5} (n:Nat) (d:Int) (hd:0≤d∧d≤4166) (g:GoodK a b c o) (g':GoodK a' b' c' o') (P:List Int) (hP:P.length≤1000000)
include hd g g' hP
end
section
variable (n:Nat) (p f d k l:Int) (a b c:Option (List E9)) (o:Option (List E5)) (ha:(a.getD []).length*72≤140737488351232) (hb:(b.getD []).length*72≤140737488351232) (hc:(c.getD []).length*72≤140737488351232) (ho:(o.getD []).length*40≤140737488351232)
include ha hb hc ho
end
end Go.VE
namespace Go.VE
open Go.RowKit Go.Shelf Go.Proofs
set_option maxRecDepth 100000
def rho:Ren:=⟨fun x=>if x=21 then 159 else if x=27 then 212 else if x=28 then 213 else if x=35 then 217 else if x=39 then 220 else 0,fun x=>if x=22 then 30 else x,fun x=>x⟩
theorem lays21:Lays2.n21 Tryz.prog rho where
 mixed:=by kernel_rfl
 f21:=by kernel_rfl
 f27:=by kernel_rfl
 f28:=by kernel_rfl
 f35:=by kernel_rfl
 f39:=by kernel_rfl
 t0:=by kernel_rfl
 a0:=fun w=>by kernel_rfl
 z0:=fun w=>by kernel_rfl
 v0:=fun w=>by kernel_rfl
 t3:=by kernel_rfl
 a3:=fun w=>by kernel_rfl
 z3:=fun w=>by kernel_rfl
 v3:=fun w=>by kernel_rfl
 t4:=by kernel_rfl
 a4:=fun w=>by kernel_rfl
 z4:=fun w=>by kernel_rfl
 v4:=fun w=>by kernel_rfl
 t22:=by kernel_rfl
 a22:=fun w=>by kernel_rfl
 z22:=fun w=>by kernel_rfl
 v22:=fun w=>by kernel_rfl
 i3:=by kernel_rfl
theorem spOK:qfr Tryz.prog (cf3 tb Tryz.prog):=by
 intro f p h
 by_cases hf:f=159
 ·subst hf
  have e:(cf3 tb Tryz.prog).sp 159=some (1,3,8):=by kernel_rfl
  rw [e] at h
  cases h
  exact qgj lays21
 ·by_cases hg:f=117
  ·subst hg
   have e:(cf3 tb Tryz.prog).sp 117=some (9,52,72):=by kernel_rfl
   rw [e] at h
   cases h
   exact qef
  ·exfalso
   have e:(cf3 tb Tryz.prog).sp f=none:=by
    show spT f=none
    unfold spT
    split
    ·exact absurd rfl hg
    ·exact absurd rfl hf
    ·rfl
   rw [e] at h
   cases h
end Go.VE
namespace Go.VE
open Go.RowKit Go.Proofs Go.Proofs.YtobeabinccohlaaGreat
set_option maxRecDepth 100000
theorem mixP:Tryz.prog.follows .mixedOrders=true:=lays21.mixed
theorem FN_ok (n:Nat):qd8 Tryz.prog (cf3 tb Tryz.prog) (FN n):=FnT_ok mixP spOK n
theorem FN_okM (n:Nat):qgT Tryz.prog (cf3 tb Tryz.prog) (FN n):=qkz mixP spOK n
theorem own:ownKnob Tryz.prog.godebug=none:=by kernel_rfl
theorem qiG:laidOutB Tryz.prog=true:=by kernel_rfl
theorem o3 {n:Nat} {ds:List D} (h:HasT Tryz.prog (n+1) 3 ds):∃ z,ds=[il z]∧-9223372036854775808≤z∧z≤9223372036854775807:=h.int Tryz.underlying3
theorem o47 {n:Nat} {ds:List D} (h:HasT Tryz.prog (n+2) 47 ds):∃ a b,ds=[il a,il b]:=by
 obtain ⟨a,b,rfl,h1,c,d,rfl,h2,rfl⟩:=h.struct Tryz.underlying47 rfl
 obtain ⟨x,rfl,_⟩:=o3 h1
 obtain ⟨y,rfl,_⟩:=o3 h2
 exact ⟨x,y,rfl⟩
theorem oE9 {n:Nat} {ds:List D} (h:q3K (HasT Tryz.prog (n+2)) [3,3,3,47,47,3,3] ds):∃ e:E9,ds=r9 e:=by
 obtain ⟨a1,b1,rfl,h1,a2,b2,rfl,h2,a3,b3,rfl,h3,a4,b4,rfl,h4,a5,b5,rfl,h5,a6,b6,rfl,h6,a7,b7,rfl,h7,rfl⟩:=h
 obtain ⟨x1,rfl,_⟩:=o3 h1
 obtain ⟨x2,rfl,_⟩:=o3 h2
 obtain ⟨x3,rfl,_⟩:=o3 h3
 obtain ⟨y1,y2,rfl⟩:=o47 h4
 obtain ⟨z1,z2,rfl⟩:=o47 h5
 obtain ⟨x6,rfl,_⟩:=o3 h6
 obtain ⟨x7,rfl,_⟩:=o3 h7
 exact ⟨⟨x1,x2,x3,y1,y2,z1,z2,x6,x7⟩,rfl⟩
theorem o82 {n:Nat} {ds:List D} (h:HasT Tryz.prog (n+3) 82 ds):∃ e:E5,ds=r5 e:=by
 obtain ⟨a1,b1,rfl,h1,a2,b2,rfl,h2,a3,b3,rfl,h3,a4,b4,rfl,h4,a5,b5,rfl,h5,rfl⟩:=h.struct Tryz.underlying82 rfl
 obtain ⟨x1,rfl,_⟩:=o3 h1
 obtain ⟨x2,rfl,_⟩:=o3 h2
 obtain ⟨x3,rfl,_⟩:=o3 h3
 obtain ⟨x4,rfl,_⟩:=o3 h4
 obtain ⟨x5,rfl,_⟩:=o3 h5
 exact ⟨⟨x1,x2,x3,x4,x5⟩,rfl⟩
theorem qbs {α:Type} {f:α→List D}:∀ {o:Option Rr},(∀ r∈o.getD [],∃ c,r=f c)→∃ q:Option (List α),o=q.map (·.map f)
 | none,_=>⟨none,rfl⟩
 | some rows,h=>by
  obtain ⟨l,hl⟩:=qb9 (f:=f) (rows:=rows) h
  exact ⟨some l,by rw [hl];rfl⟩
theorem qdQ {n t e:Nat} {ds:List D} (hu:Tryz.prog.underlying t=some (.slice e)) (hc:Tryz.prog.cellsOf e=9) (hb:Tryz.prog.bytesOf e=72) (he:∀ r,HasT Tryz.prog (n+3) e r→∃ x:E9,r=r9 x) (h:HasT Tryz.prog (n+4) t ds):∃ o:Option (List E9),ds=[d9 o]∧(o.getD []).length*72≤140737488351232:=by
 obtain ⟨o,rfl,h1,h2⟩:=h.sl hu hc hb
 obtain ⟨q,rfl⟩:=qbs (f:=r9) fun r hr=>he r (h2 r hr)
 refine ⟨q,rfl,?_⟩
 cases q with
 | none=>simp
 | some l=>simpa using h1
theorem o50 {n:Nat} {r:List D} (h:HasT Tryz.prog (n+3) 50 r):∃ x:E9,r=r9 x:=oE9 (h.struct Tryz.underlying50 rfl)
theorem o52 {n:Nat} {r:List D} (h:HasT Tryz.prog (n+3) 52 r):∃ x:E9,r=r9 x:=oE9 (h.struct Tryz.underlying52 rfl)
theorem o54 {n:Nat} {r:List D} (h:HasT Tryz.prog (n+3) 54 r):∃ x:E9,r=r9 x:=oE9 (h.struct Tryz.underlying54 rfl)
theorem o25 {n:Nat} {ds:List D} (h:HasT Tryz.prog (n+4) 25 ds):∃ o:Option (List E5),ds=[d5 o]∧(o.getD []).length*40≤140737488351232:=by
 obtain ⟨o,rfl,h1,h2⟩:=h.sl (c:=5) (b:=40) Tryz.underlying25 (by kernel_rfl) (by kernel_rfl)
 obtain ⟨q,rfl⟩:=qbs (f:=r5) fun r hr=>o82 (h2 r hr)
 refine ⟨q,rfl,?_⟩
 cases q with
 | none=>simp
 | some l=>simpa using h1
theorem o27 {n:Nat} {ds:List D} (h:HasT Tryz.prog (n+5) 27 ds):∃ (a b c:Option (List E9)) (o:Option (List E5)),ds=[d9 a,d9 b,d9 c,d5 o]∧(a.getD []).length*72≤140737488351232∧(b.getD []).length*72≤140737488351232∧(c.getD []).length*72≤140737488351232∧(o.getD []).length*40≤140737488351232:=by
 obtain ⟨a1,b1,rfl,h1,a2,b2,rfl,h2,a3,b3,rfl,h3,a4,b4,rfl,h4,rfl⟩:=h.struct Tryz.underlying27 rfl
 obtain ⟨a,rfl,ha⟩:=qdQ Tryz.underlying22 (by kernel_rfl) (by kernel_rfl) (fun r hr=>o50 hr) h1
 obtain ⟨b,rfl,hb⟩:=qdQ Tryz.underlying23 (by kernel_rfl) (by kernel_rfl) (fun r hr=>o52 hr) h2
 obtain ⟨c,rfl,hc⟩:=qdQ Tryz.underlying24 (by kernel_rfl) (by kernel_rfl) (fun r hr=>o54 hr) h3
 obtain ⟨o,rfl,ho⟩:=o25 h4
 exact ⟨a,b,c,o,rfl,ha,hb,hc,ho⟩
end Go.VE
namespace Go.VE
open Go.RowKit Go.Proofs
end Go.VE
namespace Go.VE
open Go.RowKit Go.Proofs
structure Nar1 (x e:E9):Prop where
 src:x.src=e.src
 a:x.a=e.a
 b:x.b=e.b
 kn:x.kn=e.kn
 un:x.un=e.un
 f:e.f1≤x.f1∧x.f1≤x.f2∧x.f2≤e.f2
 t:e.t1≤x.t1∧x.t1≤x.t2∧x.t2≤e.t2
def NarL:List E9→List E9→Prop
 | [],[]=>True
 | x::l,e::m=>Nar1 x e∧NarL l m
 | _,_=>False
theorem NarL.app:∀ {l1 m1 l2 m2:List E9},NarL l1 m1→NarL l2 m2→NarL (l1++l2) (m1++m2)
 | [],[],_,_,_,h=>h
 | _::_,_::_,_,_,h1,h2=>⟨h1.1,NarL.app h1.2 h2⟩
theorem NarL.rev:∀ {l m:List E9},NarL l m→NarL l.reverse m.reverse
 | [],[],_=>trivial
 | x::l,e::m,h=>by
  rw [List.reverse_cons,List.reverse_cons]
  exact NarL.app (NarL.rev h.2) ⟨h.1,trivial⟩
theorem NarL.len:∀ {l m:List E9},NarL l m→l.length=m.length
 | [],[],_=>rfl
 | x::l,e::m,h=>by simp [NarL.len h.2]
theorem q9I (l:List E9):below l l.length=l.reverse:=by simp [below]
theorem NarL.below {l m:List E9} (h:NarL l m):NarL (below l l.length) (below m m.length):=by
 rw [q9I,q9I];exact h.rev
theorem NarL.cnt (k:Int):∀ {l m:List E9},NarL l m→NarL (q4l k l) (q4l k m)
 | [],[],_=>trivial
 | x::l,e::m,h=>by
  have ih:=NarL.cnt k h.2
  unfold q4l at ih ⊢
  rw [List.filter_cons,List.filter_cons,h.1.kn,h.1.un]
  split
  ·exact ⟨h.1,ih⟩
  ·exact ih
theorem NarL.mem:∀ {l m:List E9},NarL l m→∀ x∈l,∃ e∈m,Nar1 x e
 | [],[],_,x,hx=>by simp at hx
 | y::l,e::m,h,x,hx=>by
  rcases List.mem_cons.1 hx with rfl | hx
  ·exact ⟨e,by simp,h.1⟩
  ·obtain ⟨e',h1,h2⟩:=NarL.mem h.2 x hx
   exact ⟨e',by simp [h1],h2⟩
theorem Nar1.rfl' {e:E9} (h:e.f1≤e.f2∧e.t1≤e.t2):Nar1 e e:=⟨rfl,rfl,rfl,rfl,rfl,⟨by omega,h.1,by omega⟩,⟨by omega,h.2,by omega⟩⟩
theorem NarL.rfl':∀ {l:List E9},(∀ e∈l,e.f1≤e.f2∧e.t1≤e.t2)→NarL l l
 | [],_=>trivial
 | e::l,h=>⟨Nar1.rfl' (h e (by simp)),NarL.rfl' fun e he=>h e (by simp [he])⟩
theorem NarL.set:∀ {l:List E9} {i:Nat} {x e:E9},(∀ e∈l,e.f1≤e.f2∧e.t1≤e.t2)→l[i]?=some e→Nar1 x e→NarL (l.set i x) l
 | [],i,x,e,_,h,_=>by simp at h
 | y::l,0,x,e,h,hi,hx=>by
  simp at hi;subst hi
  exact ⟨hx,NarL.rfl' fun e he=>h e (by simp [he])⟩
 | y::l,i+1,x,e,h,hi,hx=>⟨Nar1.rfl' (h y (by simp)),NarL.set (fun e he=>h e (by simp [he])) (by simpa using hi) hx⟩
end Go.VE
namespace Go.VE
open Go.RowKit Go.Proofs
end Go.VE
namespace Go.VE
open Go.RowKit Go.Proofs
theorem qii {Fn:Nat→List D→Out} {FnD:D→List Sh→List D→Out} {m:Nat} (a:Option (List E9)) (k:Rr→Out):(q04 Fn FnD m).rowsD 9 (d9 a) k=k ((a.getD []).map r9):=by
 rw [d9,qbn];cases a<;>rfl
theorem q8V (l:List E9):(l.map r9).take l.length=l.map r9:=List.take_of_length_le (by simp)
end Go.VE
namespace Go.VE
open Go.RowKit Go.Proofs
section
variable {Fn:Nat→List D→Out} {FnD:D→List Sh→List D→Out} {m:Nat}
end
end Go.VE
namespace Go.VE
open Go.RowKit Go.Proofs
theorem NarL.as:∀ {l m:List E9},NarL l m→l.map (·.a)=m.map (·.a)
 | [],[],_=>rfl
 | x::l,e::m,h=>by rw [List.map_cons,List.map_cons,h.1.a,NarL.as h.2]
end Go.VE
namespace Go.VE
open Go.RowKit Go.Proofs
theorem q8N {T:Tb3} {P:Program} {Fn:Nat→List D→Out} {t f:Nat} {name:String} {row:List D} {sh:List Sh} {xs:List D} {z w:D} (hlt:f < 1000000) (hm:qhv P t name=some f) (hash:T.ash f=some sh) (hx:q1A sh [.agg row]=some xs)
  (hr:T.rsk f=[[(false,[.d]),(false,[.d])]]) (hf:Fn f xs=some (0,[.d z,.d w])):q1q P (cf3 T P) Fn (.ifc t true row) [.met name 2] []=some (0,[.d z,.d w]):=by
 have h1:(cf3 T P).ash f=some sh:=by simp only [cf3,if_pos hlt,hash]
 have h2:(cf3 T P).rsk f=[[(false,[.d]),(false,[.d])]]:=hr
 show qaL P (cf3 T P) Fn t true row [.met name 2]=_
 simp only [qaL,hm,invV,h1,h2,hx,hf]
 rfl
theorem tim200 (n:Nat) (e:E9):FD (n+1) (.ifc 200 true (r9 e)) [.met "leazing/family.times" 2] []=some (0,[.d (il e.kn),.d (il e.un)]) :=
 q8N (f:=237) (sh:=[.agg 9]) (xs:=r9 e) (by decide) (by kernel_rfl) (by kernel_rfl) rfl (by kernel_rfl) (by rw [r9,F237];simp [G237])
theorem tim201 (n:Nat) (e:E9):FD (n+1) (.ifc 201 true (r9 e)) [.met "leazing/family.times" 2] []=some (0,[.d (il e.kn),.d (il e.un)]) :=
 q8N (f:=239) (sh:=[.agg 9]) (xs:=r9 e) (by decide) (by kernel_rfl) (by kernel_rfl) rfl (by kernel_rfl) (by rw [r9,F239];simp [G239])
theorem tim202 (n:Nat) (e:E9):FD (n+1) (.ifc 202 true (r9 e)) [.met "leazing/family.times" 2] []=some (0,[.d (il e.kn),.d (il e.un)]) :=
 q8N (f:=241) (sh:=[.agg 9]) (xs:=r9 e) (by decide) (by kernel_rfl) (by kernel_rfl) rfl (by kernel_rfl) (by rw [r9,F241];simp [G241])
theorem tim203 (n:Nat) (e:E5):FD (n+1) (.ifc 203 true (r5 e)) [.met "leazing/family.times" 2] []=some (0,[.d (il e.kn),.d (il e.un)]) :=
 q8N (f:=243) (sh:=[.agg 5]) (xs:=r5 e) (by decide) (by kernel_rfl) (by kernel_rfl) rfl (by kernel_rfl) (by rw [r5,F243];simp [G243])
def tm (kn un:Int):List Int:=if un=0 then [kn] else [kn,un]
def tmL {α:Type} (kn un:α→Int) (l:List α):List Int:=l.flatMap fun e=>tm (kn e) (un e)
theorem q4d {α:Type} (kn un:α→Int) (e:α) (l:List α):tmL kn un (e::l)=tm (kn e) (un e)++tmL kn un l:=rfl
theorem q0t (acc l m:List Int):q06 acc (l++m)=q06 (q06 acc l) m:=List.foldl_append ..
theorem qh7 (kn un:Int):(tm kn un).length≤2:=by unfold tm;split<;>simp
theorem qdi (kn un:Int) (acc:List Int):q06 acc (tm kn un)≠[]:=q40 _ (by unfold tm;split<;>simp)
theorem qbB (kn un:Int) (acc:List Int):(q06 acc (tm kn un)).length≤acc.length+2:=by
 have h1:=q1g (tm kn un) acc;have h2:=qh7 kn un;omega
def stA (x2 x3 x4 x5 x6 l:D) (len i:Int) (acc:List Int):List Yr:=[.n acc.length,.n acc.length,.d x2,.d x3,.d x4,.d x5,.d x6,.d l,.d (il len),.d (il i),.r (acc.map rI)]
section
variable {α:Type} {F:α→D} {kn un:α→Int}
set_option maxRecDepth 20000 in
theorem b44_18 (n:Nat) (hs:∀ e,FD (n+4) (F e) [.met "leazing/family.times" 2] []=some (0,[.d (il (kn e)),.d (il (un e))])) {l:List α} {i:Nat} {e:α} (hi:l[i]?=some e) (hlt:(i:Int) < (l.length:Int)) (hw:IntKind.i64.wrap ((i:Int)+1)=(i:Int)+1) {acc:List Int} (hu:Up acc) (ha:acc.length≤1000000) (x2 x3 x4 x5 x6:D) (k:Nat→List Yr→Out) :
  q7g (RP (n+4)) k (stA x2 x3 x4 x5 x6 (dEn F l) l.length i acc)=k 0 (stA x2 x3 x4 x5 x6 (dEn F l) l.length ((i:Int)+1) (q06 acc (tm (kn e) (un e)))):=by
 have hse:q1q Tryz.prog (cf3 tb Tryz.prog) (FN (n+4)) (F e) [.met "leazing/family.times" 2] []=some (0,[.d (il (kn e)),.d (il (un e))]):=hs e
 have p1:=q10 n acc (kn e) (by omega) hu
 have hl1:=q31 (kn e) acc
 have p2:=q10 n (ins (kn e) acc) (un e) (by omega) (q35 _ hu)
 simp only [stA,q7g,q03,q08,q0P,q0O,q0F,q0V,q0n,q00,hlt,decide_true,if_true,rowE hi,q0c,q1P,hse,q01,q0Q,List.length_map,q0T,q1k,q0a,p1,q0H,q05,q12,q0o,hw]
 by_cases h:un e=0
 ·simp [h,tm,q06]
 ·simp only [h,ne_eq,not_false_eq_true,decide_true,if_true,p2,q01,q03,q0H,List.length_map,tm,if_false,q06,List.foldl_cons,List.foldl_nil]
set_option maxRecDepth 20000 in
theorem qbT (n:Nat) (hs:∀ e,FD (n+4) (F e) [.met "leazing/family.times" 2] []=some (0,[.d (il (kn e)),.d (il (un e))])) (l:List α) (hl:l.length≤60) {acc:List Int} (hu:Up acc) (ha:acc.length≤1000) (x2 x3 x4 x5 x6:D) :
  q0p [q7g (RP (n+4))] M0 0 (stA x2 x3 x4 x5 x6 (dEn F l) l.length 0 acc)=some (0,[.n (q06 acc (tmL kn un l)).length,.n (q06 acc (tmL kn un l)).length,.d x2,.d x3,.d x4,.d x5,.d x6,.r ((q06 acc (tmL kn un l)).map rI)]):=by
 have:=q0u (β:=List Int) l (by omega) (q7g (RP (n+4))) (fun i acc=>stA x2 x3 x4 x5 x6 (dEn F l) l.length i acc) (fun i acc=>Up acc∧acc.length≤1000+2*i)
  (fun _ r acc=>some (0,[.n (q06 acc (tmL kn un r)).length,.n (q06 acc (tmL kn un r)).length,.d x2,.d x3,.d x4,.d x5,.d x6,.r ((q06 acc (tmL kn un r)).map rI)]))
  (fun b k _=>by simp [q7g,stA,tmL,q06]) ?_ M0 acc ⟨hu,by omega⟩ (by unfold M0;omega)
 ·simpa using this
 ·intro i e r acc k hi hd hlt hw hI ih
  rw [b44_18 n hs hi (by omega) hw hI.1 (by omega)]
  have:=qbB (kn e) (un e) acc
  have ih':=ih (q06 acc (tm (kn e) (un e))) ⟨q0R _ hI.1,by omega⟩
  rw [q4d,q0t]
  exact ih'
end
end Go.VE
namespace Go.VE
open Go.RowKit Go.Proofs
section
variable {α:Type} {F:α→D} {kn un:α→Int}
def enT (z:Nat→List Yr) (st:Nat→List Int→List Yr) (s:Nat×List Int):Nat×List Yr:=match s.2 with
 | []=>(0,z s.1)
 | y::r=>(2,st s.1 (y::r))
theorem qeF (z:Nat→List Yr) (st:Nat→List Int→List Yr) {i:Nat} {acc:List Int} (h:acc≠[]):enT z st (i,acc)=(2,st i acc):=by
 cases acc with
 | nil=>exact absurd rfl h
 | cons _ _=>rfl
def stZ (x2 x3 x4 x5 x6 l:D) (len i:Int):List Yr:=[.d x2,.d x3,.d x4,.d x5,.d x6,.d l,.d (il len),.d (il i)]
def exT (x2 x3 x4 x5 x6:D):List Int→Out
 | []=>some (0,[.d x2,.d x3,.d x4,.d x5,.d x6])
 | y::r=>some (2,[.n (y::r).length,.n (y::r).length,.d x2,.d x3,.d x4,.d x5,.d x6,.r ((y::r).map rI)])
theorem exT_ne (x2 x3 x4 x5 x6:D) {l:List Int} (h:l≠[]):exT x2 x3 x4 x5 x6 l=some (2,[.n l.length,.n l.length,.d x2,.d x3,.d x4,.d x5,.d x6,.r (l.map rI)]):=by
 cases l with
 | nil=>exact absurd rfl h
 | cons _ _=>rfl
set_option maxRecDepth 20000 in
theorem b44_0 (n:Nat) (hs:∀ e,FD (n+4) (F e) [.met "leazing/family.times" 2] []=some (0,[.d (il (kn e)),.d (il (un e))])) {l:List α} {i:Nat} {e:α} (hi:l[i]?=some e) (hlt:(i:Int) < (l.length:Int)) (hw:IntKind.i64.wrap ((i:Int)+1)=(i:Int)+1) (x2 x3 x4 x5 x6:D) (k:Nat→List Yr→Out) :
  q8E (RP (n+4)) k (stZ x2 x3 x4 x5 x6 (dEn F l) l.length i)=k 2 (stA x2 x3 x4 x5 x6 (dEn F l) l.length ((i:Int)+1) (q06 [] (tm (kn e) (un e)))):=by
 have hse:q1q Tryz.prog (cf3 tb Tryz.prog) (FN (n+4)) (F e) [.met "leazing/family.times" 2] []=some (0,[.d (il (kn e)),.d (il (un e))]):=hs e
 have p1:=qg1 (kn e) (n+1)
 have p2:=q10 n [kn e] (un e) (by simp) (by simp [Up])
 simp only [stZ,stA,q8E,q03,q08,q0n,q00,hlt,decide_true,if_true,rowE hi,q0c,q1P,hse,q01,q1e,q0a,p1,Bool.false_eq_true,if_false,q1i,q0K,q0Q,List.length_cons,List.length_nil,q0T,q1O,q0M,List.take_succ_cons,List.take_zero,q19,q05,q12,q0o,hw]
 rw [if_pos (by simp),show ((il 0):D)=il ((0:Nat):Int) from rfl,qfS _ _ _ _ (by simp)]
 by_cases h:un e=0
 ·simp [h,tm,q06,ins,rI]
 ·simp only [h,ne_eq,not_false_eq_true,decide_true,if_true,List.take_nil,List.nil_append,List.drop_nil,List.append_nil,List.length_cons,List.length_nil,q1k]
  rw [show ((.sl 1 [[il (kn e)]]):D)=.sl 1 ([kn e].map rI) from rfl,p2]
  simp only [q01,q03,q0H,List.length_map,tm,h,if_false]
  rfl
set_option maxRecDepth 20000 in
theorem b44_2 (n:Nat) (hs:∀ e,FD (n+4) (F e) [.met "leazing/family.times" 2] []=some (0,[.d (il (kn e)),.d (il (un e))])) {l:List α} {i:Nat} {e:α} (hi:l[i]?=some e) (hlt:(i:Int) < (l.length:Int)) (hw:IntKind.i64.wrap ((i:Int)+1)=(i:Int)+1) {acc:List Int} (hu:Up acc) (ha:acc.length≤1000000) (x2 x3 x4 x5 x6:D) (k:Nat→List Yr→Out) :
  q8D (RP (n+4)) k (stA x2 x3 x4 x5 x6 (dEn F l) l.length i acc)=k 2 (stA x2 x3 x4 x5 x6 (dEn F l) l.length ((i:Int)+1) (q06 acc (tm (kn e) (un e)))):=by
 have hse:q1q Tryz.prog (cf3 tb Tryz.prog) (FN (n+4)) (F e) [.met "leazing/family.times" 2] []=some (0,[.d (il (kn e)),.d (il (un e))]):=hs e
 have p1:=q10 n acc (kn e) (by omega) hu
 have hl1:=q31 (kn e) acc
 have p2:=q10 n (ins (kn e) acc) (un e) (by omega) (q35 _ hu)
 simp only [stA,q8D,q03,q08,q0P,q0O,q0F,q0V,q0n,q00,hlt,decide_true,if_true,rowE hi,q0c,q1P,hse,q01,q0Q,List.length_map,q0T,q1k,q0a,p1,q0H,q05,q12,q0o,hw]
 by_cases h:un e=0
 ·simp [h,tm,q06]
 ·simp only [h,ne_eq,not_false_eq_true,decide_true,if_true,p2,q01,q03,q0H,List.length_map,tm,if_false,q06,List.foldl_cons,List.foldl_nil]
set_option maxRecDepth 20000 in
theorem qgA (n:Nat) (hs:∀ e,FD (n+4) (F e) [.met "leazing/family.times" 2] []=some (0,[.d (il (kn e)),.d (il (un e))])) (l:List α) (hl:l.length≤60) (x2 x3 x4 x5 x6:D) :
  q0p [q8E (RP (n+4)),qgQ (RP (n+4)),q8D (RP (n+4))] M0 0 (stZ x2 x3 x4 x5 x6 (dEn F l) l.length 0)=exT x2 x3 x4 x5 x6 (q06 [] (tmL kn un l)):=by
 have key:=q2A (σ:=Nat×List Int) [q8E (RP (n+4)),qgQ (RP (n+4)),q8D (RP (n+4))] (enT (fun i=>stZ x2 x3 x4 x5 x6 (dEn F l) l.length i) (fun i acc=>stA x2 x3 x4 x5 x6 (dEn F l) l.length i acc)) (fun s=>l.length - s.1)
  (fun s=>s.1≤l.length∧Up s.2∧s.2.length≤2*s.1∧(s.2=[]→s.1=0)) (fun s=>exT x2 x3 x4 x5 x6 (q06 s.2 (tmL kn un (l.drop s.1)))) ?_ M0 (0,[]) ⟨by simp,by simp,by simp,fun _=>rfl⟩ (by unfold M0;simp only;omega)
 ·simpa [enT] using key
 ·rintro ⟨i,acc⟩ k ⟨g1,g2,g3,g4⟩ ih
  simp only at g1 g2 g3 g4 ih ⊢
  by_cases h:i < l.length
  ·have hd:=List.drop_eq_getElem_cons h
   have hi:l[i]?=some l[i]:=List.getElem?_eq_getElem h
   have hw:IntKind.i64.wrap ((i:Int)+1)=(i:Int)+1:=q0l (by omega) (by omega)
   have hlen:=qbB (kn l[i]) (un l[i]) acc
   have ih':=ih (i+1,q06 acc (tm (kn l[i]) (un l[i]))) ⟨by simp only;omega,q0R _ g2,by simp only;omega,fun h=>absurd h (qdi _ _ _)⟩ (by simp only;omega)
   rw [hd,q4d,q0t]
   rw [qeF _ _ (qdi _ _ _)] at ih'
   by_cases ha:acc=[]
   ·subst ha
    exact ⟨q8E (RP (n+4)),rfl,by rw [show (enT (fun i=>stZ x2 x3 x4 x5 x6 (dEn F l) l.length i) (fun i acc=>stA x2 x3 x4 x5 x6 (dEn F l) l.length i acc) (i,[])).2=stZ x2 x3 x4 x5 x6 (dEn F l) l.length i from rfl,b44_0 n hs hi (by omega) hw];exact ih'⟩
   ·rw [qeF _ _ ha]
    exact ⟨q8D (RP (n+4)),rfl,by simp only;rw [b44_2 n hs hi (by omega) hw g2 (by omega)];exact ih'⟩
  ·have hil:i=l.length:=by omega
   subst hil
   simp only [List.drop_length]
   by_cases ha:acc=[]
   ·subst ha
    exact ⟨q8E (RP (n+4)),rfl,by simp [enT,q8E,stZ,tmL,q06,exT]⟩
   ·rw [qeF _ _ ha]
    refine ⟨q8D (RP (n+4)),rfl,?_⟩
    rw [show q06 acc (tmL kn un [])=acc from rfl,exT_ne _ _ _ _ _ ha]
    simp [q8D,stA]
end
end Go.VE
