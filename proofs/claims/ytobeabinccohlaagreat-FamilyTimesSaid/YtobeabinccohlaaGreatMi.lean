/- slices.Insert at numbers: what the kit's contracts of it say, in one. -/
import Derived.Test.YtobeabinccohlaaGreatMe
import Derived.Shelf.Spec.SlicesInsertGrow
namespace Go.VE
open Go.RowKit Go.Shelf Go.Proofs
section
variable {P:Program} {ρ:Ren}
theorem tu (w:World) (a:Addr) (v:Value):Turn w (w.setCell a v) (fun x=>x=a.block) :=
 ⟨rfl,rfl,rfl,by simp [World.setCell],fun b _ h=>by
  simp only [World.setCell,Array.getElem?_modify]
  rw [T5 (fun e=>h e.symm)]⟩
theorem yj {w:World} {b o:Nat} {cur:Array Value} {t:TypeId} {fz:Nat×Nat} (h:w.heap[b]?=some (.cells cur t fz)) (v:Value):(w.setCell ⟨b,o,none⟩ v).heap[b]?=some (.cells (cur.setIfInBounds o v) t fz):=by
 simp only [World.setCell,Array.getElem?_modify,T6,h]
 rfl
theorem dA (b:Nat):∀ (vs:List Value) (o:Nat) (w:World),Turn w (w.setCells b o vs) (fun x=>x=b)
 | [],_,w=>Turn.refl w _
 | v::r,o,w=>(tu w ⟨b,o,none⟩ v).trans (dA b r (o+1) _)
theorem eI (b:Nat):∀ (vs:List Value) (o:Nat) (w:World) (cur:Array Value) (t:TypeId) (fz:Nat×Nat),w.heap[b]?=some (.cells cur t fz)→o+vs.length≤cur.size →
  ∃ cur',(w.setCells b o vs).heap[b]?=some (.cells cur' t fz)∧cur'.size=cur.size∧∀ j,cur'[j]?=if j < o then cur[j]? else if j < o+vs.length then vs[j - o]? else cur[j]?
 | [],o,w,cur,t,fz,h,_=>⟨cur,h,rfl,fun j=>by
  by_cases h1:j < o
  ·rw [T1 h1]
  ·rw [T5 h1,T5 (by simpa using h1)]⟩
 | v::r,o,w,cur,t,fz,h,hl=>by
  simp only [Tb] at hl
  obtain ⟨cur',h1,h2,h3⟩:=eI b r (o+1) (w.setCell ⟨b,o,none⟩ v) _ t fz (yj h v) (by simp;omega)
  refine ⟨cur',h1,by simpa using h2,fun j=>?_⟩
  rw [h3 j]
  simp only [X1,Tb]
  by_cases e:o=j
  ·subst e
   have h4:o < cur.size:=by omega
   simp [h4]
  ·simp only [T5 e]
   by_cases h4:j < o
   ·rw [T1 (by omega),T1 h4]
   ·rw [T5 (by omega),T5 h4]
    by_cases h5:j < o+1+r.length
    ·rw [T1 h5,T1 (by omega)]
     rw [show j - o=(j - (o+1))+1 by omega];simp
    ·rw [T5 h5,T5 (by omega)]
theorem Turn.drew (w:World) (X:Nat→Prop):Turn w w.drew X:=⟨rfl,rfl,rfl,Tf _,fun _ _ _=>rfl⟩
theorem Turn.weak {w w':World} {X Y:Nat→Prop} (h:Turn w w' X) (hs:∀ b,b < w.heap.size→X b→Y b):Turn w w' Y:=⟨h.os,h.tape,h.output,h.size,fun b hb hn=>h.same b hb fun hx=>hn (hs b hb hx)⟩
theorem qK (w:World) (o:Obj):(w.alloc o).heap[w.heap.size]?=some o:=by
 simp only [World.alloc,Array.getElem?_push_size]
theorem Et (L:Lays2.n21 P ρ):InsC P (ρ.f 21) 1 (ρ.t 3) 8:=by
 refine ⟨fun xs w=>?_,?_⟩
 ·have hne:((Body2.n21 ρ).name == "runtime.NumGoroutine")=false:=by
   have:(Body2.n21 ρ).name = "slices.Insert[[]int,int]" := rfl
   rw [this];decide
  have hb:(Body2.n21 ρ).body.isNone=false:=rfl
  simp only [callFunc,Sem.run_bind,Go.run_program,Result.andThen_ok,L.f21,hne,hb,T0,T9,Sem.run_pure]
 ·intro w a n c i us vs cur vb m vc vcur vt hm hin hnc hcm hbs hnm hul hvl hu1 hv1 hnil hown hvb hvc
  rw [Nat.mul_one] at hul hvl
  have hvs:∀ (j:Nat) (v:Value),vs[j]?=some v→w.cell? ⟨vb,0+j,none⟩=some v:=fun j v hj=>by
   rw [bG hvb,Tz];exact hvc j v hj
  have hc63:c≤9223372036854775807:=by unfold maxLen at hcm;exact hcm
  have fresh:∀ (W:World) (G:Nat) (row:List Value),n+m≤G→G≤maxLen→Turn w W (fun x=>x=w.heap.size)→(∃ cur',W.heap[w.heap.size]?=some (.cells cur' (ρ.t 3) (0,0))∧cur'.size=G∧∀ (j:Nat) (u:Value),(us.take i++vs++us.drop i)[j]?=some u→cur'[j]?=some u) →
    ∃ (b' c':Nat) (cur':Array Value),Ending.returned (.slice (some ⟨w.heap.size,0,none⟩) (n+m) G)=.returned (.slice (some ⟨b',0,none⟩) (n+m) c')∧W.heap[b']?=some (.cells cur' (ρ.t 3) (0,0))∧n+m≤c'∧c'≤maxLen∧cur'.size=c'*1 ∧
    (∀ (j:Nat) (u:Value),(us.take (i*1)++vs++us.drop (i*1))[j]?=some u→cur'[j]?=some u)∧Turn w W (fun x=>a=some x)∧(w.heap.size≤b'∨a=some b'):=by
   intro W G row h1 h2 h3 ⟨cur',h4,h5,h6⟩
   exact ⟨w.heap.size,G,cur',rfl,h4,h1,h2,by omega,by simpa using h6,h3.weak (fun b hb he=>by omega),.inl (Tf _)⟩
  have endGrow:i=n→c < n+m→Calls P (ρ.f 21) #[.slice (a.map fun b=>⟨b,0,none⟩) n c,.int .i64 i,.slice (some ⟨vb,0,none⟩) m vc] w fun e w' =>
   ∃ (b' c':Nat) (cur':Array Value),e=.returned (.slice (some ⟨b',0,none⟩) (n+m) c')∧w'.heap[b']?=some (.cells cur' (ρ.t 3) (0,0))∧n+m≤c'∧c'≤maxLen∧cur'.size=c'*1 ∧
    (∀ (j:Nat) (u:Value),(us.take (i*1)++vs++us.drop (i*1))[j]?=some u→cur'[j]?=some u)∧Turn w w' (fun x=>a=some x)∧(w.heap.size≤b'∨a=some b'):=by
   intro hi hroom
   subst hi
   refine (Any2.slices_Insert_int_end_grow L (a.map fun b=>⟨b,0,none⟩) i c vb 0 m vc us vs w hm hnc hroom hbs hul hvl (fun h=>(hnil (by simpa using h)).1) (fun ad had j v hj=>?_) hvs hv1).mono ?_
   ·obtain ⟨b,hb,rfl⟩:=Ta.1 had
    obtain ⟨g1,_,g3,_⟩:=hown b hb
    rw [add_lit,bG g1,Tz]
    exact g3 j v hj
   ·rintro e w' ⟨rfl,rfl⟩
    have hG:=grownCap_ge w (i+m) c (ρ.t 3)
    refine fresh _ _ [] hG (grownCap_le_maxLen w _ _ _ hnm) ((Turn.drew w _).trans (Turn.alloc _ _ _)) ⟨_,qK _ _,?_,fun j u hj=>?_⟩
    ·simp [Builtin.zeroCells,Value.cells];omega
    ·rw [Vc (by omega),Xm (by omega),Tt] at hj
     have hlt:j < (us++vs).length:=(Tn.1 hj).1
     rw [Array.getElem?_append_left (by simpa using hlt)]
     simpa using hj
  cases ha:a with
  | none =>
   obtain ⟨rfl,rfl⟩:=hnil ha
   have:=endGrow (by omega) (by omega)
   rwa [ha] at this
  | some b =>
   obtain ⟨g1,g2,g3,g4⟩:=hown b ha
   rw [Nat.mul_one] at g2
   have hcs:∀ (j:Nat) (v:Value),us[j]?=some v→w.cell? ⟨b,0+j,none⟩=some v:=fun j v hj=>by
    rw [bG g1,Tz];exact g3 j v hj
   have hsp:∀ j,j < c→(w.cell? ⟨b,0+j,none⟩).isSome=true:=fun j hj=>by
    rw [bG g1,Tz,Wa (by omega)];rfl
   have hfz:∀ j,w.frozen? ⟨b,j,none⟩=false:=fun j=>by simp [World.frozen?,g1]
   have place:∀ (W:World) (cur':Array Value),W.heap[b]?=some (.cells cur' (ρ.t 3) (0,0))→cur'.size=cur.size→n+m≤c→Turn w W (fun x=>x=b)→(∀ (j:Nat) (u:Value),(us.take i++vs++us.drop i)[j]?=some u→cur'[j]?=some u) →
     ∃ (b' c':Nat) (cur':Array Value),Ending.returned (.slice (some ⟨b,0,none⟩) (n+m) c)=.returned (.slice (some ⟨b',0,none⟩) (n+m) c')∧W.heap[b']?=some (.cells cur' (ρ.t 3) (0,0))∧n+m≤c'∧c'≤maxLen∧cur'.size=c'*1 ∧
     (∀ (j:Nat) (u:Value),(us.take (i*1)++vs++us.drop (i*1))[j]?=some u→cur'[j]?=some u)∧Turn w W (fun x=>some b=some x)∧(w.heap.size≤b'∨some b=some b'):=by
    intro W cur' h1 h2 h3 h4 h5
    exact ⟨b,c,cur',rfl,h1,h3,hcm,by omega,by simpa using h5,h4.weak (fun x _ e=>by rw [e]),.inr rfl⟩
   by_cases hi:i=n
   ·by_cases hroom:n+m≤c
    ·subst hi
     refine (Any2.slices_Insert_int_end_room L b 0 i c vb 0 m vc vs w hm hroom hc63 hvl (fun j hj=>by rw [Ww];exact hsp _ (by omega)) (fun j _=>hfz _) hvs hv1).mono ?_
     rintro e w' ⟨rfl,rfl⟩
     obtain ⟨cur',h1,h2,h3⟩:=eI b vs (0+i) w cur _ _ g1 (by omega)
     refine place _ cur' h1 h2 hroom (dA b _ _ _) fun j u hj=>?_
     rw [Vc (by omega),Xm (by omega),Tt] at hj
     rw [h3 j]
     by_cases hlt:j < i
     ·rw [T1 (by omega)]
      rw [V2 (by omega)] at hj
      exact g3 j u hj
     ·rw [T5 (by omega)]
      have hl:=(Tn.1 hj).1
      rw [Tp] at hl
      rw [T1 (by omega)]
      rw [Vd (by omega),hul] at hj
      rw [Tz];exact hj
    ·have:=endGrow hi (by omega)
     rwa [ha] at this
   ·have hlt:i < n:=by omega
    have hdl:(us.drop i).length=n - i:=by rw [Xh,hul]
    have htl:(us.take i).length=i:=by rw [Vo];omega
    by_cases hroom:n+m≤c
    ·refine (Any2.slices_Insert_int_shift L b 0 n c i vb 0 m vc us vs w hlt hm hroom hc63 g4 hul hvl hcs (fun j hj=>hsp j (by omega)) (fun j _=>hfz _) hvs hu1 hv1 vt (ρ.t 3) vcur.size cur.size (by simp [World.shape?,hvb]) (by simp [World.shape?,g1]) (by omega) (by simp [World.frozen?,hvb]) (by simp [World.frozen?,hvb])).mono ?_
     rintro e w' ⟨rfl,rfl⟩
     obtain ⟨cur1,h1,h2,h3⟩:=eI b (us.drop i) (0+(i+m)) w.drew cur _ _ g1 (by omega)
     obtain ⟨cur2,k1,k2,k3⟩:=eI b vs (0+i) _ cur1 _ _ h1 (by omega)
     refine place _ cur2 k1 (by omega) hroom (((Turn.drew w _).trans (dA b _ _ _)).trans (dA b _ _ _)) fun j u hj=>?_
     rw [k3 j,h3 j]
     have hl:=(Tn.1 hj).1
     simp only [Tp,htl,hdl,hvl] at hl
     by_cases c1:j < i
     ·rw [T1 (by omega),T1 (by omega)]
      rw [To,V2 (by omega),Vs,T1 c1] at hj
      exact g3 j u hj
     ·by_cases c2:j < i+m
      ·rw [T5 (by omega),T1 (by omega)]
       rw [To,Vd (by omega),htl,V2 (by omega)] at hj
       rw [Tz];exact hj
      ·rw [T5 (by omega),T5 (by omega),T5 (by omega),T1 (by omega)]
       rw [Vd (by simp;omega)] at hj
       rw [show j - (0+(i+m))=j - (us.take i++vs).length by simp only [Tp,htl,hvl];omega]
       exact hj
    ·refine (Any2.slices_Insert_int_grow L b 0 n c i vb 0 m vc us vs w hlt hm hnc (by omega) hbs hul hvl hcs hvs hu1 hv1).mono ?_
     rintro e w' ⟨rfl,rfl⟩
     have hG:=grownCap_ge w (n+m) c (ρ.t 3)
     have hGm:=grownCap_le_maxLen w (n+m) c (ρ.t 3) hnm
     generalize grownCap w (n+m) c (ρ.t 3)=G at hG hGm ⊢
     have hrow:((us.take i).toArray++Builtin.zeroCells (Value.int .i64 0).cells (n+m - i)++Builtin.zeroCells (Value.int .i64 0).cells (G - (n+m))).size=G:=by
      simp [Builtin.zeroCells,Value.cells];omega
     have h0:(w.alloc (.cells ((us.take i).toArray++Builtin.zeroCells (Value.int .i64 0).cells (n+m - i)++Builtin.zeroCells (Value.int .i64 0).cells (G - (n+m))) (ρ.t 3))).drew.heap[w.heap.size]?=some (.cells ((us.take i).toArray++Builtin.zeroCells (Value.int .i64 0).cells (n+m - i)++Builtin.zeroCells (Value.int .i64 0).cells (G - (n+m))) (ρ.t 3) (0,0)):=qK _ _
     obtain ⟨cur1,h1,h2,h3⟩:=eI w.heap.size vs i _ _ _ _ h0 (by rw [hrow];omega)
     obtain ⟨cur2,k1,k2,k3⟩:=eI w.heap.size (us.drop i) (i+m) _ cur1 _ _ (show (((w.alloc _).drew.setCells w.heap.size i vs).drew).heap[w.heap.size]?=_ from h1) (by omega)
     have ht:Turn w ((((w.alloc (.cells ((us.take i).toArray++Builtin.zeroCells (Value.int .i64 0).cells (n+m - i)++Builtin.zeroCells (Value.int .i64 0).cells (G - (n+m))) (ρ.t 3))).drew.setCells w.heap.size i vs).drew).setCells w.heap.size (i+m) (us.drop i)) (fun x=>x=w.heap.size) :=
      ((((Turn.alloc w _ _).trans (Turn.drew _ _)).trans (dA _ _ _ _)).trans (Turn.drew _ _)).trans (dA _ _ _ _)
     have:=fresh _ G [] hG hGm ht ⟨cur2,k1,by omega,fun j u hj=>?_⟩
     ·rwa [ha] at this
     ·rw [k3 j,h3 j]
      have hl:=(Tn.1 hj).1
      simp only [Tp,htl,hdl,hvl] at hl
      by_cases c1:j < i
      ·rw [T1 (by omega),T1 (by omega)]
       rw [To,V2 (by omega)] at hj
       rw [Array.append_assoc,Array.getElem?_append_left (by simpa using by omega)]
       simpa using hj
      ·by_cases c2:j < i+m
       ·rw [T1 (by omega),T5 (by omega),T1 (by omega)]
        rw [To,Vd (by omega),htl,V2 (by omega)] at hj
        exact hj
       ·rw [T5 (by omega),T1 (by omega)]
        rw [Vd (by simp;omega)] at hj
        rw [show j - (i+m)=j - (us.take i++vs).length by simp only [Tp,htl,hvl]]
        exact hj
end
end Go.VE
