/- Bell: the words of strokes, walked. -/
import Derived.Test.YtaagapoglhndjaaGreatDoorMg2
import Derived.Deep.RegionWith
import Derived.MapKept
namespace Go.VE
open Go.RowKit Go.Proofs Go.Shelf
set_option maxRecDepth 100000
set_option maxHeartbeats 4000000
def kindI (x:List UInt8):Int:=if x=tallyW then 1 else if x=wantsW then 2 else if x=askedW then 3 else if x=bellW then 4 else 0
def WordM (w:World) (v:Value):Prop:=∃ r es clock,v=.map (some r)∧w.heap[r]?=some (.map es clock)∧∀ x:List UInt8,∃ j,Instr.findNow .string (.string ⟨x.toArray⟩) es.toList 0=some j∧(match j with
 | some (_,u)=>u=.int .i64 (kindI x)
 | none=>kindI x=0)
theorem same_str (a b:List UInt8):Instr.sameNow .string (.string ⟨a.toArray⟩) (.string ⟨b.toArray⟩)=some (decide (a=b)):=by
 simp only [Instr.sameNow]
 congr 1
 rw [Bool.eq_iff_iff,MapKept.bytes_beq]
 simp
theorem e95:FN 4 95 []=some (0,[.d (.mp false [.string ⟨tallyW.toArray⟩,.string ⟨wantsW.toArray⟩,.string ⟨askedW.toArray⟩,.string ⟨bellW.toArray⟩] [[il 1],[il 2],[il 3],[il 4]])]):=by kernel_rfl
theorem sc95:SC Tryz.prog 95 [] (.one (.d (.mp false [.string ⟨tallyW.toArray⟩,.string ⟨wantsW.toArray⟩,.string ⟨askedW.toArray⟩,.string ⟨bellW.toArray⟩] [[il 1],[il 2],[il 3],[il 4]]))) :=
 FnT_ok (P:=Tryz.prog) (T:=tb) mixP spOK 4 95 [] [] _ 0 [.d (.mp false [.string ⟨tallyW.toArray⟩,.string ⟨wantsW.toArray⟩,.string ⟨askedW.toArray⟩,.string ⟨bellW.toArray⟩] [[il 1],[il 2],[il 3],[il 4]])] [(false,[.d])] rfl rfl e95 rfl
theorem wordOf_c (w:World):Calls Tryz.prog 95 #[] w fun e w'=>∃ v,e=.returned v∧WordM w' v∧Below w.heap.size w w':=by
 refine (sc95.2 w (fun _=>False) #[] (fun _ h=>h.elim) rfl).mono ?_
 rintro e w' ⟨v,U',bs,rfl,hbe,_,_,_,_,hrv⟩
 refine ⟨v,rfl,?_,hbe⟩
 simp only [RvR,RcR,DR,KR,FR,il] at hrv
 obtain ⟨_,r,es,clock,rfl,_,hr,k1,ks1,e1,es1,c1,hk1,he1,hke1,_,hv1,hl1,⟨u1,v1,rfl,⟨rfl,_⟩,rfl⟩,k2,ks2,e2,es2,c2,hk2,he2,hke2,_,hv2,hl2,⟨u2,v2,rfl,⟨rfl,_⟩,rfl⟩,
  k3,ks3,e3,es3,c3,hk3,he3,hke3,_,hv3,hl3,⟨u3,v3,rfl,⟨rfl,_⟩,rfl⟩,k4,ks4,e4,es4,c4,hk4,he4,hke4,_,hv4,hl4,⟨u4,v4,rfl,⟨rfl,_⟩,rfl⟩,hk5,he5⟩:=hrv
 simp only [List.cons.injEq] at hk1
 obtain ⟨rfl,rfl⟩:=hk1
 simp only [List.cons.injEq] at hk2
 obtain ⟨rfl,rfl⟩:=hk2
 simp only [List.cons.injEq] at hk3
 obtain ⟨rfl,rfl⟩:=hk3
 simp only [List.cons.injEq] at hk4
 obtain ⟨rfl,rfl⟩:=hk4
 subst he5 he4 he3 he2
 refine ⟨r,es,clock,rfl,hr,fun x=>?_⟩
 rw [he1]
 simp only [Instr.findNow,hke1,hke2,hke3,hke4,same_str,kindI]
 by_cases h1:x=tallyW
 ·simp only [h1,decide_true,if_true];exact ⟨_,rfl,hv1⟩
 ·by_cases h2:x=wantsW
  ·simp only [h2,decide_true,if_true,show ¬ wantsW=tallyW by decide,decide_false,if_false];exact ⟨_,rfl,hv2⟩
  ·by_cases h3:x=askedW
   ·simp only [h3,decide_true,if_true,show ¬ askedW=tallyW by decide,show ¬ askedW=wantsW by decide,decide_false,if_false];exact ⟨_,rfl,hv3⟩
   ·by_cases h4:x=bellW
    ·simp only [h4,decide_true,if_true,show ¬ bellW=tallyW by decide,show ¬ bellW=wantsW by decide,show ¬ bellW=askedW by decide,decide_false,if_false];exact ⟨_,rfl,hv4⟩
    ·simp only [h1,h2,h3,h4,decide_false,if_false];exact ⟨none,rfl,trivial⟩
theorem look_c {w:World} {v:Value} (h:WordM w v) (x:List UInt8):(Instr.lookup 146 v (.string ⟨x.toArray⟩) false).run Tryz.prog w=.ok (.int .i64 (kindI x)) w:=by
 obtain ⟨r,es,clock,rfl,hr,hx⟩:=h
 obtain ⟨j,hj,hm⟩:=hx x
 have hobj:(getObj r).run Tryz.prog w=.ok (.map es clock) w:=by simp [getObj,Sem.run,hr]
 have hfind:(Instr.findKey 9 (.string ⟨x.toArray⟩) es.toList).run Tryz.prog w=.ok j w:=by simp [Instr.findKey,run_underlying Tryz.underlying9,hj]
 have hz:(zeroValue 3).run Tryz.prog w=.ok (.int .i64 0) w:=Tryz.zeroValue3 w
 cases j with
 | none =>
  simp only at hm
  simp [Instr.lookup,run_underlying Tryz.underlying146,hobj,checkKey_ok (P:=Tryz.prog) Tryz.underlying9 rfl,hfind,hz,hm]
 | some p =>
  obtain ⟨i,u⟩:=p
  simp only at hm
  subst hm
  simp [Instr.lookup,run_underlying Tryz.underlying146,hobj,checkKey_ok (P:=Tryz.prog) Tryz.underlying9 rfl,hfind]
end Go.VE
