/- The functions. -/
import Derived.Test.YtobeabinccohlaaGreatMf0
import Derived.Test.YtobeabinccohlaaGreatMf1
import Derived.Test.YtobeabinccohlaaGreatMf2
import Derived.Test.YtobeabinccohlaaGreatMf3
import Derived.Test.YtobeabinccohlaaGreatMi
import Derived.Test.YtobeabinccohlaaGreatMt
import Derived.KernelRfl
import Derived.Test.YtobeabinccohlaaGreatMh
namespace Go.VE
open Go.RowKit Go.Shelf Go.Proofs Go.Lib
set_option maxRecDepth 100000
theorem q1M {P:Program} (w:World) (dT sT ty elem:TypeId) (size:Nat) (b o dLen dCap:Nat) (a:Addr) (sLen sCap:Nat) (cs:List Value)
  (hu:P.underlying dT=some (.slice elem)) (hs:(P.info? elem).map (·.size)=some size) (hn:cs.length=Nat.min sLen dLen*size)
  (hsrc:∀ j v,cs[j]?=some v→w.cell? (a.add j)=some v) (hc:∀ j,j < cs.length→(w.cell? ⟨b,o+j,none⟩).isSome=true) (hf:∀ j,j < cs.length→w.frozen? ⟨b,o+j,none⟩=false) (h1:∀ v∈cs,v.oneCell'=true) :
  (Builtin.copy_ #[dT,sT] ty #[.slice (some ⟨b,o,none⟩) dLen dCap,.slice (some a) sLen sCap]).run P w=.ok (goInt (Nat.min sLen dLen)) (w.setCells b o cs):=by
 have hl:=run_loadCells_list (P:=P) w a cs hsrc
 have hst:=run_storeCells_cells (P:=P) b o cs 0 w (by simpa using hc) (by simpa using hf) h1
 cases hq:P.info? elem with
 | none=>simp [hq] at hs
 | some i =>
  have hi:i.size=size:=by simpa [hq] using hs
  simp [Builtin.copy_,run_underlying hu,Builtin.lenOf,Builtin.firstCells,sizeOf,typeInfo,hq,hi,← hn,hl,hst]
theorem z52 (w:World):(Go.sizeOf 52).run Tryz.prog w=.ok 9 w:=by kernel_rfl
def zBond:Value:=.agg (Array.replicate 9 (.int .i64 0))
theorem i52:(Tryz.prog.info? 52).map (fun i=>(i.zero,i.size,i.bytes))=some (some zBond,9,72):=by kernel_rfl
theorem i52s:(Tryz.prog.info? 52).map (·.size)=some 9:=by kernel_rfl
theorem mix9:Tryz.prog.follows .mixedOrders=true:=by kernel_rfl
set_option maxHeartbeats 4000000 in
theorem qcC (b off n c i vb voff m vc:Nat) (cs vs:List Value) (w:World) (hi:i < n) (hm:0 < m) (hroom:n+m≤c) (hc63:c≤9223372036854775807) (hvb:vb≠b)
  (hcl:cs.length=n*9) (hvl:vs.length=m*9)
  (hcs:∀ (j:Nat) v,cs[j]?=some v→w.cell? ⟨b,off+j,none⟩=some v) (hsp:∀ j,j < (n+m)*9→(w.cell? ⟨b,off+j,none⟩).isSome=true) (hfz:∀ j,j < (n+m)*9→w.frozen? ⟨b,off+j,none⟩=false)
  (hvs:∀ (j:Nat) v,vs[j]?=some v→w.cell? ⟨vb,voff+j,none⟩=some v) (h1c:∀ v∈cs,v.oneCell'=true) (h1v:∀ v∈vs,v.oneCell'=true)
  (tA tB:TypeId) (kA kB:Nat) (hsa:w.shape? vb=some (tA,kA)) (hsb:w.shape? b=some (tB,kB)) (hkB:kB≠0) (hfa:w.frozen? ⟨vb,voff,none⟩=false) (hfe:w.frozen? ⟨vb,kA,none⟩=false) :
  Calls Tryz.prog 117 #[.slice (some ⟨b,off,none⟩) n c,.int .i64 i,.slice (some ⟨vb,voff,none⟩) m vc] w fun e w' =>
   e=.returned (.slice (some ⟨b,off,none⟩) (n+m) c)∧w'=(w.drew.setCells b (off+(i+m)*9) (cs.drop (i*9))).setCells b (off+i*9) vs:=by
 have mixed:=mix9
 have t23:=Tryz.underlying23
 have u3:=run_underlying Tryz.underlying3;have u4:=run_underlying Tryz.underlying4;have u23:=run_underlying Tryz.underlying23
 have hz1:¬ ((m:Int)=0):=by omega
 have hz2:¬ ((i:Int)=(n:Int)):=by omega
 have hov:∀ lb cb,(callFunc 188 #[.slice (some ⟨vb,voff,none⟩) m vc,.slice (some ⟨b,off+(i+m)*9,none⟩) lb cb]).run Tryz.prog w=.ok (.value (.bool false)) w:=fun lb cb=>by
  rw [run_callFunc_extern Tryz.func188 (by kernel_rfl) (by kernel_rfl) (by kernel_rfl) (e:=Extern.SlicesOverlaps.overlaps #[23,23] #[4]) (by kernel_rfl),
   Lib.run_overlaps_apart w 23 4 52 t23 9 z52 ⟨vb,voff,none⟩ ⟨b,off+(i+m)*9,none⟩ m vc lb cb hvb tA tB kA kB hsa hsb hkB hfa hfe]
  rfl
 have hdl:(cs.drop (i*9)).length=(n - i)*9:=by rw [List.length_drop,hcl];omega
 have hw1:IntKind.i64.wrap ((i:Int)+(m:Int))=(i:Int)+(m:Int):=by rw [IntKind.wrap_i64];omega
 have hb1:(0:Int)≤(i:Int)+(m:Int):=by omega
 have hin:i≤n:=by omega
 have htn:((i:Int)+(m:Int)).toNat=i+m:=by omega
 have hb2:¬ (c=i+m):=by omega
 have hb3:(i:Int)≤(n:Int)+(m:Int):=by omega
 have hb4:¬ (c=i):=by omega
 have hmn:Nat.min (n+m - i) (n+m - (i+m))=n - i:=by simp only [Nat.min_def];split<;>omega
 have hmn2:Nat.min m (n+m - i)=m:=by simp only [Nat.min_def];split<;>omega
 have hcp1:∀ ty dc sc,(Builtin.copy_ #[23,23] ty #[.slice (some ⟨b,off+(i+m)*9,none⟩) (n+m - (i+m)) dc,.slice (some ⟨b,off+i*9,none⟩) (n+m - i) sc]).run Tryz.prog w.drew=.ok (goInt (Nat.min (n+m - i) (n+m - (i+m)))) (w.drew.setCells b (off+(i+m)*9) (cs.drop (i*9))):=fun ty dc sc =>
  q1M w.drew _ _ ty 52 9 b (off+(i+m)*9) (n+m - (i+m)) dc ⟨b,off+i*9,none⟩ (n+m - i) sc (cs.drop (i*9)) t23 i52s (by rw [hdl,hmn])
   (fun j v hj=>by rw [Addr.add_lit,Nat.add_assoc];exact hcs (i*9+j) v (by rwa [List.getElem?_drop] at hj))
   (fun j hj=>by rw [Nat.add_assoc];exact hsp _ (by omega)) (fun j hj=>by rw [Nat.add_assoc];exact hfz _ (by omega)) (fun v hv=>h1c v (List.mem_of_mem_drop hv))
 obtain ⟨W1,hW1⟩:∃ W1,W1=w.drew.setCells b (off+(i+m)*9) (cs.drop (i*9)):=⟨_,rfl⟩
 have hsp1:∀ k,k < (n+m)*9→(W1.cell? ⟨b,off+k,none⟩).isSome=true:=fun k hk=>by
  rw [hW1]
  exact isSome_setCells b _ _ _ (fun j hj=>by rw [Nat.add_assoc];exact hsp _ (by omega)) _ (hsp k hk)
 have hcp2:∀ (W:World),(∀ x,W.cell? x=W1.cell? x)→(∀ x,W.frozen? x=W1.frozen? x)→∀ ty dc,(Builtin.copy_ #[23,23] ty #[.slice (some ⟨b,off+i*9,none⟩) (n+m - i) dc,.slice (some ⟨vb,voff,none⟩) m vc]).run Tryz.prog W=.ok (goInt (Nat.min m (n+m - i))) (W.setCells b (off+i*9) vs):=fun W hWc hWf ty dc =>
  q1M W _ _ ty 52 9 b (off+i*9) (n+m - i) dc ⟨vb,voff,none⟩ m vc vs t23 i52s (by rw [hvl,hmn2])
   (fun j v hj=>by
    rw [Addr.add_lit,hWc,hW1,World.cell?_setCells_out b _ _ _ _ (fun h _=>absurd h hvb)]
    exact hvs j v hj)
   (fun j hj=>by rw [hWc,Nat.add_assoc];exact hsp1 _ (by omega)) (fun j hj=>by rw [hWf,hW1,World.frozen?_setCells,Nat.add_assoc];exact hfz _ (by omega)) h1v
 rw [←hW1] at hcp1
 go_enter Tryz.func117,Tryz.ntmps117
 go_wp2_with (simp only [hov])
 go_region_law_o (refine step_copy_runI rfl _ _ 23 23 rfl _ _ (by simp [Act.eval,Act.put]) (by simp [Act.eval,Act.put]) (hcp1 _ _ _) ?_)
 go_wp2_with (at_builtin;refine wpList_copy_runI _ rfl _ _ 23 23 rfl _ _ rfl rfl (hcp2 _ (fun _=>rfl) (fun _=>rfl) _ _) ?_)
 go_ret
 first | exact ⟨rfl,rfl⟩ | exact ⟨rfl,by rw [hW1]⟩
set_option maxHeartbeats 4000000 in
theorem q8s (b off n c vb voff m vc:Nat) (vs:List Value) (w:World) (hm:0 < m) (hroom:n+m≤c) (_:c≤9223372036854775807)
  (hvl:vs.length=m*9) (hsp:∀ j,j < m*9→(w.cell? ⟨b,off+n*9+j,none⟩).isSome=true) (hfz:∀ j,j < m*9→w.frozen? ⟨b,off+n*9+j,none⟩=false)
  (hvs:∀ (j:Nat) v,vs[j]?=some v→w.cell? ⟨vb,voff+j,none⟩=some v) (h1v:∀ v∈vs,v.oneCell'=true) :
  Calls Tryz.prog 117 #[.slice (some ⟨b,off,none⟩) n c,.int .i64 n,.slice (some ⟨vb,voff,none⟩) m vc] w fun e w' =>
   e=.returned (.slice (some ⟨b,off,none⟩) (n+m) c)∧w'=w.setCells b (off+n*9) vs:=by
 have mixed:=mix9
 have t23:=Tryz.underlying23
 have u3:=run_underlying Tryz.underlying3;have u4:=run_underlying Tryz.underlying4;have u23:=run_underlying Tryz.underlying23
 have hz1:¬ ((m:Int)=0):=by omega
 obtain ⟨i0,hi0,hz0,hzs,hzb⟩:=info_parts i52
 have hsrc:Src Tryz.prog i0.size 23 (.slice (some ⟨vb,voff,none⟩) m vc) m vs w:=by
  rw [hzs]
  exact Src.ofSlice w t23 ⟨vb,voff,none⟩ m vc vs (by omega) (fun j u hj=>by rw [Addr.add_lit];exact hvs j u hj) h1v
 go_enter Tryz.func117,Tryz.ntmps117
 go_wp2_with (at_builtin;refine wpList_append_room_src _ rfl _ _ 23 23 rfl 52 i0 t23 hi0 b off n c rfl _ rfl m vs hsrc hroom (by rw [hvl,hzs];exact hsp) (by rw [hvl,hzs];exact hfz) ?_)
 go_ret
 exact ⟨rfl,rfl⟩
set_option maxHeartbeats 4000000 in
theorem q8t (base:Option Addr) (n c vb voff m vc:Nat) (cs vs:List Value) (w:World) (hm:0 < m) (hnc:n≤c) (hroom:c < n+m) (hbig:(n+m)*72≤140737488355328)
  (hcl:cs.length=n*9) (hvl:vs.length=m*9) (hnil:base=none→n=0)
  (hcs:∀ a,base=some a→∀ (j:Nat) v,cs[j]?=some v→w.cell? (a.add j)=some v)
  (hvs:∀ (j:Nat) v,vs[j]?=some v→w.cell? ⟨vb,voff+j,none⟩=some v) (h1v:∀ v∈vs,v.oneCell'=true) :
  Calls Tryz.prog 117 #[.slice base n c,.int .i64 n,.slice (some ⟨vb,voff,none⟩) m vc] w fun e w' =>
   e=.returned (.slice (some ⟨w.heap.size,0,none⟩) (n+m) (grownCap w (n+m) c 52)) ∧
   w'=w.drew.alloc (.cells ((cs++vs).toArray++Builtin.zeroCells zBond.cells (grownCap w (n+m) c 52 - (n+m))) 52):=by
 have mixed:=mix9
 have t23:=Tryz.underlying23
 have u3:=run_underlying Tryz.underlying3;have u4:=run_underlying Tryz.underlying4;have u23:=run_underlying Tryz.underlying23
 obtain ⟨i0,hi0,hz0,hzs,hzb⟩:=info_parts i52
 have hz1:¬ ((m:Int)=0):=by omega
 have hsrc:Src Tryz.prog i0.size 23 (.slice (some ⟨vb,voff,none⟩) m vc) m vs w:=by
  rw [hzs]
  exact Src.ofSlice w t23 ⟨vb,voff,none⟩ m vc vs (by omega) (fun j u hj=>by rw [Addr.add_lit];exact hvs j u hj) h1v
 have hold:(Builtin.firstCells i0.size n (.slice base n c)).run Tryz.prog w.drew=.ok cs.toArray w.drew:=by
  rw [hzs]
  cases base with
  | none =>
   have h0:=hnil rfl
   subst h0
   rw [List.length_eq_zero_iff.1 (by omega:cs.length=0)]
   exact run_firstCells_none w.drew 9 0 0 c
  | some a=>exact run_firstCells_some w.drew 9 n a n c cs (by omega) (fun j v hj=>hcs a rfl j v hj)
 have hrun:∀ ty,(Builtin.append_ #[23,23] ty #[.slice base n c,.slice (some ⟨vb,voff,none⟩) m vc]).run Tryz.prog w=_:=fun ty =>
  run_append_grow_src w 23 23 ty 52 i0 _ t23 hi0 hz0 base n c cs hold _ m vs hsrc hroom (by omega) (by rw [hzb];exact growslice_fits hroom hbig)
 go_enter Tryz.func117,Tryz.ntmps117
 cases base with
 | none =>
  have h0:=hnil rfl
  subst h0
  go_wp2_with (at_builtin;refine Lib.wpList_append_run _ rfl _ _ _ _ rfl _ _ rfl rfl _ _ (hrun _) ?_)
  go_ret
  exact ⟨rfl,rfl⟩
 | some a =>
  obtain ⟨ab,ao,asp⟩:=a
  go_wp2_with (at_builtin;refine Lib.wpList_append_run _ rfl _ _ _ _ rfl _ _ rfl rfl _ _ (hrun _) ?_)
  all_goals (go_ret;exact ⟨rfl,rfl⟩)
set_option maxHeartbeats 4000000 in
theorem qeg (b off n c i vb voff m vc:Nat) (cs vs:List Value) (w:World) (hi:i < n) (hm:0 < m) (hnc:n≤c) (hroom:c < n+m) (hbig:(n+m)*72≤140737488355328)
  (hcl:cs.length=n*9) (hvl:vs.length=m*9)
  (hcs:∀ (j:Nat) v,cs[j]?=some v→w.cell? ⟨b,off+j,none⟩=some v)
  (hvs:∀ (j:Nat) v,vs[j]?=some v→w.cell? ⟨vb,voff+j,none⟩=some v) (h1c:∀ v∈cs,v.oneCell'=true) (h1v:∀ v∈vs,v.oneCell'=true) :
  Calls Tryz.prog 117 #[.slice (some ⟨b,off,none⟩) n c,.int .i64 i,.slice (some ⟨vb,voff,none⟩) m vc] w fun e w' =>
   e=.returned (.slice (some ⟨w.heap.size,0,none⟩) (n+m) (grownCap w (n+m) c 52)) ∧
   w'=(((w.alloc (.cells ((cs.take (i*9)).toArray++Builtin.zeroCells zBond.cells (n+m - i)++Builtin.zeroCells zBond.cells (grownCap w (n+m) c 52 - (n+m))) 52)).drew.setCells w.heap.size (i*9) vs).drew).setCells w.heap.size ((i+m)*9) (cs.drop (i*9)):=by
 have mixed:=mix9
 have t23:=Tryz.underlying23;have t3:=Tryz.underlying3
 have u3:=run_underlying Tryz.underlying3;have u4:=run_underlying Tryz.underlying4;have u23:=run_underlying Tryz.underlying23
 obtain ⟨i0,hi0,hz0,hzs,hzb⟩:=info_parts i52
 have hz1:¬ ((m:Int)=0):=by omega
 have hz2:¬ ((i:Int)=(n:Int)):=by omega
 have hz3:(c:Int) < (n:Int)+(m:Int):=by omega
 have hbw:b < w.heap.size:=block_lt_of_cell (hcs 0 _ (List.getElem?_eq_getElem (by omega)))
 have hvw:vb < w.heap.size:=block_lt_of_cell (hvs 0 _ (List.getElem?_eq_getElem (by omega)))
 have hkk:(n:Int)+(m:Int) - (i:Int)=((n+m - i:Nat):Int):=by omega
 have hik:i+(n+m - i)=n+m:=by omega
 have hold:(Builtin.firstCells i0.size i (.slice (some ⟨b,off,none⟩) i c)).run Tryz.prog w.drew=.ok (cs.take (i*9)).toArray w.drew:=by
  rw [hzs]
  exact run_firstCells_some w.drew 9 i ⟨b,off,none⟩ i c (cs.take (i*9)) (by rw [List.length_take];omega) (fun j v hj=>by
   rw [Addr.add_lit]
   rw [List.getElem?_take] at hj
   split at hj
   ·exact hcs j v hj
   ·cases hj)
 have hrz:∀ ty,(Builtin.append_ #[23,3] ty #[.slice (some ⟨b,off,none⟩) i c,.int .i64 ((n:Int)+(m:Int) - (i:Int))]).run Tryz.prog w =
   .ok (.slice (some ⟨w.heap.size,0,none⟩) (n+m) (grownCap w (n+m) c 52)) (w.drew.alloc (.cells ((cs.take (i*9)).toArray++Builtin.zeroCells zBond.cells (n+m - i)++Builtin.zeroCells zBond.cells (grownCap w (n+m) c 52 - (n+m))) 52)):=fun ty=>by
  have h:=Lib.run_append_grow_zeros w 23 3 ty 52 i0 _ .i64 .i64 t23 t3 hi0 hz0 (some ⟨b,off,none⟩) i c (cs.take (i*9)) hold (n+m - i) (by omega) (by omega) (by omega) (by omega) (by rw [hzb];omega) (by rw [hzb,hik];exact growslice_fits hroom hbig)
  rw [hik] at h
  rw [hkk]
  exact h
 obtain ⟨G,hG⟩:∃ G,G=grownCap w (n+m) c 52:=⟨_,rfl⟩
 obtain ⟨ROW,hROW⟩:∃ ROW:Array Value,ROW=(cs.take (i*9)).toArray++Builtin.zeroCells zBond.cells (n+m - i)++Builtin.zeroCells zBond.cells (G - (n+m)):=⟨_,rfl⟩
 rw [←hG] at hrz ⊢
 rw [←hROW] at hrz ⊢
 have hz9:zBond.cells.size=9:=rfl
 have hRl:(n+m)*9≤ROW.size:=by
  rw [hROW]
  simp [Builtin.zeroCells,hz9]
  omega
 obtain ⟨W1,hW1⟩:∃ W1,W1=w.drew.alloc (.cells ROW 52):=⟨_,rfl⟩
 rw [←hW1] at hrz
 have hN:∀ j,j < (n+m)*9→(W1.cell? ⟨w.heap.size,j,none⟩).isSome=true:=fun j hj=>by
  rw [hW1,World.cell?_alloc_at (w:=w.drew) ROW _ w.heap.size j rfl,Array.getElem?_eq_getElem (by omega)];rfl
 have hNf:∀ j,W1.frozen? ⟨w.heap.size,j,none⟩=false:=fun j=>by rw [hW1];exact World.frozen?_alloc_at (w:=w.drew) ROW _ w.heap.size j rfl
 have hOb:∀ j v,w.cell? ⟨b,j,none⟩=some v→W1.cell? ⟨b,j,none⟩=some v:=fun j v h=>by rw [hW1,World.cell?_alloc_past (w:=w.drew) _ b j hbw];exact h
 have hOv:∀ j v,w.cell? ⟨vb,j,none⟩=some v→W1.cell? ⟨vb,j,none⟩=some v:=fun j v h=>by rw [hW1,World.cell?_alloc_past (w:=w.drew) _ vb j hvw];exact h
 have hmn:Nat.min m (n+m - i)=m:=by simp only [Nat.min_def];split<;>omega
 have hmn2:Nat.min (n - i) (n+m - (i+m))=n - i:=by simp only [Nat.min_def];split<;>omega
 have hcpA:∀ (W:World),(∀ x,W.cell? x=W1.cell? x)→(∀ x,W.frozen? x=W1.frozen? x)→∀ ty dc,(Builtin.copy_ #[23,23] ty #[.slice (some ⟨w.heap.size,i*9,none⟩) (n+m - i) dc,.slice (some ⟨vb,voff,none⟩) m vc]).run Tryz.prog W=.ok (goInt (Nat.min m (n+m - i))) (W.setCells w.heap.size (i*9) vs):=fun W hWc hWf ty dc =>
  q1M W _ _ ty 52 9 w.heap.size (i*9) (n+m - i) dc ⟨vb,voff,none⟩ m vc vs t23 i52s (by rw [hvl,hmn])
   (fun j v hj=>by rw [Addr.add_lit,hWc];exact hOv _ v (hvs j v hj))
   (fun j hj=>by rw [hWc];exact hN _ (by omega)) (fun j hj=>by rw [hWf];exact hNf _) h1v
 have hGn:n+m≤G:=by rw [hG];exact grownCap_ge w _ _ _
 have hG63:G≤9223372036854775807:=by
  have:=grownCap_le_maxLen w (n+m) c 52 (by unfold maxLen;omega)
  rw [←hG] at this
  unfold maxLen at this
  omega
 have hGi:¬ (G=i):=by omega
 have hGim:¬ (G=i+m):=by omega
 have hci:¬ (c=i):=by omega
 have hbN:b≠w.heap.size:=by omega
 have hdl:(cs.drop (i*9)).length=(n - i)*9:=by rw [List.length_drop,hcl];omega
 have hcpB:∀ (W:World),(∀ x,W.cell? x=(W1.setCells w.heap.size (i*9) vs).cell? x)→(∀ x,W.frozen? x=(W1.setCells w.heap.size (i*9) vs).frozen? x)→∀ ty dc sc,(Builtin.copy_ #[23,23] ty #[.slice (some ⟨w.heap.size,(i+m)*9,none⟩) (n+m - (i+m)) dc,.slice (some ⟨b,off+i*9,none⟩) (n - i) sc]).run Tryz.prog W=.ok (goInt (Nat.min (n - i) (n+m - (i+m)))) (W.setCells w.heap.size ((i+m)*9) (cs.drop (i*9))):=fun W hWc hWf ty dc sc =>
  q1M W _ _ ty 52 9 w.heap.size ((i+m)*9) (n+m - (i+m)) dc ⟨b,off+i*9,none⟩ (n - i) sc (cs.drop (i*9)) t23 i52s (by rw [hdl,hmn2])
   (fun j v hj=>by
    rw [Addr.add_lit,hWc,World.cell?_setCells_out _ _ _ _ _ (fun h _=>absurd h hbN),Nat.add_assoc]
    exact hOb _ v (hcs (i*9+j) v (by rwa [List.getElem?_drop] at hj)))
   (fun j hj=>by rw [hWc];exact isSome_setCells _ _ _ _ (fun t ht=>hN _ (by omega)) _ (hN _ (by omega)))
   (fun j hj=>by rw [hWf,World.frozen?_setCells];exact hNf _) (fun v hv=>h1c v (List.mem_of_mem_drop hv))
 subst hW1
 have hE1:∀ x,((w.alloc (.cells ROW 52)).drew).cell? x=(w.drew.alloc (.cells ROW 52)).cell? x:=fun x=>rfl
 have hE2:∀ x,((w.alloc (.cells ROW 52)).drew).frozen? x=(w.drew.alloc (.cells ROW 52)).frozen? x:=fun x=>rfl
 have hF1:∀ x,(((w.alloc (.cells ROW 52)).drew.setCells w.heap.size (i*9) vs).drew).cell? x=((w.drew.alloc (.cells ROW 52)).setCells w.heap.size (i*9) vs).cell? x:=fun x=>rfl
 have hF2:∀ x,(((w.alloc (.cells ROW 52)).drew.setCells w.heap.size (i*9) vs).drew).frozen? x=((w.drew.alloc (.cells ROW 52)).setCells w.heap.size (i*9) vs).frozen? x:=fun x=>rfl
 have hw1:IntKind.i64.wrap ((i:Int)+(m:Int))=(i:Int)+(m:Int):=by rw [IntKind.wrap_i64];omega
 have hb1:(0:Int)≤(i:Int)+(m:Int):=by omega
 have hin:i≤n:=by omega
 have htn:((i:Int)+(m:Int)).toNat=i+m:=by omega
 have hb3:(i:Int)≤(n:Int):=by omega
 clear hkk hik hold hROW hG hRl
 go_enter Tryz.func117,Tryz.ntmps117
 go_wp2_with (first
  | (at_builtin;refine Lib.wpList_append_run _ rfl _ _ _ _ rfl _ _ rfl rfl _ _ (hrz _) ?_)
  | (at_builtin;refine wpList_copy_runI _ rfl _ _ 23 23 rfl _ _ rfl rfl (hcpA _ hE1 hE2 _ _) ?_)
  | (at_builtin;refine wpList_copy_runI _ rfl _ _ 23 23 rfl _ _ rfl rfl (hcpB _ (fun _=>rfl) (fun _=>rfl) _ _ _) ?_))
 go_region_law_o (refine step_copy_runI rfl _ _ 23 23 rfl (.slice (some ⟨w.heap.size,(i+m)*9,none⟩) (n+m - (i+m)) (G - (i+m))) (.slice (some ⟨b,off+i*9,none⟩) (n - i) (c - i)) (by simp [Act.eval,Act.put]) (by simp [Act.eval,Act.put]) (hcpB _ hF1 hF2 3 (G - (i+m)) (c - i)) ?_)
 go_wp2
 go_ret
 exact ⟨rfl,rfl⟩
end Go.VE
namespace Go.VE
open Go.RowKit Go.Shelf Go.Proofs
set_option maxRecDepth 100000
theorem qef:InsC Tryz.prog 117 9 52 72:=by
 refine ⟨fun xs w=>?_,?_⟩
 ·have hne:(Tryz.f117.name == "runtime.NumGoroutine")=false:=by kernel_rfl
  have hb:Tryz.f117.body.isNone=false:=by kernel_rfl
  simp only [callFunc,Sem.run_bind,Go.run_program,Result.andThen_ok,Tryz.func117,hne,hb,Bool.false_eq_true,if_false,Sem.run_pure]
 ·intro w a n c i us vs cur vb m vc vcur vt hm hin hnc hcm hbs hnm hul hvl hu1 hv1 hnil hown hvb hvc
  have hvs:∀ (j:Nat) (v:Value),vs[j]?=some v→w.cell? ⟨vb,0+j,none⟩=some v:=fun j v hj=>by
   rw [q0m hvb,Nat.zero_add];exact hvc j v hj
  have hc63:c≤9223372036854775807:=by unfold maxLen at hcm;exact hcm
  have hz9:zBond.cells.size=9:=rfl
  have fresh:∀ (W:World) (G:Nat),n+m≤G→G≤maxLen→Turn w W (fun x=>x=w.heap.size)→(∃ cur',W.heap[w.heap.size]?=some (.cells cur' 52 (0,0))∧cur'.size=G*9∧∀ (j:Nat) (u:Value),(us.take (i*9)++vs++us.drop (i*9))[j]?=some u→cur'[j]?=some u) →
    ∃ (b' c':Nat) (cur':Array Value),Ending.returned (.slice (some ⟨w.heap.size,0,none⟩) (n+m) G)=.returned (.slice (some ⟨b',0,none⟩) (n+m) c')∧W.heap[b']?=some (.cells cur' 52 (0,0))∧n+m≤c'∧c'≤maxLen∧cur'.size=c'*9 ∧
    (∀ (j:Nat) (u:Value),(us.take (i*9)++vs++us.drop (i*9))[j]?=some u→cur'[j]?=some u)∧Turn w W (fun x=>a=some x)∧(w.heap.size≤b'∨a=some b'):=by
   intro W G h1 h2 h3 ⟨cur',h4,h5,h6⟩
   exact ⟨w.heap.size,G,cur',rfl,h4,h1,h2,h5,h6,h3.weak (fun b hb he=>by omega),.inl (Nat.le_refl _)⟩
  have endGrow:i=n→c < n+m→Calls Tryz.prog 117 #[.slice (a.map fun b=>⟨b,0,none⟩) n c,.int .i64 i,.slice (some ⟨vb,0,none⟩) m vc] w fun e w' =>
   ∃ (b' c':Nat) (cur':Array Value),e=.returned (.slice (some ⟨b',0,none⟩) (n+m) c')∧w'.heap[b']?=some (.cells cur' 52 (0,0))∧n+m≤c'∧c'≤maxLen∧cur'.size=c'*9 ∧
    (∀ (j:Nat) (u:Value),(us.take (i*9)++vs++us.drop (i*9))[j]?=some u→cur'[j]?=some u)∧Turn w w' (fun x=>a=some x)∧(w.heap.size≤b'∨a=some b'):=by
   intro hi hroom
   subst hi
   refine (q8t (a.map fun b=>⟨b,0,none⟩) i c vb 0 m vc us vs w hm hnc hroom hbs hul hvl (fun h=>(hnil (by simpa using h)).1) (fun ad had j v hj=>?_) hvs hv1).mono ?_
   ·obtain ⟨b,hb,rfl⟩:=Option.map_eq_some_iff.1 had
    obtain ⟨g1,_,g3,_⟩:=hown b hb
    rw [add_lit,q0m g1,Nat.zero_add]
    exact g3 j v hj
   ·rintro e w' ⟨rfl,rfl⟩
    have hG:=grownCap_ge w (i+m) c 52
    refine fresh _ _ hG (grownCap_le_maxLen w _ _ _ hnm) ((Turn.drew w _).trans (Turn.alloc _ _ _)) ⟨_,q4n _ _,?_,fun j u hj=>?_⟩
    ·simp [Builtin.zeroCells,hz9];omega
    ·rw [List.take_of_length_le (by omega),List.drop_eq_nil_of_le (by omega),List.append_nil] at hj
     have hlt:j < (us++vs).length:=(List.getElem?_eq_some_iff.1 hj).1
     rw [Array.getElem?_append_left (by simpa using hlt)]
     simpa using hj
  cases ha:a with
  | none =>
   obtain ⟨rfl,rfl⟩:=hnil ha
   have:=endGrow (by omega) (by omega)
   rwa [ha] at this
  | some b =>
   obtain ⟨g1,g2,g3,g4⟩:=hown b ha
   have hcs:∀ (j:Nat) (v:Value),us[j]?=some v→w.cell? ⟨b,0+j,none⟩=some v:=fun j v hj=>by
    rw [q0m g1,Nat.zero_add];exact g3 j v hj
   have hsp:∀ j,j < c*9→(w.cell? ⟨b,0+j,none⟩).isSome=true:=fun j hj=>by
    rw [q0m g1,Nat.zero_add,Array.getElem?_eq_getElem (by omega)];rfl
   have hfz:∀ j,w.frozen? ⟨b,j,none⟩=false:=fun j=>by simp [World.frozen?,g1]
   have place:∀ (W:World) (cur':Array Value),W.heap[b]?=some (.cells cur' 52 (0,0))→cur'.size=cur.size→n+m≤c→Turn w W (fun x=>x=b)→(∀ (j:Nat) (u:Value),(us.take (i*9)++vs++us.drop (i*9))[j]?=some u→cur'[j]?=some u) →
     ∃ (b' c':Nat) (cur':Array Value),Ending.returned (.slice (some ⟨b,0,none⟩) (n+m) c)=.returned (.slice (some ⟨b',0,none⟩) (n+m) c')∧W.heap[b']?=some (.cells cur' 52 (0,0))∧n+m≤c'∧c'≤maxLen∧cur'.size=c'*9 ∧
     (∀ (j:Nat) (u:Value),(us.take (i*9)++vs++us.drop (i*9))[j]?=some u→cur'[j]?=some u)∧Turn w W (fun x=>some b=some x)∧(w.heap.size≤b'∨some b=some b'):=by
    intro W cur' h1 h2 h3 h4 h5
    exact ⟨b,c,cur',rfl,h1,h3,hcm,by omega,h5,h4.weak (fun x _ e=>by rw [e]),.inr rfl⟩
   by_cases hi:i=n
   ·by_cases hroom:n+m≤c
    ·subst hi
     refine (q8s b 0 i c vb 0 m vc vs w hm hroom hc63 hvl (fun j hj=>by rw [Nat.add_assoc];exact hsp _ (by omega)) (fun j _=>hfz _) hvs hv1).mono ?_
     rintro e w' ⟨rfl,rfl⟩
     obtain ⟨cur',h1,h2,h3⟩:=q0X b vs (0+i*9) w cur _ _ g1 (by omega)
     refine place _ cur' h1 h2 hroom (q0E b _ _ _) fun j u hj=>?_
     rw [List.take_of_length_le (by omega),List.drop_eq_nil_of_le (by omega),List.append_nil] at hj
     rw [h3 j]
     by_cases hlt:j < i*9
     ·rw [if_pos (by omega)]
      rw [List.getElem?_append_left (by omega)] at hj
      exact g3 j u hj
     ·rw [if_neg (by omega)]
      have hl:=(List.getElem?_eq_some_iff.1 hj).1
      rw [List.length_append] at hl
      rw [if_pos (by omega)]
      rw [List.getElem?_append_right (by omega),hul] at hj
      rw [Nat.zero_add];exact hj
    ·have:=endGrow hi (by omega)
     rwa [ha] at this
   ·have hlt:i < n:=by omega
    have hdl:(us.drop (i*9)).length=(n - i)*9:=by rw [List.length_drop,hul];omega
    have htl:(us.take (i*9)).length=i*9:=by rw [List.length_take];omega
    by_cases hroom:n+m≤c
    ·refine (qcC b 0 n c i vb 0 m vc us vs w hlt hm hroom hc63 g4 hul hvl hcs (fun j hj=>hsp j (by omega)) (fun j _=>hfz _) hvs hu1 hv1 vt 52 vcur.size cur.size (by simp [World.shape?,hvb]) (by simp [World.shape?,g1]) (by omega) (by simp [World.frozen?,hvb]) (by simp [World.frozen?,hvb])).mono ?_
     rintro e w' ⟨rfl,rfl⟩
     obtain ⟨cur1,h1,h2,h3⟩:=q0X b (us.drop (i*9)) (0+(i+m)*9) w.drew cur _ _ g1 (by omega)
     obtain ⟨cur2,k1,k2,k3⟩:=q0X b vs (0+i*9) _ cur1 _ _ h1 (by omega)
     refine place _ cur2 k1 (by omega) hroom (((Turn.drew w _).trans (q0E b _ _ _)).trans (q0E b _ _ _)) fun j u hj=>?_
     rw [k3 j,h3 j]
     have hl:=(List.getElem?_eq_some_iff.1 hj).1
     simp only [List.length_append,htl,hdl,hvl] at hl
     by_cases c1:j < i*9
     ·rw [if_pos (by omega),if_pos (by omega)]
      rw [List.append_assoc,List.getElem?_append_left (by omega),List.getElem?_take,if_pos c1] at hj
      exact g3 j u hj
     ·by_cases c2:j < (i+m)*9
      ·rw [if_neg (by omega),if_pos (by omega)]
       rw [List.append_assoc,List.getElem?_append_right (by omega),htl,List.getElem?_append_left (by omega)] at hj
       rw [Nat.zero_add];exact hj
      ·rw [if_neg (by omega),if_neg (by omega),if_neg (by omega),if_pos (by omega)]
       rw [List.getElem?_append_right (by simp;omega)] at hj
       rw [show j - (0+(i+m)*9)=j - (us.take (i*9)++vs).length by simp only [List.length_append,htl,hvl];omega]
       exact hj
    ·refine (qeg b 0 n c i vb 0 m vc us vs w hlt hm hnc (by omega) hbs hul hvl hcs hvs hu1 hv1).mono ?_
     rintro e w' ⟨rfl,rfl⟩
     have hG:=grownCap_ge w (n+m) c 52
     have hGm:=grownCap_le_maxLen w (n+m) c 52 hnm
     generalize grownCap w (n+m) c 52=G at hG hGm ⊢
     have hrow:((us.take (i*9)).toArray++Builtin.zeroCells zBond.cells (n+m - i)++Builtin.zeroCells zBond.cells (G - (n+m))).size=G*9:=by
      simp [Builtin.zeroCells,hz9];omega
     have h0:(w.alloc (.cells ((us.take (i*9)).toArray++Builtin.zeroCells zBond.cells (n+m - i)++Builtin.zeroCells zBond.cells (G - (n+m))) 52)).drew.heap[w.heap.size]?=some (.cells ((us.take (i*9)).toArray++Builtin.zeroCells zBond.cells (n+m - i)++Builtin.zeroCells zBond.cells (G - (n+m))) 52 (0,0)):=q4n _ _
     obtain ⟨cur1,h1,h2,h3⟩:=q0X w.heap.size vs (i*9) _ _ _ _ h0 (by rw [hrow];omega)
     obtain ⟨cur2,k1,k2,k3⟩:=q0X w.heap.size (us.drop (i*9)) ((i+m)*9) _ cur1 _ _ (show (((w.alloc _).drew.setCells w.heap.size (i*9) vs).drew).heap[w.heap.size]?=_ from h1) (by omega)
     have ht:Turn w ((((w.alloc (.cells ((us.take (i*9)).toArray++Builtin.zeroCells zBond.cells (n+m - i)++Builtin.zeroCells zBond.cells (G - (n+m))) 52)).drew.setCells w.heap.size (i*9) vs).drew).setCells w.heap.size ((i+m)*9) (us.drop (i*9))) (fun x=>x=w.heap.size) :=
      ((((Turn.alloc w _ _).trans (Turn.drew _ _)).trans (q0E _ _ _ _)).trans (Turn.drew _ _)).trans (q0E _ _ _ _)
     have:=fresh _ G hG hGm ht ⟨cur2,k1,by omega,fun j u hj=>?_⟩
     ·rwa [ha] at this
     ·rw [k3 j,h3 j]
      have hl:=(List.getElem?_eq_some_iff.1 hj).1
      simp only [List.length_append,htl,hdl,hvl] at hl
      by_cases c1:j < i*9
      ·rw [if_pos (by omega),if_pos (by omega)]
       rw [List.append_assoc,List.getElem?_append_left (by omega)] at hj
       rw [Array.append_assoc,Array.getElem?_append_left (by simpa using by omega)]
       simpa using hj
      ·by_cases c2:j < (i+m)*9
       ·rw [if_pos (by omega),if_neg (by omega),if_pos (by omega)]
        rw [List.append_assoc,List.getElem?_append_right (by omega),htl,List.getElem?_append_left (by omega)] at hj
        exact hj
       ·rw [if_neg (by omega),if_pos (by omega)]
        rw [List.getElem?_append_right (by simp;omega)] at hj
        rw [show j - (i+m)*9=j - (us.take (i*9)++vs).length by simp only [List.length_append,htl,hvl];omega]
        exact hj
end Go.VE
namespace Go.VE
open Go.RowKit Go.Proofs
structure E9 where
 src:Int
 a:Int
 b:Int
 f1:Int
 f2:Int
 t1:Int
 t2:Int
 kn:Int
 un:Int
structure E5 where
 src:Int
 a:Int
 day:Int
 kn:Int
 un:Int
def r9 (e:E9):List D:=[il e.src,il e.a,il e.b,il e.f1,il e.f2,il e.t1,il e.t2,il e.kn,il e.un]
def r5 (e:E5):List D:=[il e.src,il e.a,il e.day,il e.kn,il e.un]
theorem s49 (n:Nat) (x lo hi:Int):FN (n+1) 49 [il x,il lo,il hi]=some (0,[.d (bl (decide (lo≤x∧x≤hi)))]):=by
 rw [F49]
 simp only [G49,q2f,q9a,q00,q15,q0e]
 by_cases h:lo≤x<;>simp [h]
theorem qif (n:Nat) (x lo hi:Int):FN (n+1) 135 [il x,il lo,il hi]=some (0,[.d (bl (decide (lo≤x∧x≤hi)))]):=by
 rw [F135]
 simp only [G135,q9a,q00,q15,q0e]
 by_cases h:lo≤x<;>simp [h]
theorem s25 (n:Nat) (x:Int):FN (n+2) 25 [il x]=some (0,[.d (bl (decide (0≤x∧x≤4166)))]):=by
 rw [F25];simp [G25,s49]
theorem s26 (n:Nat) (x:Int):FN (n+2) 26 [il x]=some (0,[.d (bl (decide (1≤x∧x≤99)))]):=by
 rw [F26];simp [G26,s49]
theorem s65 (n:Nat) (x:Int):FN (n+2) 65 [il x]=some (0,[.d (bl (decide (1≤x∧x≤999)))]):=by
 rw [F65];simp [G65,s49]
theorem s132 (n:Nat) (x:Int):FN (n+2) 132 [il x]=some (0,[.d (bl (decide (1≤x∧x≤99999)))]):=by
 rw [F132];simp [G132,s49]
theorem s136 (n:Nat) (x:Int):FN (n+2) 136 [il x]=some (0,[.d (bl (decide (0≤x∧x≤4166)))]):=by
 rw [F136];simp [G136,qif]
theorem s129 (n:Nat) (x:Int):FN (n+2) 129 [il x]=some (0,[.d (bl (decide (1≤x∧x≤99)))]):=by
 rw [F129];simp [G129,qif]
theorem s128 (n:Nat) (x:Int):FN (n+2) 128 [il x]=some (0,[.d (bl (decide (1≤x∧x≤999)))]):=by
 rw [F128];simp [G128,qif]
theorem s127 (n:Nat) (x:Int):FN (n+2) 127 [il x]=some (0,[.d (bl (decide (1≤x∧x≤99999)))]):=by
 rw [F127];simp [G127,qif]
def q2z (f1 f2 t1 t2:Int):Prop:=0≤f1∧f1≤f2∧f2≤t1∧t1≤t2∧t2≤4166
instance (f1 f2 t1 t2:Int):Decidable (q2z f1 f2 t1 t2):=by unfold q2z;infer_instance
def q1w (kn un:Int):Prop:=0≤kn∧kn≤4166∧(un=0∨kn+1≤un∧un≤4166)
instance (kn un:Int):Decidable (q1w kn un):=by unfold q1w;infer_instance
theorem s133 (n:Nat) (f1 f2 t1 t2:Int):FN (n+1) 133 [il f1,il f2,il t1,il t2]=some (0,[.d (bl (decide (q2z f1 f2 t1 t2)))]):=by
 rw [F133]
 simp only [G133,q05,q9a,q00,q15,q0e,q2z]
 by_cases h1:0≤f1<;>by_cases h2:f1≤f2<;>by_cases h3:f2≤t1<;>by_cases h4:t1≤t2<;>simp [h1,h2,h3,h4]
theorem s130 (n:Nat) (f1 f2 t1 t2:Int):FN (n+3) 130 [il f1,il f2,il t1,il t2]=some (0,[.d (bl (decide (q2z f1 f2 t1 t2)))]):=by
 rw [F130]
 simp only [G130,q05,q9a,q00,q15,q0e,q2z,q0a,s136,q01,q03]
 by_cases h1:0≤f1<;>by_cases h2:f1≤f2<;>by_cases h3:f2≤t1<;>by_cases h4:t1≤t2<;>simp [h1,h2,h3,h4]
 all_goals (intros;omega)
theorem s134 (n:Nat) (kn un:Int):FN (n+3) 134 [il kn,il un]=some (0,[.d (bl (decide (q1w kn un)))]):=by
 rw [F134]
 simp only [G134,q0a,s25,q01,q03,q00,q05,q0S,q15,q0e,q0o,s49,q3b,q1w]
 by_cases h:0≤kn∧kn≤4166
 ·rw [q0l (by omega) (by omega)]
  by_cases h2:un=0<;>simp [h,h2]
 ·simp only [h,decide_false,Bool.false_eq_true,if_false]
  have:¬ (0≤kn∧kn≤4166∧(un=0∨kn+1≤un∧un≤4166)):=by omega
  simp only [this,decide_false]
theorem s131 (n:Nat) (kn un:Int):FN (n+3) 131 [il kn,il un]=some (0,[.d (bl (decide (q1w kn un)))]):=by
 rw [F131]
 simp only [G131,q0a,s136,q01,q03,q00,q05,q0S,q15,q0e,q0o,qif,q3b,q1w]
 by_cases h:0≤kn∧kn≤4166
 ·rw [q0l (by omega) (by omega)]
  by_cases h2:un=0<;>simp [h,h2]
 ·simp only [h,decide_false,Bool.false_eq_true,if_false]
  have:¬ (0≤kn∧kn≤4166∧(un=0∨kn+1≤un∧un≤4166)):=by omega
  simp only [this,decide_false]
def q22 (e:E9):Prop:=(1≤e.src∧e.src≤99999)∧(1≤e.a∧e.a≤999)∧(1≤e.b∧e.b≤99)∧q2z e.f1 e.f2 e.t1 e.t2∧q1w e.kn e.un
instance (e:E9):Decidable (q22 e):=by unfold q22;infer_instance
def q1z (e:E9):Prop:=(1≤e.src∧e.src≤99999)∧(2≤e.a∧e.a≤99)∧(1≤e.b∧e.b≤e.a - 1)∧q2z e.f1 e.f2 e.t1 e.t2∧q1w e.kn e.un
instance (e:E9):Decidable (q1z e):=by unfold q1z;infer_instance
def q23 (e:E9):Prop:=(1≤e.src∧e.src≤99999)∧(1≤e.a∧e.a≤999)∧(0≤e.b∧e.b≤999)∧e.b≠e.a∧q2z e.f1 e.f2 e.t1 e.t2∧q1w e.kn e.un
instance (e:E9):Decidable (q23 e):=by unfold q23;infer_instance
def q3M (e:E5):Prop:=(1≤e.src∧e.src≤99999)∧(1≤e.a∧e.a≤999)∧(0≤e.day∧e.day≤4166)∧q1w e.kn e.un
instance (e:E5):Decidable (q3M e):=by unfold q3M;infer_instance
theorem s58 (n:Nat) (e:E9):FN (n+4) 58 (r9 e)=some (0,[.d (il (if q22 e then 0 else 30))]):=by
 rw [r9,F58]
 simp only [G58,q0a,s132,s65,s26,s133,s134,q01,q03,q0N,q00,q05,q0e,q22]
 by_cases h1:1≤e.src∧e.src≤99999<;>by_cases h2:1≤e.a∧e.a≤999<;>by_cases h3:1≤e.b∧e.b≤99<;>by_cases h4:q2z e.f1 e.f2 e.t1 e.t2<;>by_cases h5:q1w e.kn e.un<;>simp only [h1,h2,h3,h4,h5,decide_true,decide_false,Bool.not_true,Bool.not_false,if_true,if_false,and_true,and_false,Bool.false_eq_true]
theorem s57 (n:Nat) (e:E9):FN (n+4) 57 (r9 e)=some (0,[.d (il (if q22 e then 0 else 30))]):=by
 rw [r9,F57]
 simp only [G57,q0a,s127,s128,s129,s130,s131,q01,q03,q0N,q00,q05,q0e,q22]
 by_cases h1:1≤e.src∧e.src≤99999<;>by_cases h2:1≤e.a∧e.a≤999<;>by_cases h3:1≤e.b∧e.b≤99<;>by_cases h4:q2z e.f1 e.f2 e.t1 e.t2<;>by_cases h5:q1w e.kn e.un<;>simp only [h1,h2,h3,h4,h5,decide_true,decide_false,Bool.not_true,Bool.not_false,if_true,if_false,and_true,and_false,Bool.false_eq_true]
theorem s60 (n:Nat) (e:E9):FN (n+4) 60 (r9 e)=some (0,[.d (il (if q1z e then 0 else 31))]):=by
 rw [r9,F60]
 simp only [G60,q0a,s132,s49,s133,s134,q01,q03,q0N,q00,q05,q0e,q27,q1z]
 by_cases h2:2≤e.a∧e.a≤99
 ·rw [q0l (by omega) (by omega)]
  by_cases h1:1≤e.src∧e.src≤99999<;>by_cases h3:1≤e.b∧e.b≤e.a - 1<;>by_cases h4:q2z e.f1 e.f2 e.t1 e.t2<;>by_cases h5:q1w e.kn e.un<;>simp only [h1,h2,h3,h4,h5,decide_true,decide_false,Bool.not_true,Bool.not_false,if_true,if_false,and_true,and_false,Bool.false_eq_true]
 ·by_cases h1:1≤e.src∧e.src≤99999<;>simp only [h1,h2,decide_true,decide_false,Bool.not_true,Bool.not_false,if_true,if_false,and_true,and_false,false_and,Bool.false_eq_true]
theorem s59 (n:Nat) (e:E9):FN (n+4) 59 (r9 e)=some (0,[.d (il (if q1z e then 0 else 31))]):=by
 rw [r9,F59]
 simp only [G59,q0a,s127,qif,s130,s131,q01,q03,q0N,q00,q05,q0e,q27,q1z]
 by_cases h2:2≤e.a∧e.a≤99
 ·rw [q0l (by omega) (by omega)]
  by_cases h1:1≤e.src∧e.src≤99999<;>by_cases h3:1≤e.b∧e.b≤e.a - 1<;>by_cases h4:q2z e.f1 e.f2 e.t1 e.t2<;>by_cases h5:q1w e.kn e.un<;>simp only [h1,h2,h3,h4,h5,decide_true,decide_false,Bool.not_true,Bool.not_false,if_true,if_false,and_true,and_false,Bool.false_eq_true]
 ·by_cases h1:1≤e.src∧e.src≤99999<;>simp only [h1,h2,decide_true,decide_false,Bool.not_true,Bool.not_false,if_true,if_false,and_true,and_false,false_and,Bool.false_eq_true]
theorem s62 (n:Nat) (e:E9):FN (n+4) 62 (r9 e)=some (0,[.d (il (if q23 e then 0 else 32))]):=by
 rw [r9,F62]
 simp only [G62,q0a,s132,s65,s49,s133,s134,q01,q03,q0N,q00,q05,q0e,q0S,q23]
 have h0:∃ q:Bool,decide (e.b=e.a)=q∧(e.b≠e.a↔q=false):=by by_cases h:e.b=e.a<;>simp [h]
 obtain ⟨q,hq1,hq2⟩:=h0
 simp only [hq1,hq2]
 by_cases h1:1≤e.src∧e.src≤99999<;>by_cases h2:1≤e.a∧e.a≤999<;>by_cases h3:0≤e.b∧e.b≤999<;>cases q<;>by_cases h4:q2z e.f1 e.f2 e.t1 e.t2<;>by_cases h5:q1w e.kn e.un<;>simp only [h1,h2,h3,h4,h5,decide_true,decide_false,Bool.not_true,Bool.not_false,if_true,if_false,and_true,and_false,Bool.false_eq_true,reduceCtorEq]
theorem s61 (n:Nat) (e:E9):FN (n+4) 61 (r9 e)=some (0,[.d (il (if q23 e then 0 else 32))]):=by
 rw [r9,F61]
 simp only [G61,q0a,s127,s128,qif,s130,s131,q01,q03,q0N,q00,q05,q0e,q0S,q23]
 have h0:∃ q:Bool,decide (e.b=e.a)=q∧(e.b≠e.a↔q=false):=by by_cases h:e.b=e.a<;>simp [h]
 obtain ⟨q,hq1,hq2⟩:=h0
 simp only [hq1,hq2]
 by_cases h1:1≤e.src∧e.src≤99999<;>by_cases h2:1≤e.a∧e.a≤999<;>by_cases h3:0≤e.b∧e.b≤999<;>cases q<;>by_cases h4:q2z e.f1 e.f2 e.t1 e.t2<;>by_cases h5:q1w e.kn e.un<;>simp only [h1,h2,h3,h4,h5,decide_true,decide_false,Bool.not_true,Bool.not_false,if_true,if_false,and_true,and_false,Bool.false_eq_true,reduceCtorEq]
theorem s64 (n:Nat) (e:E5):FN (n+4) 64 (r5 e)=some (0,[.d (il (if q3M e then 0 else 33))]):=by
 rw [r5,F64]
 simp only [G64,q0a,s132,s65,s25,s134,q01,q03,q0N,q00,q05,q0e,q3M]
 by_cases h1:1≤e.src∧e.src≤99999<;>by_cases h2:1≤e.a∧e.a≤999<;>by_cases h3:0≤e.day∧e.day≤4166<;>by_cases h5:q1w e.kn e.un<;>simp only [h1,h2,h3,h5,decide_true,decide_false,Bool.not_true,Bool.not_false,if_true,if_false,and_true,and_false,Bool.false_eq_true]
theorem s63 (n:Nat) (e:E5):FN (n+4) 63 (r5 e)=some (0,[.d (il (if q3M e then 0 else 33))]):=by
 rw [r5,F63]
 simp only [G63,q0a,s127,s128,s136,s131,q01,q03,q0N,q00,q05,q0e,q3M]
 by_cases h1:1≤e.src∧e.src≤99999<;>by_cases h2:1≤e.a∧e.a≤999<;>by_cases h3:0≤e.day∧e.day≤4166<;>by_cases h5:q1w e.kn e.un<;>simp only [h1,h2,h3,h5,decide_true,decide_false,Bool.not_true,Bool.not_false,if_true,if_false,and_true,and_false,Bool.false_eq_true]
def qa0 (kn un k:Int):Bool:=decide (kn≤k∧(un=0∨k < un))
theorem s173 (n:Nat) (kn un k:Int):FN (n+1) 173 [il kn,il un,il k]=some (0,[.d (bl (qa0 kn un k))]):=by
 rw [F173]
 simp only [G173,q9a,q00,q05,q0S,q15,q3U,q0e,q3b,q01,q03,qa0]
 by_cases h1:kn≤k<;>by_cases h2:un=0<;>simp [h1,h2]
def q3r (f1 t2 d:Int):Bool:=decide (f1≤d∧d < t2)
def q3L (f2 t1 d:Int):Bool:=decide (f2≤d∧d < t1)
theorem qfk (n:Nat) (f1 f2 t1 t2 d:Int):FN (n+1) 208 [il f1,il f2,il t1,il t2,il d]=some (0,[.d (bl (q3r f1 t2 d))]):=by
 rw [F208]
 simp only [G208,q9a,q00,q15,q3U,q0e,q3r]
 by_cases h1:f1≤d<;>simp [h1]
theorem q8P (n:Nat) (f1 f2 t1 t2 d:Int):FN (n+1) 209 [il f1,il f2,il t1,il t2,il d]=some (0,[.d (bl (q3L f2 t1 d))]):=by
 rw [F209]
 simp only [G209,q9a,q00,q15,q3U,q0e,q3L]
 by_cases h1:f2≤d<;>simp [h1]
def q7W (yes no:Bool):Int:=if yes then (if no then 2 else 1) else 0
theorem s84 (n:Nat) (y m:Bool):FN (n+1) 84 [bl y,bl m]=some (0,[.d (il (q7W y m))]):=by
 rw [F84];cases y<;>cases m<;>simp [G84,q7W]
end Go.VE
namespace Go.VE
open Go.RowKit Go.Proofs
section
variable {Fn:Nat→List D→Out} {FnD:D→List Sh→List D→Out} {m:Nat}
def d9 (o:Option (List E9)):D:=dSl 9 (o.map (·.map r9))
def d5 (o:Option (List E5)):D:=dSl 5 (o.map (·.map r5))
theorem q4j {α β:Type} (f:α→β) (o:Option (List α)):(o.map (·.map f)).getD []=(o.getD []).map f:=by cases o<;>rfl
theorem q65 (o:Option (List E9)) (k:D→Out):(q04 Fn FnD m).lenD (d9 o) k=k (il (o.getD []).length):=by rw [d9,q6A,q4j,List.length_map]
theorem qfl (o:Option (List E5)) (k:D→Out):(q04 Fn FnD m).lenD (d5 o) k=k (il (o.getD []).length):=by rw [d5,q6A,q4j,List.length_map]
theorem q5t {o:Option (List E9)} {i:Nat} {c:E9} (h:(o.getD [])[i]?=some c) (k:List D→Out):(q04 Fn FnD m).rowD 9 (d9 o) (il i) k=k (r9 c):=by
 rw [d9,q4Z,if_pos (by omega),q4j,Int.toNat_natCast,List.getElem?_map,h];rfl
theorem qfG {o:Option (List E5)} {i:Nat} {c:E5} (h:(o.getD [])[i]?=some c) (k:List D→Out):(q04 Fn FnD m).rowD 5 (d5 o) (il i) k=k (r5 c):=by
 rw [d5,q4Z,if_pos (by omega),q4j,Int.toNat_natCast,List.getElem?_map,h];rfl
end
def ltO:Option Int→Int→Bool
 | none,_=>true
 | some q,x=>decide (q < x)
def okL {α:Type} (ok:α→Bool) (src:α→Int):Option Int→List α→Bool
 | _,[]=>true
 | p,e::r=>ok e&&ltO p (src e)&&okL ok src (some (src e)) r
def q2L {α:Type} (src:α→Int) (l:List α) (i:Nat):Option Int:=if i=0 then none else (l[i - 1]?).map src
theorem q3W {α:Type} (src:α→Int) {l:List α} {i:Nat} {c:α} (h:l[i]?=some c):q2L src l (i+1)=some (src c):=by
 simp [q2L,h]
theorem q51 {i:Nat} (h:0 < i) (h2:i≤4611686018427387904):IntKind.i64.wrap ((i:Int) - 1)=((i - 1:Nat):Int):=by
 rw [q0l (by omega) (by omega)];omega
set_option maxRecDepth 10000 in
theorem l24_0 (n:Nat) (a b c:Option (List E9)) (o:Option (List E5)) (hl:(a.getD []).length≤4611686018427387904) :
  q0p [qfd (RP (n+4))] M0 0 [.d (d9 a),.d (d9 b),.d (d9 c),.d (d5 o),.d (d9 a),.d (il (a.getD []).length),.d (il 0)] =
   if okL (fun e=>decide (q22 e)) (·.src) none (a.getD [])=true then some (1,[.d (d9 a),.d (d9 b),.d (d9 c),.d (d5 o)]) else some (0,[.d (il 34)]):=by
 have:=q0u (β:=Unit) (a.getD []) hl (qfd (RP (n+4))) (fun i _=>[.d (d9 a),.d (d9 b),.d (d9 c),.d (d5 o),.d (d9 a),.d (il (a.getD []).length),.d (il i)]) (fun _ _=>True)
  (fun i r _=>if okL (fun e=>decide (q22 e)) (·.src) (q2L (·.src) (a.getD []) i) r=true then some (1,[.d (d9 a),.d (d9 b),.d (d9 c),.d (d5 o)]) else some (0,[.d (il 34)]))
  (fun _ k _=>by simp [qfd,okL]) ?_ M0 () trivial (q2J hl)
 ·exact this
 ·intro i e r _ k hi hd hlt hw _ ih
  have ih':=ih () trivial
  rw [q3W _ hi] at ih'
  have hlt':(i:Int) < ((a.getD []).length:Int):=by omega
  simp only [qfd,q03,q08,q0n,q00,hlt',decide_true,if_true,q5t hi]
  rw [show [(RP (n+4)).cell (r9 e) 0,(RP (n+4)).cell (r9 e) 1,(RP (n+4)).cell (r9 e) 2,(RP (n+4)).cell (r9 e) 3,(RP (n+4)).cell (r9 e) 4,(RP (n+4)).cell (r9 e) 5,(RP (n+4)).cell (r9 e) 6,(RP (n+4)).cell (r9 e) 7,(RP (n+4)).cell (r9 e) 8]=r9 e from rfl]
  simp only [q0a,s58,q01,q03,q05,q12,q3U,q00,q0e,q0o,hw,okL]
  by_cases h1:q22 e
  ·simp only [h1,if_true,decide_true,Bool.true_and,ne_eq,not_true,decide_false,Bool.false_eq_true,if_false]
   by_cases h0:i=0
   ·subst h0
    rw [if_neg (by simp)]
    simp only [q2L,if_true,ltO,Bool.true_and]
    exact ih'
   ·rw [if_pos (by simp;omega),q27,q51 (by omega) (by omega)]
    have hp:(a.getD [])[i - 1]?=some ((a.getD [])[i - 1]'(by omega)):=List.getElem?_eq_getElem (by omega)
    rw [q5t hp]
    simp only [r9,q0c,q2f,q00,decide_eq_true_eq]
    have hq:q2L (·.src) (a.getD []) i=some ((a.getD [])[i - 1]'(by omega)).src:=by simp [q2L,h0,hp]
    rw [hq]
    by_cases h2:e.src≤((a.getD [])[i - 1]'(by omega)).src
    ·have h3:ltO (some ((a.getD [])[i - 1]'(by omega)).src) e.src=false:=by simp [ltO];omega
     rw [if_pos h2]
     simp only [h3,Bool.false_and,Bool.false_eq_true,if_false]
    ·have h3:ltO (some ((a.getD [])[i - 1]'(by omega)).src) e.src=true:=by simp [ltO];omega
     rw [if_neg h2]
     simp only [h3,Bool.true_and]
     exact ih'
  ·simp [h1]
set_option maxRecDepth 10000 in
theorem l24_1 (n:Nat) (a b c:Option (List E9)) (o:Option (List E5)) (hl:(b.getD []).length≤4611686018427387904) :
  q0p [qfc (RP (n+4))] M0 0 [.d (d9 a),.d (d9 b),.d (d9 c),.d (d5 o),.d (d9 b),.d (il (b.getD []).length),.d (il 0)] =
   if okL (fun e=>decide (q1z e)) (·.src) none (b.getD [])=true then some (1,[.d (d9 a),.d (d9 b),.d (d9 c),.d (d5 o)]) else some (0,[.d (il 34)]):=by
 have:=q0u (β:=Unit) (b.getD []) hl (qfc (RP (n+4))) (fun i _=>[.d (d9 a),.d (d9 b),.d (d9 c),.d (d5 o),.d (d9 b),.d (il (b.getD []).length),.d (il i)]) (fun _ _=>True)
  (fun i r _=>if okL (fun e=>decide (q1z e)) (·.src) (q2L (·.src) (b.getD []) i) r=true then some (1,[.d (d9 a),.d (d9 b),.d (d9 c),.d (d5 o)]) else some (0,[.d (il 34)]))
  (fun _ k _=>by simp [qfc,okL]) ?_ M0 () trivial (q2J hl)
 ·exact this
 ·intro i e r _ k hi hd hlt hw _ ih
  have ih':=ih () trivial
  rw [q3W _ hi] at ih'
  have hlt':(i:Int) < ((b.getD []).length:Int):=by omega
  simp only [qfc,q03,q08,q0n,q00,hlt',decide_true,if_true,q5t hi]
  rw [show [(RP (n+4)).cell (r9 e) 0,(RP (n+4)).cell (r9 e) 1,(RP (n+4)).cell (r9 e) 2,(RP (n+4)).cell (r9 e) 3,(RP (n+4)).cell (r9 e) 4,(RP (n+4)).cell (r9 e) 5,(RP (n+4)).cell (r9 e) 6,(RP (n+4)).cell (r9 e) 7,(RP (n+4)).cell (r9 e) 8]=r9 e from rfl]
  simp only [q0a,s60,q01,q03,q05,q12,q3U,q00,q0e,q0o,hw,okL]
  by_cases h1:q1z e
  ·simp only [h1,if_true,decide_true,Bool.true_and,ne_eq,not_true,decide_false,Bool.false_eq_true,if_false]
   by_cases h0:i=0
   ·subst h0
    rw [if_neg (by simp)]
    simp only [q2L,if_true,ltO,Bool.true_and]
    exact ih'
   ·rw [if_pos (by simp;omega),q27,q51 (by omega) (by omega)]
    have hp:(b.getD [])[i - 1]?=some ((b.getD [])[i - 1]'(by omega)):=List.getElem?_eq_getElem (by omega)
    rw [q5t hp]
    simp only [r9,q0c,q2f,q00,decide_eq_true_eq]
    have hq:q2L (·.src) (b.getD []) i=some ((b.getD [])[i - 1]'(by omega)).src:=by simp [q2L,h0,hp]
    rw [hq]
    by_cases h2:e.src≤((b.getD [])[i - 1]'(by omega)).src
    ·have h3:ltO (some ((b.getD [])[i - 1]'(by omega)).src) e.src=false:=by simp [ltO];omega
     rw [if_pos h2]
     simp only [h3,Bool.false_and,Bool.false_eq_true,if_false]
    ·have h3:ltO (some ((b.getD [])[i - 1]'(by omega)).src) e.src=true:=by simp [ltO];omega
     rw [if_neg h2]
     simp only [h3,Bool.true_and]
     exact ih'
  ·simp [h1]
set_option maxRecDepth 10000 in
theorem l24_2 (n:Nat) (a b c:Option (List E9)) (o:Option (List E5)) (hl:(c.getD []).length≤4611686018427387904) :
  q0p [qfb (RP (n+4))] M0 0 [.d (d9 a),.d (d9 b),.d (d9 c),.d (d5 o),.d (d9 c),.d (il (c.getD []).length),.d (il 0)] =
   if okL (fun e=>decide (q23 e)) (·.src) none (c.getD [])=true then some (1,[.d (d9 a),.d (d9 b),.d (d9 c),.d (d5 o)]) else some (0,[.d (il 34)]):=by
 have:=q0u (β:=Unit) (c.getD []) hl (qfb (RP (n+4))) (fun i _=>[.d (d9 a),.d (d9 b),.d (d9 c),.d (d5 o),.d (d9 c),.d (il (c.getD []).length),.d (il i)]) (fun _ _=>True)
  (fun i r _=>if okL (fun e=>decide (q23 e)) (·.src) (q2L (·.src) (c.getD []) i) r=true then some (1,[.d (d9 a),.d (d9 b),.d (d9 c),.d (d5 o)]) else some (0,[.d (il 34)]))
  (fun _ k _=>by simp [qfb,okL]) ?_ M0 () trivial (q2J hl)
 ·exact this
 ·intro i e r _ k hi hd hlt hw _ ih
  have ih':=ih () trivial
  rw [q3W _ hi] at ih'
  have hlt':(i:Int) < ((c.getD []).length:Int):=by omega
  simp only [qfb,q03,q08,q0n,q00,hlt',decide_true,if_true,q5t hi]
  rw [show [(RP (n+4)).cell (r9 e) 0,(RP (n+4)).cell (r9 e) 1,(RP (n+4)).cell (r9 e) 2,(RP (n+4)).cell (r9 e) 3,(RP (n+4)).cell (r9 e) 4,(RP (n+4)).cell (r9 e) 5,(RP (n+4)).cell (r9 e) 6,(RP (n+4)).cell (r9 e) 7,(RP (n+4)).cell (r9 e) 8]=r9 e from rfl]
  simp only [q0a,s62,q01,q03,q05,q12,q3U,q00,q0e,q0o,hw,okL]
  by_cases h1:q23 e
  ·simp only [h1,if_true,decide_true,Bool.true_and,ne_eq,not_true,decide_false,Bool.false_eq_true,if_false]
   by_cases h0:i=0
   ·subst h0
    rw [if_neg (by simp)]
    simp only [q2L,if_true,ltO,Bool.true_and]
    exact ih'
   ·rw [if_pos (by simp;omega),q27,q51 (by omega) (by omega)]
    have hp:(c.getD [])[i - 1]?=some ((c.getD [])[i - 1]'(by omega)):=List.getElem?_eq_getElem (by omega)
    rw [q5t hp]
    simp only [r9,q0c,q2f,q00,decide_eq_true_eq]
    have hq:q2L (·.src) (c.getD []) i=some ((c.getD [])[i - 1]'(by omega)).src:=by simp [q2L,h0,hp]
    rw [hq]
    by_cases h2:e.src≤((c.getD [])[i - 1]'(by omega)).src
    ·have h3:ltO (some ((c.getD [])[i - 1]'(by omega)).src) e.src=false:=by simp [ltO];omega
     rw [if_pos h2]
     simp only [h3,Bool.false_and,Bool.false_eq_true,if_false]
    ·have h3:ltO (some ((c.getD [])[i - 1]'(by omega)).src) e.src=true:=by simp [ltO];omega
     rw [if_neg h2]
     simp only [h3,Bool.true_and]
     exact ih'
  ·simp [h1]
set_option maxRecDepth 10000 in
theorem l24_3 (n:Nat) (a b c:Option (List E9)) (o:Option (List E5)) (hl:(o.getD []).length≤4611686018427387904) :
  q0p [qfa (RP (n+4))] M0 0 [.d (d9 a),.d (d9 b),.d (d9 c),.d (d5 o),.d (d5 o),.d (il (o.getD []).length),.d (il 0)] =
   if okL (fun e=>decide (q3M e)) (·.src) none (o.getD [])=true then some (1,[]) else some (0,[.d (il 34)]):=by
 have:=q0u (β:=Unit) (o.getD []) hl (qfa (RP (n+4))) (fun i _=>[.d (d9 a),.d (d9 b),.d (d9 c),.d (d5 o),.d (d5 o),.d (il (o.getD []).length),.d (il i)]) (fun _ _=>True)
  (fun i r _=>if okL (fun e=>decide (q3M e)) (·.src) (q2L (·.src) (o.getD []) i) r=true then some (1,[]) else some (0,[.d (il 34)]))
  (fun _ k _=>by simp [qfa,okL]) ?_ M0 () trivial (q2J hl)
 ·exact this
 ·intro i e r _ k hi hd hlt hw _ ih
  have ih':=ih () trivial
  rw [q3W _ hi] at ih'
  have hlt':(i:Int) < ((o.getD []).length:Int):=by omega
  simp only [qfa,q03,q08,q0n,q00,hlt',decide_true,if_true,qfG hi]
  rw [show [(RP (n+4)).cell (r5 e) 0,(RP (n+4)).cell (r5 e) 1,(RP (n+4)).cell (r5 e) 2,(RP (n+4)).cell (r5 e) 3,(RP (n+4)).cell (r5 e) 4]=r5 e from rfl]
  simp only [q0a,s64,q01,q03,q05,q12,q3U,q00,q0e,q0o,hw,okL]
  by_cases h1:q3M e
  ·simp only [h1,if_true,decide_true,Bool.true_and,ne_eq,not_true,decide_false,Bool.false_eq_true,if_false]
   by_cases h0:i=0
   ·subst h0
    rw [if_neg (by simp)]
    simp only [q2L,if_true,ltO,Bool.true_and]
    exact ih'
   ·rw [if_pos (by simp;omega),q27,q51 (by omega) (by omega)]
    have hp:(o.getD [])[i - 1]?=some ((o.getD [])[i - 1]'(by omega)):=List.getElem?_eq_getElem (by omega)
    rw [qfG hp]
    simp only [r5,q0c,q2f,q00,decide_eq_true_eq]
    have hq:q2L (·.src) (o.getD []) i=some ((o.getD [])[i - 1]'(by omega)).src:=by simp [q2L,h0,hp]
    rw [hq]
    by_cases h2:e.src≤((o.getD [])[i - 1]'(by omega)).src
    ·have h3:ltO (some ((o.getD [])[i - 1]'(by omega)).src) e.src=false:=by simp [ltO];omega
     rw [if_pos h2]
     simp only [h3,Bool.false_and,Bool.false_eq_true,if_false]
    ·have h3:ltO (some ((o.getD [])[i - 1]'(by omega)).src) e.src=true:=by simp [ltO];omega
     rw [if_neg h2]
     simp only [h3,Bool.true_and]
     exact ih'
  ·simp [h1]
def q0D (a b c:List E9) (o:List E5):Bool:=decide (a.length≤60∧b.length≤60∧c.length≤60∧o.length≤60)&&okL (fun e=>decide (q22 e)) (·.src) none a&&okL (fun e=>decide (q1z e)) (·.src) none b&&okL (fun e=>decide (q23 e)) (·.src) none c&&okL (fun e=>decide (q3M e)) (·.src) none o
set_option maxRecDepth 10000 in
theorem s24 (n:Nat) (a b c:Option (List E9)) (o:Option (List E5)):FN (n+5) 24 [d9 a,d9 b,d9 c,d5 o]=some (0,[.d (il (if q0D (a.getD []) (b.getD []) (c.getD []) (o.getD []) then 0 else 34))]):=by
 rw [F24]
 simp only [G24,q65,qfl,q05,q3U,q00,q0e,decide_eq_true_eq]
 by_cases h:((a.getD []).length≤60∧(b.getD []).length≤60∧(c.getD []).length≤60∧(o.getD []).length≤60)
 ·obtain ⟨h1,h2,h3,h4⟩:=h
  rw [if_neg (by omega),if_neg (by omega),if_neg (by omega),if_neg (by omega)]
  simp only [q0q,l24_0 n a b c o (by omega),q0D,h1,h2,h3,h4,and_self,decide_true,Bool.true_and]
  by_cases g1:okL (fun e=>decide (q22 e)) (·.src) none (a.getD [])=true
  ·simp only [g1,if_true,q3c,q03,q08,q65,l24_1 n a b c o (by omega),Bool.true_and]
   by_cases g2:okL (fun e=>decide (q1z e)) (·.src) none (b.getD [])=true
   ·simp only [g2,if_true,q3c,q03,q08,q65,l24_2 n a b c o (by omega),Bool.true_and]
    by_cases g3:okL (fun e=>decide (q23 e)) (·.src) none (c.getD [])=true
    ·simp only [g3,if_true,q3c,q03,q08,qfl,l24_3 n a b c o (by omega),Bool.true_and]
     by_cases g4:okL (fun e=>decide (q3M e)) (·.src) none (o.getD [])=true
     ·simp only [g4,if_true,q3c]
     ·simp [g4]
    ·simp [g3]
   ·simp [g2]
  ·simp [g1]
 ·have hk:q0D (a.getD []) (b.getD []) (c.getD []) (o.getD [])=false:=by simp [q0D,h]
  rw [hk]
  simp only [Bool.false_eq_true,if_false]
  repeat' split
  all_goals first | rfl | (exfalso;omega)
end Go.VE
namespace Go.VE
open Go.RowKit Go.Proofs
def rI (z:Int):List D:=[il z]
def dI (o:Option (List Int)):D:=dSl 1 (o.map (·.map rI))
section
variable {Fn:Nat→List D→Out} {FnD:D→List Sh→List D→Out} {m:Nat}
theorem q5K (o:Option (List Int)) (k:D→Out):(q04 Fn FnD m).lenD (dI o) k=k (il (o.getD []).length):=by rw [dI,q6A,q4j,List.length_map]
theorem q5s {o:Option (List Int)} {i:Nat} {c:Int} (h:(o.getD [])[i]?=some c) (k:List D→Out):(q04 Fn FnD m).rowD 1 (dI o) (il i) k=k (rI c):=by
 rw [dI,q4Z,if_pos (by omega),q4j,Int.toNat_natCast,List.getElem?_map,h];rfl
end
noncomputable abbrev FD (n:Nat):D→List Sh→List D→Out:=q1q Tryz.prog (cf3 tb Tryz.prog) (FN n)
def fnd {α:Type} (p:α→Bool):List α→Option Nat
 | []=>none
 | e::r=>if p e then some 0 else (fnd p r).map (·+1)
def q6l {α:Type} (p:α→Bool) (l:List α):Int:=match fnd p l with
 | some i=>(i:Int)
 | none=>-1
theorem q5L {α:Type} (p:α→Bool) (l:List α):decide (0≤q6l p l)=l.any p:=by
 have h:(fnd p l).isSome=l.any p:=by
  induction l with
  | nil=>rfl
  | cons e r ih =>
   simp only [fnd,List.any_cons]
   cases p e<;>simp [ih]
 unfold q6l
 cases hf:fnd p l with
 | none=>rw [hf] at h;rw [←h];decide
 | some i=>rw [hf] at h;rw [←h];simp
theorem qgS {P:Program} {cfg:Cf3} {Fn:Nat→List D→Out} {f:Nat} {caps:List D} {sh:List Sh} {ds:List D} {vs:List VD} (h3:f < 2000000) (hv:q3s sh ds=some vs):q1q P cfg Fn (.fn f caps) sh ds=FnV cfg Fn f (vs++caps.map .one):=by
 simp only [q1q,hv,if_pos h3]
theorem FD_gen {T:Tb3} {P:Program} {Fn:Nat→List D→Out} {f:Nat} {caps:List D} {sh sh':List Sh} {ds:List D} {vs:List VD} {xs:List D} {z:D} (hlt:f < 1000000) (hv:q3s sh ds=some vs) (hash:T.ash f=some sh') (hx:q1A sh' (vs++caps.map .one)=some xs)
  (hr:T.rsk f=[[(false,[.d])]]) (hf:Fn f xs=some (0,[.d z])):q1q P (cf3 T P) Fn (.fn f caps) sh ds=some (0,[.d z]):=by
 have h1:(cf3 T P).ash f=some sh':=by simp only [cf3,if_pos hlt,hash]
 have h2:qbE ((cf3 T P).rsk f)=true:=by simp only [cf3,hr];rfl
 have h3:f < 2000000:=Nat.lt_of_lt_of_le hlt (by decide)
 rw [qgS h3 hv]
 simp only [FnV,h1,hx,h2,if_true,hf]
theorem q3F {n f:Nat} {caps:List D} {sh:List Sh} (sh':List Sh) {ds:List D} (vs:List VD) {xs:List D} {z:D} (hlt:f < 1000000) (hv:q3s sh ds=some vs) (hash:tb.ash f=some sh') (hx:q1A sh' (vs++caps.map .one)=some xs)
  (hr:tb.rsk f=[[(false,[.d])]]) (hf:FN n f xs=some (0,[.d z])):FD n (.fn f caps) sh ds=some (0,[.d z]):=FD_gen hlt hv hash hx hr hf
theorem s181 (n:Nat) (o:Option (List E9)) (hl:(o.getD []).length≤4611686018427387904) (x:D) (p:E9→Bool) (hp:∀ e∈o.getD [],FD n x [.agg 9] (r9 e)=some (0,[.d (bl (p e))])) :
  FN (n+1) 181 [d9 o,x]=some (0,[.d (il (q6l p (o.getD [])))]):=by
 rw [F181]
 simp only [G181,q65,q05,q0q]
 have:=q0u (β:=Unit) (o.getD []) hl (qc6 (RP n)) (fun i _=>[.d (d9 o),.d x,.d (il (o.getD []).length),.d (il i)]) (fun _ _=>True)
  (fun i r _=>match fnd p r with | some j=>some (0,[.d (il ((i+j:Nat):Int))]) | none=>some (1,[]))
  (fun _ k _=>by simp [qc6,fnd]) ?_ M0 () trivial (q2J hl)
 ·simp only [Int.natCast_zero,Nat.zero_add] at this
  rw [this]
  unfold q6l
  cases fnd p (o.getD [])<;>simp
 ·intro i e r _ k hi hd hlt hw _ ih
  have ih':=ih () trivial
  have hlt':(i:Int) < ((o.getD []).length:Int):=by omega
  have hmem:e∈o.getD []:=List.mem_of_getElem? hi
  simp only [qc6,q03,q08,q0n,q00,hlt',decide_true,if_true,q5t hi]
  rw [show [(RP n).cell (r9 e) 0,(RP n).cell (r9 e) 1,(RP n).cell (r9 e) 2,(RP n).cell (r9 e) 3,(RP n).cell (r9 e) 4,(RP n).cell (r9 e) 5,(RP n).cell (r9 e) 6,(RP n).cell (r9 e) 7,(RP n).cell (r9 e) 8]=r9 e from rfl]
  have hpe:q1q Tryz.prog (cf3 tb Tryz.prog) (FN n) x [.agg 9] (r9 e)=some (0,[.d (bl (p e))]):=hp e hmem
  rw [q1P,hpe]
  simp only [q01,q03,q00,q0e,q0o,q05,hw]
  by_cases h:p e=true
  ·simp only [h,if_true,fnd,Nat.add_zero]
  ·have h':p e=false:=by simpa using h
   simp only [h',Bool.false_eq_true,if_false,fnd]
   refine Eq.trans ?_ (Eq.trans ih' ?_)
   ·rfl
   ·cases fnd p r with
    | none=>rfl
    | some j=>simp only [Option.map_some];congr 5;omega
theorem s190 (n:Nat) (o:Option (List E9)) (hl:(o.getD []).length≤4611686018427387904) (x:D) (p:E9→Bool) (hp:∀ e∈o.getD [],FD n x [.agg 9] (r9 e)=some (0,[.d (bl (p e))])) :
  FN (n+2) 190 [d9 o,x]=some (0,[.d (bl ((o.getD []).any p))]):=by
 rw [F190]
 simp only [G190,q0a,s181 n o hl x p hp,q01,q03,q05,q2f,q0e,q5L]
theorem s119 (n:Nat) (o:Option (List E9)) (hl:(o.getD []).length≤4611686018427387904) (x:D) (p:E9→Bool) (hp:∀ e∈o.getD [],FD n x [.agg 9] (r9 e)=some (0,[.d (bl (p e))])) :
  FN (n+3) 119 [d9 o,x]=some (0,[.d (bl ((o.getD []).any p))]):=by
 rw [F119]
 simp only [G119,q0a,s190 n o hl x p hp,q01,q03,q0e]
theorem s182 (n:Nat) (o:Option (List E9)) (hl:(o.getD []).length≤4611686018427387904) (x:D) (p:E9→Bool) (hp:∀ e∈o.getD [],FD n x [.agg 9] (r9 e)=some (0,[.d (bl (p e))])) :
  FN (n+1) 182 [d9 o,x]=some (0,[.d (il (q6l p (o.getD [])))]):=(F182 n _ _).trans ((F181 n _ _).symm.trans (s181 n o hl x p hp))
theorem s191 (n:Nat) (o:Option (List E9)) (hl:(o.getD []).length≤4611686018427387904) (x:D) (p:E9→Bool) (hp:∀ e∈o.getD [],FD n x [.agg 9] (r9 e)=some (0,[.d (bl (p e))])) :
  FN (n+2) 191 [d9 o,x]=some (0,[.d (bl ((o.getD []).any p))]):=by
 rw [F191]
 simp only [G191,q0a,s182 n o hl x p hp,q01,q03,q05,q2f,q0e,q5L]
theorem s121 (n:Nat) (o:Option (List E9)) (hl:(o.getD []).length≤4611686018427387904) (x:D) (p:E9→Bool) (hp:∀ e∈o.getD [],FD n x [.agg 9] (r9 e)=some (0,[.d (bl (p e))])) :
  FN (n+3) 121 [d9 o,x]=some (0,[.d (bl ((o.getD []).any p))]):=by
 rw [F121]
 simp only [G121,q0a,s191 n o hl x p hp,q01,q03,q0e]
theorem s183 (n:Nat) (o:Option (List E9)) (hl:(o.getD []).length≤4611686018427387904) (x:D) (p:E9→Bool) (hp:∀ e∈o.getD [],FD n x [.agg 9] (r9 e)=some (0,[.d (bl (p e))])) :
  FN (n+1) 183 [d9 o,x]=some (0,[.d (il (q6l p (o.getD [])))]):=(F183 n _ _).trans ((F181 n _ _).symm.trans (s181 n o hl x p hp))
theorem s192 (n:Nat) (o:Option (List E9)) (hl:(o.getD []).length≤4611686018427387904) (x:D) (p:E9→Bool) (hp:∀ e∈o.getD [],FD n x [.agg 9] (r9 e)=some (0,[.d (bl (p e))])) :
  FN (n+2) 192 [d9 o,x]=some (0,[.d (bl ((o.getD []).any p))]):=by
 rw [F192]
 simp only [G192,q0a,s183 n o hl x p hp,q01,q03,q05,q2f,q0e,q5L]
theorem s123 (n:Nat) (o:Option (List E9)) (hl:(o.getD []).length≤4611686018427387904) (x:D) (p:E9→Bool) (hp:∀ e∈o.getD [],FD n x [.agg 9] (r9 e)=some (0,[.d (bl (p e))])) :
  FN (n+3) 123 [d9 o,x]=some (0,[.d (bl ((o.getD []).any p))]):=by
 rw [F123]
 simp only [G123,q0a,s192 n o hl x p hp,q01,q03,q0e]
theorem s184 (n:Nat) (o:Option (List E5)) (hl:(o.getD []).length≤4611686018427387904) (x:D) (p:E5→Bool) (hp:∀ e∈o.getD [],FD n x [.agg 5] (r5 e)=some (0,[.d (bl (p e))])) :
  FN (n+1) 184 [d5 o,x]=some (0,[.d (il (q6l p (o.getD [])))]):=by
 rw [F184]
 simp only [G184,qfl,q05,q0q]
 have:=q0u (β:=Unit) (o.getD []) hl (qc5 (RP n)) (fun i _=>[.d (d5 o),.d x,.d (il (o.getD []).length),.d (il i)]) (fun _ _=>True)
  (fun i r _=>match fnd p r with | some j=>some (0,[.d (il ((i+j:Nat):Int))]) | none=>some (1,[]))
  (fun _ k _=>by simp [qc5,fnd]) ?_ M0 () trivial (q2J hl)
 ·simp only [Int.natCast_zero,Nat.zero_add] at this
  rw [this]
  unfold q6l
  cases fnd p (o.getD [])<;>simp
 ·intro i e r _ k hi hd hlt hw _ ih
  have ih':=ih () trivial
  have hlt':(i:Int) < ((o.getD []).length:Int):=by omega
  have hmem:e∈o.getD []:=List.mem_of_getElem? hi
  simp only [qc5,q03,q08,q0n,q00,hlt',decide_true,if_true,qfG hi]
  rw [show [(RP n).cell (r5 e) 0,(RP n).cell (r5 e) 1,(RP n).cell (r5 e) 2,(RP n).cell (r5 e) 3,(RP n).cell (r5 e) 4]=r5 e from rfl]
  have hpe:q1q Tryz.prog (cf3 tb Tryz.prog) (FN n) x [.agg 5] (r5 e)=some (0,[.d (bl (p e))]):=hp e hmem
  rw [q1P,hpe]
  simp only [q01,q03,q00,q0e,q0o,q05,hw]
  by_cases h:p e=true
  ·simp only [h,if_true,fnd,Nat.add_zero]
  ·have h':p e=false:=by simpa using h
   simp only [h',Bool.false_eq_true,if_false,fnd]
   refine Eq.trans ?_ (Eq.trans ih' ?_)
   ·rfl
   ·cases fnd p r with
    | none=>rfl
    | some j=>simp only [Option.map_some];congr 5;omega
theorem s193 (n:Nat) (o:Option (List E5)) (hl:(o.getD []).length≤4611686018427387904) (x:D) (p:E5→Bool) (hp:∀ e∈o.getD [],FD n x [.agg 5] (r5 e)=some (0,[.d (bl (p e))])) :
  FN (n+2) 193 [d5 o,x]=some (0,[.d (bl ((o.getD []).any p))]):=by
 rw [F193]
 simp only [G193,q0a,s184 n o hl x p hp,q01,q03,q05,q2f,q0e,q5L]
theorem s125 (n:Nat) (o:Option (List E5)) (hl:(o.getD []).length≤4611686018427387904) (x:D) (p:E5→Bool) (hp:∀ e∈o.getD [],FD n x [.agg 5] (r5 e)=some (0,[.d (bl (p e))])) :
  FN (n+3) 125 [d5 o,x]=some (0,[.d (bl ((o.getD []).any p))]):=by
 rw [F125]
 simp only [G125,q0a,s193 n o hl x p hp,q01,q03,q0e]
theorem s186 (n:Nat) (o:Option (List Int)) (hl:(o.getD []).length≤4611686018427387904) (x:D) (p:Int→Bool) (hp:∀ e∈o.getD [],FD n x [.one] (rI e)=some (0,[.d (bl (p e))])) :
  FN (n+1) 186 [dI o,x]=some (0,[.d (il (q6l p (o.getD [])))]):=by
 rw [F186]
 simp only [G186,q5K,q05,q0q]
 have:=q0u (β:=Unit) (o.getD []) hl (qc4 (RP n)) (fun i _=>[.d (dI o),.d x,.d (il (o.getD []).length),.d (il i)]) (fun _ _=>True)
  (fun i r _=>match fnd p r with | some j=>some (0,[.d (il ((i+j:Nat):Int))]) | none=>some (1,[]))
  (fun _ k _=>by simp [qc4,fnd]) ?_ M0 () trivial (q2J hl)
 ·simp only [Int.natCast_zero,Nat.zero_add] at this
  rw [this]
  unfold q6l
  cases fnd p (o.getD [])<;>simp
 ·intro i e r _ k hi hd hlt hw _ ih
  have ih':=ih () trivial
  have hlt':(i:Int) < ((o.getD []).length:Int):=by omega
  have hmem:e∈o.getD []:=List.mem_of_getElem? hi
  simp only [qc4,q03,q08,q0n,q00,hlt',decide_true,if_true,q5s hi]
  rw [show [(RP n).cell (rI e) 0]=rI e from rfl]
  have hpe:q1q Tryz.prog (cf3 tb Tryz.prog) (FN n) x [.one] (rI e)=some (0,[.d (bl (p e))]):=hp e hmem
  rw [q1P,hpe]
  simp only [q01,q03,q00,q0e,q0o,q05,hw]
  by_cases h:p e=true
  ·simp only [h,if_true,fnd,Nat.add_zero]
  ·have h':p e=false:=by simpa using h
   simp only [h',Bool.false_eq_true,if_false,fnd]
   refine Eq.trans ?_ (Eq.trans ih' ?_)
   ·rfl
   ·cases fnd p r with
    | none=>rfl
    | some j=>simp only [Option.map_some];congr 5;omega
theorem s206 (n:Nat) (o:Option (List Int)) (hl:(o.getD []).length≤4611686018427387904) (x:D) (p:Int→Bool) (hp:∀ e∈o.getD [],FD n x [.one] (rI e)=some (0,[.d (bl (p e))])) :
  FN (n+2) 206 [dI o,x]=some (0,[.d (bl ((o.getD []).any p))]):=by
 rw [F206]
 simp only [G206,q0a,s186 n o hl x p hp,q01,q03,q05,q2f,q0e,q5L]
theorem s154 (n:Nat) (o:Option (List Int)) (hl:(o.getD []).length≤4611686018427387904) (x:D) (p:Int→Bool) (hp:∀ e∈o.getD [],FD n x [.one] (rI e)=some (0,[.d (bl (p e))])) :
  FN (n+3) 154 [dI o,x]=some (0,[.d (bl ((o.getD []).any p))]):=by
 rw [F154]
 simp only [G154,q0a,s206 n o hl x p hp,q01,q03,q0e]
theorem s120 (n:Nat) (e:E9):FN (n+5) 120 (r9 e)=some (0,[.d (bl (!decide (q22 e)))]):=by
 rw [r9,F120]
 have:=s57 n e
 rw [r9] at this
 simp only [G120,q0a,this,q01,q03,q05,q12,q0e]
 by_cases h:q22 e<;>simp [h]
theorem d120 (n:Nat) (e:E9):FD (n+5) (.fn 120 []) [.agg 9] (r9 e)=some (0,[.d (bl (!decide (q22 e)))]):=by
 have:=s120 n e
 rw [r9] at this
 exact q3F [.agg 9] [.agg (r9 e)] (by decide) rfl (by kernel_rfl) rfl (by kernel_rfl) this
theorem s122 (n:Nat) (e:E9):FN (n+5) 122 (r9 e)=some (0,[.d (bl (!decide (q1z e)))]):=by
 rw [r9,F122]
 have:=s59 n e
 rw [r9] at this
 simp only [G122,q0a,this,q01,q03,q05,q12,q0e]
 by_cases h:q1z e<;>simp [h]
theorem d122 (n:Nat) (e:E9):FD (n+5) (.fn 122 []) [.agg 9] (r9 e)=some (0,[.d (bl (!decide (q1z e)))]):=by
 have:=s122 n e
 rw [r9] at this
 exact q3F [.agg 9] [.agg (r9 e)] (by decide) rfl (by kernel_rfl) rfl (by kernel_rfl) this
theorem s124 (n:Nat) (e:E9):FN (n+5) 124 (r9 e)=some (0,[.d (bl (!decide (q23 e)))]):=by
 rw [r9,F124]
 have:=s61 n e
 rw [r9] at this
 simp only [G124,q0a,this,q01,q03,q05,q12,q0e]
 by_cases h:q23 e<;>simp [h]
theorem d124 (n:Nat) (e:E9):FD (n+5) (.fn 124 []) [.agg 9] (r9 e)=some (0,[.d (bl (!decide (q23 e)))]):=by
 have:=s124 n e
 rw [r9] at this
 exact q3F [.agg 9] [.agg (r9 e)] (by decide) rfl (by kernel_rfl) rfl (by kernel_rfl) this
theorem s126 (n:Nat) (e:E5):FN (n+5) 126 (r5 e)=some (0,[.d (bl (!decide (q3M e)))]):=by
 rw [r5,F126]
 have:=s63 n e
 rw [r5] at this
 simp only [G126,q0a,this,q01,q03,q05,q12,q0e]
 by_cases h:q3M e<;>simp [h]
theorem d126 (n:Nat) (e:E5):FD (n+5) (.fn 126 []) [.agg 5] (r5 e)=some (0,[.d (bl (!decide (q3M e)))]):=by
 have:=s126 n e
 rw [r5] at this
 exact q3F [.agg 5] [.agg (r5 e)] (by decide) rfl (by kernel_rfl) rfl (by kernel_rfl) this
theorem s155 (n:Nat) (z:Int):FN (n+3) 155 [il z]=some (0,[.d (bl (!decide (0≤z∧z≤4166)))]):=by
 rw [F155]
 simp only [G155,q0a,s136,q01,q03,q0N,q0e]
theorem d155 (n:Nat) (z:Int):FD (n+3) (.fn 155 []) [.one] (rI z)=some (0,[.d (bl (!decide (0≤z∧z≤4166)))]):=by
 exact q3F [.one] [.one (il z)] (by decide) rfl (by kernel_rfl) rfl (by kernel_rfl) (s155 n z)
end Go.VE
