/- Book: records by their items, walked. -/
import Derived.Test.YtipddjojdgapiaaGreatDoorMg1
import Derived.Test.YtipddjojdgapiaaGreatDoorMp
import Derived.Deep.RegionWith
import Derived.StillTailTactics
import Derived.Shelf.SlSortCmp.NoneTotal
import Derived.Deep.AppendLies
namespace Go.VE
open Go.RowKit Go.Proofs Go.Shelf Go.Lib
set_option maxRecDepth 100000
set_option maxHeartbeats 600000
theorem nan175 (a:Int) (w:World):Calls Tryz.prog 175 #[.int .i64 a] w fun e w'=>e=.returned (.bool false)∧w'=w:=by
 go_enter Tryz.func175,Tryz.ntmps175
 go_wp2
 go_ret
 exact ⟨rfl,rfl⟩
def cmpI (a b:Int):Int:=if a < b then -1 else if b < a then 1 else 0
theorem cmp158 (a b:Int) (w:World):Calls Tryz.prog 158 #[.int .i64 a,.int .i64 b] w fun e w'=>e=.returned (.int .i64 (cmpI a b))∧w'=w:=by
 by_cases h1:a < b
 ·have e:cmpI a b=-1:=by simp [cmpI,h1]
  rw [e]
  go_enter Tryz.func158,Tryz.ntmps158
  go_wp2_with (go_at_call 175;refine (nan175 _ _).mono ?_;rintro e w' ⟨rfl,rfl⟩)
  go_ret
  exact ⟨rfl,rfl⟩
 ·by_cases h2:b < a
  ·have e:cmpI a b=1:=by simp [cmpI,h1,h2]
   rw [e]
   go_enter Tryz.func158,Tryz.ntmps158
   go_wp2_with (go_at_call 175;refine (nan175 _ _).mono ?_;rintro e w' ⟨rfl,rfl⟩)
   go_ret
   exact ⟨rfl,rfl⟩
  ·have e:cmpI a b=0:=by simp [cmpI,h1,h2]
   rw [e]
   go_enter Tryz.func158,Tryz.ntmps158
   go_wp2_with (go_at_call 175;refine (nan175 _ _).mono ?_;rintro e w' ⟨rfl,rfl⟩)
   go_ret
   exact ⟨rfl,rfl⟩
def orI (a c:Int):Int:=if a≠0 then a else c
theorem or157 (a c:Int) (b:Nat) (w:World) (h0:w.cell? ⟨b,0,none⟩=some (.int .i64 a)) (h1:w.cell? ⟨b,1,none⟩=some (.int .i64 c)):Calls Tryz.prog 157 #[.slice (some ⟨b,0,none⟩) 2 2] w fun e w'=>e=.returned (.int .i64 (orI a c))∧w'=w:=by
 by_cases ha:a=0
 ·subst ha
  rw [show orI 0 c=c from rfl]
  by_cases hc:c=0
  ·subst hc
   go_enter Tryz.func157,Tryz.ntmps157
   go_wp2
   refine wp_loop_rounds 3 ?_
   rw [rounds_succ]
   go_wp2
   rw [rounds_succ]
   go_wp2
   rw [rounds_succ]
   go_wp2
   go_ret
   exact ⟨rfl,rfl⟩
  ·go_enter Tryz.func157,Tryz.ntmps157
   go_wp2
   refine wp_loop_rounds 3 ?_
   rw [rounds_succ]
   go_wp2
   rw [rounds_succ]
   go_wp2
   go_ret
   exact ⟨rfl,rfl⟩
 ·rw [show orI a c=a from if_pos ha]
  go_enter Tryz.func157,Tryz.ntmps157
  go_wp2
  refine wp_loop_rounds 3 ?_
  rw [rounds_succ]
  go_wp2
  go_ret
  exact ⟨rfl,rfl⟩
def cmpR (p n q m:Int):Int:=orI (cmpI p q) (cmpI n m)
theorem grown3 (w:World) (A B C:Obj):(((w.alloc A).alloc B).drew).alloc C=Sort.grow (w.drewN 1) #[A,B,C]:=by
 unfold Sort.grow World.drewN World.drew World.alloc
 simp only [World.mk.injEq,and_true]
 apply Array.ext'
 simp
theorem cmp147 (p n q m:Int) (w:World):Calls Tryz.prog 147 #[.agg #[.int .i64 p,.int .i64 n],.agg #[.int .i64 q,.int .i64 m]] w fun e w'=>e=.returned (.int .i64 (cmpR p n q m))∧∃ k os,w'=Sort.grow (w.drewN k) os:=by
 unfold cmpR
 go_enter Tryz.func147,Tryz.ntmps147
 go_wp2
 have e158:∀ args w,(callFunc 158 args).run Tryz.prog w=.ok (.enter 158 args) w:=enters_of Tryz.func158 (by kernel_rfl) rfl
 obtain ⟨W,hW⟩:∃ W,((w.alloc (.cells #[.int .i64 p,.int .i64 n] 23)).alloc (.cells #[.int .i64 q,.int .i64 m] 23))=W:=⟨_,rfl⟩
 rw [hW]
 have B1:W.heap[w.heap.size+1]?=some (.cells #[.int .i64 q,.int .i64 m] 23 (0,0)):=by rw [←hW];exact heap_alloc2_new _ _ _
 have B0:W.heap[w.heap.size]?=some (.cells #[.int .i64 p,.int .i64 n] 23 (0,0)):=by rw [←hW,heap_alloc_old _ _ (by simp)];exact heap_alloc_new _ _
 have c0:W.cell? ⟨w.heap.size,0,none⟩=some (.int .i64 p):=Go.Joins.cell_of_block B0 0
 have c1:W.cell? ⟨w.heap.size,1,none⟩=some (.int .i64 n):=Go.Joins.cell_of_block B0 1
 have c2:W.cell? ⟨w.heap.size+1,0,none⟩=some (.int .i64 q):=Go.Joins.cell_of_block B1 0
 have c3:W.cell? ⟨w.heap.size+1,1,none⟩=some (.int .i64 m):=Go.Joins.cell_of_block B1 1
 refine wp_region_still_tail 10 (by kernel_rfl) (by kernel_rfl) ?_
 simp only [List.take_succ_cons,List.take_zero,List.drop_succ_cons,List.drop_zero]
 still_step
 still_step
 still_step
 still_step
 still_call (cmp158 p q _)
 still_step
 still_step
 still_step
 still_step
 still_call (cmp158 n m _)
 refine wpStill_nil ?_
 change wpList _ _ _ _ _ W.drew
 have hd:W.drew=W.drewN 1:=rfl
 obtain ⟨w2,hw2⟩:∃ w2,W.drew=w2:=⟨_,rfl⟩
 rw [hw2]
 go_wp2_with (go_at_call 157;refine (or157 (cmpI p q) (cmpI n m) w2.heap.size (w2.alloc (.cells #[.int .i64 (cmpI p q),.int .i64 (cmpI n m)] 3)) (Go.Joins.cell_of_block (heap_alloc_new w2 _) 0) (Go.Joins.cell_of_block (heap_alloc_new w2 _) 1)).mono ?_;rintro e w' ⟨rfl,rfl⟩)
 go_ret
 refine ⟨rfl,1,#[.cells #[.int .i64 p,.int .i64 n] 23,.cells #[.int .i64 q,.int .i64 m] 23,.cells #[.int .i64 (cmpI p q),.int .i64 (cmpI n m)] 3],?_⟩
 rw [←hw2,← hW]
 exact grown3 _ _ _ _
end Go.VE
namespace Go.VE
open Go.RowKit Go.Proofs Go.Shelf Go.Lib
set_option maxRecDepth 100000
set_option maxHeartbeats 1500000
instance:Inhabited Rec:=⟨zeroR⟩
def encR (r:Rec):List Value:=[.int .i64 r.p,.int .i64 r.no,.int .i64 r.kd,.int .i64 r.dy,.int .i64 r.kn,.int .i64 r.op,.int .i64 r.on,.string ⟨r.tx.toArray⟩]
def cfR (x y:Rec):Int:=cmpR x.p x.no y.p y.no
theorem grow_two (W:World) (A B:Obj) (k:Nat) (os:Array Obj):Sort.grow (((W.alloc A).alloc B).drewN k) os=Sort.grow (W.drewN k) (#[A,B]++os):=by
 unfold Sort.grow World.drewN World.alloc
 simp only [World.mk.injEq,and_true]
 apply Array.ext'
 simp
theorem item123 (x y:Rec) (W:World):Calls Tryz.prog 123 #[.agg (encR x).toArray,.agg (encR y).toArray] W fun e w'=>e=.returned (.int .i64 (cfR x y))∧∃ q os',w'=Sort.grow (W.drewN q) os':=by
 unfold encR cfR
 go_enter Tryz.func123,Tryz.ntmps123
 go_wp2_with (go_at_call 147;refine (cmp147 x.p x.no y.p y.no _).mono ?_;rintro e w' ⟨rfl,k,os,rfl⟩)
 go_ret
 exact ⟨rfl,k,_,grow_two _ _ _ _ _⟩
theorem cl123 (blk off size:Nat) (w:World):CmpLays Tryz.prog 123 #[] encR 8 cfR blk off size w:=fun _ _ _ _ x y=>item123 x y _
theorem lt_bef (x y:Rec):ltOf cfR x y=decide (bef x y):=by
 unfold ltOf cfR cmpR orI cmpI bef
 by_cases h1:x.p < y.p
 ·simp [h1]
 ·by_cases h2:y.p < x.p
  ·have:¬ x.p=y.p:=by omega
   simp [h1,h2,this]
  ·have h3:x.p=y.p:=by omega
   by_cases h4:x.no < y.no
   ·simp [h3,h4]
   ·by_cases h5:y.no < x.no<;>simp [h3,h4,h5]
theorem swoR:Sort.SWO (ltOf cfR) where
 irrefl x:=by rw [lt_bef];simp [bef]
 trans x y z h1 h2:=by
  rw [lt_bef,decide_eq_true_eq] at *
  exact bef_trans h1 h2
 ntrans x y z h1 h2:=by
  rw [lt_bef,decide_eq_false_iff_not] at *
  unfold bef at *
  omega
theorem ins_ok:∀ (l acc:List Rec),acc.Pairwise bef→(∀ x∈acc,∀ y∈l,x.p≠y.p∨x.no≠y.no)→l.Pairwise (fun x y=>x.p≠y.p∨x.no≠y.no)→(l.foldl put acc).Pairwise bef∧(l.foldl put acc).Perm (acc++l)
 | [],acc,h,_,_=>⟨h,by simp⟩
 | r::l,acc,h,hd,hl=>by
  rw [List.pairwise_cons] at hl
  have h1:=put_sorted r h fun x hx=>hd x hx r (by simp)
  have h2:=ins_ok l (put acc r) h1 (fun x hx y hy=>by
   rcases List.mem_cons.1 ((put_perm r acc).mem_iff.1 hx) with rfl | hx
   ·exact hl.1 y hy
   ·exact hd x hx y (by simp [hy])) hl.2
  exact ⟨h2.1,h2.2.trans (((put_perm r acc).append_right l).trans (by simpa using (List.perm_middle (l₁:=acc) (a:=r) (l₂:=l)).symm))⟩
theorem insort_ok {l:List Rec} (h:diffK l=true):(insort l).Pairwise bef∧(insort l).Perm l:=by
 have:=ins_ok l [] List.Pairwise.nil (by simp) (by simpa [diffK] using h)
 simpa [insort] using this
theorem enc_at {w:World} {U:Nat→Prop} {r:Rec} {c:Nat} (hc:c < 8) {x:D} (hx:(recR r)[c]?=some x) {u:Value} (h:DR w U x u):u=(encR r)[c]! := by
 match c,hc with
 | 0,_=>simp [recR] at hx;subst hx;exact il_v h
 | 1,_=>simp [recR] at hx;subst hx;exact il_v h
 | 2,_=>simp [recR] at hx;subst hx;exact il_v h
 | 3,_=>simp [recR] at hx;subst hx;exact il_v h
 | 4,_=>simp [recR] at hx;subst hx;exact il_v h
 | 5,_=>simp [recR] at hx;subst hx;exact il_v h
 | 6,_=>simp [recR] at hx;subst hx;exact il_v h
 | 7,_=>simp [recR] at hx;subst hx;exact sD_v h
theorem enc_of {w:World} {U:Nat→Prop} (r:Rec) {c:Nat} {x:D} (hx:(recR r)[c]?=some x):DR w U x (encR r)[c]! := by
 match c,hx with
 | 0,hx=>simp [recR] at hx;subst hx;exact ⟨rfl,rfl⟩
 | 1,hx=>simp [recR] at hx;subst hx;exact ⟨rfl,rfl⟩
 | 2,hx=>simp [recR] at hx;subst hx;exact ⟨rfl,rfl⟩
 | 3,hx=>simp [recR] at hx;subst hx;exact ⟨rfl,rfl⟩
 | 4,hx=>simp [recR] at hx;subst hx;exact ⟨rfl,rfl⟩
 | 5,hx=>simp [recR] at hx;subst hx;exact ⟨rfl,rfl⟩
 | 6,hx=>simp [recR] at hx;subst hx;exact ⟨rfl,rfl⟩
 | 7,hx=>simp [recR] at hx;subst hx;exact ⟨rfl,rfl⟩
 | c+8,hx=>simp [recR] at hx
theorem holds_of {w:World} {U:Nat→Prop} {b t:Nat} {cur:Array Value} {l:List Rec} (hb:w.heap[b]?=some (.cells cur t (0,0))) (h:RR w U b 0 8 (l.map recR)):Sort.HoldsK encR 8 w b 0 l.toArray:=by
 intro j hj
 refine ⟨?_,Go.Joins.unfrozen_of_block hb _⟩
 rw [Sort.size_flatK,List.size_toArray] at hj
 rw [Sort.get_flatK _ _ _ _ (by rw [List.size_toArray];exact hj)]
 have hi:j / 8 < l.length:=by omega
 have hc:j % 8 < 8:=by omega
 have h1:=h.at_ (i:=j / 8) (r:=recR l[j / 8]) (by rw [List.getElem?_map,List.getElem?_eq_getElem hi];rfl)
 have hx:(recR l[j / 8])[j % 8]?=some ((recR l[j / 8])[j % 8]'(by show j % 8 < 8;omega)):=List.getElem?_eq_getElem _
 obtain ⟨u,h2,h3⟩:=h1.2.at_ hx
 rw [enc_at hc hx h3] at h2
 have e:(l.toArray)[j / 8]! = l[j / 8]:=by rw [getElem!_pos _ _ (by rw [List.size_toArray];exact hi)];simp
 rw [e]
 show w.cell? ⟨b,0+j,none⟩=some (encR l[j / 8])[j % 8]!
 rw [←h2]
 congr 2
 omega
theorem rows_of {w:World} {U:Nat→Prop} {b:Nat} {d:Array Rec} (h:Sort.HoldsK encR 8 w b 0 d):RR w U b 0 8 (d.toList.map recR):=by
 refine RR.mk fun i r hr=>?_
 rw [List.getElem?_map] at hr
 obtain ⟨x,hx,rfl⟩:=Option.map_eq_some_iff.1 hr
 have hi:i < d.size:=by
  have:=(List.getElem?_eq_some_iff.1 hx).1
  simpa using this
 have e:d[i]! = x:=by
  rw [getElem!_pos d i hi]
  have:=(List.getElem?_eq_some_iff.1 hx).2
  simpa using this
 refine ⟨rfl,CR.mk fun j y hy=>?_⟩
 have hj:j < 8:=by
  have:=(List.getElem?_eq_some_iff.1 hy).1
  exact this
 have:=(h.cell hi hj).1
 rw [e] at this
 exact ⟨_,this,enc_of x hy⟩
theorem sort_below {w:World} {b n B:Nat} {d:Array Rec} {os:Array Obj} (hB:B≤b) (hs:B≤w.heap.size):Below B w (sortWorldK encR 8 w b 0 n d os):=by
 refine ⟨rfl,rfl,rfl,?_,fun k hk=>?_⟩
 ·show w.heap.size≤((w.heap.modify b _)++os).size
  rw [Array.size_append,Array.size_modify]
  omega
 ·show ((w.heap.modify b _)++os)[k]?=w.heap[k]?
  rw [Array.getElem?_append,if_pos (by rw [Array.size_modify];omega),Array.getElem?_modify,if_neg (by omega)]
theorem diff_perm {l m:List Rec} (hp:m.Perm l) (h:diffK l=true):m.Pairwise fun x y=>x.p≠y.p∨x.no≠y.no:=by
 have h':l.Pairwise fun x y=>x.p≠y.p∨x.no≠y.no:=by simpa [diffK] using h
 exact (hp.pairwise_iff (fun {x y} h=>by omega)).2 h'
theorem sorted_of {l:List Rec} {d':Array Rec} (hp:Sort.PermIn 0 l.toArray.size l.toArray d') (hs:Sort.SortedIn (ltOf cfR) 0 l.toArray.size d') (hd:diffK l=true):d'.toList=insort l:=by
 obtain ⟨h1,_,h3⟩:=hp
 have e1:d'.extract 0 l.toArray.size=d':=by rw [←h1,Array.extract_size]
 have e2:l.toArray.extract 0 l.toArray.size=l.toArray:=Array.extract_size
 rw [e1,e2] at h3
 have hpm:d'.toList.Perm l:=by simpa using h3
 have hdp:=diff_perm hpm hd
 have hso:d'.toList.Pairwise bef:=by
  rw [List.pairwise_iff_getElem] at hdp ⊢
  intro i j hi hj hij
  have hlt:j < l.toArray.size:=by rw [←h1];simpa using hj
  have:=hs i j (Nat.zero_le _) hij hlt
  rw [lt_bef,decide_eq_false_iff_not,getElem!_pos d' j (by simpa using hj),getElem!_pos d' i (by simpa using hi)] at this
  have hk:=hdp i j hi hj hij
  simp only [Array.getElem_toList] at hk ⊢
  exact bef_total this (by omega)
 have ho:=insort_ok hd
 exact sorted_eq hso ho.1 (hpm.trans ho.2.symm)
theorem sc121 {Fn:Nat→List D→Out} (hF:FnOK Tryz.prog CF Fn) {x:D} {l:List Rec} (h83:Fn 83 [x]=some (0,[.r (l.map recR)])) (hl:l.length≤1000) (hd:diffK l=true):SC Tryz.prog 121 [.one x] (.one (.d (.sl 8 ((insort l).map recR)))):=by
 refine ⟨enters_of Tryz.func121 (by kernel_rfl) rfl,fun w U vs hU hX hv=>?_⟩
 obtain ⟨v,g1,g2⟩:=one_v hv
 rw [arr_of g1]
 have s83:=sc_of hF (f:=83) (sh:=[.one]) (xs:=[x]) (vs:=[.one x]) (rs:=[(false,[.own 8 25])]) rfl rfl h83 rfl
 have k83:Calls Tryz.prog 83 #[v] w fun e w'=>∃ (b cap:Nat) (U':Nat→Prop),e=.returned (.slice (some ⟨b,0,none⟩) l.length cap)∧Below w.heap.size w w'∧(∀ b,U b→U' b)∧(∀ b,U' b→b < w'.heap.size∧(U b∨w.heap.size≤b))∧w.heap.size≤b∧b < w'.heap.size∧l.length≤cap∧cap≤maxLen∧Sort.HoldsK encR 8 w' b 0 l.toArray:=by
  refine (s83.2 w U #[v] hU hX ⟨_,_,rfl,g2,rfl⟩).mono ?_
  rintro e w1 ⟨v1,U1,bs,rfl,b1,e1,e2,e3,e4,hr⟩
  have hr':RvR w1 U1 (.one (.own (l.map recR) 8 25)) v1 bs:=hr
  obtain ⟨b,cap,cur,rfl,rfl,e5,e6,e7,e8,e9⟩:=hr'
  have hbx:=e4 b (by simp)
  rw [List.length_map] at e6 ⊢
  exact ⟨b,cap,U1,rfl,b1,e1,e2,hbx.1,hbx.2.1,e6,e7,holds_of e5 e9⟩
 have k146:∀ (b cap:Nat) (W:World),b < W.heap.size→Sort.HoldsK encR 8 W b 0 l.toArray→Calls Tryz.prog 146 #[.slice (some ⟨b,0,none⟩) l.length cap,.func (.func 123) #[] #[]] W fun e w'=>e=.returned (.tuple #[])∧∃ d' n os,d'.toList=insort l∧d'.size=l.length∧w'=sortWorldK encR 8 W b 0 n d' os:=fun b cap W hb hH=>by
  have eg:∀ args w,(callFunc 123 args).run Tryz.prog w=.ok (.enter 123 args) w:=enters_of Tryz.func123 (by kernel_rfl) rfl
  have hcon:=AnyQ.slices_SortFunc Tryz.sortRec 8 Tryz.isAgg25 Tryz.sizeOf25 encR (fun _=>rfl) (fun r v hv=>by simp [encR] at hv;rcases hv with rfl | rfl | rfl | rfl | rfl | rfl | rfl | rfl<;>rfl) cfR swoR 123 #[] b 0 cap l.toArray W eg (cl123 b 0 _ W) hH hb (by rw [List.size_toArray];omega)
  change Calls Tryz.prog 146 _ _ _ at hcon
  rw [List.size_toArray] at hcon
  refine hcon.mono ?_
  rintro e w' ⟨he,d',n,os,hp,hs,hw⟩
  refine ⟨he,d',n,os,sorted_of (by rw [List.size_toArray];exact hp) (by rw [List.size_toArray];exact hs) hd,by rw [hp.1,List.size_toArray],hw⟩
 clear s83
 go_enter Tryz.func121,Tryz.ntmps121
 go_wp2_with (first
  | (go_at_call 83;refine k83.mono ?_;rintro e w1 ⟨b,cap,U1,rfl,b1,e1,e2,e3,e4,e5,e6,hH⟩)
  | (go_at_call 146;refine (k146 b cap w1 e4 hH).mono ?_;rintro e w2 ⟨rfl,d',n,os,hd1,hd2,rfl⟩))
 go_ret
 have b2:Below w.heap.size w1 (sortWorldK encR 8 w1 b 0 n d' os):=sort_below e3 b1.size
 have hH2:Sort.HoldsK encR 8 (sortWorldK encR 8 w1 b 0 n d' os) b 0 d':=by
  refine Sort.holdsK_grow _ _ _ _ _ _ _ ?_ (Sort.holdsK_putRowK _ _ _ _ _ _ _ (Sort.holdsK_ahead _ _ _ _ _ _ _ hH) (by rw [hd2,List.size_toArray]))
  show b < (w1.heap.modify b _).size
  rw [Array.size_modify]
  exact e4
 refine ⟨_,fun y=>U1 y∨y=b,[],rfl,b1.trans b2,fun y hy=>.inl (e1 y hy),?_,List.nodup_nil,by simp,rfl,?_⟩
 ·rintro y (hy | rfl)
  ·exact ⟨Nat.lt_of_lt_of_le (e2 y hy).1 b2.size,(e2 y hy).2⟩
  ·exact ⟨Nat.lt_of_lt_of_le e4 b2.size,.inr e3⟩
 ·have hlen:(insort l).length=l.length:=by rw [←hd1,Array.length_toList,hd2]
  simp only [DR,List.length_map,hlen]
  refine ⟨_,cap,rfl,e5,e6,fun _=>⟨b,0,rfl,.inr rfl,?_⟩⟩
  rw [←hd1]
  exact rows_of hH2
theorem sc121n {Fn:Nat→List D→Out} (hF:FnOK Tryz.prog CF Fn) (h83:Fn 83 [.lit (.slice none 0 0)]=some (1,[.d (.lit (.slice none 0 0))])):SC Tryz.prog 121 [.one (.lit (.slice none 0 0))] (.one (.d (.lit (.slice none 0 0)))):=by
 refine ⟨enters_of Tryz.func121 (by kernel_rfl) rfl,fun w U vs hU hX hv=>?_⟩
 obtain ⟨v,g1,g2⟩:=one_v hv
 rw [arr_of g1,g2.1]
 have s83:=sc_of hF (f:=83) (sh:=[.one]) (xs:=[.lit (.slice none 0 0)]) (vs:=[.one (.lit (.slice none 0 0))]) (rs:=[(false,[.d])]) rfl rfl h83 rfl
 have k83:Calls Tryz.prog 83 #[.slice none 0 0] w fun e w'=>e=.returned (.slice none 0 0)∧Below w.heap.size w w':=by
  refine (s83.2 w U _ hU hX ⟨_,_,rfl,⟨rfl,rfl⟩,rfl⟩).mono ?_
  rintro e w1 ⟨v1,U1,bs,rfl,b1,_,_,_,_,hr⟩
  have hr':RvR w1 U1 (.one (.d (.lit (.slice none 0 0)))) v1 bs:=hr
  exact ⟨by rw [hr'.2.1],b1⟩
 have k146:=fun W=>AnyF.slices_SortFunc_none Tryz.sortRec none 0 (.func (.func 123) #[] #[]) W
 change ∀ W,Calls Tryz.prog 146 _ _ _ at k146
 clear s83
 go_enter Tryz.func121,Tryz.ntmps121
 go_wp2_with (first
  | (go_at_call 83;refine k83.mono ?_;rintro e w1 ⟨rfl,b1⟩)
  | (go_at_call 146;refine (k146 _).mono ?_;rintro e w2 ⟨rfl,rfl⟩))
 go_ret
 exact post_lit hU b1 ⟨rfl,rfl,rfl⟩
theorem ok121 {Fn:Nat→List D→Out} (hF:FnOK Tryz.prog CF Fn) {xs:List D} {vs:List VD} {j:Nat} {ys:List Yr} {rs:RS} {sh:List Sh} (h1:CF.ash 121=some sh) (h2:vdsOf sh xs=some vs) (h3:tSorted Fn xs=some (j,ys)) (h4:(CF.rsk 121)[j]?=some rs):SC Tryz.prog 121 vs (pack (rvsAt ys rs 0)):=by
 unfold tSorted at h3
 split at h3
 ·rename_i x
  cases h1
  cases h2
  split at h3
  ·rename_i y h83
   split at h3
   ·rename_i hn
    rw [dNil_some hn.1,dNil_some hn.2] at h83
    rw [dNil_some hn.1]
    cases h3
    cases h4
    exact sc121n hF h83
   ·cases h3
  ·rename_i rows h83
   split at h3
   ·cases h3
   split at h3
   ·rename_i hl
    split at h3
    ·cases h3
    rename_i l hl2
    split at h3
    ·rename_i hd
     cases h3
     cases h4
     rw [recsD_some hl2] at h83 hl
     exact sc121 hF h83 (by rwa [List.length_map] at hl) hd
    ·cases h3
   ·cases h3
  ·cases h3
 ·cases h3
end Go.VE
namespace Go.VE
open Go.RowKit Go.Proofs Go.Shelf Go.Lib
set_option maxRecDepth 100000
set_option maxHeartbeats 1500000
def getRows:List (List D)×List (List D)×List (List D)→Nat→List (List D)
 | (a,_,_),0=>a
 | (_,b,_),1=>b
 | (_,_,c),_=>c
theorem tStrips_at {Fn:Nat→List D→Out}:∀ {rows:List (List D)} {i:Nat} {q:List (List D)×List (List D)×List (List D)},tStrips Fn i rows=some q→(∀ j,(getRows q j).length=rows.length) ∧
  (∀ j,∀ r∈getRows q j,r.length=3∧∀ x∈r,isLit x=true) ∧
  ∀ (k:Nat) (r:List D),rows[k]?=some r→∃ x ys n0 z0 t0 n1 z1 t1 n2 z2 t2,r=recR x∧outS (Fn 71 (recR x++[il (i+k:Nat)]))=some ys∧stripD ys=some (n0,z0,t0,n1,z1,t1,n2,z2,t2) ∧
   (getRows q 0)[k]?=some (strR n0 z0 t0)∧(getRows q 1)[k]?=some (strR n1 z1 t1)∧(getRows q 2)[k]?=some (strR n2 z2 t2)
 | [],i,q,h=>by
  simp only [tStrips,Option.some.injEq] at h
  subst h
  have e:∀ j,getRows ([],[],[]) j=[]:=fun j=>by match j with | 0=>rfl | 1=>rfl | _+2=>rfl
  exact ⟨fun j=>by rw [e],fun j r hr=>by rw [e] at hr;simp at hr,fun k r hr=>by simp at hr⟩
 | r::rs,i,q,h=>by
  rw [tStrips] at h
  split at h
  ·cases h
  rename_i x hx
  split at h
  ·cases h
  rename_i ys hy
  split at h
  ·cases h
  rename_i n0 z0 t0 n1 z1 t1 n2 z2 t2 hs
  split at h
  ·cases h
  rename_i a b c hq
  cases h
  obtain ⟨l1,l2,l3⟩:=tStrips_at hq
  have e0:=l1 0
  have e1:=l1 1
  have e2:c.length=rs.length:=l1 2
  have hst:∀ (n z:Int) (t:List UInt8),(strR n z t).length=3∧∀ x∈strR n z t,isLit x=true:=fun n z t=>⟨rfl,fun x hx=>by
   simp only [strR,List.mem_cons,List.not_mem_nil,or_false] at hx
   rcases hx with rfl | rfl | rfl<;>rfl⟩
  refine ⟨fun j=>?_,fun j y hy=>?_,fun k y hk=>?_⟩
  ·match j with
   | 0=>exact congrArg (·+1) e0
   | 1=>exact congrArg (·+1) e1
   | j+2=>exact congrArg (·+1) e2
  ·match j,hy with
   | 0,hy =>
    rcases List.mem_cons.1 (show y∈strR n0 z0 t0::a from hy) with rfl | hy
    ·exact hst _ _ _
    ·exact l2 0 y hy
   | 1,hy =>
    rcases List.mem_cons.1 (show y∈strR n1 z1 t1::b from hy) with rfl | hy
    ·exact hst _ _ _
    ·exact l2 1 y hy
   | j+2,hy =>
    rcases List.mem_cons.1 (show y∈strR n2 z2 t2::c from hy) with rfl | hy
    ·exact hst _ _ _
    ·exact l2 2 y hy
  ·match k,hk with
   | 0,hk =>
    cases hk
    exact ⟨x,ys,n0,z0,t0,n1,z1,t1,n2,z2,t2,recD_some hx,hy,hs,rfl,rfl,rfl⟩
   | k+1,hk =>
    obtain ⟨x',ys',m0,y0,s0,m1,y1,s1,m2,y2,s2,g1,g2,g3,g4,g5,g6⟩:=l3 k y (by simpa using hk)
    rw [show i+1+k=i+(k+1) by omega] at g2
    exact ⟨x',ys',m0,y0,s0,m1,y1,s1,m2,y2,s2,g1,g2,g3,g4,g5,g6⟩
def cellsQ (q:List (List D)×List (List D)×List (List D)) (k:Nat) (i:Nat):List Value:=rowsV ((getRows q i).take k)
theorem cellsQ_succ {q:List (List D)×List (List D)×List (List D)} {k i:Nat} {n z:Int} {t:List UInt8} (h:(getRows q i)[k]?=some (strR n z t)):cellsQ q (k+1) i=cellsQ q k i++[.int .i64 n,.int .i64 z,.string ⟨t.toArray⟩]:=by
 unfold cellsQ rowsV
 rw [List.take_add_one,h,List.flatMap_append]
 rfl
theorem ix135 {us:List Value} (hl:us.length=9) {i:Nat} (hi:i < 3) (W:World):(Instr.index 135 (.agg us.toArray) (.int .i64 i)).run Tryz.prog W=.ok (.agg ((us.drop (3*i)).take 3).toArray) W:=by
 have hu:Tryz.prog.underlying 135=some (.array 3 27):=by kernel_rfl
 have hs:sizeC Tryz.prog 27=some 3:=by kernel_rfl
 have hg:aggC Tryz.prog 27=some true:=by kernel_rfl
 have hp:=part_ok (P:=Tryz.prog) (w:=W) (t:=27) (s:=3) (off:=i*3) (us:=us) hs (by rw [hg];rfl) (.inl hg) (by omega)
 have e:mkVal Tryz.prog 27 ((us.drop (i*3)).take 3)=.agg ((us.drop (3*i)).take 3).toArray:=by
  unfold mkVal
  rw [if_pos hg,Nat.mul_comm]
 rw [e] at hp
 have h1:(0:Int)≤(i:Int)∧(i:Int) < ((3:Nat):Int):=by omega
 simp only [Instr.index,asIntOf,Sem.run_bind,Sem.run_pure,Result.andThen_ok,run_underlying hu,Sem.run_ite]
 rw [if_pos h1]
 simp only [Sem.run_bind,r_sizeOf hs,Result.andThen_ok,Int.toNat_natCast]
 exact hp
theorem ix9 (a b c d e f g h i:Value) (W:World):(Instr.index 135 (.agg #[a,b,c,d,e,f,g,h,i]) (.int .i64 0)).run Tryz.prog W=.ok (.agg #[a,b,c]) W∧(Instr.index 135 (.agg #[a,b,c,d,e,f,g,h,i]) (.int .i64 1)).run Tryz.prog W=.ok (.agg #[d,e,f]) W∧(Instr.index 135 (.agg #[a,b,c,d,e,f,g,h,i]) (.int .i64 2)).run Tryz.prog W=.ok (.agg #[g,h,i]) W :=
 ⟨ix135 (us:=[a,b,c,d,e,f,g,h,i]) rfl (i:=0) (by decide) W,ix135 (us:=[a,b,c,d,e,f,g,h,i]) rfl (i:=1) (by decide) W,ix135 (us:=[a,b,c,d,e,f,g,h,i]) rfl (i:=2) (by decide) W⟩
theorem inf27:∃ i,Tryz.prog.info? 27=some i∧i.zero=some (.agg #[.int .i64 0,.int .i64 0,.string ⟨#[]⟩])∧i.size=3∧i.bytes=32:=by
 have h:((Tryz.prog.info? 27).map fun i=>(i.zero,i.size,i.bytes))=some (some (.agg #[.int .i64 0,.int .i64 0,.string ⟨#[]⟩]),3,32):=by kernel_rfl
 obtain ⟨i,h1,h2⟩:=Option.map_eq_some_iff.1 h
 simp only [Prod.mk.injEq] at h2
 exact ⟨i,h1,h2.1,h2.2.1,h2.2.2⟩
theorem oneC3 {a b:Int} {t:List UInt8}:∀ u∈([.int .i64 a,.int .i64 b,.string ⟨t.toArray⟩]:List Value),u.oneCell'=true:=fun u hu=>by
 simp only [List.mem_cons,List.not_mem_nil,or_false] at hu
 rcases hu with rfl | rfl | rfl<;>rfl
theorem le63 {k:Nat} (h:k+1≤1000):k+1≤maxLen:=by
 have:1000≤maxLen:=by decide
 omega
theorem Th3.far {z0 z1 z2:Value} {w0:World} {B:Nat} {n:Nat→Nat} {c:Nat→List Value} {v:Nat→Value} {W w4:World} (R:Th3 z0 z1 z2 w0 B n c v W) {i:Nat} (hi:i < 3) (gro:W.grownBy w4 (v i).ownBlock):w4.heap[B]?=some (.cells #[v 0,v 1,v 2,z0,z1,z2] 43 (0,0)):=by
 have hs:=R.si
 exact (gro.block B (by omega) (fun e=>by have:=(own_lt (R.own i hi) B e.symm).1;omega)).trans R.box
theorem n3 (k:Nat):∀ i,i < 3→upd (upd (upd (fun _=>k) 0 (k+1)) 1 (k+1)) 2 (k+1) i=k+1:=fun i hi=>by
 rcases (by omega:i=0∨i=1∨i=2) with rfl | rfl | rfl<;>simp [upd]
theorem c3 {q:List (List D)×List (List D)×List (List D)} {k:Nat} {n0 z0 n1 z1 n2 z2:Int} {t0 t1 t2:List UInt8} (h0:(getRows q 0)[k]?=some (strR n0 z0 t0)) (h1:(getRows q 1)[k]?=some (strR n1 z1 t1)) (h2:(getRows q 2)[k]?=some (strR n2 z2 t2)):∀ i,i < 3 →
  upd (upd (upd (cellsQ q k) 0 (cellsQ q k 0++[.int .i64 n0,.int .i64 z0,.string ⟨t0.toArray⟩])) 1 (cellsQ q k 1++[.int .i64 n1,.int .i64 z1,.string ⟨t1.toArray⟩])) 2 (cellsQ q k 2++[.int .i64 n2,.int .i64 z2,.string ⟨t2.toArray⟩]) i=cellsQ q (k+1) i:=fun i hi=>by
 rcases (by omega:i=0∨i=1∨i=2) with rfl | rfl | rfl
 ·rw [cellsQ_succ h0];simp [upd]
 ·rw [cellsQ_succ h1];simp [upd]
 ·rw [cellsQ_succ h2];simp [upd]
theorem merge3 {G:Prop} (Pr:Nat→Nat→World→Prop) {P:Nat→Nat→World→Prop} (h2:Aside (∀ g c W,Pr g c W→P g c W)→G) (h1:∀ g c W,Pr g c W→P g c W):G:=h2 (show Aside _ from h1)
theorem isSl_v {w:World} {U:Nat→Prop} {x:D} {v:Value} (hs:isSl x=true) (h:DR w U x v):∃ p n c,v=.slice p n c:=by
 unfold isSl at hs
 split at hs
 ·simp only [DR] at h
  obtain ⟨a,cap,rfl,_⟩:=h
  exact ⟨_,_,_,rfl⟩
 ·rw [dNil_some hs] at h
  exact ⟨_,_,_,h.1⟩
structure Got27 (w W:World) (U:Nat→Prop) (xs:List D) (y0 y1 y2:Int) (e:Ending) (w':World) (p0 p1 p2:Option Addr) (l0 l1 l2 k0 k1 k2:Nat) (U':Nat→Prop):Prop where
 ret:e=.returned (.agg #[.slice p0 l0 k0,.slice p1 l1 k1,.slice p2 l2 k2,.int .i64 y0,.int .i64 y1,.int .i64 y2])
 be:Below W.heap.size W w'
 sub:∀ b,U b→U' b
 new:∀ b,U' b→b < w'.heap.size∧(U b∨w.heap.size < b)
 fr:FR w' U' xs [.slice p0 l0 k0,.slice p1 l1 k1,.slice p2 l2 k2,.int .i64 y0,.int .i64 y1,.int .i64 y2]
theorem Th3.start (w:World) {q:List (List D)×List (List D)×List (List D)}:Th3 (.int .i64 0) (.int .i64 0) (.int .i64 0) (w.alloc (.cells #[.slice none 0 0,.slice none 0 0,.slice none 0 0,.int .i64 0,.int .i64 0,.int .i64 0] 43)) (w.heap.size+1) (fun _=>0) (cellsQ q 0) (fun _=>.slice none 0 0)
  ((w.alloc (.cells #[.slice none 0 0,.slice none 0 0,.slice none 0 0,.int .i64 0,.int .i64 0,.int .i64 0] 43)).alloc (.cells #[.slice none 0 0,.slice none 0 0,.slice none 0 0,.int .i64 0,.int .i64 0,.int .i64 0] 43)):=by
 refine ⟨heap_alloc2_new _ _ _,fun i _=>?_,fun i j _ _ _ k hk=>(by cases hk),fun _ _ _=>rfl,(Below.refl _ _).alloc (by simp) _,by simp⟩
 exact ⟨by simp [cellsQ,rowsV],.inl ⟨rfl,rfl⟩⟩
theorem Th3.be0 {z0 z1 z2:Value} {w:World} {o:Obj} {n:Nat→Nat} {c:Nat→List Value} {v:Nat→Value} {wr:World} (R:Th3 z0 z1 z2 (w.alloc o) (w.heap.size+1) n c v wr):Below w.heap.size w wr:=((Below.refl _ w).alloc (Nat.le_refl _) o).trans (R.be.mono (by omega))
theorem Th3.res0 {z0 z1 z2:Value} {w:World} {o:Obj} {n:Nat→Nat} {c:Nat→List Value} {v:Nat→Value} {wr:World} (R:Th3 z0 z1 z2 (w.alloc o) (w.heap.size+1) n c v wr):wr.heap[w.heap.size]?=some o:=(R.be.block _ (by omega)).trans (heap_alloc_new w o)
theorem bind_27 {Fn:Nat→List D→Out} (hF:FnOK Tryz.prog CF Fn) {q:List (List D)×List (List D)×List (List D)} {n:Nat} (hql:∀ j,(getRows q j).length=n) (hqz:∀ j,∀ r∈getRows q j,r.length=3∧∀ x∈r,isLit x=true) {x0 x1 x2:D} {y0 y1 y2:Int}
  (h27:outS (Fn 27 [slZ (getRows q 0),slZ (getRows q 1),slZ (getRows q 2),il 0,il 0,il 0])=some [.d x0,.d x1,.d x2,.d (il y0),.d (il y1),.d (il y2)]) (h0:isSl x0=true) (h1:isSl x1=true) (h2:isSl x2=true) {w:World} {U:Nat→Prop} (hU:∀ b,U b→b < w.heap.size) (hX:XX w U) {v:Nat→Value} {W:World}
  (R:Th3 (.int .i64 0) (.int .i64 0) (.int .i64 0) (w.alloc (.cells #[.slice none 0 0,.slice none 0 0,.slice none 0 0,.int .i64 0,.int .i64 0,.int .i64 0] 43)) (w.heap.size+1) (fun _=>n) (cellsQ q n) v W):Calls Tryz.prog 27 #[.agg #[v 0,v 1,v 2,.int .i64 0,.int .i64 0,.int .i64 0]] W fun e w'=>∃ p0 p1 p2 l0 l1 l2 k0 k1 k2 U',Got27 w W U [x0,x1,x2,il y0,il y1,il y2] y0 y1 y2 e w' p0 p1 p2 l0 l1 l2 k0 k1 k2 U':=by
 have s27:=sc_of hF (f:=27) (sh:=[.agg 6]) (xs:=[slZ (getRows q 0),slZ (getRows q 1),slZ (getRows q 2),il 0,il 0,il 0]) (vs:=[.agg [slZ (getRows q 0),slZ (getRows q 1),slZ (getRows q 2),il 0,il 0,il 0]]) (rs:=[(true,[.d,.d,.d,.d,.d,.d])]) rfl rfl (outS_some h27) rfl
 have hd:∀ i,i < 3→DR W (fun b=>U b∨(w.heap.size < b∧b < W.heap.size)) (slZ (getRows q i)) (v i):=fun i hi=>by
  have ho:=R.own i hi
  have e:cellsQ q n i=rowsV (getRows q i):=by
   unfold cellsQ
   rw [List.take_of_length_le (by rw [hql];exact Nat.le_refl _)]
  rw [e] at ho
  exact DR_own ho (hql i) (hqz i) (R.z i hi) fun k hk=>.inr ⟨by have:=(own_lt ho k hk).1;omega,(own_lt ho k hk).2⟩
 refine (s27.2 W (fun b=>U b∨(w.heap.size < b∧b < W.heap.size)) _ ?_ ?_ ?_).mono ?_
 ·rintro b (h | h)
  ·exact Nat.lt_of_lt_of_le (hU b h) R.be0.size
  ·exact h.2
 ·exact hX.mono (fun b h=>R.be0.block b (hU b h)) fun _ h=>.inl h
 ·exact ⟨_,_,rfl,⟨_,rfl,⟨_,_,rfl,hd 0 (by decide),_,_,rfl,hd 1 (by decide),_,_,rfl,hd 2 (by decide),_,_,rfl,⟨rfl,rfl⟩,_,_,rfl,⟨rfl,rfl⟩,_,_,rfl,⟨rfl,rfl⟩,rfl⟩⟩,rfl⟩
 ·rintro e w' ⟨v',U',bs,rfl,hb,g1,g2,_,_,hr⟩
  have hr':RvR w' U' (.agg ([x0,x1,x2,il y0,il y1,il y2].map RC.d)) v' bs:=hr
  obtain ⟨cs,rfl,hc⟩:=hr'
  have hf:=(RcF_d hc).1
  simp only [FR] at hf
  obtain ⟨u0,_,e0,d0,u1,_,rfl,d1,u2,_,rfl,d2,_,_,rfl,d3,_,_,rfl,d4,_,_,rfl,d5,rfl⟩:=hf
  obtain ⟨p0,l0,k0,rfl⟩:=isSl_v h0 d0
  obtain ⟨p1,l1,k1,rfl⟩:=isSl_v h1 d1
  obtain ⟨p2,l2,k2,rfl⟩:=isSl_v h2 d2
  rw [il_v d3,il_v d4,il_v d5] at e0
  rw [arr_of e0]
  refine ⟨p0,p1,p2,l0,l1,l2,k0,k1,k2,U',rfl,hb,fun b h=>g1 b (.inl h),fun b h=>⟨(g2 b h).1,?_⟩,?_⟩
  ·rcases (g2 b h).2 with (h | h) | h
   ·exact .inl h
   ·exact .inr h.1
   ·have:=R.si
    exact .inr (by omega)
  ·simp only [FR]
   exact ⟨_,_,rfl,d0,_,_,rfl,d1,_,_,rfl,d2,_,_,rfl,⟨rfl,rfl⟩,_,_,rfl,⟨rfl,rfl⟩,_,_,rfl,⟨rfl,rfl⟩,rfl⟩
theorem RcF_of {w:World} {U:Nat→Prop}:∀ {xs:List D} {vs:List Value},FR w U xs vs→RcF w U (xs.map .d) vs []
 | [],vs,h=>by simp only [FR] at h;subst h;simp [RcF]
 | x::xs,vs,h=>by
  obtain ⟨v,vs',rfl,h1,h2⟩:=h
  exact ⟨v,vs',[],[],rfl,rfl,⟨rfl,h1⟩,RcF_of h2⟩
theorem bind_c {Fn:Nat→List D→Out} (hF:FnOK Tryz.prog CF Fn) {rows:List (List D)} {q:List (List D)×List (List D)×List (List D)} (hq:tStrips Fn 0 rows=some q) (hlen:rows.length≤1000) {p:Option Addr} {cap:Nat} {w:World} {U:Nat→Prop} (hU:∀ b,U b→b < w.heap.size) (hX:XX w U)
  (hp:∀ (k:Nat) (x:Rec),rows[k]?=some (recR x)→∃ b o,p=some ⟨b,o,none⟩∧b < w.heap.size∧∀ j u,(encR x)[j]?=some u→w.cell? ⟨b,o+k*8+j,none⟩=some u) {x0 x1 x2:D} {y0 y1 y2:Int}
  (h27:outS (Fn 27 [slZ (getRows q 0),slZ (getRows q 1),slZ (getRows q 2),il 0,il 0,il 0])=some [.d x0,.d x1,.d x2,.d (il y0),.d (il y1),.d (il y2)]) (h0:isSl x0=true) (h1:isSl x1=true) (h2:isSl x2=true)
  : Calls Tryz.prog 88 #[.slice p rows.length cap] w (Post w U (.agg [.d x0,.d x1,.d x2,.d (il y0),.d (il y1),.d (il y2)])):=by
 obtain ⟨hql,hqz,hqa⟩:=tStrips_at hq
 have e27:∀ {v:Nat→Value} {W:World},Th3 (.int .i64 0) (.int .i64 0) (.int .i64 0) (w.alloc (.cells #[.slice none 0 0,.slice none 0 0,.slice none 0 0,.int .i64 0,.int .i64 0,.int .i64 0] 43)) (w.heap.size+1) (fun _=>rows.length) (cellsQ q rows.length) v W→_:=fun R=>bind_27 hF hql hqz h27 h0 h1 h2 hU hX R
 clear h27 h0 h1 h2
 go_enter Tryz.func88,Tryz.ntmps88
 go_wp2
 go_loopg [10] rows.length (fun g z10 wr=>∃ (k:Nat) (v:Nat→Value),z10=.int .i64 k∧k+g=rows.length∧Th3 (.int .i64 0) (.int .i64 0) (.int .i64 0) (w.alloc (.cells #[.slice none 0 0,.slice none 0 0,.slice none 0 0,.int .i64 0,.int .i64 0,.int .i64 0] 43)) (w.heap.size+1) (fun _=>k) (cellsQ q k) v wr)
 case atStart=>exact ⟨0,fun _=>.slice none 0 0,rfl,by omega,Th3.start w⟩
 case round =>
  obtain ⟨k,v,rfl,hg,R⟩:=hrel
  by_cases hk:k < rows.length
  ·obtain ⟨g,rfl⟩:∃ g,gk=g+1:=⟨gk - 1,by omega⟩
   have hx:=List.getElem?_eq_getElem hk
   generalize rows[k]=r at hx
   obtain ⟨x,ys,n0,z0,t0,n1,z1,t1,n2,z2,t2,rfl,h71,hs,a0,a1,a2⟩:=hqa k r hx
   rw [Nat.zero_add] at h71
   obtain ⟨b,o,rfl,hb,hcx⟩:=hp k x hx
   have q0:=(R.be0.cell (p:=⟨b,o+k*8+0,none⟩) hb).trans (hcx 0 _ rfl)
   have q1:=(R.be0.cell (p:=⟨b,o+k*8+1,none⟩) hb).trans (hcx 1 _ rfl)
   have q2:=(R.be0.cell (p:=⟨b,o+k*8+2,none⟩) hb).trans (hcx 2 _ rfl)
   have q3:=(R.be0.cell (p:=⟨b,o+k*8+3,none⟩) hb).trans (hcx 3 _ rfl)
   have q4:=(R.be0.cell (p:=⟨b,o+k*8+4,none⟩) hb).trans (hcx 4 _ rfl)
   have q5:=(R.be0.cell (p:=⟨b,o+k*8+5,none⟩) hb).trans (hcx 5 _ rfl)
   have q6:=(R.be0.cell (p:=⟨b,o+k*8+6,none⟩) hb).trans (hcx 6 _ rfl)
   have q7:=(R.be0.cell (p:=⟨b,o+k*8+7,none⟩) hb).trans (hcx 7 _ rfl)
   simp only [Nat.add_zero] at q0
   have hkk:(k:Int) < (rows.length:Int):=by omega
   have R1:=R.keep ((Below.refl _ wr).alloc (Nat.le_refl _) (.cells #[.int .i64 x.p,.int .i64 x.no,.int .i64 x.kd,.int .i64 x.dy,.int .i64 x.kn,.int .i64 x.op,.int .i64 x.on,.string ⟨x.tx.toArray⟩] 25))
   have k71:=fun W (hb:Below w.heap.size w W)=>c71 hF h71 hs (w:=W) (fun b h=>Nat.lt_of_lt_of_le (hU b h) hb.size) (hX.mono (fun b h=>hb.block b (hU b h)) fun _ h=>h)
   clear hcx hqa hp e27
   go_wp2_with (go_at_call 71;refine (k71 _ R1.be0).mono ?_;rintro e w1 ⟨rfl,b1⟩)
   have R2:=R1.keep b1
   have ix0:=fun W=>(ix9 (.int .i64 n0) (.int .i64 z0) (.string ⟨t0.toArray⟩) (.int .i64 n1) (.int .i64 z1) (.string ⟨t1.toArray⟩) (.int .i64 n2) (.int .i64 z2) (.string ⟨t2.toArray⟩) W).1
   have ix1:=fun W=>(ix9 (.int .i64 n0) (.int .i64 z0) (.string ⟨t0.toArray⟩) (.int .i64 n1) (.int .i64 z1) (.string ⟨t1.toArray⟩) (.int .i64 n2) (.int .i64 z2) (.string ⟨t2.toArray⟩) W).2.1
   have ix2:=fun W=>(ix9 (.int .i64 n0) (.int .i64 z0) (.string ⟨t0.toArray⟩) (.int .i64 n1) (.int .i64 z1) (.string ⟨t1.toArray⟩) (.int .i64 n2) (.int .i64 z2) (.string ⟨t2.toArray⟩) W).2.2
   have hnk:k+1≤1000:=by omega
   obtain ⟨i0,hi0,hz0,hsz0,hby0⟩:=inf27
   refine wp_loop_rounds 4 ?_
   rw [rounds_succ]
   go_wp2
   obtain ⟨W0,hW0⟩:∃ W,w1.alloc (.cells #[.int .i64 n0,.int .i64 z0,.string ⟨t0.toArray⟩] 27)=W:=⟨_,rfl⟩
   rw [hW0]
   have R3_0:Th3 (.int .i64 0) (.int .i64 0) (.int .i64 0) (w.alloc (.cells #[.slice none 0 0,.slice none 0 0,.slice none 0 0,.int .i64 0,.int .i64 0,.int .i64 0] 43)) (w.heap.size+1) (fun _=>k) (cellsQ q k) v W0:=by rw [←hW0];exact R2.keep ((Below.refl _ w1).alloc (Nat.le_refl _) _)
   have B3_0:W0.heap[w1.heap.size]?=some (.cells #[.int .i64 n0,.int .i64 z0,.string ⟨t0.toArray⟩] 27 (0,0)):=by rw [←hW0];exact heap_alloc_new _ _
   clear hW0
   have s0:=Go.Joins.cell_of_block B3_0 0
   have s1:=Go.Joins.cell_of_block B3_0 1
   have s2:=Go.Joins.cell_of_block B3_0 2
   have cb:W0.cell? ⟨w.heap.size+1,0,none⟩=some (v 0):=Go.Joins.cell_of_block R3_0.box 0
   have c5:(W0.alloc (.cells #[.int .i64 n0,.int .i64 z0,.string ⟨t0.toArray⟩] 27)).cell? ⟨w.heap.size+1,0,none⟩=some (v 0):=(World.cell?_alloc_lt _ _ _ (World.block_lt_of_cell? W0 _ cb)).trans cb
   have hA:(W0.drew.alloc (.cells #[.int .i64 n0,.int .i64 z0,.string ⟨t0.toArray⟩] 27)).heap[W0.heap.size]?=some (.cells #[.int .i64 n0,.int .i64 z0,.string ⟨t0.toArray⟩] 27 (0,0)):=heap_alloc_new W0.drew _
   have R4:=R3_0.keep (((Below.refl _ W0).drew).alloc (Nat.le_refl _) (.cells #[.int .i64 n0,.int .i64 z0,.string ⟨t0.toArray⟩] 27))
   apply merge3 (fun g c W'=>Th3 (.int .i64 0) (.int .i64 0) (.int .i64 0) (w.alloc (.cells #[.slice none 0 0,.slice none 0 0,.slice none 0 0,.int .i64 0,.int .i64 0,.int .i64 0] 43)) (w.heap.size+1) (upd (fun _=>k) 0 (k+1)) (upd (cellsQ q k) 0 (cellsQ q k 0++[.int .i64 n0,.int .i64 z0,.string ⟨t0.toArray⟩])) (upd v 0 (.slice (some ⟨g,0,none⟩) (k+1) c)) W')
   ·intro key
    go_region_law (refine step_append_lies _ rfl (.tmp 26) (.tmp 28) 30 rfl (w.heap.size+1+1) 27 i0 (.agg #[.int .i64 0,.int .i64 0,.string ⟨#[]⟩]) 3 32 Tryz.underlying30 hi0 hz0 hsz0 hby0 rfl (by decide) (v 0) k (cellsQ q k 0) rfl (R4.own 0 (by decide)) ⟨W0.heap.size,0,none⟩ 1 1 [.int .i64 n0,.int .i64 z0,.string ⟨t0.toArray⟩] rfl rfl (World.news_of_block hA) oneC3 (by decide) (le63 hnk) (by omega) R4.si _ rfl (fun g4 cap4 w4 own4 gro4 lie4 lt4=>?_);have h4:=R4.far (i:=0) (by decide) gro4;have c4:=Go.Joins.cell_of_block h4 0;have f4:=Go.Joins.unfrozen_of_block h4 0)
    all_goals
     have R5:Th3 (.int .i64 0) (.int .i64 0) (.int .i64 0) (w.alloc (.cells #[.slice none 0 0,.slice none 0 0,.slice none 0 0,.int .i64 0,.int .i64 0,.int .i64 0] 43)) (w.heap.size+1) (upd (fun _=>k) 0 (k+1)) (upd (cellsQ q k) 0 (cellsQ q k 0++[.int .i64 n0,.int .i64 z0,.string ⟨t0.toArray⟩])) (upd v 0 (.slice (some ⟨g4,0,none⟩) (k+1) cap4)) (w4.setCell ⟨w.heap.size+1,0,none⟩ (.slice (some ⟨g4,0,none⟩) (k+1) cap4)):=R4.push (i:=0) (by decide) own4 gro4 lie4
     obtain ⟨W5,hW5⟩:∃ W5,w4.setCell ⟨w.heap.size+1,0,none⟩ (.slice (some ⟨g4,0,none⟩) (k+1) cap4)=W5:=⟨_,rfl⟩
     rw [hW5] at R5 ⊢
     exact key.out g4 cap4 W5 R5
   clear s0 s1 s2 cb c5 hA R4
   intro g0 cap0 X0 Q0
   obtain ⟨v1,hv1⟩:∃ v',upd v 0 (.slice (some ⟨g0,0,none⟩) (k+1) cap0)=v':=⟨_,rfl⟩
   rw [hv1] at Q0
   clear hv1
   go_wp2
   rw [rounds_succ]
   go_wp2
   obtain ⟨W1,hW1⟩:∃ W,X0.alloc (.cells #[.int .i64 n1,.int .i64 z1,.string ⟨t1.toArray⟩] 27)=W:=⟨_,rfl⟩
   rw [hW1]
   have R3_1:Th3 (.int .i64 0) (.int .i64 0) (.int .i64 0) (w.alloc (.cells #[.slice none 0 0,.slice none 0 0,.slice none 0 0,.int .i64 0,.int .i64 0,.int .i64 0] 43)) (w.heap.size+1) (upd (fun _=>k) 0 (k+1)) (upd (cellsQ q k) 0 (cellsQ q k 0++[.int .i64 n0,.int .i64 z0,.string ⟨t0.toArray⟩])) v1 W1:=by rw [←hW1];exact Q0.keep ((Below.refl _ X0).alloc (Nat.le_refl _) _)
   have B3_1:W1.heap[X0.heap.size]?=some (.cells #[.int .i64 n1,.int .i64 z1,.string ⟨t1.toArray⟩] 27 (0,0)):=by rw [←hW1];exact heap_alloc_new _ _
   clear hW1
   have s0:=Go.Joins.cell_of_block B3_1 0
   have s1:=Go.Joins.cell_of_block B3_1 1
   have s2:=Go.Joins.cell_of_block B3_1 2
   have cb:W1.cell? ⟨w.heap.size+1,1,none⟩=some (v1 1):=Go.Joins.cell_of_block R3_1.box 1
   have c5:(W1.alloc (.cells #[.int .i64 n1,.int .i64 z1,.string ⟨t1.toArray⟩] 27)).cell? ⟨w.heap.size+1,1,none⟩=some (v1 1):=(World.cell?_alloc_lt _ _ _ (World.block_lt_of_cell? W1 _ cb)).trans cb
   have hA:(W1.drew.alloc (.cells #[.int .i64 n1,.int .i64 z1,.string ⟨t1.toArray⟩] 27)).heap[W1.heap.size]?=some (.cells #[.int .i64 n1,.int .i64 z1,.string ⟨t1.toArray⟩] 27 (0,0)):=heap_alloc_new W1.drew _
   have R4:=R3_1.keep (((Below.refl _ W1).drew).alloc (Nat.le_refl _) (.cells #[.int .i64 n1,.int .i64 z1,.string ⟨t1.toArray⟩] 27))
   apply merge3 (fun g c W'=>Th3 (.int .i64 0) (.int .i64 0) (.int .i64 0) (w.alloc (.cells #[.slice none 0 0,.slice none 0 0,.slice none 0 0,.int .i64 0,.int .i64 0,.int .i64 0] 43)) (w.heap.size+1) (upd (upd (fun _=>k) 0 (k+1)) 1 (k+1)) (upd (upd (cellsQ q k) 0 (cellsQ q k 0++[.int .i64 n0,.int .i64 z0,.string ⟨t0.toArray⟩])) 1 (cellsQ q k 1++[.int .i64 n1,.int .i64 z1,.string ⟨t1.toArray⟩])) (upd v1 1 (.slice (some ⟨g,0,none⟩) (k+1) c)) W')
   ·intro key
    go_region_law (refine step_append_lies _ rfl (.tmp 26) (.tmp 28) 30 rfl (w.heap.size+1+1) 27 i0 (.agg #[.int .i64 0,.int .i64 0,.string ⟨#[]⟩]) 3 32 Tryz.underlying30 hi0 hz0 hsz0 hby0 rfl (by decide) (v1 1) k (cellsQ q k 1) rfl (R4.own 1 (by decide)) ⟨W1.heap.size,0,none⟩ 1 1 [.int .i64 n1,.int .i64 z1,.string ⟨t1.toArray⟩] rfl rfl (World.news_of_block hA) oneC3 (by decide) (le63 hnk) (by omega) R4.si _ rfl (fun g4 cap4 w4 own4 gro4 lie4 lt4=>?_);have h4:=R4.far (i:=1) (by decide) gro4;have c4:=Go.Joins.cell_of_block h4 1;have f4:=Go.Joins.unfrozen_of_block h4 1)
    all_goals
     have R5:Th3 (.int .i64 0) (.int .i64 0) (.int .i64 0) (w.alloc (.cells #[.slice none 0 0,.slice none 0 0,.slice none 0 0,.int .i64 0,.int .i64 0,.int .i64 0] 43)) (w.heap.size+1) (upd (upd (fun _=>k) 0 (k+1)) 1 (k+1)) (upd (upd (cellsQ q k) 0 (cellsQ q k 0++[.int .i64 n0,.int .i64 z0,.string ⟨t0.toArray⟩])) 1 (cellsQ q k 1++[.int .i64 n1,.int .i64 z1,.string ⟨t1.toArray⟩])) (upd v1 1 (.slice (some ⟨g4,0,none⟩) (k+1) cap4)) (w4.setCell ⟨w.heap.size+1,1,none⟩ (.slice (some ⟨g4,0,none⟩) (k+1) cap4)):=R4.push (i:=1) (by decide) own4 gro4 lie4
     obtain ⟨W5,hW5⟩:∃ W5,w4.setCell ⟨w.heap.size+1,1,none⟩ (.slice (some ⟨g4,0,none⟩) (k+1) cap4)=W5:=⟨_,rfl⟩
     rw [hW5] at R5 ⊢
     exact key.out g4 cap4 W5 R5
   clear s0 s1 s2 cb c5 hA R4
   intro g1 cap1 X1 Q1
   obtain ⟨v2,hv2⟩:∃ v',upd v1 1 (.slice (some ⟨g1,0,none⟩) (k+1) cap1)=v':=⟨_,rfl⟩
   rw [hv2] at Q1
   clear hv2
   go_wp2
   rw [rounds_succ]
   go_wp2
   obtain ⟨W2,hW2⟩:∃ W,X1.alloc (.cells #[.int .i64 n2,.int .i64 z2,.string ⟨t2.toArray⟩] 27)=W:=⟨_,rfl⟩
   rw [hW2]
   have R3_2:Th3 (.int .i64 0) (.int .i64 0) (.int .i64 0) (w.alloc (.cells #[.slice none 0 0,.slice none 0 0,.slice none 0 0,.int .i64 0,.int .i64 0,.int .i64 0] 43)) (w.heap.size+1) (upd (upd (fun _=>k) 0 (k+1)) 1 (k+1)) (upd (upd (cellsQ q k) 0 (cellsQ q k 0++[.int .i64 n0,.int .i64 z0,.string ⟨t0.toArray⟩])) 1 (cellsQ q k 1++[.int .i64 n1,.int .i64 z1,.string ⟨t1.toArray⟩])) v2 W2:=by rw [←hW2];exact Q1.keep ((Below.refl _ X1).alloc (Nat.le_refl _) _)
   have B3_2:W2.heap[X1.heap.size]?=some (.cells #[.int .i64 n2,.int .i64 z2,.string ⟨t2.toArray⟩] 27 (0,0)):=by rw [←hW2];exact heap_alloc_new _ _
   clear hW2
   have s0:=Go.Joins.cell_of_block B3_2 0
   have s1:=Go.Joins.cell_of_block B3_2 1
   have s2:=Go.Joins.cell_of_block B3_2 2
   have cb:W2.cell? ⟨w.heap.size+1,2,none⟩=some (v2 2):=Go.Joins.cell_of_block R3_2.box 2
   have c5:(W2.alloc (.cells #[.int .i64 n2,.int .i64 z2,.string ⟨t2.toArray⟩] 27)).cell? ⟨w.heap.size+1,2,none⟩=some (v2 2):=(World.cell?_alloc_lt _ _ _ (World.block_lt_of_cell? W2 _ cb)).trans cb
   have hA:(W2.drew.alloc (.cells #[.int .i64 n2,.int .i64 z2,.string ⟨t2.toArray⟩] 27)).heap[W2.heap.size]?=some (.cells #[.int .i64 n2,.int .i64 z2,.string ⟨t2.toArray⟩] 27 (0,0)):=heap_alloc_new W2.drew _
   have R4:=R3_2.keep (((Below.refl _ W2).drew).alloc (Nat.le_refl _) (.cells #[.int .i64 n2,.int .i64 z2,.string ⟨t2.toArray⟩] 27))
   apply merge3 (fun g c W'=>Th3 (.int .i64 0) (.int .i64 0) (.int .i64 0) (w.alloc (.cells #[.slice none 0 0,.slice none 0 0,.slice none 0 0,.int .i64 0,.int .i64 0,.int .i64 0] 43)) (w.heap.size+1) (upd (upd (upd (fun _=>k) 0 (k+1)) 1 (k+1)) 2 (k+1)) (upd (upd (upd (cellsQ q k) 0 (cellsQ q k 0++[.int .i64 n0,.int .i64 z0,.string ⟨t0.toArray⟩])) 1 (cellsQ q k 1++[.int .i64 n1,.int .i64 z1,.string ⟨t1.toArray⟩])) 2 (cellsQ q k 2++[.int .i64 n2,.int .i64 z2,.string ⟨t2.toArray⟩])) (upd v2 2 (.slice (some ⟨g,0,none⟩) (k+1) c)) W')
   ·intro key
    go_region_law (refine step_append_lies _ rfl (.tmp 26) (.tmp 28) 30 rfl (w.heap.size+1+1) 27 i0 (.agg #[.int .i64 0,.int .i64 0,.string ⟨#[]⟩]) 3 32 Tryz.underlying30 hi0 hz0 hsz0 hby0 rfl (by decide) (v2 2) k (cellsQ q k 2) rfl (R4.own 2 (by decide)) ⟨W2.heap.size,0,none⟩ 1 1 [.int .i64 n2,.int .i64 z2,.string ⟨t2.toArray⟩] rfl rfl (World.news_of_block hA) oneC3 (by decide) (le63 hnk) (by omega) R4.si _ rfl (fun g4 cap4 w4 own4 gro4 lie4 lt4=>?_);have h4:=R4.far (i:=2) (by decide) gro4;have c4:=Go.Joins.cell_of_block h4 2;have f4:=Go.Joins.unfrozen_of_block h4 2)
    all_goals
     have R5:Th3 (.int .i64 0) (.int .i64 0) (.int .i64 0) (w.alloc (.cells #[.slice none 0 0,.slice none 0 0,.slice none 0 0,.int .i64 0,.int .i64 0,.int .i64 0] 43)) (w.heap.size+1) (upd (upd (upd (fun _=>k) 0 (k+1)) 1 (k+1)) 2 (k+1)) (upd (upd (upd (cellsQ q k) 0 (cellsQ q k 0++[.int .i64 n0,.int .i64 z0,.string ⟨t0.toArray⟩])) 1 (cellsQ q k 1++[.int .i64 n1,.int .i64 z1,.string ⟨t1.toArray⟩])) 2 (cellsQ q k 2++[.int .i64 n2,.int .i64 z2,.string ⟨t2.toArray⟩])) (upd v2 2 (.slice (some ⟨g4,0,none⟩) (k+1) cap4)) (w4.setCell ⟨w.heap.size+1,2,none⟩ (.slice (some ⟨g4,0,none⟩) (k+1) cap4)):=R4.push (i:=2) (by decide) own4 gro4 lie4
     obtain ⟨W5,hW5⟩:∃ W5,w4.setCell ⟨w.heap.size+1,2,none⟩ (.slice (some ⟨g4,0,none⟩) (k+1) cap4)=W5:=⟨_,rfl⟩
     rw [hW5] at R5 ⊢
     exact key.out g4 cap4 W5 R5
   clear s0 s1 s2 cb c5 hA R4
   intro g2 cap2 X2 Q2
   obtain ⟨v3,hv3⟩:∃ v',upd v2 2 (.slice (some ⟨g2,0,none⟩) (k+1) cap2)=v':=⟨_,rfl⟩
   rw [hv3] at Q2
   clear hv3
   go_wp2
   rw [rounds_succ]
   go_wp2
   go_roundg g
   case measure=>omega
   case rel=>exact ⟨k+1,v3,by simp,by omega,Q2.congr (fun i hi=>n3 k i hi) (fun i hi=>c3 a0 a1 a2 i hi)⟩
  ·obtain rfl:gk=0:=by omega
   obtain rfl:k=rows.length:=by omega
   clear hp hqa
   have k27:=e27 R
   clear e27
   have c0:wr.cell? ⟨w.heap.size+1,0,none⟩=some (v 0):=Go.Joins.cell_of_block R.box 0
   have c1:wr.cell? ⟨w.heap.size+1,1,none⟩=some (v 1):=Go.Joins.cell_of_block R.box 1
   have c2:wr.cell? ⟨w.heap.size+1,2,none⟩=some (v 2):=Go.Joins.cell_of_block R.box 2
   have c3:wr.cell? ⟨w.heap.size+1,3,none⟩=some (.int .i64 0):=Go.Joins.cell_of_block R.box 3
   have c4:wr.cell? ⟨w.heap.size+1,4,none⟩=some (.int .i64 0):=Go.Joins.cell_of_block R.box 4
   have c5:wr.cell? ⟨w.heap.size+1,5,none⟩=some (.int .i64 0):=Go.Joins.cell_of_block R.box 5
   have hsi:=R.si
   go_wp2_with (go_at_call 27;refine k27.mono ?_;rintro e w5 ⟨p0,p1,p2,l0,l1,l2,r0,r1,r2,U',rfl,hb5,g1,g2,g3⟩;have hres:=(hb5.block w.heap.size (by omega)).trans R.res0;have d0:=Go.Joins.cell_of_block hres 0;have d1:=Go.Joins.cell_of_block hres 1;have d2:=Go.Joins.cell_of_block hres 2;have d3:=Go.Joins.cell_of_block hres 3;have d4:=Go.Joins.cell_of_block hres 4;have d5:=Go.Joins.cell_of_block hres 5;have z0:=Go.Joins.unfrozen_of_block hres 0;have z1:=Go.Joins.unfrozen_of_block hres 1;have z2:=Go.Joins.unfrozen_of_block hres 2;have z3:=Go.Joins.unfrozen_of_block hres 3;have z4:=Go.Joins.unfrozen_of_block hres 4;have z5:=Go.Joins.unfrozen_of_block hres 5)
   have hb6:=(setC_same (i:=5) (v:=(.int .i64 y2)) (setC_same (i:=4) (v:=(.int .i64 y1)) (setC_same (i:=3) (v:=(.int .i64 y0)) (setC_same (i:=2) (v:=(.slice p2 l2 r2)) (setC_same (i:=1) (v:=(.slice p1 l1 r1)) (setC_same (i:=0) (v:=(.slice p0 l0 r0)) hres))))))
   have hbe:Below w.heap.size w ((((((w5.setCell ⟨w.heap.size,0,none⟩ (.slice p0 l0 r0)).setCell ⟨w.heap.size,1,none⟩ (.slice p1 l1 r1)).setCell ⟨w.heap.size,2,none⟩ (.slice p2 l2 r2)).setCell ⟨w.heap.size,3,none⟩ (.int .i64 y0)).setCell ⟨w.heap.size,4,none⟩ (.int .i64 y1)).setCell ⟨w.heap.size,5,none⟩ (.int .i64 y2)):=(((((((R.be0.trans (hb5.mono (by omega))).setCell (p:=⟨w.heap.size,0,none⟩) (Nat.le_refl _) _).setCell (p:=⟨w.heap.size,1,none⟩) (Nat.le_refl _) _).setCell (p:=⟨w.heap.size,2,none⟩) (Nat.le_refl _) _).setCell (p:=⟨w.heap.size,3,none⟩) (Nat.le_refl _) _).setCell (p:=⟨w.heap.size,4,none⟩) (Nat.le_refl _) _).setCell (p:=⟨w.heap.size,5,none⟩) (Nat.le_refl _) _)
   have hold:∀ b,b≠w.heap.size→((((((w5.setCell ⟨w.heap.size,0,none⟩ (.slice p0 l0 r0)).setCell ⟨w.heap.size,1,none⟩ (.slice p1 l1 r1)).setCell ⟨w.heap.size,2,none⟩ (.slice p2 l2 r2)).setCell ⟨w.heap.size,3,none⟩ (.int .i64 y0)).setCell ⟨w.heap.size,4,none⟩ (.int .i64 y1)).setCell ⟨w.heap.size,5,none⟩ (.int .i64 y2)).heap[b]?=w5.heap[b]?:=fun b hb=>((setC_other hb).trans ((setC_other hb).trans ((setC_other hb).trans ((setC_other hb).trans ((setC_other hb).trans ((setC_other hb).trans rfl))))))
   have hsz:((((((w5.setCell ⟨w.heap.size,0,none⟩ (.slice p0 l0 r0)).setCell ⟨w.heap.size,1,none⟩ (.slice p1 l1 r1)).setCell ⟨w.heap.size,2,none⟩ (.slice p2 l2 r2)).setCell ⟨w.heap.size,3,none⟩ (.int .i64 y0)).setCell ⟨w.heap.size,4,none⟩ (.int .i64 y1)).setCell ⟨w.heap.size,5,none⟩ (.int .i64 y2)).heap.size=w5.heap.size:=by simp [World.setCell]
   refine ⟨rfl,_,results_cell_row (p:=2) (ty:=43) Tryz.results88 _ _ w.heap.size 43 _ (0,0) _ rfl hb6 Tryz.underlying43 rfl (by kernel_rfl),?_⟩
   refine ⟨_,U',[],rfl,hbe,g1,fun b h=>⟨by rw [hsz];exact (g2 b h).1,(g2 b h).2.imp id Nat.le_of_lt⟩,List.nodup_nil,by simp,?_⟩
   show RvR _ U' (.agg ([x0,x1,x2,il y0,il y1,il y2].map RC.d)) _ []
   refine ⟨_,rfl,RcF_of (FR.mono (w:=w5) (U:=U') (fun b h=>hold b fun e=>?_) (fun _ h=>h) _ _ g3)⟩
   subst e
   rcases (g2 _ h).2 with h | h
   ·exact absurd (hU _ h) (Nat.lt_irrefl _)
   ·omega
end Go.VE
