/- Book: records sorted, walked. -/
import Derived.Test.YtipddjojdgapiaaGreatDoorMg2
import Derived.Shelf.SlSortCmp.NoneTotal
namespace Go.VE
open Go.RowKit Go.Proofs Go.Shelf Go.Lib
set_option maxRecDepth 100000
set_option maxHeartbeats 1500000
instance:Inhabited Rec:=⟨zeroR⟩
def encR (r:Rec):List Value:=[.int .i64 r.p,.int .i64 r.no,.int .i64 r.kd,.int .i64 r.dy,.int .i64 r.kn,.int .i64 r.op,.int .i64 r.on,.string ⟨r.tx.toArray⟩]
def cfR (x y:Rec):Int:=cmpR x.p x.no y.p y.no
theorem grow_two (W:World) (A B:Obj) (k:Nat) (os:Array Obj):Sort.grow (((W.alloc A).alloc B).drewN k) os=Sort.grow (W.drewN k) (#[A,B]++os):=by
 unfold Sort.grow World.drewN World.alloc
 simp only [World.mk.injEq,and_true]
 apply Array.ext'
 simp
theorem item123 (x y:Rec) (W:World):Calls Tryz.prog 123 #[.agg (encR x).toArray,.agg (encR y).toArray] W fun e w'=>e=.returned (.int .i64 (cfR x y))∧∃ q os',w'=Sort.grow (W.drewN q) os':=by
 unfold encR cfR
 go_enter Tryz.func123,Tryz.ntmps123
 go_wp2_with (go_at_call 147;refine (cmp147 x.p x.no y.p y.no _).mono ?_;rintro e w' ⟨rfl,k,os,rfl⟩)
 go_ret
 exact ⟨rfl,k,_,grow_two _ _ _ _ _⟩
theorem cl123 (blk off size:Nat) (w:World):CmpLays Tryz.prog 123 #[] encR 8 cfR blk off size w:=fun _ _ _ _ x y=>item123 x y _
theorem lt_bef (x y:Rec):ltOf cfR x y=decide (bef x y):=by
 unfold ltOf cfR cmpR orI cmpI bef
 by_cases h1:x.p < y.p
 ·simp [h1]
 ·by_cases h2:y.p < x.p
  ·have:¬ x.p=y.p:=by omega
   simp [h1,h2,this]
  ·have h3:x.p=y.p:=by omega
   by_cases h4:x.no < y.no
   ·simp [h3,h4]
   ·by_cases h5:y.no < x.no<;>simp [h3,h4,h5]
theorem swoR:Sort.SWO (ltOf cfR) where
 irrefl x:=by rw [lt_bef];simp [bef]
 trans x y z h1 h2:=by
  rw [lt_bef,decide_eq_true_eq] at *
  exact bef_trans h1 h2
 ntrans x y z h1 h2:=by
  rw [lt_bef,decide_eq_false_iff_not] at *
  unfold bef at *
  omega
theorem ins_ok:∀ (l acc:List Rec),acc.Pairwise bef→(∀ x∈acc,∀ y∈l,x.p≠y.p∨x.no≠y.no)→l.Pairwise (fun x y=>x.p≠y.p∨x.no≠y.no)→(l.foldl put acc).Pairwise bef∧(l.foldl put acc).Perm (acc++l)
 | [],acc,h,_,_=>⟨h,by simp⟩
 | r::l,acc,h,hd,hl=>by
  rw [List.pairwise_cons] at hl
  have h1:=put_sorted r h fun x hx=>hd x hx r (by simp)
  have h2:=ins_ok l (put acc r) h1 (fun x hx y hy=>by
   rcases List.mem_cons.1 ((put_perm r acc).mem_iff.1 hx) with rfl | hx
   ·exact hl.1 y hy
   ·exact hd x hx y (by simp [hy])) hl.2
  exact ⟨h2.1,h2.2.trans (((put_perm r acc).append_right l).trans (by simpa using (List.perm_middle (l₁:=acc) (a:=r) (l₂:=l)).symm))⟩
theorem insort_ok {l:List Rec} (h:diffK l=true):(insort l).Pairwise bef∧(insort l).Perm l:=by
 have:=ins_ok l [] List.Pairwise.nil (by simp) (by simpa [diffK] using h)
 simpa [insort] using this
theorem enc_at {w:World} {U:Nat→Prop} {r:Rec} {c:Nat} (hc:c < 8) {x:D} (hx:(recR r)[c]?=some x) {u:Value} (h:DR w U x u):u=(encR r)[c]! := by
 match c,hc with
 | 0,_=>simp [recR] at hx;subst hx;exact il_v h
 | 1,_=>simp [recR] at hx;subst hx;exact il_v h
 | 2,_=>simp [recR] at hx;subst hx;exact il_v h
 | 3,_=>simp [recR] at hx;subst hx;exact il_v h
 | 4,_=>simp [recR] at hx;subst hx;exact il_v h
 | 5,_=>simp [recR] at hx;subst hx;exact il_v h
 | 6,_=>simp [recR] at hx;subst hx;exact il_v h
 | 7,_=>simp [recR] at hx;subst hx;exact sD_v h
theorem enc_of {w:World} {U:Nat→Prop} (r:Rec) {c:Nat} {x:D} (hx:(recR r)[c]?=some x):DR w U x (encR r)[c]! := by
 match c,hx with
 | 0,hx=>simp [recR] at hx;subst hx;exact ⟨rfl,rfl⟩
 | 1,hx=>simp [recR] at hx;subst hx;exact ⟨rfl,rfl⟩
 | 2,hx=>simp [recR] at hx;subst hx;exact ⟨rfl,rfl⟩
 | 3,hx=>simp [recR] at hx;subst hx;exact ⟨rfl,rfl⟩
 | 4,hx=>simp [recR] at hx;subst hx;exact ⟨rfl,rfl⟩
 | 5,hx=>simp [recR] at hx;subst hx;exact ⟨rfl,rfl⟩
 | 6,hx=>simp [recR] at hx;subst hx;exact ⟨rfl,rfl⟩
 | 7,hx=>simp [recR] at hx;subst hx;exact ⟨rfl,rfl⟩
 | c+8,hx=>simp [recR] at hx
theorem holds_of {w:World} {U:Nat→Prop} {b t:Nat} {cur:Array Value} {l:List Rec} (hb:w.heap[b]?=some (.cells cur t (0,0))) (h:RR w U b 0 8 (l.map recR)):Sort.HoldsK encR 8 w b 0 l.toArray:=by
 intro j hj
 refine ⟨?_,Go.Joins.unfrozen_of_block hb _⟩
 rw [Sort.size_flatK,List.size_toArray] at hj
 rw [Sort.get_flatK _ _ _ _ (by rw [List.size_toArray];exact hj)]
 have hi:j / 8 < l.length:=by omega
 have hc:j % 8 < 8:=by omega
 have h1:=h.at_ (i:=j / 8) (r:=recR l[j / 8]) (by rw [List.getElem?_map,List.getElem?_eq_getElem hi];rfl)
 have hx:(recR l[j / 8])[j % 8]?=some ((recR l[j / 8])[j % 8]'(by show j % 8 < 8;omega)):=List.getElem?_eq_getElem _
 obtain ⟨u,h2,h3⟩:=h1.2.at_ hx
 rw [enc_at hc hx h3] at h2
 have e:(l.toArray)[j / 8]! = l[j / 8]:=by rw [getElem!_pos _ _ (by rw [List.size_toArray];exact hi)];simp
 rw [e]
 show w.cell? ⟨b,0+j,none⟩=some (encR l[j / 8])[j % 8]!
 rw [←h2]
 congr 2
 omega
theorem rows_of {w:World} {U:Nat→Prop} {b:Nat} {d:Array Rec} (h:Sort.HoldsK encR 8 w b 0 d):RR w U b 0 8 (d.toList.map recR):=by
 refine RR.mk fun i r hr=>?_
 rw [List.getElem?_map] at hr
 obtain ⟨x,hx,rfl⟩:=Option.map_eq_some_iff.1 hr
 have hi:i < d.size:=by
  have:=(List.getElem?_eq_some_iff.1 hx).1
  simpa using this
 have e:d[i]! = x:=by
  rw [getElem!_pos d i hi]
  have:=(List.getElem?_eq_some_iff.1 hx).2
  simpa using this
 refine ⟨rfl,CR.mk fun j y hy=>?_⟩
 have hj:j < 8:=by
  have:=(List.getElem?_eq_some_iff.1 hy).1
  exact this
 have:=(h.cell hi hj).1
 rw [e] at this
 exact ⟨_,this,enc_of x hy⟩
theorem sort_below {w:World} {b n B:Nat} {d:Array Rec} {os:Array Obj} (hB:B≤b) (hs:B≤w.heap.size):Below B w (sortWorldK encR 8 w b 0 n d os):=by
 refine ⟨rfl,rfl,rfl,?_,fun k hk=>?_⟩
 ·show w.heap.size≤((w.heap.modify b _)++os).size
  rw [Array.size_append,Array.size_modify]
  omega
 ·show ((w.heap.modify b _)++os)[k]?=w.heap[k]?
  rw [Array.getElem?_append,if_pos (by rw [Array.size_modify];omega),Array.getElem?_modify,if_neg (by omega)]
theorem diff_perm {l m:List Rec} (hp:m.Perm l) (h:diffK l=true):m.Pairwise fun x y=>x.p≠y.p∨x.no≠y.no:=by
 have h':l.Pairwise fun x y=>x.p≠y.p∨x.no≠y.no:=by simpa [diffK] using h
 exact (hp.pairwise_iff (fun {x y} h=>by omega)).2 h'
theorem sorted_of {l:List Rec} {d':Array Rec} (hp:Sort.PermIn 0 l.toArray.size l.toArray d') (hs:Sort.SortedIn (ltOf cfR) 0 l.toArray.size d') (hd:diffK l=true):d'.toList=insort l:=by
 obtain ⟨h1,_,h3⟩:=hp
 have e1:d'.extract 0 l.toArray.size=d':=by rw [←h1,Array.extract_size]
 have e2:l.toArray.extract 0 l.toArray.size=l.toArray:=Array.extract_size
 rw [e1,e2] at h3
 have hpm:d'.toList.Perm l:=by simpa using h3
 have hdp:=diff_perm hpm hd
 have hso:d'.toList.Pairwise bef:=by
  rw [List.pairwise_iff_getElem] at hdp ⊢
  intro i j hi hj hij
  have hlt:j < l.toArray.size:=by rw [←h1];simpa using hj
  have:=hs i j (Nat.zero_le _) hij hlt
  rw [lt_bef,decide_eq_false_iff_not,getElem!_pos d' j (by simpa using hj),getElem!_pos d' i (by simpa using hi)] at this
  have hk:=hdp i j hi hj hij
  simp only [Array.getElem_toList] at hk ⊢
  exact bef_total this (by omega)
 have ho:=insort_ok hd
 exact sorted_eq hso ho.1 (hpm.trans ho.2.symm)
theorem sc121 {Fn:Nat→List D→Out} (hF:FnOK Tryz.prog CF Fn) {x:D} {l:List Rec} (h83:Fn 83 [x]=some (0,[.r (l.map recR)])) (hl:l.length≤1000) (hd:diffK l=true):SC Tryz.prog 121 [.one x] (.one (.d (.sl 8 ((insort l).map recR)))):=by
 refine ⟨enters_of Tryz.func121 (by kernel_rfl) rfl,fun w U vs hU hX hv=>?_⟩
 obtain ⟨v,g1,g2⟩:=one_v hv
 rw [arr_of g1]
 have s83:=sc_of hF (f:=83) (sh:=[.one]) (xs:=[x]) (vs:=[.one x]) (rs:=[(false,[.own 8 25])]) rfl rfl h83 rfl
 have k83:Calls Tryz.prog 83 #[v] w fun e w'=>∃ (b cap:Nat) (U':Nat→Prop),e=.returned (.slice (some ⟨b,0,none⟩) l.length cap)∧Below w.heap.size w w'∧(∀ b,U b→U' b)∧(∀ b,U' b→b < w'.heap.size∧(U b∨w.heap.size≤b))∧w.heap.size≤b∧b < w'.heap.size∧l.length≤cap∧cap≤maxLen∧Sort.HoldsK encR 8 w' b 0 l.toArray:=by
  refine (s83.2 w U #[v] hU hX ⟨_,_,rfl,g2,rfl⟩).mono ?_
  rintro e w1 ⟨v1,U1,bs,rfl,b1,e1,e2,e3,e4,hr⟩
  have hr':RvR w1 U1 (.one (.own (l.map recR) 8 25)) v1 bs:=hr
  obtain ⟨b,cap,cur,rfl,rfl,e5,e6,e7,e8,e9⟩:=hr'
  have hbx:=e4 b (by simp)
  rw [List.length_map] at e6 ⊢
  exact ⟨b,cap,U1,rfl,b1,e1,e2,hbx.1,hbx.2.1,e6,e7,holds_of e5 e9⟩
 have k146:∀ (b cap:Nat) (W:World),b < W.heap.size→Sort.HoldsK encR 8 W b 0 l.toArray→Calls Tryz.prog 146 #[.slice (some ⟨b,0,none⟩) l.length cap,.func (.func 123) #[] #[]] W fun e w'=>e=.returned (.tuple #[])∧∃ d' n os,d'.toList=insort l∧d'.size=l.length∧w'=sortWorldK encR 8 W b 0 n d' os:=fun b cap W hb hH=>by
  have eg:∀ args w,(callFunc 123 args).run Tryz.prog w=.ok (.enter 123 args) w:=enters_of Tryz.func123 (by kernel_rfl) rfl
  have hcon:=AnyQ.slices_SortFunc Tryz.sortRec 8 Tryz.isAgg25 Tryz.sizeOf25 encR (fun _=>rfl) (fun r v hv=>by simp [encR] at hv;rcases hv with rfl | rfl | rfl | rfl | rfl | rfl | rfl | rfl<;>rfl) cfR swoR 123 #[] b 0 cap l.toArray W eg (cl123 b 0 _ W) hH hb (by rw [List.size_toArray];omega)
  change Calls Tryz.prog 146 _ _ _ at hcon
  rw [List.size_toArray] at hcon
  refine hcon.mono ?_
  rintro e w' ⟨he,d',n,os,hp,hs,hw⟩
  refine ⟨he,d',n,os,sorted_of (by rw [List.size_toArray];exact hp) (by rw [List.size_toArray];exact hs) hd,by rw [hp.1,List.size_toArray],hw⟩
 clear s83
 go_enter Tryz.func121,Tryz.ntmps121
 go_wp2_with (first
  | (go_at_call 83;refine k83.mono ?_;rintro e w1 ⟨b,cap,U1,rfl,b1,e1,e2,e3,e4,e5,e6,hH⟩)
  | (go_at_call 146;refine (k146 b cap w1 e4 hH).mono ?_;rintro e w2 ⟨rfl,d',n,os,hd1,hd2,rfl⟩))
 go_ret
 have b2:Below w.heap.size w1 (sortWorldK encR 8 w1 b 0 n d' os):=sort_below e3 b1.size
 have hH2:Sort.HoldsK encR 8 (sortWorldK encR 8 w1 b 0 n d' os) b 0 d':=by
  refine Sort.holdsK_grow _ _ _ _ _ _ _ ?_ (Sort.holdsK_putRowK _ _ _ _ _ _ _ (Sort.holdsK_ahead _ _ _ _ _ _ _ hH) (by rw [hd2,List.size_toArray]))
  show b < (w1.heap.modify b _).size
  rw [Array.size_modify]
  exact e4
 refine ⟨_,fun y=>U1 y∨y=b,[],rfl,b1.trans b2,fun y hy=>.inl (e1 y hy),?_,List.nodup_nil,by simp,rfl,?_⟩
 ·rintro y (hy | rfl)
  ·exact ⟨Nat.lt_of_lt_of_le (e2 y hy).1 b2.size,(e2 y hy).2⟩
  ·exact ⟨Nat.lt_of_lt_of_le e4 b2.size,.inr e3⟩
 ·have hlen:(insort l).length=l.length:=by rw [←hd1,Array.length_toList,hd2]
  simp only [DR,List.length_map,hlen]
  refine ⟨_,cap,rfl,e5,e6,fun _=>⟨b,0,rfl,.inr rfl,?_⟩⟩
  rw [←hd1]
  exact rows_of hH2
theorem sc121n {Fn:Nat→List D→Out} (hF:FnOK Tryz.prog CF Fn) (h83:Fn 83 [.lit (.slice none 0 0)]=some (1,[.d (.lit (.slice none 0 0))])):SC Tryz.prog 121 [.one (.lit (.slice none 0 0))] (.one (.d (.lit (.slice none 0 0)))):=by
 refine ⟨enters_of Tryz.func121 (by kernel_rfl) rfl,fun w U vs hU hX hv=>?_⟩
 obtain ⟨v,g1,g2⟩:=one_v hv
 rw [arr_of g1,g2.1]
 have s83:=sc_of hF (f:=83) (sh:=[.one]) (xs:=[.lit (.slice none 0 0)]) (vs:=[.one (.lit (.slice none 0 0))]) (rs:=[(false,[.d])]) rfl rfl h83 rfl
 have k83:Calls Tryz.prog 83 #[.slice none 0 0] w fun e w'=>e=.returned (.slice none 0 0)∧Below w.heap.size w w':=by
  refine (s83.2 w U _ hU hX ⟨_,_,rfl,⟨rfl,rfl⟩,rfl⟩).mono ?_
  rintro e w1 ⟨v1,U1,bs,rfl,b1,_,_,_,_,hr⟩
  have hr':RvR w1 U1 (.one (.d (.lit (.slice none 0 0)))) v1 bs:=hr
  exact ⟨by rw [hr'.2.1],b1⟩
 have k146:=fun W=>AnyF.slices_SortFunc_none Tryz.sortRec none 0 (.func (.func 123) #[] #[]) W
 change ∀ W,Calls Tryz.prog 146 _ _ _ at k146
 clear s83
 go_enter Tryz.func121,Tryz.ntmps121
 go_wp2_with (first
  | (go_at_call 83;refine k83.mono ?_;rintro e w1 ⟨rfl,b1⟩)
  | (go_at_call 146;refine (k146 _).mono ?_;rintro e w2 ⟨rfl,rfl⟩))
 go_ret
 exact post_lit hU b1 ⟨rfl,rfl,rfl⟩
theorem ok121 {Fn:Nat→List D→Out} (hF:FnOK Tryz.prog CF Fn) {xs:List D} {vs:List VD} {j:Nat} {ys:List Yr} {rs:RS} {sh:List Sh} (h1:CF.ash 121=some sh) (h2:vdsOf sh xs=some vs) (h3:tSorted Fn xs=some (j,ys)) (h4:(CF.rsk 121)[j]?=some rs):SC Tryz.prog 121 vs (pack (rvsAt ys rs 0)):=by
 unfold tSorted at h3
 split at h3
 ·rename_i x
  cases h1
  cases h2
  split at h3
  ·rename_i y h83
   split at h3
   ·rename_i hn
    rw [dNil_some hn.1,dNil_some hn.2] at h83
    rw [dNil_some hn.1]
    cases h3
    cases h4
    exact sc121n hF h83
   ·cases h3
  ·rename_i rows h83
   split at h3
   ·cases h3
   split at h3
   ·rename_i hl
    split at h3
    ·cases h3
    rename_i l hl2
    split at h3
    ·rename_i hd
     cases h3
     cases h4
     rw [recsD_some hl2] at h83 hl
     exact sc121 hF h83 (by rwa [List.length_map] at hl) hd
    ·cases h3
   ·cases h3
  ·cases h3
 ·cases h3
end Go.VE
namespace Go.VE
open Go.RowKit Go.Proofs Go.Shelf Go.Lib
set_option maxRecDepth 100000
set_option maxHeartbeats 2000000
def readV:Option Rec→Value
 | some r=>.tuple #[.agg (encR r).toArray,.bool true]
 | none=>.tuple #[.agg (encR zeroR).toArray,.bool false]
def boxR (l:List Nat):Array Value:=(l.map (fun n:Nat=>Value.int .i64 n)++List.replicate (7 - l.length) (Value.int .i64 0)++[Value.string ⟨#[]⟩]).toArray
theorem boxR_size {l:List Nat} (h:l.length≤7):(boxR l).size=8:=by
 simp [boxR];omega
theorem arr8 {A:Array Value} (h:A.size=8):∃ x0 x1 x2 x3 x4 x5 x6 x7,A=#[x0,x1,x2,x3,x4,x5,x6,x7]:=by
 obtain ⟨l⟩:=A
 match l,h with
 | [x0,x1,x2,x3,x4,x5,x6,x7],_=>exact ⟨x0,x1,x2,x3,x4,x5,x6,x7,rfl⟩
theorem boxR_at {l:List Nat} (h:l.length < 7):(boxR l)[l.length]?=some (.int .i64 0):=by
 unfold boxR
 rw [List.getElem?_toArray,List.append_assoc,List.getElem?_append_right (by simp),show 7 - l.length=(7 - (l.length+1))+1 by omega,List.replicate_succ]
 simp
theorem boxR_set {l:List Nat} (h:l.length < 7) (n:Nat):(boxR l).setIfInBounds l.length (.int .i64 n)=boxR (l++[n]):=by
 unfold boxR
 rw [List.setIfInBounds_toArray]
 congr 1
 rw [List.append_assoc,List.set_append_right _ _ (by simp),show 7 - l.length=(7 - (l.length+1))+1 by omega,List.replicate_succ]
 simp
structure Rd (s:List UInt8) (w:World) (l:List Nat) (t:List UInt8) (wr:World):Prop where
 le:l.length≤7
 nums:numsG numA 7 s=(numsG numA (7 - l.length) t).map fun x=>(l++x.1,x.2)
 tl:t.length≤s.length
 box:wr.heap[w.heap.size]?=some (.cells (boxR l) 25 (0,0))
 err:wr.heap[w.heap.size+1]?=some (.cells #[.bool false] 4 (0,0))
 be:Below w.heap.size w wr
 si:w.heap.size+1+1≤wr.heap.size
theorem Rd.keep {s:List UInt8} {w:World} {l:List Nat} {t:List UInt8} {wr w1:World} (R:Rd s w l t wr) (hb:Below wr.heap.size wr w1):Rd s w l t w1:=by
 have:=R.si
 exact ⟨R.le,R.nums,R.tl,(hb.block _ (by omega)).trans R.box,(hb.block _ (by omega)).trans R.err,R.be.trans (hb.mono (by omega)),Nat.le_trans R.si hb.size⟩
theorem Rd.start (s:List UInt8) (w:World):Rd s w [] s ((w.alloc (.cells #[.int .i64 0,.int .i64 0,.int .i64 0,.int .i64 0,.int .i64 0,.int .i64 0,.int .i64 0,.string ⟨#[]⟩] 25)).alloc (.cells #[.bool false] 4)):=by
 refine ⟨by decide,?_,Nat.le_refl _,?_,heap_alloc2_new _ _ _,((Below.refl _ w).alloc (Nat.le_refl _) _).alloc (by simp) _,by simp⟩
 ·cases numsG numA 7 s<;>rfl
 ·rw [heap_alloc_old _ _ (by simp)];exact heap_alloc_new _ _
theorem nums_step {t a r:List UInt8} {n k:Nat} (hc:cutSp t=some (a,r)) (hn:numA a=some n):numsG numA (k+1) t=(numsG numA k r).map fun x=>(n::x.1,x.2):=by
 rw [numsG,hc]
 simp only [hn]
theorem nums_bad {t:List UInt8} {k:Nat} (hc:cutSp t=none∨∃ a r,cutSp t=some (a,r)∧numA a=none):numsG numA (k+1) t=none:=by
 rw [numsG]
 rcases hc with hc | ⟨a,r,hc,hn⟩
 ·rw [hc]
 ·rw [hc]
  simp only [hn]
theorem Rd.next {s:List UInt8} {w:World} {l:List Nat} {t a r:List UInt8} {n:Nat} {wr:World} (R:Rd s w l t wr) (hl:l.length < 7) (hc:cutSp t=some (a,r)) (hn:numA a=some n):Rd s w (l++[n]) r (wr.setCell ⟨w.heap.size,l.length,none⟩ (.int .i64 n)):=by
 have hs:=R.si
 have ht:r.length≤t.length:=by
  rw [(cut_inv t a r hc).1]
  simp only [List.length_append,List.length_cons];omega
 refine ⟨by simp;omega,?_,Nat.le_trans ht R.tl,?_,(setC_other (by omega)).trans R.err,R.be.setCell (p:=⟨w.heap.size,l.length,none⟩) (Nat.le_refl _) _,by simpa [World.setCell] using hs⟩
 ·rw [R.nums,show 7 - l.length=(7 - (l.length+1))+1 by omega,nums_step hc hn,List.length_append,List.length_singleton]
  cases numsG numA (7 - (l.length+1)) r<;>simp
 ·have:=setC_same (i:=l.length) (v:=.int .i64 n) R.box
  rwa [boxR_set hl] at this
theorem Rd.bad {s:List UInt8} {w:World} {l:List Nat} {t:List UInt8} {wr:World} (R:Rd s w l t wr) (hl:l.length < 7) (hc:cutSp t=none∨∃ a r,cutSp t=some (a,r)∧numA a=none):numsG numA 7 s=none:=by
 rw [R.nums,show 7 - l.length=(7 - (l.length+1))+1 by omega,nums_bad hc]
 rfl
theorem Rd.done {s:List UInt8} {w:World} {l:List Nat} {t:List UInt8} {wr:World} (R:Rd s w l t wr) (hl:l.length=7):numsG numA 7 s=some (l,t):=by
 have:=R.nums
 rw [hl] at this
 rw [this]
 simp [numsG]
theorem ix197 (B:Nat) {i:Nat} (hi:i < 7) (W:World):(Instr.index 197 (.agg #[.pointer (some ⟨B,0,none⟩),.pointer (some ⟨B,1,none⟩),.pointer (some ⟨B,2,none⟩),.pointer (some ⟨B,3,none⟩),.pointer (some ⟨B,4,none⟩),.pointer (some ⟨B,5,none⟩),.pointer (some ⟨B,6,none⟩)]) (.int .i64 i)).run Tryz.prog W=.ok (.pointer (some ⟨B,i,none⟩)) W:=by
 have hu:Tryz.prog.underlying 197=some (.array 7 196):=by kernel_rfl
 have hs:sizeC Tryz.prog 196=some 1:=by kernel_rfl
 have hg:aggC Tryz.prog 196=some false:=by kernel_rfl
 have hp:=part_ok (P:=Tryz.prog) (w:=W) (t:=196) (s:=1) (off:=i*1) (us:=[.pointer (some ⟨B,0,none⟩),.pointer (some ⟨B,1,none⟩),.pointer (some ⟨B,2,none⟩),.pointer (some ⟨B,3,none⟩),.pointer (some ⟨B,4,none⟩),.pointer (some ⟨B,5,none⟩),.pointer (some ⟨B,6,none⟩)]) hs (by rw [hg];rfl) (.inr rfl) (by simp;omega)
 have h1:(0:Int)≤(i:Int)∧(i:Int) < ((7:Nat):Int):=by omega
 simp only [Instr.index,asIntOf,Sem.run_bind,Sem.run_pure,Result.andThen_ok,run_underlying hu,Sem.run_ite]
 rw [if_pos h1]
 simp only [Sem.run_bind,r_sizeOf hs,Result.andThen_ok,Int.toNat_natCast]
 rw [hp]
 unfold mkVal
 rw [hg]
 congr 1
 match i,hi with
 | 0,_=>rfl
 | 1,_=>rfl
 | 2,_=>rfl
 | 3,_=>rfl
 | 4,_=>rfl
 | 5,_=>rfl
 | 6,_=>rfl
theorem settle_r (v:Value):settle (.panicking [{ v:=v,recovered:=true }])=.returning:=by simp [settle]
theorem leave86 {T:Array Value} {W:World} {R:Ending→World→Prop} {cs:Array Value} {y:Bool} {b c:Nat} (h2:T.getD 2 undef=.pointer (some ⟨b,0,none⟩)) (h3:T.getD 3 undef=.pointer (some ⟨c,0,none⟩))
  (hb:W.heap[b]?=some (.cells cs 25 (0,0))) (hs:cs.size=8) (hc:W.heap[c]?=some (.cells #[.bool y] 4 (0,0))) (hR:R (.returned (.tuple #[.agg cs,.bool y])) W):Leaves Tryz.prog Tryz.f86 T R [] .returning W:=by
 have h2':T[2]?.getD undef=.pointer (some ⟨b,0,none⟩):=by simpa using h2
 have h3':T[3]?.getD undef=.pointer (some ⟨c,0,none⟩):=by simpa using h3
 have hl:=run_loadVar_row (P:=Tryz.prog) W b 25 25 cs (0,0) _ hb Tryz.underlying25 rfl (by rw [hs];kernel_rfl)
 have hy:W.cell? ⟨c,0,none⟩=some (.bool y):=Go.Joins.cell_of_block hc 0
 have hl4:(loadVar 4 ⟨c,0,none⟩).run Tryz.prog W=.ok (.bool y) W:=by simp [go_sem,hy]
 refine ⟨_,?_,hR⟩
 simp [results,Tryz.results86,h2',h3',asAddr,hl,hl4,Sem.run_bind]
end Go.VE
namespace Go.VE
open Go.RowKit Go.Proofs Go.Shelf Go.Lib
set_option maxRecDepth 100000
set_option maxHeartbeats 1500000
theorem cLit {f:Nat} {args:List VD} {x:Value} (h:SC Tryz.prog f args (.one (.d (.lit x)))) {w:World} {U:Nat→Prop} (hU:∀ b,U b→b < w.heap.size) (hX:XX w U) {vs:Array Value} (hv:VDF w U args vs.toList):Calls Tryz.prog f vs w fun e w'=>e=.returned x∧Below w.heap.size w w':=by
 refine (h.2 w U vs hU hX hv).mono ?_
 rintro e w' ⟨v,U',bs,rfl,hb,_,_,_,_,hr⟩
 obtain ⟨_,h2,_⟩:=hr
 exact ⟨by rw [h2],hb⟩
abbrev strR (n:Int) (z:Int) (t:List UInt8):List D:=[il n,il z,sD t]
theorem RcF_d {w:World} {U:Nat→Prop}:∀ {xs:List D} {vs:List Value} {bs:List Nat},RcF w U (xs.map .d) vs bs→FR w U xs vs∧bs=[]
 | [],vs,bs,h=>by simpa [RcF,FR] using h
 | x::xs,vs,bs,h=>by
  obtain ⟨v,vs',b1,b2,rfl,rfl,⟨rfl,h1⟩,h2⟩:=h
  obtain ⟨h3,rfl⟩:=RcF_d h2
  exact ⟨⟨v,vs',rfl,h1,h3⟩,rfl⟩
theorem nine_v {w:World} {U:Nat→Prop} {n0 z0 n1 z1 n2 z2:Int} {t0 t1 t2:List UInt8} {cs:Array Value} (h:FR w U (strR n0 z0 t0++strR n1 z1 t1++strR n2 z2 t2) cs.toList):cs=#[.int .i64 n0,.int .i64 z0,.string ⟨t0.toArray⟩,.int .i64 n1,.int .i64 z1,.string ⟨t1.toArray⟩,.int .i64 n2,.int .i64 z2,.string ⟨t2.toArray⟩]:=by
 simp only [strR,List.cons_append,List.nil_append,FR] at h
 obtain ⟨_,_,e1,g1,_,_,rfl,g2,_,_,rfl,g3,_,_,rfl,g4,_,_,rfl,g5,_,_,rfl,g6,_,_,rfl,g7,_,_,rfl,g8,_,_,rfl,g9,rfl⟩:=h
 rw [il_v g1,il_v g2,sD_v g3,il_v g4,il_v g5,sD_v g6,il_v g7,il_v g8,sD_v g9] at e1
 exact arr_of e1
theorem c71 {Fn:Nat→List D→Out} (hF:FnOK Tryz.prog CF Fn) {r:Rec} {no:Int} {ys:List Yr} {n0 z0 n1 z1 n2 z2:Int} {t0 t1 t2:List UInt8} (h:outS (Fn 71 (recR r++[il no]))=some ys) (h2:stripD ys=some (n0,z0,t0,n1,z1,t1,n2,z2,t2)) {w:World} {U:Nat→Prop} (hU:∀ b,U b→b < w.heap.size) (hX:XX w U) :
  Calls Tryz.prog 71 #[.agg #[.int .i64 r.p,.int .i64 r.no,.int .i64 r.kd,.int .i64 r.dy,.int .i64 r.kn,.int .i64 r.op,.int .i64 r.on,.string ⟨r.tx.toArray⟩],.int .i64 no] w fun e w'=>e=.returned (.agg #[.int .i64 n0,.int .i64 z0,.string ⟨t0.toArray⟩,.int .i64 n1,.int .i64 z1,.string ⟨t1.toArray⟩,.int .i64 n2,.int .i64 z2,.string ⟨t2.toArray⟩])∧Below w.heap.size w w':=by
 have hy:ys=[.d (il n0),.d (il z0),.d (sD t0),.d (il n1),.d (il z1),.d (sD t1),.d (il n2),.d (il z2),.d (sD t2)]:=by
  unfold stripD at h2
  split at h2
  ·split at h2
   ·cases h2
   rename_i e1
   split at h2
   ·cases h2
   rename_i e2
   split at h2
   ·cases h2
   rename_i e3
   split at h2
   ·cases h2
   rename_i e4
   split at h2
   ·cases h2
   rename_i e5
   split at h2
   ·cases h2
   rename_i e6
   split at h2
   ·cases h2
   rename_i e7
   split at h2
   ·cases h2
   rename_i e8
   split at h2
   ·cases h2
   rename_i e9
   cases h2
   rw [dInt_some e1,dInt_some e2,dStr_some e3,dInt_some e4,dInt_some e5,dStr_some e6,dInt_some e7,dInt_some e8,dStr_some e9]
  ·cases h2
 subst hy
 have hsc:=sc_of hF (f:=71) (sh:=[.agg 8,.one]) (xs:=recR r++[il no]) (vs:=[.agg (recR r),.one (il no)]) (rs:=[(true,[.d,.d,.d,.d,.d,.d,.d,.d,.d])]) rfl rfl (outS_some h) rfl
 refine (hsc.2 w U _ hU hX ?_).mono ?_
 ·exact ⟨_,_,rfl,⟨_,rfl,recR_f r⟩,_,_,rfl,⟨rfl,rfl⟩,rfl⟩
 ·rintro e w' ⟨v,U',bs,rfl,hb,_,_,_,_,hr⟩
  refine ⟨?_,hb⟩
  have hr':RvR w' U' (.agg ((strR n0 z0 t0++strR n1 z1 t1++strR n2 z2 t2).map RC.d)) v bs:=hr
  obtain ⟨cs,rfl,hc⟩:=hr'
  have hf:=(RcF_d hc).1
  rw [nine_v hf]
theorem bl_b {o:Out} {b:Bool} (h:isT o=some b):o=some (0,[.d (.lit (.bool b))]):=isT_some h
theorem sc13 {Fn:Nat→List D→Out} (hF:FnOK Tryz.prog CF Fn) {r:Rec} {no:Int} (h69:isT (Fn 69 (recR r))=some true) (h70:isT (Fn 70 [il no,il 0,il 59])=some true) {ys:List Yr} {n0 z0 n1 z1 n2 z2:Int} {t0 t1 t2:List UInt8} (h71:outS (Fn 71 (recR r++[il no]))=some ys) (hs:stripD ys=some (n0,z0,t0,n1,z1,t1,n2,z2,t2)) {rows:Rr}
  (h72:Fn 72 [.sl 3 [strR n0 z0 t0,strR n1 z1 t1,strR n2 z2 t2]]=some (0,[.r rows])):SC Tryz.prog 13 [.agg (recR r),.one (il no)] (.tup [.one (.d (.sl 3 rows)),.one (.d (il 0))]):=by
 refine ⟨enters_of Tryz.func13 (by kernel_rfl) rfl,fun w U vs hU hX hv=>?_⟩
 have hvs:vs=#[.agg #[.int .i64 r.p,.int .i64 r.no,.int .i64 r.kd,.int .i64 r.dy,.int .i64 r.kn,.int .i64 r.op,.int .i64 r.on,.string ⟨r.tx.toArray⟩],.int .i64 no]:=by
  simp only [VDF,VDR] at hv
  obtain ⟨_,_,e1,⟨cs,rfl,hc⟩,_,_,rfl,hn,rfl⟩:=hv
  rw [arr_of (recR_v hc),il_v hn] at e1
  exact arr_of e1
 subst hvs
 have s69:=sc_of hF (f:=69) (sh:=[.agg 8]) (xs:=recR r) (vs:=[.agg (recR r)]) (rs:=[(false,[.d])]) rfl rfl (bl_b h69) rfl
 have s70:=sc_of hF (f:=70) (sh:=[.one,.one,.one]) (xs:=[il no,il 0,il 59]) (vs:=[.one (il no),.one (il 0),.one (il 59)]) (rs:=[(false,[.d])]) rfl rfl (bl_b h70) rfl
 have s72:=sc_of hF (f:=72) (sh:=[.one]) (xs:=[.sl 3 [strR n0 z0 t0,strR n1 z1 t1,strR n2 z2 t2]]) (vs:=[.one (.sl 3 [strR n0 z0 t0,strR n1 z1 t1,strR n2 z2 t2])]) (rs:=[(false,[.own 3 27])]) rfl rfl h72 rfl
 have H:∀ {W:World},Below w.heap.size w W→(∀ b,U b→b < W.heap.size)∧XX W U:=fun hb=>⟨fun b h=>Nat.lt_of_lt_of_le (hU b h) hb.size,hX.mono (fun b h=>hb.block b (hU b h)) fun _ h=>h⟩
 have k69:∀ W,Below w.heap.size w W→Calls Tryz.prog 69 #[.agg #[.int .i64 r.p,.int .i64 r.no,.int .i64 r.kd,.int .i64 r.dy,.int .i64 r.kn,.int .i64 r.op,.int .i64 r.on,.string ⟨r.tx.toArray⟩]] W fun e w'=>e=.returned (.bool true)∧Below W.heap.size W w':=fun W hb=>cLit s69 (H hb).1 (H hb).2 ⟨_,_,rfl,⟨_,rfl,recR_f r⟩,rfl⟩
 have k70:∀ W,Below w.heap.size w W→Calls Tryz.prog 70 #[.int .i64 no,.int .i64 0,.int .i64 59] W fun e w'=>e=.returned (.bool true)∧Below W.heap.size W w':=fun W hb=>cLit s70 (H hb).1 (H hb).2 ⟨_,_,rfl,⟨rfl,rfl⟩,_,_,rfl,⟨rfl,rfl⟩,_,_,rfl,⟨rfl,rfl⟩,rfl⟩
 have k71:=fun W (hb:Below w.heap.size w W)=>c71 hF h71 hs (H hb).1 (H hb).2
 have k72:∀ W,Below w.heap.size w W→Calls Tryz.prog 72 #[.slice (some ⟨W.heap.size,0,none⟩) 3 3] (W.alloc (.cells #[.int .i64 n0,.int .i64 z0,.string ⟨t0.toArray⟩,.int .i64 n1,.int .i64 z1,.string ⟨t1.toArray⟩,.int .i64 n2,.int .i64 z2,.string ⟨t2.toArray⟩] 135)) fun e w'=>∃ b cap,e=.returned (.slice (some ⟨b,0,none⟩) rows.length cap)∧Post w U (.tup [.one (.d (.sl 3 rows)),.one (.d (il 0))]) (.returned (.tuple #[.slice (some ⟨b,0,none⟩) rows.length cap,.int .i64 0])) w':=fun W hb=>by
  have hb':Below w.heap.size w (W.alloc (.cells #[.int .i64 n0,.int .i64 z0,.string ⟨t0.toArray⟩,.int .i64 n1,.int .i64 z1,.string ⟨t1.toArray⟩,.int .i64 n2,.int .i64 z2,.string ⟨t2.toArray⟩] 135)):=hb.alloc hb.size _
  have hn:=heap_alloc_new W (.cells #[.int .i64 n0,.int .i64 z0,.string ⟨t0.toArray⟩,.int .i64 n1,.int .i64 z1,.string ⟨t1.toArray⟩,.int .i64 n2,.int .i64 z2,.string ⟨t2.toArray⟩] 135)
  have hcell:∀ i (v:Value),(#[.int .i64 n0,.int .i64 z0,.string ⟨t0.toArray⟩,.int .i64 n1,.int .i64 z1,.string ⟨t1.toArray⟩,.int .i64 n2,.int .i64 z2,.string ⟨t2.toArray⟩]:Array Value)[i]?=some v→(W.alloc (.cells #[.int .i64 n0,.int .i64 z0,.string ⟨t0.toArray⟩,.int .i64 n1,.int .i64 z1,.string ⟨t1.toArray⟩,.int .i64 n2,.int .i64 z2,.string ⟨t2.toArray⟩] 135)).cell? ⟨W.heap.size,i,none⟩=some v:=fun i v h=>(Go.Joins.cell_of_block hn i).trans h
  refine (s72.2 _ (fun x=>U x∨x=W.heap.size) _ ?_ ?_ ?_).mono ?_
  ·rintro x (hx | rfl)
   ·exact (H hb').1 x hx
   ·simp
  ·exact (H hb').2.mono (fun _ _=>rfl) fun _ h=>.inl h
  ·refine ⟨_,_,rfl,?_,rfl⟩
   show DR _ _ (.sl 3 _) _
   simp only [DR,List.length_cons,List.length_nil]
   refine ⟨_,3,rfl,Nat.le_refl _,by decide,fun _=>⟨_,_,rfl,.inr rfl,?_⟩⟩
   simp only [RR,CR,strR,DR,il,sD]
   refine ⟨rfl,⟨⟨_,hcell 0 _ rfl,rfl,rfl⟩,⟨_,hcell 1 _ rfl,rfl,rfl⟩,⟨_,hcell 2 _ rfl,rfl,rfl⟩,trivial⟩,rfl,⟨⟨_,hcell 3 _ rfl,rfl,rfl⟩,⟨_,hcell 4 _ rfl,rfl,rfl⟩,⟨_,hcell 5 _ rfl,rfl,rfl⟩,trivial⟩,rfl,⟨⟨_,hcell 6 _ rfl,rfl,rfl⟩,⟨_,hcell 7 _ rfl,rfl,rfl⟩,⟨_,hcell 8 _ rfl,rfl,rfl⟩,trivial⟩,trivial⟩
  ·rintro e w' ⟨v,U',bs,rfl,hb4,g1,g2,g3,g4,b,cap,cur,rfl,rfl,g5,g6,g7,g8,g9⟩
   have hbx:=g4 b (by simp)
   refine ⟨b,cap,rfl,?_⟩
   refine ⟨_,fun x=>U' x∨x=b,[],rfl,hb'.trans (hb4.mono hb'.size),fun x hx=>.inl (g1 x (.inl hx)),?_,List.nodup_nil,by simp,_,rfl,_,_,[],[],rfl,rfl,⟨rfl,?_⟩,_,_,[],[],rfl,rfl,⟨rfl,rfl,rfl⟩,rfl,rfl⟩
   ·rintro x (hx | rfl)
    ·refine ⟨(g2 x hx).1,?_⟩
     rcases (g2 x hx).2 with (h | rfl) | h
     ·exact .inl h
     ·exact .inr hb.size
     ·exact .inr (Nat.le_trans hb'.size h)
    ·exact ⟨hbx.2.1,.inr (Nat.le_trans hb'.size hbx.1)⟩
   ·simp only [DR]
    exact ⟨_,cap,rfl,g6,g7,fun _=>⟨b,0,rfl,.inr rfl,g9.mono (fun _ _=>rfl) (fun _ h=>.inl h) b rfl rows 0 3⟩⟩
 clear s69 s70 s72
 go_enter Tryz.func13,Tryz.ntmps13
 have A0:∀ o,Below w.heap.size w (w.alloc o):=fun o=>(Below.refl _ w).alloc (Nat.le_refl _) o
 go_wp2_with (first
  | (go_at_call 69;refine (k69 _ (A0 _)).mono ?_;rintro e w1 ⟨rfl,b1⟩)
  | (go_at_call 70;refine (k70 _ ((A0 _).trans (b1.mono (A0 _).size))).mono ?_;rintro e w2 ⟨rfl,b2⟩;have B2:w2.heap[w.heap.size]?=some (.cells #[.int .i64 r.p,.int .i64 r.no,.int .i64 r.kd,.int .i64 r.dy,.int .i64 r.kn,.int .i64 r.op,.int .i64 r.on,.string ⟨r.tx.toArray⟩] 25 (0,0)):=(b2.block _ (Nat.lt_of_lt_of_le (by simp) b1.size)).trans ((b1.block _ (by simp)).trans (heap_alloc_new w _));have q0:=Go.Joins.cell_of_block B2 0;have q1:=Go.Joins.cell_of_block B2 1;have q2:=Go.Joins.cell_of_block B2 2;have q3:=Go.Joins.cell_of_block B2 3;have q4:=Go.Joins.cell_of_block B2 4;have q5:=Go.Joins.cell_of_block B2 5;have q6:=Go.Joins.cell_of_block B2 6;have q7:=Go.Joins.cell_of_block B2 7)
  | (go_at_call 71;refine (k71 _ (((A0 _).trans (b1.mono (A0 _).size)).trans (b2.mono (Nat.le_trans (A0 _).size b1.size)))).mono ?_;rintro e w3 ⟨rfl,b3⟩)
  | (go_at_call 72;refine (k72 w3 ((((A0 _).trans (b1.mono (A0 _).size)).trans (b2.mono (Nat.le_trans (A0 _).size b1.size))).trans (b3.mono (Nat.le_trans (Nat.le_trans (A0 _).size b1.size) b2.size)))).mono ?_;rintro e w4 ⟨b,cap,rfl,hP⟩))
 go_ret2
 exact hP
theorem v13 {w:World} {U:Nat→Prop} {r:Rec} {no:Int} {vs:Array Value} (hv:VDF w U [.agg (recR r),.one (il no)] vs.toList):vs=#[.agg #[.int .i64 r.p,.int .i64 r.no,.int .i64 r.kd,.int .i64 r.dy,.int .i64 r.kn,.int .i64 r.op,.int .i64 r.on,.string ⟨r.tx.toArray⟩],.int .i64 no]:=by
 simp only [VDF,VDR] at hv
 obtain ⟨_,_,e1,⟨cs,rfl,hc⟩,_,_,rfl,hn,rfl⟩:=hv
 rw [arr_of (recR_v hc),il_v hn] at e1
 exact arr_of e1
theorem pNil {w w':World} {U:Nat→Prop} {e:Int} (hU:∀ b,U b→b < w.heap.size) (hb:Below w.heap.size w w'):Post w U (.tup [.one (.d (.lit (.slice none 0 0))),.one (.d (il e))]) (.returned (.tuple #[.slice none 0 0,.int .i64 e])) w' :=
 post_lit hU hb ⟨_,rfl,_,_,[],[],rfl,rfl,⟨rfl,rfl,rfl⟩,_,_,[],[],rfl,rfl,⟨rfl,rfl,rfl⟩,rfl,rfl⟩
theorem sc13a {Fn:Nat→List D→Out} (hF:FnOK Tryz.prog CF Fn) {r:Rec} {no:Int} (h69:isT (Fn 69 (recR r))=some false):SC Tryz.prog 13 [.agg (recR r),.one (il no)] (.tup [.one (.d (.lit (.slice none 0 0))),.one (.d (il 80))]):=by
 refine ⟨enters_of Tryz.func13 (by kernel_rfl) rfl,fun w U vs hU hX hv=>?_⟩
 rw [v13 hv]
 have s69:=sc_of hF (f:=69) (sh:=[.agg 8]) (xs:=recR r) (vs:=[.agg (recR r)]) (rs:=[(false,[.d])]) rfl rfl (bl_b h69) rfl
 have H:∀ {W:World},Below w.heap.size w W→(∀ b,U b→b < W.heap.size)∧XX W U:=fun hb=>⟨fun b h=>Nat.lt_of_lt_of_le (hU b h) hb.size,hX.mono (fun b h=>hb.block b (hU b h)) fun _ h=>h⟩
 have A0:∀ o,Below w.heap.size w (w.alloc o):=fun o=>(Below.refl _ w).alloc (Nat.le_refl _) o
 have k69:∀ W,Below w.heap.size w W→Calls Tryz.prog 69 #[.agg #[.int .i64 r.p,.int .i64 r.no,.int .i64 r.kd,.int .i64 r.dy,.int .i64 r.kn,.int .i64 r.op,.int .i64 r.on,.string ⟨r.tx.toArray⟩]] W fun e w'=>e=.returned (.bool false)∧Below W.heap.size W w':=fun W hb=>cLit s69 (H hb).1 (H hb).2 ⟨_,_,rfl,⟨_,rfl,recR_f r⟩,rfl⟩
 go_enter Tryz.func13,Tryz.ntmps13
 go_wp2_with (go_at_call 69;refine (k69 _ (A0 _)).mono ?_;rintro e w1 ⟨rfl,b1⟩)
 go_ret2
 exact pNil hU ((A0 _).trans (b1.mono (A0 _).size))
theorem sc13b {Fn:Nat→List D→Out} (hF:FnOK Tryz.prog CF Fn) {r:Rec} {no:Int} (h69:isT (Fn 69 (recR r))=some true) (h70:isT (Fn 70 [il no,il 0,il 59])=some false):SC Tryz.prog 13 [.agg (recR r),.one (il no)] (.tup [.one (.d (.lit (.slice none 0 0))),.one (.d (il 1))]):=by
 refine ⟨enters_of Tryz.func13 (by kernel_rfl) rfl,fun w U vs hU hX hv=>?_⟩
 rw [v13 hv]
 have s69:=sc_of hF (f:=69) (sh:=[.agg 8]) (xs:=recR r) (vs:=[.agg (recR r)]) (rs:=[(false,[.d])]) rfl rfl (bl_b h69) rfl
 have H:∀ {W:World},Below w.heap.size w W→(∀ b,U b→b < W.heap.size)∧XX W U:=fun hb=>⟨fun b h=>Nat.lt_of_lt_of_le (hU b h) hb.size,hX.mono (fun b h=>hb.block b (hU b h)) fun _ h=>h⟩
 have A0:∀ o,Below w.heap.size w (w.alloc o):=fun o=>(Below.refl _ w).alloc (Nat.le_refl _) o
 have s70:=sc_of hF (f:=70) (sh:=[.one,.one,.one]) (xs:=[il no,il 0,il 59]) (vs:=[.one (il no),.one (il 0),.one (il 59)]) (rs:=[(false,[.d])]) rfl rfl (bl_b h70) rfl
 have k69:∀ W,Below w.heap.size w W→Calls Tryz.prog 69 #[.agg #[.int .i64 r.p,.int .i64 r.no,.int .i64 r.kd,.int .i64 r.dy,.int .i64 r.kn,.int .i64 r.op,.int .i64 r.on,.string ⟨r.tx.toArray⟩]] W fun e w'=>e=.returned (.bool true)∧Below W.heap.size W w':=fun W hb=>cLit s69 (H hb).1 (H hb).2 ⟨_,_,rfl,⟨_,rfl,recR_f r⟩,rfl⟩
 have k70:∀ W,Below w.heap.size w W→Calls Tryz.prog 70 #[.int .i64 no,.int .i64 0,.int .i64 59] W fun e w'=>e=.returned (.bool false)∧Below W.heap.size W w':=fun W hb=>cLit s70 (H hb).1 (H hb).2 ⟨_,_,rfl,⟨rfl,rfl⟩,_,_,rfl,⟨rfl,rfl⟩,_,_,rfl,⟨rfl,rfl⟩,rfl⟩
 clear s69 s70
 go_enter Tryz.func13,Tryz.ntmps13
 go_wp2_with (first
  | (go_at_call 69;refine (k69 _ (A0 _)).mono ?_;rintro e w1 ⟨rfl,b1⟩)
  | (go_at_call 70;refine (k70 _ ((A0 _).trans (b1.mono (A0 _).size))).mono ?_;rintro e w2 ⟨rfl,b2⟩))
 go_ret2
 exact pNil hU (((A0 _).trans (b1.mono (A0 _).size)).trans (b2.mono (Nat.le_trans (A0 _).size b1.size)))
theorem ok13 {Fn:Nat→List D→Out} (hF:FnOK Tryz.prog CF Fn) {xs:List D} {vs:List VD} {j:Nat} {ys:List Yr} {rs:RS} {sh:List Sh} (h1:CF.ash 13=some sh) (h2:vdsOf sh xs=some vs) (h3:tThird3 Fn xs=some (j,ys)) (h4:(CF.rsk 13)[j]?=some rs):SC Tryz.prog 13 vs (pack (rvsAt ys rs 0)):=by
 unfold tThird3 at h3
 split at h3
 ·split at h3
  ·cases h3
  rename_i r hr
  split at h3
  ·cases h3
  rename_i no hn
  have hr':=recD_some hr
  simp only [recR,List.cons.injEq,and_true] at hr'
  obtain ⟨rfl,rfl,rfl,rfl,rfl,rfl,rfl,rfl⟩:=hr'
  rw [dInt_some hn] at h2
  cases h1
  cases h2
  split at h3
  ·cases h3
  ·rename_i h69
   cases h3
   cases h4
   exact sc13a hF h69
  ·rename_i h69
   split at h3
   ·cases h3
   ·rename_i h70
    cases h3
    cases h4
    exact sc13b hF h69 h70
   ·rename_i h70
    split at h3
    ·cases h3
    rename_i ys' h71
    split at h3
    ·cases h3
    rename_i hs
    split at h3
    ·rename_i rows h72
     cases h3
     cases h4
     exact sc13 hF h69 h70 h71 hs h72
    ·cases h3
 ·cases h3
end Go.VE
namespace Go.VE
open Go.RowKit Go.Proofs Go.Shelf Go.Lib
set_option maxRecDepth 100000
set_option maxHeartbeats 2000000
abbrev RdP (w:World) (o:Option Rec) (e:Ending) (w':World):Prop:=Below w.heap.size w w'∧e=.returned (readV o)
theorem set8 {w:World} {b t:Nat} {x0 x1 x2 x3 x4 x5 x6 x7:Value} (h:w.heap[b]?=some (.cells #[x0,x1,x2,x3,x4,x5,x6,x7] t (0,0))) (u0 u1 u2 u3 u4 u5 u6 u7:Value):((((((((w.setCell ⟨b,0,none⟩ u0).setCell ⟨b,1,none⟩ u1).setCell ⟨b,2,none⟩ u2).setCell ⟨b,3,none⟩ u3).setCell ⟨b,4,none⟩ u4).setCell ⟨b,5,none⟩ u5).setCell ⟨b,6,none⟩ u6).setCell ⟨b,7,none⟩ u7).heap[b]?=some (.cells #[u0,u1,u2,u3,u4,u5,u6,u7] t (0,0)):=(setC_same (i:=7) (v:=u7) (setC_same (i:=6) (v:=u6) (setC_same (i:=5) (v:=u5) (setC_same (i:=4) (v:=u4) (setC_same (i:=3) (v:=u3) (setC_same (i:=2) (v:=u2) (setC_same (i:=1) (v:=u1) (setC_same (i:=0) (v:=u0) h))))))))
theorem zero8 {w W:World} {y:Value} {x0 x1 x2 x3 x4 x5 x6 x7:Value} (hb:W.heap[w.heap.size]?=some (.cells #[x0,x1,x2,x3,x4,x5,x6,x7] 25 (0,0))) (hc:W.heap[w.heap.size+1]?=some (.cells #[y] 4 (0,0))) (hbe:Below w.heap.size w W) :
  ((((((((((W.setCell ⟨w.heap.size,0,none⟩ (.int .i64 0)).setCell ⟨w.heap.size,1,none⟩ (.int .i64 0)).setCell ⟨w.heap.size,2,none⟩ (.int .i64 0)).setCell ⟨w.heap.size,3,none⟩ (.int .i64 0)).setCell ⟨w.heap.size,4,none⟩ (.int .i64 0)).setCell ⟨w.heap.size,5,none⟩ (.int .i64 0)).setCell ⟨w.heap.size,6,none⟩ (.int .i64 0)).setCell ⟨w.heap.size,7,none⟩ (.string ⟨#[]⟩)).setCell ⟨(w.heap.size+1),0,none⟩ (.bool false)).alloc (.cells #[] 195)).heap[w.heap.size]?=some (.cells (encR zeroR).toArray 25 (0,0))∧((((((((((W.setCell ⟨w.heap.size,0,none⟩ (.int .i64 0)).setCell ⟨w.heap.size,1,none⟩ (.int .i64 0)).setCell ⟨w.heap.size,2,none⟩ (.int .i64 0)).setCell ⟨w.heap.size,3,none⟩ (.int .i64 0)).setCell ⟨w.heap.size,4,none⟩ (.int .i64 0)).setCell ⟨w.heap.size,5,none⟩ (.int .i64 0)).setCell ⟨w.heap.size,6,none⟩ (.int .i64 0)).setCell ⟨w.heap.size,7,none⟩ (.string ⟨#[]⟩)).setCell ⟨(w.heap.size+1),0,none⟩ (.bool false)).alloc (.cells #[] 195)).heap[w.heap.size+1]?=some (.cells #[.bool false] 4 (0,0))∧Below w.heap.size w ((((((((((W.setCell ⟨w.heap.size,0,none⟩ (.int .i64 0)).setCell ⟨w.heap.size,1,none⟩ (.int .i64 0)).setCell ⟨w.heap.size,2,none⟩ (.int .i64 0)).setCell ⟨w.heap.size,3,none⟩ (.int .i64 0)).setCell ⟨w.heap.size,4,none⟩ (.int .i64 0)).setCell ⟨w.heap.size,5,none⟩ (.int .i64 0)).setCell ⟨w.heap.size,6,none⟩ (.int .i64 0)).setCell ⟨w.heap.size,7,none⟩ (.string ⟨#[]⟩)).setCell ⟨(w.heap.size+1),0,none⟩ (.bool false)).alloc (.cells #[] 195)):=by
 have g8:=(setC_same (i:=7) (v:=(.string ⟨#[]⟩)) (setC_same (i:=6) (v:=(.int .i64 0)) (setC_same (i:=5) (v:=(.int .i64 0)) (setC_same (i:=4) (v:=(.int .i64 0)) (setC_same (i:=3) (v:=(.int .i64 0)) (setC_same (i:=2) (v:=(.int .i64 0)) (setC_same (i:=1) (v:=(.int .i64 0)) (setC_same (i:=0) (v:=(.int .i64 0)) hb))))))))
 have o8:((((((((W.setCell ⟨w.heap.size,0,none⟩ (.int .i64 0)).setCell ⟨w.heap.size,1,none⟩ (.int .i64 0)).setCell ⟨w.heap.size,2,none⟩ (.int .i64 0)).setCell ⟨w.heap.size,3,none⟩ (.int .i64 0)).setCell ⟨w.heap.size,4,none⟩ (.int .i64 0)).setCell ⟨w.heap.size,5,none⟩ (.int .i64 0)).setCell ⟨w.heap.size,6,none⟩ (.int .i64 0)).setCell ⟨w.heap.size,7,none⟩ (.string ⟨#[]⟩)).heap[w.heap.size+1]?=some (.cells #[y] 4 (0,0)):=((setC_other (by omega)).trans ((setC_other (by omega)).trans ((setC_other (by omega)).trans ((setC_other (by omega)).trans ((setC_other (by omega)).trans ((setC_other (by omega)).trans ((setC_other (by omega)).trans ((setC_other (by omega)).trans hc))))))))
 have g9:=(setC_other (b:=w.heap.size+1) (i:=0) (v:=.bool false) (show w.heap.size≠w.heap.size+1 by omega)).trans g8
 have o9:=setC_same (i:=0) (v:=.bool false) o8
 have b9:Below w.heap.size w (((((((((W.setCell ⟨w.heap.size,0,none⟩ (.int .i64 0)).setCell ⟨w.heap.size,1,none⟩ (.int .i64 0)).setCell ⟨w.heap.size,2,none⟩ (.int .i64 0)).setCell ⟨w.heap.size,3,none⟩ (.int .i64 0)).setCell ⟨w.heap.size,4,none⟩ (.int .i64 0)).setCell ⟨w.heap.size,5,none⟩ (.int .i64 0)).setCell ⟨w.heap.size,6,none⟩ (.int .i64 0)).setCell ⟨w.heap.size,7,none⟩ (.string ⟨#[]⟩)).setCell ⟨(w.heap.size+1),0,none⟩ (.bool false)):=((((((((hbe.setCell (p:=⟨w.heap.size,0,none⟩) (Nat.le_refl _) _).setCell (p:=⟨w.heap.size,1,none⟩) (Nat.le_refl _) _).setCell (p:=⟨w.heap.size,2,none⟩) (Nat.le_refl _) _).setCell (p:=⟨w.heap.size,3,none⟩) (Nat.le_refl _) _).setCell (p:=⟨w.heap.size,4,none⟩) (Nat.le_refl _) _).setCell (p:=⟨w.heap.size,5,none⟩) (Nat.le_refl _) _).setCell (p:=⟨w.heap.size,6,none⟩) (Nat.le_refl _) _).setCell (p:=⟨w.heap.size,7,none⟩) (Nat.le_refl _) _).setCell (p:=⟨w.heap.size+1,0,none⟩) (by show w.heap.size≤w.heap.size+1;omega) _
 refine ⟨(heap_alloc_old _ _ (Array.getElem?_eq_some_iff.1 g9).1).trans g9,(heap_alloc_old _ _ (Array.getElem?_eq_some_iff.1 o9).1).trans o9,b9.alloc b9.size _⟩
theorem fin_bad {w W:World} {A:Array Value} {y:Value} (hb:W.heap[w.heap.size]?=some (.cells A 25 (0,0))) (hA:A.size=8) (hc:W.heap[w.heap.size+1]?=some (.cells #[y] 4 (0,0))) (hbe:Below w.heap.size w W) {rest:List PanicEntry} (hrest:rest=[]) :
  CallsD Tryz.prog 135 #[.pointer (some ⟨w.heap.size,0,none⟩),.pointer (some ⟨w.heap.size+1,0,none⟩)] (.panicking ({ v:=wrongV,recovered:=false }::rest)) W fun e u' w'=>e=.returned (.tuple #[])∧∀ T:Array Value,T.getD 2 undef=.pointer (some ⟨w.heap.size,0,none⟩)→T.getD 3 undef=.pointer (some ⟨w.heap.size+1,0,none⟩)→Leaves Tryz.prog Tryz.f86 T (RdP w none) [] (settle u') w':=by
 subst hrest
 obtain ⟨x0,x1,x2,x3,x4,x5,x6,x7,rfl⟩:=arr8 hA
 refine (catch135 w.heap.size (w.heap.size+1) _ _ _ _ _ _ _ _ _ [] W (by omega) hb hc).mono ?_
 rintro e u' w' ⟨rfl,rfl,rfl⟩
 obtain ⟨k1,k2,k3⟩:=zero8 hb hc hbe
 refine ⟨rfl,fun T h2 h3=>?_⟩
 rw [settle_r]
 exact leave86 h2 h3 k1 rfl k2 ⟨k3,rfl⟩
theorem fin_ok {w W:World} {r:Rec} (hb:W.heap[w.heap.size]?=some (.cells #[.int .i64 r.p,.int .i64 r.no,.int .i64 r.kd,.int .i64 r.dy,.int .i64 r.kn,.int .i64 r.op,.int .i64 r.on,.string ⟨r.tx.toArray⟩] 25 (0,0))) (hc:W.heap[w.heap.size+1]?=some (.cells #[.bool false] 4 (0,0))) (hbe:Below w.heap.size w W) (T:Array Value) (h2:T.getD 2 undef=.pointer (some ⟨w.heap.size,0,none⟩)) (h3:T.getD 3 undef=.pointer (some ⟨w.heap.size+1,0,none⟩)) :
  Leaves Tryz.prog Tryz.f86 T (RdP w (some r)) [] .returning (((((((((W.setCell ⟨w.heap.size,0,none⟩ (.int .i64 r.p)).setCell ⟨w.heap.size,1,none⟩ (.int .i64 r.no)).setCell ⟨w.heap.size,2,none⟩ (.int .i64 r.kd)).setCell ⟨w.heap.size,3,none⟩ (.int .i64 r.dy)).setCell ⟨w.heap.size,4,none⟩ (.int .i64 r.kn)).setCell ⟨w.heap.size,5,none⟩ (.int .i64 r.op)).setCell ⟨w.heap.size,6,none⟩ (.int .i64 r.on)).setCell ⟨w.heap.size,7,none⟩ (.string ⟨r.tx.toArray⟩)).setCell ⟨w.heap.size+1,0,none⟩ (.bool true)):=by
 have g8:((((((((W.setCell ⟨w.heap.size,0,none⟩ (.int .i64 r.p)).setCell ⟨w.heap.size,1,none⟩ (.int .i64 r.no)).setCell ⟨w.heap.size,2,none⟩ (.int .i64 r.kd)).setCell ⟨w.heap.size,3,none⟩ (.int .i64 r.dy)).setCell ⟨w.heap.size,4,none⟩ (.int .i64 r.kn)).setCell ⟨w.heap.size,5,none⟩ (.int .i64 r.op)).setCell ⟨w.heap.size,6,none⟩ (.int .i64 r.on)).setCell ⟨w.heap.size,7,none⟩ (.string ⟨r.tx.toArray⟩)).heap[w.heap.size]?=some (.cells (encR r).toArray 25 (0,0)):=by
  exact set8 hb _ _ _ _ _ _ _ _
 have o8:((((((((W.setCell ⟨w.heap.size,0,none⟩ (.int .i64 r.p)).setCell ⟨w.heap.size,1,none⟩ (.int .i64 r.no)).setCell ⟨w.heap.size,2,none⟩ (.int .i64 r.kd)).setCell ⟨w.heap.size,3,none⟩ (.int .i64 r.dy)).setCell ⟨w.heap.size,4,none⟩ (.int .i64 r.kn)).setCell ⟨w.heap.size,5,none⟩ (.int .i64 r.op)).setCell ⟨w.heap.size,6,none⟩ (.int .i64 r.on)).setCell ⟨w.heap.size,7,none⟩ (.string ⟨r.tx.toArray⟩)).heap[w.heap.size+1]?=some (.cells #[.bool false] 4 (0,0)):=((setC_other (by omega)).trans ((setC_other (by omega)).trans ((setC_other (by omega)).trans ((setC_other (by omega)).trans ((setC_other (by omega)).trans ((setC_other (by omega)).trans ((setC_other (by omega)).trans ((setC_other (by omega)).trans hc))))))))
 have g9:=(setC_other (b:=w.heap.size+1) (i:=0) (v:=.bool true) (show w.heap.size≠w.heap.size+1 by omega)).trans g8
 have o9:=setC_same (i:=0) (v:=.bool true) o8
 have b9:Below w.heap.size w (((((((((W.setCell ⟨w.heap.size,0,none⟩ (.int .i64 r.p)).setCell ⟨w.heap.size,1,none⟩ (.int .i64 r.no)).setCell ⟨w.heap.size,2,none⟩ (.int .i64 r.kd)).setCell ⟨w.heap.size,3,none⟩ (.int .i64 r.dy)).setCell ⟨w.heap.size,4,none⟩ (.int .i64 r.kn)).setCell ⟨w.heap.size,5,none⟩ (.int .i64 r.op)).setCell ⟨w.heap.size,6,none⟩ (.int .i64 r.on)).setCell ⟨w.heap.size,7,none⟩ (.string ⟨r.tx.toArray⟩)).setCell ⟨w.heap.size+1,0,none⟩ (.bool true)):=((((((((hbe.setCell (p:=⟨w.heap.size,0,none⟩) (Nat.le_refl _) _).setCell (p:=⟨w.heap.size,1,none⟩) (Nat.le_refl _) _).setCell (p:=⟨w.heap.size,2,none⟩) (Nat.le_refl _) _).setCell (p:=⟨w.heap.size,3,none⟩) (Nat.le_refl _) _).setCell (p:=⟨w.heap.size,4,none⟩) (Nat.le_refl _) _).setCell (p:=⟨w.heap.size,5,none⟩) (Nat.le_refl _) _).setCell (p:=⟨w.heap.size,6,none⟩) (Nat.le_refl _) _).setCell (p:=⟨w.heap.size,7,none⟩) (Nat.le_refl _) _).setCell (p:=⟨w.heap.size+1,0,none⟩) (by show w.heap.size≤w.heap.size+1;omega) _
 exact leave86 h2 h3 g9 rfl o9 ⟨b9,rfl⟩
end Go.VE
namespace Go.VE
open Go.RowKit Go.Proofs Go.Shelf Go.Lib
set_option maxRecDepth 100000
set_option maxHeartbeats 2000000
theorem read_c {Fn:Nat→List D→Out} (hF:FnOK Tryz.prog CF Fn) {s:List UInt8} (hl:s.length≤281474976710656) {o:Option Rec} (ho:readO Fn s=some o) {w:World} {U:Nat→Prop} (hU:∀ b,U b→b < w.heap.size) (hX:XX w U):Calls Tryz.prog 86 #[.string ⟨s.toArray⟩] w (RdP w o):=by
 have hmf:∀ (fn:Go.Fn) (first cap:Array Value) (w:World),(Instr.makeFunc fn first cap).run Tryz.prog w=.ok (.func fn first cap) w:=fun _ _ _ _=>rfl
 have LW:∀ {u:World},Below w.heap.size w u→LaidW u:=fun h=>(laidW hU hX).below h (laidW hU hX).s
 go_enter_defers Tryz.func86,Tryz.ntmps86
 go_wp2
 go_loopg [0,19] 7 (fun g z0 z19 wr=>∃ (l:List Nat) (t:List UInt8),z19=.int .i64 l.length∧z0=.string ⟨t.toArray⟩∧l.length+g=7∧Rd s w l t wr)
 case atStart=>exact ⟨[],s,rfl,rfl,rfl,Rd.start s w⟩
 case round =>
  obtain ⟨l,t,rfl,rfl,hg,R⟩:=hrel
  by_cases hi:l.length < 7
  ·obtain ⟨g,rfl⟩:∃ g,gk=g+1:=⟨gk - 1,by omega⟩
   have hidx:=ix197 w.heap.size hi
   have hii:(l.length:Int) < 7:=by omega
   have htl:=Nat.le_trans R.tl hl
   have hnum:=num_c t htl wr (LW R.be)
   unfold numO at hnum
   obtain ⟨tt,htt⟩:∃ S,(⟨t.toArray⟩:ByteArray)=S:=⟨_,rfl⟩
   rw [htt] at hnum ⊢
   clear htt
   cases hc:cutSp t with
   | none =>
    rw [hc] at hnum
    simp only at hnum
    have ho':o=none:=by
     have:=R.bad hi (.inl hc)
     rw [readO,this] at ho
     exact (Option.some.inj ho).symm
    subst ho'
    go_wp2_with (go_at_call 136;refine hnum.mono ?_;rintro e w1 ⟨b1,rfl⟩)
    have R1:=R.keep b1
    refine leaves_cons (f:=135) (args:=#[.pointer (some ⟨w.heap.size,0,none⟩),.pointer (some ⟨w.heap.size+1,0,none⟩)]) (by simp) (by simp [go_sem]) ?_
    refine (fin_bad R1.box (boxR_size R1.le) R1.err R1.be rfl).mono ?_
    rintro e u' w'' ⟨rfl,h⟩
    exact h _ rfl rfl
   | some p =>
    obtain ⟨a,r⟩:=p
    rw [hc] at hnum
    simp only at hnum
    cases hn:numA a with
    | none =>
     rw [hn] at hnum
     simp only at hnum
     have ho':o=none:=by
      have:=R.bad hi (.inr ⟨a,r,hc,hn⟩)
      rw [readO,this] at ho
      exact (Option.some.inj ho).symm
     subst ho'
     go_wp2_with (go_at_call 136;refine hnum.mono ?_;rintro e w1 ⟨b1,rfl⟩)
     have R1:=R.keep b1
     refine leaves_cons (f:=135) (args:=#[.pointer (some ⟨w.heap.size,0,none⟩),.pointer (some ⟨w.heap.size+1,0,none⟩)]) (by simp) (by simp [go_sem]) ?_
     refine (fin_bad R1.box (boxR_size R1.le) R1.err R1.be rfl).mono ?_
     rintro e u' w'' ⟨rfl,h⟩
     exact h _ rfl rfl
    | some n =>
     rw [hn] at hnum
     simp only at hnum
     go_wp2_with (go_at_call 136;refine hnum.mono ?_;rintro e w1 ⟨b1,rfl⟩;have R1:=R.keep b1;have c0:=(Go.Joins.cell_of_block R1.box l.length).trans (boxR_at hi);have f0:=Go.Joins.unfrozen_of_block R1.box l.length)
     go_roundg g
     case measure=>omega
     case rel=>exact ⟨l++[n],r,by simp,rfl,by simp;omega,R1.next hi hc hn⟩
  ·obtain rfl:gk=0:=by omega
   have hl7:l.length=7:=by have:=R.le;omega
   have hd:=R.done hl7
   obtain ⟨a0,a1,a2,a3,a4,a5,a6,rfl⟩:∃ a0 a1 a2 a3 a4 a5 a6,l=[a0,a1,a2,a3,a4,a5,a6]:=by
    match l,hl7 with
    | [a0,a1,a2,a3,a4,a5,a6],_=>exact ⟨_,_,_,_,_,_,_,rfl⟩
   rw [readO,hd] at ho
   simp only [mkR] at ho
   have hbx:wr.heap[w.heap.size]?=some (.cells #[.int .i64 a0,.int .i64 a1,.int .i64 a2,.int .i64 a3,.int .i64 a4,.int .i64 a5,.int .i64 a6,.string ⟨#[]⟩] 25 (0,0)):=R.box
   have c0:=Go.Joins.cell_of_block hbx 0
   have c1:=Go.Joins.cell_of_block hbx 1
   have c2:=Go.Joins.cell_of_block hbx 2
   have c3:=Go.Joins.cell_of_block hbx 3
   have c4:=Go.Joins.cell_of_block hbx 4
   have c5:=Go.Joins.cell_of_block hbx 5
   have c6:=Go.Joins.cell_of_block hbx 6
   have c7:=Go.Joins.cell_of_block hbx 7
   have f7':=Go.Joins.unfrozen_of_block hbx 7
   have hst:=setC_same (i:=7) (v:=.string ⟨t.toArray⟩) hbx
   have her:=(setC_other (b:=w.heap.size) (i:=7) (v:=.string ⟨t.toArray⟩) (show w.heap.size+1≠w.heap.size by omega)).trans R.err
   have hbe:Below w.heap.size w (wr.setCell ⟨w.heap.size,7,none⟩ (.string ⟨t.toArray⟩)):=R.be.setCell (p:=⟨w.heap.size,7,none⟩) (Nat.le_refl _) _
   have hsz:w.heap.size+1+1≤(wr.setCell ⟨w.heap.size,7,none⟩ (.string ⟨t.toArray⟩)).heap.size:=by have:=R.si;simpa [World.setCell] using this
   cases hb:isT (Fn 69 (recR ⟨a0,a1,a2,a3,a4,a5,a6,t⟩)) with
   | none=>rw [hb] at ho;cases ho
   | some bo =>
    rw [hb] at ho
    have s69:=sc_of hF (f:=69) (sh:=[.agg 8]) (vs:=[.agg (recR ⟨a0,a1,a2,a3,a4,a5,a6,t⟩)]) (rs:=[(false,[.d])]) rfl rfl (isT_some hb) rfl
    have k69:=cLit s69 (w:=wr.setCell ⟨w.heap.size,7,none⟩ (.string ⟨t.toArray⟩)) (fun b h=>Nat.lt_of_lt_of_le (hU b h) hbe.size) (hX.mono (fun b h=>hbe.block b (hU b h)) fun _ h=>h) (vs:=#[.agg #[.int .i64 a0,.int .i64 a1,.int .i64 a2,.int .i64 a3,.int .i64 a4,.int .i64 a5,.int .i64 a6,.string ⟨t.toArray⟩]]) ⟨_,_,rfl,⟨_,rfl,recR_f ⟨a0,a1,a2,a3,a4,a5,a6,t⟩⟩,rfl⟩
    clear s69 R hd hb
    cases bo with
    | false =>
     have ho':o=none:=(Option.some.inj ho).symm
     subst ho'
     go_wp2_with (go_at_call 69;refine k69.mono ?_;rintro e w5 ⟨rfl,b5⟩)
     have hb5:=(b5.block w.heap.size (by omega)).trans hst
     have he5:=(b5.block (w.heap.size+1) (by omega)).trans her
     refine leaves_cons (f:=135) (args:=#[.pointer (some ⟨w.heap.size,0,none⟩),.pointer (some ⟨w.heap.size+1,0,none⟩)]) (by simp) (by simp [go_sem]) ?_
     refine (fin_bad hb5 rfl he5 (hbe.trans (b5.mono (by omega))) rfl).mono ?_
     rintro e u' w'' ⟨rfl,h⟩
     exact h _ rfl rfl
    | true =>
     have ho':o=some ⟨a0,a1,a2,a3,a4,a5,a6,t⟩:=(Option.some.inj ho).symm
     subst ho'
     go_wp2_with (go_at_call 69;refine k69.mono ?_;rintro e w5 ⟨rfl,b5⟩;have hb5:=(b5.block w.heap.size (by omega)).trans hst;have he5:=(b5.block (w.heap.size+1) (by omega)).trans her;have d0:=Go.Joins.cell_of_block hb5 0;have f0:=Go.Joins.unfrozen_of_block hb5 0;have d1:=Go.Joins.cell_of_block hb5 1;have f1:=Go.Joins.unfrozen_of_block hb5 1;have d2:=Go.Joins.cell_of_block hb5 2;have f2:=Go.Joins.unfrozen_of_block hb5 2;have d3:=Go.Joins.cell_of_block hb5 3;have f3:=Go.Joins.unfrozen_of_block hb5 3;have d4:=Go.Joins.cell_of_block hb5 4;have f4:=Go.Joins.unfrozen_of_block hb5 4;have d5:=Go.Joins.cell_of_block hb5 5;have f5:=Go.Joins.unfrozen_of_block hb5 5;have d6:=Go.Joins.cell_of_block hb5 6;have f6:=Go.Joins.unfrozen_of_block hb5 6;have d7:=Go.Joins.cell_of_block hb5 7;have f7:=Go.Joins.unfrozen_of_block hb5 7;have de:=Go.Joins.cell_of_block he5 0;have fe:=Go.Joins.unfrozen_of_block he5 0)
     refine leaves_cons (f:=135) (args:=#[.pointer (some ⟨w.heap.size,0,none⟩),.pointer (some ⟨w.heap.size+1,0,none⟩)]) (by simp) (by simp [go_sem]) ?_
     refine (idle135 _ _ _).mono ?_
     rintro e u' w'' ⟨rfl,rfl,rfl⟩
     have hb6:w5.heap[w.heap.size]?=some (.cells #[.int .i64 a0,.int .i64 a1,.int .i64 a2,.int .i64 a3,.int .i64 a4,.int .i64 a5,.int .i64 a6,.string ⟨t.toArray⟩] 25 (0,0)):=hb5
     exact fin_ok (r:=⟨a0,a1,a2,a3,a4,a5,a6,t⟩) hb6 he5 (hbe.trans (b5.mono (by omega))) _ rfl rfl
end Go.VE
