/- Book: Thirds, walked. -/
import Derived.Test.YtipddjojdgapiaaGreatDoorMg4
import Derived.Deep.AppendLies
import Derived.Deep.RegionLaw
namespace Go.VE
open Go.RowKit Go.Proofs Go.Shelf Go.Lib
set_option maxRecDepth 100000
set_option maxHeartbeats 1500000
theorem cLit {f:Nat} {args:List VD} {x:Value} (h:SC Tryz.prog f args (.one (.d (.lit x)))) {w:World} {U:Nat→Prop} (hU:∀ b,U b→b < w.heap.size) (hX:XX w U) {vs:Array Value} (hv:VDF w U args vs.toList):Calls Tryz.prog f vs w fun e w'=>e=.returned x∧Below w.heap.size w w':=by
 refine (h.2 w U vs hU hX hv).mono ?_
 rintro e w' ⟨v,U',bs,rfl,hb,_,_,_,_,hr⟩
 obtain ⟨_,h2,_⟩:=hr
 exact ⟨by rw [h2],hb⟩
abbrev strR (n:Int) (z:Int) (t:List UInt8):List D:=[il n,il z,sD t]
theorem RcF_d {w:World} {U:Nat→Prop}:∀ {xs:List D} {vs:List Value} {bs:List Nat},RcF w U (xs.map .d) vs bs→FR w U xs vs∧bs=[]
 | [],vs,bs,h=>by simpa [RcF,FR] using h
 | x::xs,vs,bs,h=>by
  obtain ⟨v,vs',b1,b2,rfl,rfl,⟨rfl,h1⟩,h2⟩:=h
  obtain ⟨h3,rfl⟩:=RcF_d h2
  exact ⟨⟨v,vs',rfl,h1,h3⟩,rfl⟩
theorem nine_v {w:World} {U:Nat→Prop} {n0 z0 n1 z1 n2 z2:Int} {t0 t1 t2:List UInt8} {cs:Array Value} (h:FR w U (strR n0 z0 t0++strR n1 z1 t1++strR n2 z2 t2) cs.toList):cs=#[.int .i64 n0,.int .i64 z0,.string ⟨t0.toArray⟩,.int .i64 n1,.int .i64 z1,.string ⟨t1.toArray⟩,.int .i64 n2,.int .i64 z2,.string ⟨t2.toArray⟩]:=by
 simp only [strR,List.cons_append,List.nil_append,FR] at h
 obtain ⟨_,_,e1,g1,_,_,rfl,g2,_,_,rfl,g3,_,_,rfl,g4,_,_,rfl,g5,_,_,rfl,g6,_,_,rfl,g7,_,_,rfl,g8,_,_,rfl,g9,rfl⟩:=h
 rw [il_v g1,il_v g2,sD_v g3,il_v g4,il_v g5,sD_v g6,il_v g7,il_v g8,sD_v g9] at e1
 exact arr_of e1
theorem c71 {Fn:Nat→List D→Out} (hF:FnOK Tryz.prog CF Fn) {r:Rec} {no:Int} {ys:List Yr} {n0 z0 n1 z1 n2 z2:Int} {t0 t1 t2:List UInt8} (h:outS (Fn 71 (recR r++[il no]))=some ys) (h2:stripD ys=some (n0,z0,t0,n1,z1,t1,n2,z2,t2)) {w:World} {U:Nat→Prop} (hU:∀ b,U b→b < w.heap.size) (hX:XX w U) :
  Calls Tryz.prog 71 #[.agg #[.int .i64 r.p,.int .i64 r.no,.int .i64 r.kd,.int .i64 r.dy,.int .i64 r.kn,.int .i64 r.op,.int .i64 r.on,.string ⟨r.tx.toArray⟩],.int .i64 no] w fun e w'=>e=.returned (.agg #[.int .i64 n0,.int .i64 z0,.string ⟨t0.toArray⟩,.int .i64 n1,.int .i64 z1,.string ⟨t1.toArray⟩,.int .i64 n2,.int .i64 z2,.string ⟨t2.toArray⟩])∧Below w.heap.size w w':=by
 have hy:ys=[.d (il n0),.d (il z0),.d (sD t0),.d (il n1),.d (il z1),.d (sD t1),.d (il n2),.d (il z2),.d (sD t2)]:=by
  unfold stripD at h2
  split at h2
  ·split at h2
   ·cases h2
   rename_i e1
   split at h2
   ·cases h2
   rename_i e2
   split at h2
   ·cases h2
   rename_i e3
   split at h2
   ·cases h2
   rename_i e4
   split at h2
   ·cases h2
   rename_i e5
   split at h2
   ·cases h2
   rename_i e6
   split at h2
   ·cases h2
   rename_i e7
   split at h2
   ·cases h2
   rename_i e8
   split at h2
   ·cases h2
   rename_i e9
   cases h2
   rw [dInt_some e1,dInt_some e2,dStr_some e3,dInt_some e4,dInt_some e5,dStr_some e6,dInt_some e7,dInt_some e8,dStr_some e9]
  ·cases h2
 subst hy
 have hsc:=sc_of hF (f:=71) (sh:=[.agg 8,.one]) (xs:=recR r++[il no]) (vs:=[.agg (recR r),.one (il no)]) (rs:=[(true,[.d,.d,.d,.d,.d,.d,.d,.d,.d])]) rfl rfl (outS_some h) rfl
 refine (hsc.2 w U _ hU hX ?_).mono ?_
 ·exact ⟨_,_,rfl,⟨_,rfl,recR_f r⟩,_,_,rfl,⟨rfl,rfl⟩,rfl⟩
 ·rintro e w' ⟨v,U',bs,rfl,hb,_,_,_,_,hr⟩
  refine ⟨?_,hb⟩
  have hr':RvR w' U' (.agg ((strR n0 z0 t0++strR n1 z1 t1++strR n2 z2 t2).map RC.d)) v bs:=hr
  obtain ⟨cs,rfl,hc⟩:=hr'
  have hf:=(RcF_d hc).1
  rw [nine_v hf]
theorem bl_b {o:Out} {b:Bool} (h:isT o=some b):o=some (0,[.d (.lit (.bool b))]):=isT_some h
theorem sc13 {Fn:Nat→List D→Out} (hF:FnOK Tryz.prog CF Fn) {r:Rec} {no:Int} (h69:isT (Fn 69 (recR r))=some true) (h70:isT (Fn 70 [il no,il 0,il 59])=some true) {ys:List Yr} {n0 z0 n1 z1 n2 z2:Int} {t0 t1 t2:List UInt8} (h71:outS (Fn 71 (recR r++[il no]))=some ys) (hs:stripD ys=some (n0,z0,t0,n1,z1,t1,n2,z2,t2)) {rows:Rr}
  (h72:Fn 72 [.sl 3 [strR n0 z0 t0,strR n1 z1 t1,strR n2 z2 t2]]=some (0,[.r rows])):SC Tryz.prog 13 [.agg (recR r),.one (il no)] (.tup [.one (.d (.sl 3 rows)),.one (.d (il 0))]):=by
 refine ⟨enters_of Tryz.func13 (by kernel_rfl) rfl,fun w U vs hU hX hv=>?_⟩
 have hvs:vs=#[.agg #[.int .i64 r.p,.int .i64 r.no,.int .i64 r.kd,.int .i64 r.dy,.int .i64 r.kn,.int .i64 r.op,.int .i64 r.on,.string ⟨r.tx.toArray⟩],.int .i64 no]:=by
  simp only [VDF,VDR] at hv
  obtain ⟨_,_,e1,⟨cs,rfl,hc⟩,_,_,rfl,hn,rfl⟩:=hv
  rw [arr_of (recR_v hc),il_v hn] at e1
  exact arr_of e1
 subst hvs
 have s69:=sc_of hF (f:=69) (sh:=[.agg 8]) (xs:=recR r) (vs:=[.agg (recR r)]) (rs:=[(false,[.d])]) rfl rfl (bl_b h69) rfl
 have s70:=sc_of hF (f:=70) (sh:=[.one,.one,.one]) (xs:=[il no,il 0,il 59]) (vs:=[.one (il no),.one (il 0),.one (il 59)]) (rs:=[(false,[.d])]) rfl rfl (bl_b h70) rfl
 have s72:=sc_of hF (f:=72) (sh:=[.one]) (xs:=[.sl 3 [strR n0 z0 t0,strR n1 z1 t1,strR n2 z2 t2]]) (vs:=[.one (.sl 3 [strR n0 z0 t0,strR n1 z1 t1,strR n2 z2 t2])]) (rs:=[(false,[.own 3 27])]) rfl rfl h72 rfl
 have H:∀ {W:World},Below w.heap.size w W→(∀ b,U b→b < W.heap.size)∧XX W U:=fun hb=>⟨fun b h=>Nat.lt_of_lt_of_le (hU b h) hb.size,hX.mono (fun b h=>hb.block b (hU b h)) fun _ h=>h⟩
 have k69:∀ W,Below w.heap.size w W→Calls Tryz.prog 69 #[.agg #[.int .i64 r.p,.int .i64 r.no,.int .i64 r.kd,.int .i64 r.dy,.int .i64 r.kn,.int .i64 r.op,.int .i64 r.on,.string ⟨r.tx.toArray⟩]] W fun e w'=>e=.returned (.bool true)∧Below W.heap.size W w':=fun W hb=>cLit s69 (H hb).1 (H hb).2 ⟨_,_,rfl,⟨_,rfl,recR_f r⟩,rfl⟩
 have k70:∀ W,Below w.heap.size w W→Calls Tryz.prog 70 #[.int .i64 no,.int .i64 0,.int .i64 59] W fun e w'=>e=.returned (.bool true)∧Below W.heap.size W w':=fun W hb=>cLit s70 (H hb).1 (H hb).2 ⟨_,_,rfl,⟨rfl,rfl⟩,_,_,rfl,⟨rfl,rfl⟩,_,_,rfl,⟨rfl,rfl⟩,rfl⟩
 have k71:=fun W (hb:Below w.heap.size w W)=>c71 hF h71 hs (H hb).1 (H hb).2
 have k72:∀ W,Below w.heap.size w W→Calls Tryz.prog 72 #[.slice (some ⟨W.heap.size,0,none⟩) 3 3] (W.alloc (.cells #[.int .i64 n0,.int .i64 z0,.string ⟨t0.toArray⟩,.int .i64 n1,.int .i64 z1,.string ⟨t1.toArray⟩,.int .i64 n2,.int .i64 z2,.string ⟨t2.toArray⟩] 135)) fun e w'=>∃ b cap,e=.returned (.slice (some ⟨b,0,none⟩) rows.length cap)∧Post w U (.tup [.one (.d (.sl 3 rows)),.one (.d (il 0))]) (.returned (.tuple #[.slice (some ⟨b,0,none⟩) rows.length cap,.int .i64 0])) w':=fun W hb=>by
  have hb':Below w.heap.size w (W.alloc (.cells #[.int .i64 n0,.int .i64 z0,.string ⟨t0.toArray⟩,.int .i64 n1,.int .i64 z1,.string ⟨t1.toArray⟩,.int .i64 n2,.int .i64 z2,.string ⟨t2.toArray⟩] 135)):=hb.alloc hb.size _
  have hn:=heap_alloc_new W (.cells #[.int .i64 n0,.int .i64 z0,.string ⟨t0.toArray⟩,.int .i64 n1,.int .i64 z1,.string ⟨t1.toArray⟩,.int .i64 n2,.int .i64 z2,.string ⟨t2.toArray⟩] 135)
  have hcell:∀ i (v:Value),(#[.int .i64 n0,.int .i64 z0,.string ⟨t0.toArray⟩,.int .i64 n1,.int .i64 z1,.string ⟨t1.toArray⟩,.int .i64 n2,.int .i64 z2,.string ⟨t2.toArray⟩]:Array Value)[i]?=some v→(W.alloc (.cells #[.int .i64 n0,.int .i64 z0,.string ⟨t0.toArray⟩,.int .i64 n1,.int .i64 z1,.string ⟨t1.toArray⟩,.int .i64 n2,.int .i64 z2,.string ⟨t2.toArray⟩] 135)).cell? ⟨W.heap.size,i,none⟩=some v:=fun i v h=>(Go.Joins.cell_of_block hn i).trans h
  refine (s72.2 _ (fun x=>U x∨x=W.heap.size) _ ?_ ?_ ?_).mono ?_
  ·rintro x (hx | rfl)
   ·exact (H hb').1 x hx
   ·simp
  ·exact (H hb').2.mono (fun _ _=>rfl) fun _ h=>.inl h
  ·refine ⟨_,_,rfl,?_,rfl⟩
   show DR _ _ (.sl 3 _) _
   simp only [DR,List.length_cons,List.length_nil]
   refine ⟨_,3,rfl,Nat.le_refl _,by decide,fun _=>⟨_,_,rfl,.inr rfl,?_⟩⟩
   simp only [RR,CR,strR,DR,il,sD]
   refine ⟨rfl,⟨⟨_,hcell 0 _ rfl,rfl,rfl⟩,⟨_,hcell 1 _ rfl,rfl,rfl⟩,⟨_,hcell 2 _ rfl,rfl,rfl⟩,trivial⟩,rfl,⟨⟨_,hcell 3 _ rfl,rfl,rfl⟩,⟨_,hcell 4 _ rfl,rfl,rfl⟩,⟨_,hcell 5 _ rfl,rfl,rfl⟩,trivial⟩,rfl,⟨⟨_,hcell 6 _ rfl,rfl,rfl⟩,⟨_,hcell 7 _ rfl,rfl,rfl⟩,⟨_,hcell 8 _ rfl,rfl,rfl⟩,trivial⟩,trivial⟩
  ·rintro e w' ⟨v,U',bs,rfl,hb4,g1,g2,g3,g4,b,cap,cur,rfl,rfl,g5,g6,g7,g8,g9⟩
   have hbx:=g4 b (by simp)
   refine ⟨b,cap,rfl,?_⟩
   refine ⟨_,fun x=>U' x∨x=b,[],rfl,hb'.trans (hb4.mono hb'.size),fun x hx=>.inl (g1 x (.inl hx)),?_,List.nodup_nil,by simp,_,rfl,_,_,[],[],rfl,rfl,⟨rfl,?_⟩,_,_,[],[],rfl,rfl,⟨rfl,rfl,rfl⟩,rfl,rfl⟩
   ·rintro x (hx | rfl)
    ·refine ⟨(g2 x hx).1,?_⟩
     rcases (g2 x hx).2 with (h | rfl) | h
     ·exact .inl h
     ·exact .inr hb.size
     ·exact .inr (Nat.le_trans hb'.size h)
    ·exact ⟨hbx.2.1,.inr (Nat.le_trans hb'.size hbx.1)⟩
   ·simp only [DR]
    exact ⟨_,cap,rfl,g6,g7,fun _=>⟨b,0,rfl,.inr rfl,g9.mono (fun _ _=>rfl) (fun _ h=>.inl h) b rfl rows 0 3⟩⟩
 clear s69 s70 s72
 go_enter Tryz.func13,Tryz.ntmps13
 have A0:∀ o,Below w.heap.size w (w.alloc o):=fun o=>(Below.refl _ w).alloc (Nat.le_refl _) o
 go_wp2_with (first
  | (go_at_call 69;refine (k69 _ (A0 _)).mono ?_;rintro e w1 ⟨rfl,b1⟩)
  | (go_at_call 70;refine (k70 _ ((A0 _).trans (b1.mono (A0 _).size))).mono ?_;rintro e w2 ⟨rfl,b2⟩;have B2:w2.heap[w.heap.size]?=some (.cells #[.int .i64 r.p,.int .i64 r.no,.int .i64 r.kd,.int .i64 r.dy,.int .i64 r.kn,.int .i64 r.op,.int .i64 r.on,.string ⟨r.tx.toArray⟩] 25 (0,0)):=(b2.block _ (Nat.lt_of_lt_of_le (by simp) b1.size)).trans ((b1.block _ (by simp)).trans (heap_alloc_new w _));have q0:=Go.Joins.cell_of_block B2 0;have q1:=Go.Joins.cell_of_block B2 1;have q2:=Go.Joins.cell_of_block B2 2;have q3:=Go.Joins.cell_of_block B2 3;have q4:=Go.Joins.cell_of_block B2 4;have q5:=Go.Joins.cell_of_block B2 5;have q6:=Go.Joins.cell_of_block B2 6;have q7:=Go.Joins.cell_of_block B2 7)
  | (go_at_call 71;refine (k71 _ (((A0 _).trans (b1.mono (A0 _).size)).trans (b2.mono (Nat.le_trans (A0 _).size b1.size)))).mono ?_;rintro e w3 ⟨rfl,b3⟩)
  | (go_at_call 72;refine (k72 w3 ((((A0 _).trans (b1.mono (A0 _).size)).trans (b2.mono (Nat.le_trans (A0 _).size b1.size))).trans (b3.mono (Nat.le_trans (Nat.le_trans (A0 _).size b1.size) b2.size)))).mono ?_;rintro e w4 ⟨b,cap,rfl,hP⟩))
 go_ret2
 exact hP
theorem v13 {w:World} {U:Nat→Prop} {r:Rec} {no:Int} {vs:Array Value} (hv:VDF w U [.agg (recR r),.one (il no)] vs.toList):vs=#[.agg #[.int .i64 r.p,.int .i64 r.no,.int .i64 r.kd,.int .i64 r.dy,.int .i64 r.kn,.int .i64 r.op,.int .i64 r.on,.string ⟨r.tx.toArray⟩],.int .i64 no]:=by
 simp only [VDF,VDR] at hv
 obtain ⟨_,_,e1,⟨cs,rfl,hc⟩,_,_,rfl,hn,rfl⟩:=hv
 rw [arr_of (recR_v hc),il_v hn] at e1
 exact arr_of e1
theorem pNil {w w':World} {U:Nat→Prop} {e:Int} (hU:∀ b,U b→b < w.heap.size) (hb:Below w.heap.size w w'):Post w U (.tup [.one (.d (.lit (.slice none 0 0))),.one (.d (il e))]) (.returned (.tuple #[.slice none 0 0,.int .i64 e])) w' :=
 post_lit hU hb ⟨_,rfl,_,_,[],[],rfl,rfl,⟨rfl,rfl,rfl⟩,_,_,[],[],rfl,rfl,⟨rfl,rfl,rfl⟩,rfl,rfl⟩
theorem sc13a {Fn:Nat→List D→Out} (hF:FnOK Tryz.prog CF Fn) {r:Rec} {no:Int} (h69:isT (Fn 69 (recR r))=some false):SC Tryz.prog 13 [.agg (recR r),.one (il no)] (.tup [.one (.d (.lit (.slice none 0 0))),.one (.d (il 80))]):=by
 refine ⟨enters_of Tryz.func13 (by kernel_rfl) rfl,fun w U vs hU hX hv=>?_⟩
 rw [v13 hv]
 have s69:=sc_of hF (f:=69) (sh:=[.agg 8]) (xs:=recR r) (vs:=[.agg (recR r)]) (rs:=[(false,[.d])]) rfl rfl (bl_b h69) rfl
 have H:∀ {W:World},Below w.heap.size w W→(∀ b,U b→b < W.heap.size)∧XX W U:=fun hb=>⟨fun b h=>Nat.lt_of_lt_of_le (hU b h) hb.size,hX.mono (fun b h=>hb.block b (hU b h)) fun _ h=>h⟩
 have A0:∀ o,Below w.heap.size w (w.alloc o):=fun o=>(Below.refl _ w).alloc (Nat.le_refl _) o
 have k69:∀ W,Below w.heap.size w W→Calls Tryz.prog 69 #[.agg #[.int .i64 r.p,.int .i64 r.no,.int .i64 r.kd,.int .i64 r.dy,.int .i64 r.kn,.int .i64 r.op,.int .i64 r.on,.string ⟨r.tx.toArray⟩]] W fun e w'=>e=.returned (.bool false)∧Below W.heap.size W w':=fun W hb=>cLit s69 (H hb).1 (H hb).2 ⟨_,_,rfl,⟨_,rfl,recR_f r⟩,rfl⟩
 go_enter Tryz.func13,Tryz.ntmps13
 go_wp2_with (go_at_call 69;refine (k69 _ (A0 _)).mono ?_;rintro e w1 ⟨rfl,b1⟩)
 go_ret2
 exact pNil hU ((A0 _).trans (b1.mono (A0 _).size))
theorem sc13b {Fn:Nat→List D→Out} (hF:FnOK Tryz.prog CF Fn) {r:Rec} {no:Int} (h69:isT (Fn 69 (recR r))=some true) (h70:isT (Fn 70 [il no,il 0,il 59])=some false):SC Tryz.prog 13 [.agg (recR r),.one (il no)] (.tup [.one (.d (.lit (.slice none 0 0))),.one (.d (il 1))]):=by
 refine ⟨enters_of Tryz.func13 (by kernel_rfl) rfl,fun w U vs hU hX hv=>?_⟩
 rw [v13 hv]
 have s69:=sc_of hF (f:=69) (sh:=[.agg 8]) (xs:=recR r) (vs:=[.agg (recR r)]) (rs:=[(false,[.d])]) rfl rfl (bl_b h69) rfl
 have H:∀ {W:World},Below w.heap.size w W→(∀ b,U b→b < W.heap.size)∧XX W U:=fun hb=>⟨fun b h=>Nat.lt_of_lt_of_le (hU b h) hb.size,hX.mono (fun b h=>hb.block b (hU b h)) fun _ h=>h⟩
 have A0:∀ o,Below w.heap.size w (w.alloc o):=fun o=>(Below.refl _ w).alloc (Nat.le_refl _) o
 have s70:=sc_of hF (f:=70) (sh:=[.one,.one,.one]) (xs:=[il no,il 0,il 59]) (vs:=[.one (il no),.one (il 0),.one (il 59)]) (rs:=[(false,[.d])]) rfl rfl (bl_b h70) rfl
 have k69:∀ W,Below w.heap.size w W→Calls Tryz.prog 69 #[.agg #[.int .i64 r.p,.int .i64 r.no,.int .i64 r.kd,.int .i64 r.dy,.int .i64 r.kn,.int .i64 r.op,.int .i64 r.on,.string ⟨r.tx.toArray⟩]] W fun e w'=>e=.returned (.bool true)∧Below W.heap.size W w':=fun W hb=>cLit s69 (H hb).1 (H hb).2 ⟨_,_,rfl,⟨_,rfl,recR_f r⟩,rfl⟩
 have k70:∀ W,Below w.heap.size w W→Calls Tryz.prog 70 #[.int .i64 no,.int .i64 0,.int .i64 59] W fun e w'=>e=.returned (.bool false)∧Below W.heap.size W w':=fun W hb=>cLit s70 (H hb).1 (H hb).2 ⟨_,_,rfl,⟨rfl,rfl⟩,_,_,rfl,⟨rfl,rfl⟩,_,_,rfl,⟨rfl,rfl⟩,rfl⟩
 clear s69 s70
 go_enter Tryz.func13,Tryz.ntmps13
 go_wp2_with (first
  | (go_at_call 69;refine (k69 _ (A0 _)).mono ?_;rintro e w1 ⟨rfl,b1⟩)
  | (go_at_call 70;refine (k70 _ ((A0 _).trans (b1.mono (A0 _).size))).mono ?_;rintro e w2 ⟨rfl,b2⟩))
 go_ret2
 exact pNil hU (((A0 _).trans (b1.mono (A0 _).size)).trans (b2.mono (Nat.le_trans (A0 _).size b1.size)))
theorem ok13 {Fn:Nat→List D→Out} (hF:FnOK Tryz.prog CF Fn) {xs:List D} {vs:List VD} {j:Nat} {ys:List Yr} {rs:RS} {sh:List Sh} (h1:CF.ash 13=some sh) (h2:vdsOf sh xs=some vs) (h3:tThird3 Fn xs=some (j,ys)) (h4:(CF.rsk 13)[j]?=some rs):SC Tryz.prog 13 vs (pack (rvsAt ys rs 0)):=by
 unfold tThird3 at h3
 split at h3
 ·split at h3
  ·cases h3
  rename_i r hr
  split at h3
  ·cases h3
  rename_i no hn
  have hr':=recD_some hr
  simp only [recR,List.cons.injEq,and_true] at hr'
  obtain ⟨rfl,rfl,rfl,rfl,rfl,rfl,rfl,rfl⟩:=hr'
  rw [dInt_some hn] at h2
  cases h1
  cases h2
  split at h3
  ·cases h3
  ·rename_i h69
   cases h3
   cases h4
   exact sc13a hF h69
  ·rename_i h69
   split at h3
   ·cases h3
   ·rename_i h70
    cases h3
    cases h4
    exact sc13b hF h69 h70
   ·rename_i h70
    split at h3
    ·cases h3
    rename_i ys' h71
    split at h3
    ·cases h3
    rename_i hs
    split at h3
    ·rename_i rows h72
     cases h3
     cases h4
     exact sc13 hF h69 h70 h71 hs h72
    ·cases h3
 ·cases h3
end Go.VE
namespace Go.VE
open Go.RowKit Go.Proofs Go.Shelf Go.Lib
set_option maxRecDepth 100000
set_option maxHeartbeats 2000000
abbrev RdP (w:World) (o:Option Rec) (e:Ending) (w':World):Prop:=Below w.heap.size w w'∧e=.returned (readV o)
theorem set8 {w:World} {b t:Nat} {x0 x1 x2 x3 x4 x5 x6 x7:Value} (h:w.heap[b]?=some (.cells #[x0,x1,x2,x3,x4,x5,x6,x7] t (0,0))) (u0 u1 u2 u3 u4 u5 u6 u7:Value):((((((((w.setCell ⟨b,0,none⟩ u0).setCell ⟨b,1,none⟩ u1).setCell ⟨b,2,none⟩ u2).setCell ⟨b,3,none⟩ u3).setCell ⟨b,4,none⟩ u4).setCell ⟨b,5,none⟩ u5).setCell ⟨b,6,none⟩ u6).setCell ⟨b,7,none⟩ u7).heap[b]?=some (.cells #[u0,u1,u2,u3,u4,u5,u6,u7] t (0,0)):=(setC_same (i:=7) (v:=u7) (setC_same (i:=6) (v:=u6) (setC_same (i:=5) (v:=u5) (setC_same (i:=4) (v:=u4) (setC_same (i:=3) (v:=u3) (setC_same (i:=2) (v:=u2) (setC_same (i:=1) (v:=u1) (setC_same (i:=0) (v:=u0) h))))))))
theorem zero8 {w W:World} {y:Value} {x0 x1 x2 x3 x4 x5 x6 x7:Value} (hb:W.heap[w.heap.size]?=some (.cells #[x0,x1,x2,x3,x4,x5,x6,x7] 25 (0,0))) (hc:W.heap[w.heap.size+1]?=some (.cells #[y] 4 (0,0))) (hbe:Below w.heap.size w W) :
  ((((((((((W.setCell ⟨w.heap.size,0,none⟩ (.int .i64 0)).setCell ⟨w.heap.size,1,none⟩ (.int .i64 0)).setCell ⟨w.heap.size,2,none⟩ (.int .i64 0)).setCell ⟨w.heap.size,3,none⟩ (.int .i64 0)).setCell ⟨w.heap.size,4,none⟩ (.int .i64 0)).setCell ⟨w.heap.size,5,none⟩ (.int .i64 0)).setCell ⟨w.heap.size,6,none⟩ (.int .i64 0)).setCell ⟨w.heap.size,7,none⟩ (.string ⟨#[]⟩)).setCell ⟨(w.heap.size+1),0,none⟩ (.bool false)).alloc (.cells #[] 195)).heap[w.heap.size]?=some (.cells (encR zeroR).toArray 25 (0,0))∧((((((((((W.setCell ⟨w.heap.size,0,none⟩ (.int .i64 0)).setCell ⟨w.heap.size,1,none⟩ (.int .i64 0)).setCell ⟨w.heap.size,2,none⟩ (.int .i64 0)).setCell ⟨w.heap.size,3,none⟩ (.int .i64 0)).setCell ⟨w.heap.size,4,none⟩ (.int .i64 0)).setCell ⟨w.heap.size,5,none⟩ (.int .i64 0)).setCell ⟨w.heap.size,6,none⟩ (.int .i64 0)).setCell ⟨w.heap.size,7,none⟩ (.string ⟨#[]⟩)).setCell ⟨(w.heap.size+1),0,none⟩ (.bool false)).alloc (.cells #[] 195)).heap[w.heap.size+1]?=some (.cells #[.bool false] 4 (0,0))∧Below w.heap.size w ((((((((((W.setCell ⟨w.heap.size,0,none⟩ (.int .i64 0)).setCell ⟨w.heap.size,1,none⟩ (.int .i64 0)).setCell ⟨w.heap.size,2,none⟩ (.int .i64 0)).setCell ⟨w.heap.size,3,none⟩ (.int .i64 0)).setCell ⟨w.heap.size,4,none⟩ (.int .i64 0)).setCell ⟨w.heap.size,5,none⟩ (.int .i64 0)).setCell ⟨w.heap.size,6,none⟩ (.int .i64 0)).setCell ⟨w.heap.size,7,none⟩ (.string ⟨#[]⟩)).setCell ⟨(w.heap.size+1),0,none⟩ (.bool false)).alloc (.cells #[] 195)):=by
 have g8:=(setC_same (i:=7) (v:=(.string ⟨#[]⟩)) (setC_same (i:=6) (v:=(.int .i64 0)) (setC_same (i:=5) (v:=(.int .i64 0)) (setC_same (i:=4) (v:=(.int .i64 0)) (setC_same (i:=3) (v:=(.int .i64 0)) (setC_same (i:=2) (v:=(.int .i64 0)) (setC_same (i:=1) (v:=(.int .i64 0)) (setC_same (i:=0) (v:=(.int .i64 0)) hb))))))))
 have o8:((((((((W.setCell ⟨w.heap.size,0,none⟩ (.int .i64 0)).setCell ⟨w.heap.size,1,none⟩ (.int .i64 0)).setCell ⟨w.heap.size,2,none⟩ (.int .i64 0)).setCell ⟨w.heap.size,3,none⟩ (.int .i64 0)).setCell ⟨w.heap.size,4,none⟩ (.int .i64 0)).setCell ⟨w.heap.size,5,none⟩ (.int .i64 0)).setCell ⟨w.heap.size,6,none⟩ (.int .i64 0)).setCell ⟨w.heap.size,7,none⟩ (.string ⟨#[]⟩)).heap[w.heap.size+1]?=some (.cells #[y] 4 (0,0)):=((setC_other (by omega)).trans ((setC_other (by omega)).trans ((setC_other (by omega)).trans ((setC_other (by omega)).trans ((setC_other (by omega)).trans ((setC_other (by omega)).trans ((setC_other (by omega)).trans ((setC_other (by omega)).trans hc))))))))
 have g9:=(setC_other (b:=w.heap.size+1) (i:=0) (v:=.bool false) (show w.heap.size≠w.heap.size+1 by omega)).trans g8
 have o9:=setC_same (i:=0) (v:=.bool false) o8
 have b9:Below w.heap.size w (((((((((W.setCell ⟨w.heap.size,0,none⟩ (.int .i64 0)).setCell ⟨w.heap.size,1,none⟩ (.int .i64 0)).setCell ⟨w.heap.size,2,none⟩ (.int .i64 0)).setCell ⟨w.heap.size,3,none⟩ (.int .i64 0)).setCell ⟨w.heap.size,4,none⟩ (.int .i64 0)).setCell ⟨w.heap.size,5,none⟩ (.int .i64 0)).setCell ⟨w.heap.size,6,none⟩ (.int .i64 0)).setCell ⟨w.heap.size,7,none⟩ (.string ⟨#[]⟩)).setCell ⟨(w.heap.size+1),0,none⟩ (.bool false)):=((((((((hbe.setCell (p:=⟨w.heap.size,0,none⟩) (Nat.le_refl _) _).setCell (p:=⟨w.heap.size,1,none⟩) (Nat.le_refl _) _).setCell (p:=⟨w.heap.size,2,none⟩) (Nat.le_refl _) _).setCell (p:=⟨w.heap.size,3,none⟩) (Nat.le_refl _) _).setCell (p:=⟨w.heap.size,4,none⟩) (Nat.le_refl _) _).setCell (p:=⟨w.heap.size,5,none⟩) (Nat.le_refl _) _).setCell (p:=⟨w.heap.size,6,none⟩) (Nat.le_refl _) _).setCell (p:=⟨w.heap.size,7,none⟩) (Nat.le_refl _) _).setCell (p:=⟨w.heap.size+1,0,none⟩) (by show w.heap.size≤w.heap.size+1;omega) _
 refine ⟨(heap_alloc_old _ _ (Array.getElem?_eq_some_iff.1 g9).1).trans g9,(heap_alloc_old _ _ (Array.getElem?_eq_some_iff.1 o9).1).trans o9,b9.alloc b9.size _⟩
theorem fin_bad {w W:World} {A:Array Value} {y:Value} (hb:W.heap[w.heap.size]?=some (.cells A 25 (0,0))) (hA:A.size=8) (hc:W.heap[w.heap.size+1]?=some (.cells #[y] 4 (0,0))) (hbe:Below w.heap.size w W) {rest:List PanicEntry} (hrest:rest=[]) :
  CallsD Tryz.prog 135 #[.pointer (some ⟨w.heap.size,0,none⟩),.pointer (some ⟨w.heap.size+1,0,none⟩)] (.panicking ({ v:=wrongV,recovered:=false }::rest)) W fun e u' w'=>e=.returned (.tuple #[])∧∀ T:Array Value,T.getD 2 undef=.pointer (some ⟨w.heap.size,0,none⟩)→T.getD 3 undef=.pointer (some ⟨w.heap.size+1,0,none⟩)→Leaves Tryz.prog Tryz.f86 T (RdP w none) [] (settle u') w':=by
 subst hrest
 obtain ⟨x0,x1,x2,x3,x4,x5,x6,x7,rfl⟩:=arr8 hA
 refine (catch135 w.heap.size (w.heap.size+1) _ _ _ _ _ _ _ _ _ [] W (by omega) hb hc).mono ?_
 rintro e u' w' ⟨rfl,rfl,rfl⟩
 obtain ⟨k1,k2,k3⟩:=zero8 hb hc hbe
 refine ⟨rfl,fun T h2 h3=>?_⟩
 rw [settle_r]
 exact leave86 h2 h3 k1 rfl k2 ⟨k3,rfl⟩
theorem fin_ok {w W:World} {r:Rec} (hb:W.heap[w.heap.size]?=some (.cells #[.int .i64 r.p,.int .i64 r.no,.int .i64 r.kd,.int .i64 r.dy,.int .i64 r.kn,.int .i64 r.op,.int .i64 r.on,.string ⟨r.tx.toArray⟩] 25 (0,0))) (hc:W.heap[w.heap.size+1]?=some (.cells #[.bool false] 4 (0,0))) (hbe:Below w.heap.size w W) (T:Array Value) (h2:T.getD 2 undef=.pointer (some ⟨w.heap.size,0,none⟩)) (h3:T.getD 3 undef=.pointer (some ⟨w.heap.size+1,0,none⟩)) :
  Leaves Tryz.prog Tryz.f86 T (RdP w (some r)) [] .returning (((((((((W.setCell ⟨w.heap.size,0,none⟩ (.int .i64 r.p)).setCell ⟨w.heap.size,1,none⟩ (.int .i64 r.no)).setCell ⟨w.heap.size,2,none⟩ (.int .i64 r.kd)).setCell ⟨w.heap.size,3,none⟩ (.int .i64 r.dy)).setCell ⟨w.heap.size,4,none⟩ (.int .i64 r.kn)).setCell ⟨w.heap.size,5,none⟩ (.int .i64 r.op)).setCell ⟨w.heap.size,6,none⟩ (.int .i64 r.on)).setCell ⟨w.heap.size,7,none⟩ (.string ⟨r.tx.toArray⟩)).setCell ⟨w.heap.size+1,0,none⟩ (.bool true)):=by
 have g8:((((((((W.setCell ⟨w.heap.size,0,none⟩ (.int .i64 r.p)).setCell ⟨w.heap.size,1,none⟩ (.int .i64 r.no)).setCell ⟨w.heap.size,2,none⟩ (.int .i64 r.kd)).setCell ⟨w.heap.size,3,none⟩ (.int .i64 r.dy)).setCell ⟨w.heap.size,4,none⟩ (.int .i64 r.kn)).setCell ⟨w.heap.size,5,none⟩ (.int .i64 r.op)).setCell ⟨w.heap.size,6,none⟩ (.int .i64 r.on)).setCell ⟨w.heap.size,7,none⟩ (.string ⟨r.tx.toArray⟩)).heap[w.heap.size]?=some (.cells (encR r).toArray 25 (0,0)):=by
  exact set8 hb _ _ _ _ _ _ _ _
 have o8:((((((((W.setCell ⟨w.heap.size,0,none⟩ (.int .i64 r.p)).setCell ⟨w.heap.size,1,none⟩ (.int .i64 r.no)).setCell ⟨w.heap.size,2,none⟩ (.int .i64 r.kd)).setCell ⟨w.heap.size,3,none⟩ (.int .i64 r.dy)).setCell ⟨w.heap.size,4,none⟩ (.int .i64 r.kn)).setCell ⟨w.heap.size,5,none⟩ (.int .i64 r.op)).setCell ⟨w.heap.size,6,none⟩ (.int .i64 r.on)).setCell ⟨w.heap.size,7,none⟩ (.string ⟨r.tx.toArray⟩)).heap[w.heap.size+1]?=some (.cells #[.bool false] 4 (0,0)):=((setC_other (by omega)).trans ((setC_other (by omega)).trans ((setC_other (by omega)).trans ((setC_other (by omega)).trans ((setC_other (by omega)).trans ((setC_other (by omega)).trans ((setC_other (by omega)).trans ((setC_other (by omega)).trans hc))))))))
 have g9:=(setC_other (b:=w.heap.size+1) (i:=0) (v:=.bool true) (show w.heap.size≠w.heap.size+1 by omega)).trans g8
 have o9:=setC_same (i:=0) (v:=.bool true) o8
 have b9:Below w.heap.size w (((((((((W.setCell ⟨w.heap.size,0,none⟩ (.int .i64 r.p)).setCell ⟨w.heap.size,1,none⟩ (.int .i64 r.no)).setCell ⟨w.heap.size,2,none⟩ (.int .i64 r.kd)).setCell ⟨w.heap.size,3,none⟩ (.int .i64 r.dy)).setCell ⟨w.heap.size,4,none⟩ (.int .i64 r.kn)).setCell ⟨w.heap.size,5,none⟩ (.int .i64 r.op)).setCell ⟨w.heap.size,6,none⟩ (.int .i64 r.on)).setCell ⟨w.heap.size,7,none⟩ (.string ⟨r.tx.toArray⟩)).setCell ⟨w.heap.size+1,0,none⟩ (.bool true)):=((((((((hbe.setCell (p:=⟨w.heap.size,0,none⟩) (Nat.le_refl _) _).setCell (p:=⟨w.heap.size,1,none⟩) (Nat.le_refl _) _).setCell (p:=⟨w.heap.size,2,none⟩) (Nat.le_refl _) _).setCell (p:=⟨w.heap.size,3,none⟩) (Nat.le_refl _) _).setCell (p:=⟨w.heap.size,4,none⟩) (Nat.le_refl _) _).setCell (p:=⟨w.heap.size,5,none⟩) (Nat.le_refl _) _).setCell (p:=⟨w.heap.size,6,none⟩) (Nat.le_refl _) _).setCell (p:=⟨w.heap.size,7,none⟩) (Nat.le_refl _) _).setCell (p:=⟨w.heap.size+1,0,none⟩) (by show w.heap.size≤w.heap.size+1;omega) _
 exact leave86 h2 h3 g9 rfl o9 ⟨b9,rfl⟩
end Go.VE
namespace Go.VE
open Go.RowKit Go.Proofs Go.Shelf Go.Lib
set_option maxRecDepth 100000
set_option maxHeartbeats 2000000
theorem read_c {Fn:Nat→List D→Out} (hF:FnOK Tryz.prog CF Fn) {s:List UInt8} (hl:s.length≤281474976710656) {o:Option Rec} (ho:readO Fn s=some o) {w:World} {U:Nat→Prop} (hU:∀ b,U b→b < w.heap.size) (hX:XX w U):Calls Tryz.prog 86 #[.string ⟨s.toArray⟩] w (RdP w o):=by
 have hmf:∀ (fn:Go.Fn) (first cap:Array Value) (w:World),(Instr.makeFunc fn first cap).run Tryz.prog w=.ok (.func fn first cap) w:=fun _ _ _ _=>rfl
 have LW:∀ {u:World},Below w.heap.size w u→LaidW u:=fun h=>(laidW hU hX).below h (laidW hU hX).s
 go_enter_defers Tryz.func86,Tryz.ntmps86
 go_wp2
 go_loopg [0,19] 7 (fun g z0 z19 wr=>∃ (l:List Nat) (t:List UInt8),z19=.int .i64 l.length∧z0=.string ⟨t.toArray⟩∧l.length+g=7∧Rd s w l t wr)
 case atStart=>exact ⟨[],s,rfl,rfl,rfl,Rd.start s w⟩
 case round =>
  obtain ⟨l,t,rfl,rfl,hg,R⟩:=hrel
  by_cases hi:l.length < 7
  ·obtain ⟨g,rfl⟩:∃ g,gk=g+1:=⟨gk - 1,by omega⟩
   have hidx:=ix197 w.heap.size hi
   have hii:(l.length:Int) < 7:=by omega
   have htl:=Nat.le_trans R.tl hl
   have hnum:=num_c t htl wr (LW R.be)
   unfold numO at hnum
   obtain ⟨tt,htt⟩:∃ S,(⟨t.toArray⟩:ByteArray)=S:=⟨_,rfl⟩
   rw [htt] at hnum ⊢
   clear htt
   cases hc:cutSp t with
   | none =>
    rw [hc] at hnum
    simp only at hnum
    have ho':o=none:=by
     have:=R.bad hi (.inl hc)
     rw [readO,this] at ho
     exact (Option.some.inj ho).symm
    subst ho'
    go_wp2_with (go_at_call 136;refine hnum.mono ?_;rintro e w1 ⟨b1,rfl⟩)
    have R1:=R.keep b1
    refine leaves_cons (f:=135) (args:=#[.pointer (some ⟨w.heap.size,0,none⟩),.pointer (some ⟨w.heap.size+1,0,none⟩)]) (by simp) (by simp [go_sem]) ?_
    refine (fin_bad R1.box (boxR_size R1.le) R1.err R1.be rfl).mono ?_
    rintro e u' w'' ⟨rfl,h⟩
    exact h _ rfl rfl
   | some p =>
    obtain ⟨a,r⟩:=p
    rw [hc] at hnum
    simp only at hnum
    cases hn:numA a with
    | none =>
     rw [hn] at hnum
     simp only at hnum
     have ho':o=none:=by
      have:=R.bad hi (.inr ⟨a,r,hc,hn⟩)
      rw [readO,this] at ho
      exact (Option.some.inj ho).symm
     subst ho'
     go_wp2_with (go_at_call 136;refine hnum.mono ?_;rintro e w1 ⟨b1,rfl⟩)
     have R1:=R.keep b1
     refine leaves_cons (f:=135) (args:=#[.pointer (some ⟨w.heap.size,0,none⟩),.pointer (some ⟨w.heap.size+1,0,none⟩)]) (by simp) (by simp [go_sem]) ?_
     refine (fin_bad R1.box (boxR_size R1.le) R1.err R1.be rfl).mono ?_
     rintro e u' w'' ⟨rfl,h⟩
     exact h _ rfl rfl
    | some n =>
     rw [hn] at hnum
     simp only at hnum
     go_wp2_with (go_at_call 136;refine hnum.mono ?_;rintro e w1 ⟨b1,rfl⟩;have R1:=R.keep b1;have c0:=(Go.Joins.cell_of_block R1.box l.length).trans (boxR_at hi);have f0:=Go.Joins.unfrozen_of_block R1.box l.length)
     go_roundg g
     case measure=>omega
     case rel=>exact ⟨l++[n],r,by simp,rfl,by simp;omega,R1.next hi hc hn⟩
  ·obtain rfl:gk=0:=by omega
   have hl7:l.length=7:=by have:=R.le;omega
   have hd:=R.done hl7
   obtain ⟨a0,a1,a2,a3,a4,a5,a6,rfl⟩:∃ a0 a1 a2 a3 a4 a5 a6,l=[a0,a1,a2,a3,a4,a5,a6]:=by
    match l,hl7 with
    | [a0,a1,a2,a3,a4,a5,a6],_=>exact ⟨_,_,_,_,_,_,_,rfl⟩
   rw [readO,hd] at ho
   simp only [mkR] at ho
   have hbx:wr.heap[w.heap.size]?=some (.cells #[.int .i64 a0,.int .i64 a1,.int .i64 a2,.int .i64 a3,.int .i64 a4,.int .i64 a5,.int .i64 a6,.string ⟨#[]⟩] 25 (0,0)):=R.box
   have c0:=Go.Joins.cell_of_block hbx 0
   have c1:=Go.Joins.cell_of_block hbx 1
   have c2:=Go.Joins.cell_of_block hbx 2
   have c3:=Go.Joins.cell_of_block hbx 3
   have c4:=Go.Joins.cell_of_block hbx 4
   have c5:=Go.Joins.cell_of_block hbx 5
   have c6:=Go.Joins.cell_of_block hbx 6
   have c7:=Go.Joins.cell_of_block hbx 7
   have f7':=Go.Joins.unfrozen_of_block hbx 7
   have hst:=setC_same (i:=7) (v:=.string ⟨t.toArray⟩) hbx
   have her:=(setC_other (b:=w.heap.size) (i:=7) (v:=.string ⟨t.toArray⟩) (show w.heap.size+1≠w.heap.size by omega)).trans R.err
   have hbe:Below w.heap.size w (wr.setCell ⟨w.heap.size,7,none⟩ (.string ⟨t.toArray⟩)):=R.be.setCell (p:=⟨w.heap.size,7,none⟩) (Nat.le_refl _) _
   have hsz:w.heap.size+1+1≤(wr.setCell ⟨w.heap.size,7,none⟩ (.string ⟨t.toArray⟩)).heap.size:=by have:=R.si;simpa [World.setCell] using this
   cases hb:isT (Fn 69 (recR ⟨a0,a1,a2,a3,a4,a5,a6,t⟩)) with
   | none=>rw [hb] at ho;cases ho
   | some bo =>
    rw [hb] at ho
    have s69:=sc_of hF (f:=69) (sh:=[.agg 8]) (vs:=[.agg (recR ⟨a0,a1,a2,a3,a4,a5,a6,t⟩)]) (rs:=[(false,[.d])]) rfl rfl (isT_some hb) rfl
    have k69:=cLit s69 (w:=wr.setCell ⟨w.heap.size,7,none⟩ (.string ⟨t.toArray⟩)) (fun b h=>Nat.lt_of_lt_of_le (hU b h) hbe.size) (hX.mono (fun b h=>hbe.block b (hU b h)) fun _ h=>h) (vs:=#[.agg #[.int .i64 a0,.int .i64 a1,.int .i64 a2,.int .i64 a3,.int .i64 a4,.int .i64 a5,.int .i64 a6,.string ⟨t.toArray⟩]]) ⟨_,_,rfl,⟨_,rfl,recR_f ⟨a0,a1,a2,a3,a4,a5,a6,t⟩⟩,rfl⟩
    clear s69 R hd hb
    cases bo with
    | false =>
     have ho':o=none:=(Option.some.inj ho).symm
     subst ho'
     go_wp2_with (go_at_call 69;refine k69.mono ?_;rintro e w5 ⟨rfl,b5⟩)
     have hb5:=(b5.block w.heap.size (by omega)).trans hst
     have he5:=(b5.block (w.heap.size+1) (by omega)).trans her
     refine leaves_cons (f:=135) (args:=#[.pointer (some ⟨w.heap.size,0,none⟩),.pointer (some ⟨w.heap.size+1,0,none⟩)]) (by simp) (by simp [go_sem]) ?_
     refine (fin_bad hb5 rfl he5 (hbe.trans (b5.mono (by omega))) rfl).mono ?_
     rintro e u' w'' ⟨rfl,h⟩
     exact h _ rfl rfl
    | true =>
     have ho':o=some ⟨a0,a1,a2,a3,a4,a5,a6,t⟩:=(Option.some.inj ho).symm
     subst ho'
     go_wp2_with (go_at_call 69;refine k69.mono ?_;rintro e w5 ⟨rfl,b5⟩;have hb5:=(b5.block w.heap.size (by omega)).trans hst;have he5:=(b5.block (w.heap.size+1) (by omega)).trans her;have d0:=Go.Joins.cell_of_block hb5 0;have f0:=Go.Joins.unfrozen_of_block hb5 0;have d1:=Go.Joins.cell_of_block hb5 1;have f1:=Go.Joins.unfrozen_of_block hb5 1;have d2:=Go.Joins.cell_of_block hb5 2;have f2:=Go.Joins.unfrozen_of_block hb5 2;have d3:=Go.Joins.cell_of_block hb5 3;have f3:=Go.Joins.unfrozen_of_block hb5 3;have d4:=Go.Joins.cell_of_block hb5 4;have f4:=Go.Joins.unfrozen_of_block hb5 4;have d5:=Go.Joins.cell_of_block hb5 5;have f5:=Go.Joins.unfrozen_of_block hb5 5;have d6:=Go.Joins.cell_of_block hb5 6;have f6:=Go.Joins.unfrozen_of_block hb5 6;have d7:=Go.Joins.cell_of_block hb5 7;have f7:=Go.Joins.unfrozen_of_block hb5 7;have de:=Go.Joins.cell_of_block he5 0;have fe:=Go.Joins.unfrozen_of_block he5 0)
     refine leaves_cons (f:=135) (args:=#[.pointer (some ⟨w.heap.size,0,none⟩),.pointer (some ⟨w.heap.size+1,0,none⟩)]) (by simp) (by simp [go_sem]) ?_
     refine (idle135 _ _ _).mono ?_
     rintro e u' w'' ⟨rfl,rfl,rfl⟩
     have hb6:w5.heap[w.heap.size]?=some (.cells #[.int .i64 a0,.int .i64 a1,.int .i64 a2,.int .i64 a3,.int .i64 a4,.int .i64 a5,.int .i64 a6,.string ⟨t.toArray⟩] 25 (0,0)):=hb5
     exact fin_ok (r:=⟨a0,a1,a2,a3,a4,a5,a6,t⟩) hb6 he5 (hbe.trans (b5.mono (by omega))) _ rfl rfl
end Go.VE
namespace Go.VE
open Go.RowKit Go.Proofs Go.Shelf Go.Lib
set_option maxRecDepth 100000
set_option maxHeartbeats 1500000
def upd {α:Type} (f:Nat→α) (i:Nat) (x:α):Nat→α:=fun j=>if j=i then x else f j
structure Th3 (z0 z1 z2:Value) (w0:World) (B:Nat) (n:Nat→Nat) (c:Nat→List Value) (v:Nat→Value) (wr:World):Prop where
 box:wr.heap[B]?=some (.cells #[v 0,v 1,v 2,z0,z1,z2] 43 (0,0))
 own:∀ i,i < 3→wr.ownsRow (B+1) 27 3 (v i) (n i) (c i)
 dis:∀ i j,i < 3→j < 3→i≠j→∀ k,(v i).ownBlock=some k→(v j).ownBlock≠some k
 z:∀ i,i < 3→n i=0→v i=.slice none 0 0
 be:Below B w0 wr
 si:B+1≤wr.heap.size
theorem own_below {w w':World} {B e size n:Nat} {v:Value} {xs:List Value} (h:w.ownsRow B e size v n xs) (hb:Below w.heap.size w w'):w'.ownsRow B e size v n xs :=
 h.kept (row:=none) ⟨hb.os,hb.tape,hb.output,hb.size,fun k hk _=>hb.block k hk⟩ (by cases v.ownBlock<;>simp)
theorem own_lt {w:World} {B e size n:Nat} {v:Value} {xs:List Value} (h:w.ownsRow B e size v n xs) (k:Nat) (hk:v.ownBlock=some k):B≤k∧k < w.heap.size:=by
 rcases h.2 with ⟨rfl,_⟩ | ⟨g,cap,cur,rfl,h2,h3,_⟩
 ·cases hk
 ·simp only [Value.ownBlock,Option.some.injEq] at hk
  subst hk
  exact ⟨h2,(Array.getElem?_eq_some_iff.1 h3).1⟩
theorem Th3.keep {z0 z1 z2:Value} {w0:World} {B:Nat} {n:Nat→Nat} {c:Nat→List Value} {v:Nat→Value} {wr w1:World} (R:Th3 z0 z1 z2 w0 B n c v wr) (hb:Below wr.heap.size wr w1):Th3 z0 z1 z2 w0 B n c v w1:=by
 have hs:=R.si
 exact ⟨(hb.block _ (by omega)).trans R.box,fun i hi=>own_below (R.own i hi) hb,R.dis,R.z,R.be.trans (hb.mono (by omega)),Nat.le_trans R.si hb.size⟩
theorem Th3.congr {z0 z1 z2:Value} {w0:World} {B:Nat} {n n':Nat→Nat} {c c':Nat→List Value} {v:Nat→Value} {wr:World} (R:Th3 z0 z1 z2 w0 B n c v wr) (hn:∀ i,i < 3→n i=n' i) (hc:∀ i,i < 3→c i=c' i):Th3 z0 z1 z2 w0 B n' c' v wr :=
 ⟨R.box,fun i hi=>by rw [←hn i hi,← hc i hi];exact R.own i hi,R.dis,fun i hi h=>R.z i hi (by rw [hn i hi];exact h),R.be,R.si⟩
theorem box_set (v:Nat→Value) (z0 z1 z2 x:Value) {i:Nat} (hi:i < 3):(#[v 0,v 1,v 2,z0,z1,z2]:Array Value).setIfInBounds i x=#[upd v i x 0,upd v i x 1,upd v i x 2,z0,z1,z2]:=by
 rcases (by omega:i=0∨i=1∨i=2) with rfl | rfl | rfl<;>simp [upd]
theorem setC_s {w:World} {b i t:Nat} {cs:Array Value} {v:Value} (h:w.heap[b]?=some (.cells cs t (0,0))):(w.setCell ⟨b,i,none⟩ v).heap[b]?=some (.cells (cs.setIfInBounds i v) t (0,0)):=setC_same h
theorem Th3.push {z0 z1 z2:Value} {w0:World} {B:Nat} {n:Nat→Nat} {c:Nat→List Value} {v:Nat→Value} {W w4:World} (R:Th3 z0 z1 z2 w0 B n c v W) {i:Nat} (hi:i < 3) {nw:List Value} {g cap:Nat}
  (own:w4.ownsRow (B+1) 27 3 (.slice (some ⟨g,0,none⟩) (n i+1) cap) (n i+1) (c i++nw)) (gro:W.grownBy w4 (v i).ownBlock) (lie:(v i).ownBlock=some g∨g=W.heap.size) :
  Th3 z0 z1 z2 w0 B (upd n i (n i+1)) (upd c i (c i++nw)) (upd v i (.slice (some ⟨g,0,none⟩) (n i+1) cap)) (w4.setCell ⟨B,i,none⟩ (.slice (some ⟨g,0,none⟩) (n i+1) cap)):=by
 have hs:=R.si
 have far:∀ k,k < B+1→w4.heap[k]?=W.heap[k]?:=fun k hk=>gro.block k (by omega) (fun e=>by have:=(own_lt (R.own i hi) k e.symm).1;omega)
 have hsz:=gro.size
 have hbel:Below B w0 (w4.setCell ⟨B,i,none⟩ (.slice (some ⟨g,0,none⟩) (n i+1) cap)) :=
  (R.be.grown gro (by omega) (fun k hk=>by have:=(own_lt (R.own i hi) k hk).1;omega)).setCell (p:=⟨B,i,none⟩) (Nat.le_refl B) _
 have ne:∀ j,j < 3→j≠i→∀ k,(v j).ownBlock=some k→g≠k:=fun j hj hji k hk e=>by
  subst e
  rcases lie with h | h
  ·exact R.dis i j hi hj (Ne.symm hji) _ h hk
  ·have:=(own_lt (R.own j hj) _ hk).2;omega
 refine ⟨?_,?_,?_,?_,hbel,?_⟩
 ·have:=setC_s (i:=i) (v:=.slice (some ⟨g,0,none⟩) (n i+1) cap) ((far B (by omega)).trans R.box)
  rwa [box_set v z0 z1 z2 _ hi] at this
 ·intro j hj
  by_cases h:j=i
  ·subst h
   simp only [upd,if_true]
   exact ownsRow_setCell_below own (a:=⟨B,j,none⟩) (by show B < B+1;omega) _
  ·simp only [upd,if_neg h]
   exact ownsRow_setCell_below ((R.own j hj).kept gro (by
    cases h':(v j).ownBlock with
    | none=>exact .inl rfl
    | some k=>exact .inr fun e=>R.dis i j hi hj (Ne.symm h) k e.symm h')) (a:=⟨B,i,none⟩) (by show B < B+1;omega) _
 ·intro a b ha hb hab k hk
  by_cases h:a=i
  ·subst h
   simp only [upd,if_true,if_neg (Ne.symm hab)] at hk ⊢
   simp only [Value.ownBlock,Option.some.injEq] at hk
   subst hk
   exact fun e=>ne b hb (Ne.symm hab) _ e rfl
  ·simp only [upd,if_neg h] at hk ⊢
   by_cases h2:b=i
   ·simp only [if_pos h2,Value.ownBlock]
    exact fun e=>ne a ha h k hk (Option.some.inj e)
   ·simp only [if_neg h2]
    exact R.dis a b ha hb hab k hk
 ·intro j hj h
  by_cases h2:j=i
  ·subst h2;simp [upd] at h
  ·simp only [upd,if_neg h2] at h ⊢
   exact R.z j hj h
 ·have:(w4.setCell ⟨B,i,none⟩ (.slice (some ⟨g,0,none⟩) (n i+1) cap)).heap.size=w4.heap.size:=by simp [World.setCell]
  omega
def litV:D→Value
 | .lit v=>v
 | _=>.slice none 0 0
def isLit:D→Bool
 | .lit v=>plain v
 | _=>false
theorem CR_lits {w:World} {U:Nat→Prop} {b:Nat}:∀ {r:List D} {o:Nat},(∀ x∈r,isLit x=true)→(∀ j u,(r.map litV)[j]?=some u→w.cell? ⟨b,o+j,none⟩=some u)→CR w U b o r
 | [],o,_,_=>by simp [CR]
 | x::r,o,hl,hc=>by
  simp only [CR]
  refine ⟨⟨litV x,by simpa using hc 0 _ rfl,?_⟩,CR_lits (fun y hy=>hl y (by simp [hy])) fun j u hu=>?_⟩
  ·have:=hl x (by simp)
   unfold isLit at this
   split at this
   ·exact ⟨rfl,this⟩
   ·cases this
  ·have:=hc (j+1) u (by simpa using hu)
   rwa [show o+(j+1)=o+1+j by omega] at this
def rowsV (rows:List (List D)):List Value:=rows.flatMap fun r=>r.map litV
theorem RR_lits {w:World} {U:Nat→Prop} {b s:Nat}:∀ {rows:List (List D)} {o:Nat},(∀ r∈rows,r.length=s∧∀ x∈r,isLit x=true)→(∀ j u,(rowsV rows)[j]?=some u→w.cell? ⟨b,o+j,none⟩=some u)→RR w U b o s rows
 | [],o,_,_=>by simp [RR]
 | r::rows,o,hl,hc=>by
  have h0:=hl r (by simp)
  simp only [RR]
  refine ⟨h0.1,CR_lits h0.2 fun j u hu=>hc j u ?_,RR_lits (fun y hy=>hl y (by simp [hy])) fun j u hu=>?_⟩
  ·have hj:=(List.getElem?_eq_some_iff.1 hu).1
   simp only [rowsV,List.flatMap_cons]
   rw [List.getElem?_append_left hj]
   exact hu
  ·have:=hc (s+j) u (by
    simp only [rowsV,List.flatMap_cons]
    rw [List.getElem?_append_right (by rw [List.length_map,h0.1];omega),List.length_map,h0.1,Nat.add_sub_cancel_left]
    exact hu)
   rwa [show o+(s+j)=o+s+j by omega] at this
theorem DR_own {w:World} {U:Nat→Prop} {B e n:Nat} {v:Value} {rows:List (List D)} (h:w.ownsRow B e 3 v n (rowsV rows)) (hn:rows.length=n) (hl:∀ r∈rows,r.length=3∧∀ x∈r,isLit x=true) (hz:n=0→v=.slice none 0 0) (hU:∀ k,v.ownBlock=some k→U k):DR w U (slZ rows) v:=by
 cases rows with
 | nil =>
  have:n=0:=by simpa using hn.symm
  rw [hz this]
  exact ⟨rfl,rfl⟩
 | cons r rs =>
  rcases h.2 with ⟨_,h0⟩ | ⟨g,cap,cur,rfl,h2,h3,h4,h5,h6,h7⟩
  ·rw [h0] at hn;simp at hn
  ·simp only [slZ,DR]
   refine ⟨_,cap,by rw [hn],by rw [hn];exact h4,h5,fun _=>⟨g,0,rfl,hU g rfl,RR_lits hl fun j u hu=>?_⟩⟩
   rw [Nat.zero_add,h.cellAt j (by have:=(List.getElem?_eq_some_iff.1 hu).1;rw [h.1] at this;exact this)]
   exact hu
end Go.VE
