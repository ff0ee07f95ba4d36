/- All operations together. -/
import Derived.Test.YtipddjojdgapiaaGreatDoorMa
import Derived.Laws.StructEq
import Derived.Lib.AppendZeros
import Derived.Orders
import Derived.LoopN
namespace Go.VE
open Go.RowKit
variable {P:Program} {w:World} {U:Nat→Prop} {ι:Pl} {ob:Ob}
theorem good_grow (hm:Mem w U ι ob) {dst:Option Nat} {t t' ty e s bs:Nat} {zs:List Value} {k kt:IntKind} {n:Int} {r:Res} (he:elemC P t=some e) (ht:intC P t'=some kt) (hs:sizeC P e=some s) (hz:zeroC P e=some zs) (hb:bytesC P e=some bs)
  (hs0:0 < s) (hzl:zs.length=s) (h0:0 < n) (hbn:(bs:Int)*n≤140737488355328) (h63:n≤9223372036854775807)
  (hr:(fresh dst (.arr (List.replicate n.toNat (zs.map .lit)) s e true) fun k=>.one (.slk k 0 n.toNat n.toNat)).run ob=some r):Good P w U ι ob (Builtin.append_ #[t,t'] ty #[.slice none 0 0,.int k n]) r:=by
 obtain ⟨i,z,hi,hz',hz1,hz2⟩:=zeroC_some hz
 obtain ⟨i',hi',hs'⟩:=sizeC_info hs
 obtain ⟨i'',hi'',hb'⟩:=bytesC_info hb
 rw [hi] at hi' hi''
 cases hi';cases hi''
 have hkt:P.underlying t'=some (.int kt):=by
  unfold intC at ht
  split at ht
  ·cases ht;assumption
  ·cases ht
 obtain ⟨m,rfl⟩:∃ m:Nat,n=m:=⟨n.toNat,by omega⟩
 simp only [Int.toNat_natCast] at hr
 have hbm:m*i.bytes≤281474976710656:=by
  have:((bs*m:Nat):Int)≤140737488355328:=by rw [Int.natCast_mul];exact hbn
  rw [hb',Nat.mul_comm]
  omega
 have hrun:=Lib.run_append_nil_zeros (P:=P) w t t' ty e i z k kt (r_slice he) hkt hi hz' m (by omega) (by omega) h63 hbm
 have hzsz:z.cells.size=s:=by rw [←hzl,← hz1];simp
 refine arr_new hm w.drew (.inr rfl) hr (by simp) (grownCap_ge w m 0 e) (grownCap_le_maxLen w m 0 e (by simp [maxLen];omega)) ?_ (by intro r hr;rw [List.eq_of_mem_replicate hr];simpa using hzl) ⟨(List.replicate m zs).flatten,replicate_FR hz2 _,?_⟩ hrun
 ·have:=grownCap_ge w m 0 e
  simp only [Array.size_append,Builtin.zeroCells,Array.size_map,Array.size_range,hzsz]
  rw [←Nat.add_mul]
  congr 1
  omega
 ·intro j u hu
  have hmf:=made_flatten (z:=z.cells) (n:=m) hzsz hs0
  rw [hz1] at hmf
  rw [←hmf] at hu
  have hj:j < m*s:=by
   have:=(List.getElem?_eq_some_iff.1 hu).1
   simpa using this
  rw [Array.getElem?_append_left (by simp [Builtin.zeroCells,hzsz];exact hj)]
  rw [←Array.getElem?_toList]
  simp only [Builtin.zeroCells,hzsz] at hu ⊢
  exact hu
def OpGood (P:Program) (w:World) (U:Nat→Prop) (ι:Pl) (ob:Ob) (s:Sem Next) (r:Res):Prop :=
 ∃ nx w' U' ι',s.run P w=.ok nx w'∧Mem w' U' ι' (putO ob r.2)∧Evo w U ι ob w' U' ι' (putO ob r.2)∧((∃ v,nx=.value v∧VR w' U' ι' (putO ob r.2) r.1 v)∨(nx=.skip∧r.1=.one .undef))
theorem opGood {s:Sem Value} {r:Res} {s':Sem Next} (h:Good P w U ι ob s r) (hs:s'=(do pure (.value (← s)))):OpGood P w U ι ob s' r:=by
 obtain ⟨v,w',U',ι',h1,h2,h3,h4⟩:=h
 subst hs
 exact ⟨.value v,w',U',ι',by simp [h1],h2,h3,.inl ⟨v,rfl,h4⟩⟩
theorem opGoodU {s:Sem Unit} {r:Res} {s':Sem Next} (h:GoodU P w U ι ob s r) (hs:s'=(do s;pure .skip)):OpGood P w U ι ob s' r:=by
 obtain ⟨w',U',ι',h1,h2,h3,h4⟩:=h
 subst hs
 exact ⟨.skip,w',U',ι',by simp [h1],h2,h3,.inr ⟨rfl,h4⟩⟩
def veq:List Nat→List Value→List Value→Option Bool
 | [],[],[]=>some true
 | k::ks,u::us,v::vs=>match litEq k u v,veq ks us vs with
  | some b,some c=>some (b&&c)
  | _,_=>none
 | _,_,_=>none
theorem veq_len:∀ {ks:List Nat} {us vs:List Value} {b:Bool},veq ks us vs=some b→us.length=ks.length∧vs.length=ks.length
 | [],[],[],_,_=>⟨rfl,rfl⟩
 | [],[],_::_,_,h=>by simp [veq] at h
 | [],_::_,_,_,h=>by simp [veq] at h
 | _::_,[],_,_,h=>by simp [veq] at h
 | _::_,_::_,[],_,h=>by simp [veq] at h
 | k::ks,u::us,v::vs,b,h=>by
  simp only [veq] at h
  split at h
  ·rename_i h1 h2
   have:=veq_len h2
   simp [this.1,this.2]
  ·cases h
theorem veq_append:∀ {ks js:List Nat} {us vs:List Value} {b:Bool},veq (ks++js) us vs=some b→∃ b1 b2,veq ks (us.take ks.length) (vs.take ks.length)=some b1∧veq js (us.drop ks.length) (vs.drop ks.length)=some b2∧b=(b1&&b2)
 | [],js,us,vs,b,h=>⟨true,b,by simp [veq],by simpa using h,by simp⟩
 | k::ks,js,[],vs,b,h=>by simp [veq] at h
 | k::ks,js,u::us,[],b,h=>by simp [veq] at h
 | k::ks,js,u::us,v::vs,b,h=>by
  simp only [List.cons_append,veq] at h
  split at h
  ·rename_i c1 c2 h1 h2
   obtain ⟨b1,b2,h3,h4,rfl⟩:=veq_append h2
   cases h
   exact ⟨c1&&b1,b2,by simp [veq,h1,h3],by simpa using h4,by rw [Bool.and_assoc]⟩
  ·cases h
theorem litEq_int {u v:Value} {b:Bool} (h:litEq 1 u v=some b):∃ k a c,u=.int k a∧v=.int k c∧b=(a==c):=by
 unfold litEq at h
 split at h
 ·split at h
  ·rename_i hk
   subst hk
   cases h
   exact ⟨_,_,_,rfl,rfl,rfl⟩
  ·cases h
 ·contradiction
 ·contradiction
 ·cases h
theorem litEq_bool {u v:Value} {b:Bool} (h:litEq 0 u v=some b):∃ a c,u=.bool a∧v=.bool c∧b=(a==c):=by
 unfold litEq at h
 split at h
 ·contradiction
 ·cases h;exact ⟨_,_,rfl,rfl,rfl⟩
 ·contradiction
 ·cases h
theorem litEq_str {u v:Value} {b:Bool} (h:litEq 2 u v=some b):∃ a c,u=.string a∧v=.string c∧b=(a.toList==c.toList):=by
 unfold litEq at h
 split at h
 ·contradiction
 ·contradiction
 ·cases h;exact ⟨_,_,rfl,rfl,rfl⟩
 ·cases h
theorem veq_one {k:Nat} {u v:Value} {b:Bool} (h:veq [k] [u] [v]=some b):litEq k u v=some b:=by
 simp only [veq] at h
 split at h
 ·rename_i h1 h2
  cases h2
  cases h
  rw [h1,Bool.and_true]
 ·cases h
def mkVal (P:Program) (t:Nat) (us:List Value):Value:=if aggC P t=some true then .agg us.toArray else us.getD 0 undef
theorem part_ok {t s off:Nat} {us:List Value} (hs:sizeC P t=some s) (hg:(aggC P t).isSome=true) (hne:aggC P t=some true∨s=1) (hl:off+s≤us.length) :
  (part t us.toArray off).run P w=.ok (mkVal P t ((us.drop off).take s)) w:=by
 obtain ⟨g,hg⟩:=Option.isSome_iff_exists.1 hg
 unfold part mkVal
 simp only [Sem.run_bind,r_isAgg hg,Result.andThen_ok,Sem.run_ite,r_sizeOf hs,Sem.run_pure,hg]
 cases g with
 | true =>
  simp only [if_true]
  congr 2
  apply Array.ext'
  simp [List.extract_eq_take_drop]
 | false =>
  have h1:s=1:=hne.resolve_left (by simp [hg])
  subst h1
  have hlt:off < us.length:=by omega
  simp [hlt,List.getElem?_drop]
theorem flat_isAgg {d t:Nat} {ks:List Nat} (h:flatC P d t=some ks):(aggC P t).isSome=true∧(aggC P t=some true∨ks.length=1):=by
 cases d with
 | zero=>simp [flatC] at h
 | succ d =>
  simp only [flatC] at h
  split at h<;>rename_i hu
  ·cases h;simp [aggC,hu,isAggD]
  ·cases h;simp [aggC,hu,isAggD]
  ·cases h;simp [aggC,hu,isAggD]
  ·simp [aggC,hu,isAggD]
  ·simp [aggC,hu,isAggD]
  ·cases h
theorem flat_eq:∀ (d:Nat) {t:Nat} {ks:List Nat},flatC P d t=some ks→∀ {us vs:List Value} {b:Bool} (D:Nat),d≤D→veq ks us vs=some b→(Op.equalIn D t (mkVal P t us) (mkVal P t vs)).run P w=.ok b w
 | 0,t,ks,h,_,_,_,_,_,_=>by simp [flatC] at h
 | d+1,t,ks,h,us,vs,b,D,hD,hv=>by
  obtain ⟨D,rfl⟩:∃ D',D=D'+1:=⟨D - 1,by omega⟩
  simp only [flatC] at h
  split at h<;>rename_i hu
  ·rename_i k
   cases h
   obtain ⟨hl1,hl2⟩:=veq_len hv
   match us,vs,hl1,hl2 with
   | [u],[v],_,_ =>
    obtain ⟨_,_,_,rfl,rfl,rfl⟩:=litEq_int (veq_one hv)
    simp only [mkVal,aggC,hu,isAggD,Option.map_some,Option.some.injEq,Bool.false_eq_true,if_false,List.getD_cons_zero]
    rw [run_equalIn_int _ _ _ _ _ _ _ hu]
  ·cases h
   obtain ⟨hl1,hl2⟩:=veq_len hv
   match us,vs,hl1,hl2 with
   | [u],[v],_,_ =>
    obtain ⟨_,_,rfl,rfl,rfl⟩:=litEq_bool (veq_one hv)
    simp only [mkVal,aggC,hu,isAggD,Option.map_some,Option.some.injEq,Bool.false_eq_true,if_false,List.getD_cons_zero]
    rw [run_equalIn_bool' _ _ _ _ _ hu]
  ·cases h
   obtain ⟨hl1,hl2⟩:=veq_len hv
   match us,vs,hl1,hl2 with
   | [u],[v],_,_ =>
    obtain ⟨_,_,rfl,rfl,rfl⟩:=litEq_str (veq_one hv)
    simp only [mkVal,aggC,hu,isAggD,Option.map_some,Option.some.injEq,Bool.false_eq_true,if_false,List.getD_cons_zero]
    rw [run_equalIn_string _ _ _ _ _ hu]
  ·rename_i fs
   split at h
   ·cases h
   ·rename_i hno
    have hagg:aggC P t=some true:=by simp [aggC,hu,isAggD]
    have hfo:P.fieldsOf t=fs:=by simp [Program.fieldsOf,hu]
    simp only [mkVal,hagg,if_true]
    rw [run_equalIn_agg _ _ _ _ _ (by rw [hfo];exact hu) (by simpa using (not_or.1 hno).1),hfo]
    have key:∀ (fl:List Field) (off:Nat) (ks:List Nat),flatF (flatC P d) P off fl=some ks→∀ (b:Bool),veq ks (us.drop off) (vs.drop off)=some b→(Op.eqFields D us.toArray vs.toArray fl).run P w=.ok b w:=by
     intro fl
     induction fl with
     | nil =>
      intro off ks hk b hb
      simp only [flatF,Option.some.injEq] at hk
      subst hk
      cases hd1:us.drop off with
      | nil =>
       cases hd2:vs.drop off with
       | nil=>rw [hd1,hd2] at hb;simp [veq] at hb;subst hb;simp [Op.eqFields]
       | cons _ _=>rw [hd1,hd2] at hb;simp [veq] at hb
      | cons _ _=>rw [hd1] at hb;simp [veq] at hb
     | cons f fl ih =>
      intro off ks hk b hb
      simp only [flatF] at hk
      split at hk
      ·rename_i ks1 hf1
       split at hk
       ·rename_i hcond
        obtain ⟨ho,hn,hsz,h0⟩:=hcond
        simp only [Option.map_eq_some_iff] at hk
        obtain ⟨ks2,hk2,rfl⟩:=hk
        obtain ⟨b1,b2,hb1,hb2,rfl⟩:=veq_append hb
        obtain ⟨hlu,hlv⟩:=veq_len hb
        simp at hlu hlv
        obtain ⟨ha1,ha2⟩:=flat_isAgg hf1
        have p1:=part_ok (P:=P) (w:=w) (off:=off) (us:=us) hsz ha1 ha2
        have p2:=part_ok (P:=P) (w:=w) (off:=off) (us:=vs) hsz ha1 ha2
        have hpos:off+ks1.length≤us.length∧off+ks1.length≤vs.length:=by omega
        have he:=flat_eq d hf1 D (by omega) hb1
        simp only [Op.eqFields,Sem.run_ite,if_pos hn,Sem.run_bind,ho,p1 hpos.1,p2 hpos.2,Result.andThen_ok,he]
        have:=ih (off+ks1.length) ks2 hk2 b2 (by simpa [List.drop_drop] using hb2)
        cases b1<;>simp [this]
       ·cases hk
      ·cases hk
    exact key _ 0 ks h b (by simpa using hv)
  ·rename_i k e
   split at h
   ·cases h
   ·split at h
    ·rename_i ks1 hf1
     split at h
     ·rename_i hsz
      obtain ⟨hsz,h0⟩:=hsz
      cases h
      have hagg:aggC P t=some true:=by simp [aggC,hu,isAggD]
      simp only [mkVal,hagg,if_true]
      obtain ⟨ha1,ha2⟩:=flat_isAgg hf1
      have key:∀ (m o:Nat) (b:Bool),veq (List.replicate m ks1).flatten (us.drop (o*ks1.length)) (vs.drop (o*ks1.length))=some b →
        (forIn (List.range' o m) ((none,()):Option Bool×Unit) (fun i (_:Option Bool×Unit)=>do
         if (!(← Op.equalIn D e (← part e us.toArray (i*ks1.length)) (← part e vs.toArray (i*ks1.length))))=true then pure (ForInStep.done (some false,())) else pure (ForInStep.yield (none,())))).run P w=.ok (if b then (none,()) else (some false,())) w:=by
       intro m
       induction m with
       | zero =>
        intro o b hb
        simp only [List.replicate_zero,List.flatten_nil] at hb
        cases hd1:us.drop (o*ks1.length) with
        | nil =>
         cases hd2:vs.drop (o*ks1.length) with
         | nil=>rw [hd1,hd2] at hb;simp [veq] at hb;subst hb;simp
         | cons _ _=>rw [hd1,hd2] at hb;simp [veq] at hb
        | cons _ _=>rw [hd1] at hb;simp [veq] at hb
       | succ m ih =>
        intro o b hb
        rw [List.replicate_succ,List.flatten_cons] at hb
        obtain ⟨b1,b2,hb1,hb2,rfl⟩:=veq_append hb
        obtain ⟨hlu,hlv⟩:=veq_len hb
        simp only [List.length_drop,List.length_append] at hlu hlv
        have p1:=part_ok (P:=P) (w:=w) (off:=o*ks1.length) (us:=us) hsz ha1 ha2
        have p2:=part_ok (P:=P) (w:=w) (off:=o*ks1.length) (us:=vs) hsz ha1 ha2
        have hpos:o*ks1.length+ks1.length≤us.length∧o*ks1.length+ks1.length≤vs.length:=by omega
        have he:=flat_eq d hf1 D (by omega) hb1
        have:=ih (o+1) b2 (by simpa [List.drop_drop,Nat.add_mul] using hb2)
        simp only [List.range'_succ,List.forIn_cons,Sem.run_bind,p1 hpos.1,p2 hpos.2,Result.andThen_ok,he]
        cases b1
        ·rw [if_pos (by decide)]
         rfl
        ·rw [if_neg (by decide)]
         simp only [Sem.run_pure,Result.andThen_ok,Bool.true_and]
         exact this
      have hv':=key k 0 b (by simpa using hv)
      simp only [Op.equalIn,Sem.run_bind,run_underlying hu,Result.andThen_ok,r_sizeOf hsz,Std.Legacy.Range.forIn_eq_forIn_range']
      have hr:(List.range' ([:k]:Std.Legacy.Range).start ([:k]:Std.Legacy.Range).size ([:k]:Std.Legacy.Range).step)=List.range' 0 k:=by simp [Std.Legacy.Range.size]
      rw [hr,hv']
      cases b<;>rfl
     ·cases h
    ·cases h
  ·cases h
theorem flat_guard {d t:Nat} {ks:List Nat} (hks:flatC P (d+1) t=some ks) (hagg:aggC P t=some true):P.eqGuardType P.depth t=false:=by
 simp only [flatC] at hks
 split at hks<;>rename_i hun
 ·simp [aggC,hun,isAggD] at hagg
 ·simp [aggC,hun,isAggD] at hagg
 ·simp [aggC,hun,isAggD] at hagg
 ·split at hks
  ·cases hks
  ·rename_i hno;exact Bool.eq_false_iff.2 (not_or.1 hno).2
 ·split at hks
  ·cases hks
  ·rename_i hno;exact Bool.eq_false_iff.2 hno
 ·cases hks
theorem cells_veq {ks:List Nat} {xs ys:List L} {us vs:List Value} {b:Bool} (h:cellsEq ks xs ys=some b) (hu:LF w U ι ob xs us) (hv:LF w U ι ob ys vs):veq ks us vs=some b:=by
 induction ks generalizing xs ys us vs b with
 | nil =>
  cases xs<;>cases ys<;>simp [cellsEq] at h
  subst h
  simp only [LF] at hu hv
  subst hu hv
  rfl
 | cons k ks ih =>
  cases xs with
  | nil=>simp [cellsEq] at h
  | cons x xs =>
   cases ys with
   | nil=>cases x<;>simp [cellsEq] at h
   | cons y ys =>
    cases x with
    | d x =>
     cases y with
     | d y =>
      cases x with
      | lit u =>
       cases y with
       | lit v =>
        simp only [cellsEq] at h
        split at h
        ·rename_i b1 b2 h1 h2
         cases h
         simp only [LF,LR,DR] at hu hv
         obtain ⟨_,us',rfl,⟨rfl,_⟩,hu⟩:=hu
         obtain ⟨_,vs',rfl,⟨rfl,_⟩,hv⟩:=hv
         simp [veq,h1,ih h2 hu hv]
        ·cases h
       | _=>simp [cellsEq] at h
      | _=>simp [cellsEq] at h
     | _=>cases x<;>simp [cellsEq] at h
    | _=>simp [cellsEq] at h
theorem r_eq_bool {t:Nat} (a b:Bool) (h:P.underlying t=some .bool):(Op.equal t (.bool a) (.bool b)).run P w=.ok (a==b) w:=by
 unfold Op.equal Op.maxDepth
 exact run_equalIn_bool' w 9999 t a b h
theorem r_eq_slice (d:Nat) {t e:Nat} (ht:P.underlying t=some (.slice e)):(∀ a n c,(Op.equalIn (d+1) t (.slice (some a) n c) (.slice none 0 0)).run P w=.ok false w)∧(Op.equalIn (d+1) t (.slice none 0 0) (.slice none 0 0)).run P w=.ok true w :=
 ⟨fun a n c=>by simp [Op.equalIn,run_underlying ht],by simp [Op.equalIn,run_underlying ht]⟩
theorem r_eq_ptr (d:Nat) {t e:Nat} (ht:P.underlying t=some (.pointer e)):(∀ a,(Op.equalIn (d+1) t (.pointer (some a)) (.pointer none)).run P w=.ok false w)∧(Op.equalIn (d+1) t (.pointer none) (.pointer none)).run P w=.ok true w :=
 ⟨fun a=>by simp [Op.equalIn,run_underlying ht],by simp [Op.equalIn,run_underlying ht]⟩
theorem good_bin (hm:Mem w U ι ob) {op:BinOp} {t:Nat} {a b:V} {u v:Value} {x y:Operand} {r:Res} (hu:VR w U ι ob a u) (hv:VR w U ι ob b v) (hr:(pureR (binQ P op t a b)).run ob=some r) :
  Good P w U ι ob (do eqGuard op t x y u v;binOp op t u v) r:=by
 obtain ⟨r',hq,rfl⟩:=pureR_run hr
 unfold binQ at hq
 split at hq
 ·rename_i k m k' n
  simp only [VR,LR,DR] at hu hv
  obtain ⟨rfl,_⟩:=hu
  obtain ⟨rfl,_⟩:=hv
  simp only [Option.map_eq_some_iff] at hq
  obtain ⟨z,hz,rfl⟩:=hq
  unfold aBin at hz
  split at hz
  ·split at hz
   ·cases hz
   ·rename_i h0
    cases hz
    exact good_pure hm (by simp [eqGuard_at_int,binOp,Op.shift,h0]) (vlit_VR rfl)
  ·split at hz
   ·cases hz
   ·rename_i h0
    cases hz
    exact good_pure hm (by simp [eqGuard_at_int,binOp,Op.shift,h0]) (vlit_VR rfl)
  ·rename_i hn1 hn2
   split at hz
   ·rename_i hk
    subst hk
    refine good_pure hm (u:=z) ?_ (vlit_VR ?_)
    ·cases op<;>simp at hz hn1 hn2<;>first
      | (subst hz;simp [eqGuard_at_int,binOp,Op.intArith,Op.intCmp,Op.intBits];done)
      | (obtain ⟨h0,rfl⟩:=hz;simp [eqGuard_at_int,binOp,Op.intDiv,h0];done)
    ·cases op<;>simp at hz hn1 hn2<;>first
      | (subst hz;rfl)
      | (obtain ⟨h0,rfl⟩:=hz;rfl)
   ·cases hz
 ·rename_i m n
  simp only [VR,LR,DR] at hu hv
  obtain ⟨rfl,_⟩:=hu
  obtain ⟨rfl,_⟩:=hv
  split at hq
  ·rename_i hb
   have ht:P.underlying t=some .bool:=by
    unfold boolC at hb
    split at hb
    ·assumption
    ·cases hb
   cases op<;>simp at hq
   ·subst hq
    refine good_pure hm (u:=.bool (m==n)) ?_ (vlit_VR rfl)
    simp [eqGuard_at_bool,binOp,r_eq_bool m n ht]
   ·subst hq
    refine good_pure hm (u:=.bool (m != n)) ?_ (vlit_VR rfl)
    simp [eqGuard_at_bool,binOp,r_eq_bool m n ht]
    cases m<;>cases n<;>rfl
  ·cases hq
 ·rename_i m n
  simp only [VR,LR,DR] at hu hv
  obtain ⟨rfl,_⟩:=hu
  obtain ⟨rfl,_⟩:=hv
  simp only [Option.map_eq_some_iff] at hq
  obtain ⟨z,hz,rfl⟩:=hq
  unfold aStr at hz
  refine good_pure hm (u:=z) ?_ (vlit_VR ?_)
  ·cases op<;>simp at hz<;>first
    | (subst hz;simp [eqGuard_at_string,binOp,Op.stringOp];done)
    | (obtain ⟨h0,rfl⟩:=hz;simp [eqGuard_at_string,binOp,Op.stringOp];omega)
  ·cases op<;>simp at hz<;>first
    | (subst hz;rfl)
    | (obtain ⟨h0,rfl⟩:=hz;rfl)
 ·rename_i xs ys
  split at hq
  ·rename_i ks hks
   split at hq
   ·rename_i hagg
    simp only [VR] at hu hv
    obtain ⟨us,rfl,hu⟩:=hu
    obtain ⟨vs,rfl,hv⟩:=hv
    have hguard:P.eqGuardType P.depth t=false:=flat_guard (d:=7) hks hagg
    have heq:∀ b,cellsEq ks xs ys=some b→(Op.equalIn 10000 t (.agg us) (.agg vs)).run P w=.ok b w:=by
     intro b hb
     have:=flat_eq 8 hks (w:=w) 10000 (by omega) (cells_veq hb hu hv)
     simpa [mkVal,hagg] using this
    split at hq
    ·rename_i b hb
     cases hq
     refine good_pure hm (u:=.bool b) ?_ (vlit_VR rfl)
     rw [Sem.run_bind,run_eqGuard_agg _ _ _ _ _ _ _ hguard,Result.andThen_ok,run_eql_struct,heq b hb]
     rfl
    ·rename_i b hb
     cases hq
     refine good_pure hm (u:=.bool !b) ?_ (vlit_VR rfl)
     rw [Sem.run_bind,run_eqGuard_agg _ _ _ _ _ _ _ hguard,Result.andThen_ok,run_neq_struct,heq b hb]
     rfl
    ·cases hq
   ·cases hq
  ·cases hq
 ·split at hq
  case isFalse =>
   split at hq
   case isFalse=>cases hq
   rename_i hel
   have ht:∃ e,P.underlying t=some (.pointer e):=by
    unfold ptrC at hel
    split at hel
    ·exact ⟨_,by assumption⟩
    ·cases hel
   obtain ⟨e,ht⟩:=ht
   have hboth:(Op.equal t (.pointer none) (.pointer none)).run P w=.ok true w:=(r_eq_ptr 9999 ht).2
   have hone:∀ a,(Op.equal t (.pointer (some a)) (.pointer none)).run P w=.ok false w:=fun a=>(r_eq_ptr 9999 ht).1 a
   unfold nilP at hq
   split at hq
   ·simp only [VR,LR,DR] at hu hv
    obtain ⟨_,b,_,rfl⟩:=hu
    obtain ⟨rfl,_⟩:=hv
    have heq:=hone ⟨b,‹Nat›,none⟩
    split at hq
    ·cases hq;exact good_pure hm (u:=.bool false) (by simp [eqGuard,binOp,hone]) (vlit_VR rfl)
    ·cases hq;exact good_pure hm (u:=.bool true) (by simp [eqGuard,binOp,hone]) (vlit_VR rfl)
    ·cases hq
   ·simp only [VR,LR,DR] at hu hv
    obtain ⟨rfl,_⟩:=hu
    obtain ⟨rfl,_⟩:=hv
    split at hq
    ·cases hq;exact good_pure hm (u:=.bool true) (by simp [eqGuard,binOp,hboth]) (vlit_VR rfl)
    ·cases hq;exact good_pure hm (u:=.bool false) (by simp [eqGuard,binOp,hboth]) (vlit_VR rfl)
    ·cases hq
   ·cases hq
  rename_i hel
  have ht:∃ e,P.underlying t=some (.slice e):=by
   unfold elemC at hel
   split at hel
   ·exact ⟨_,by assumption⟩
   ·cases hel
  obtain ⟨e,ht⟩:=ht
  unfold nilQ at hq
  split at hq
  ·simp only [VR,LR,DR] at hu hv
   obtain ⟨a,cap,rfl,_⟩:=hu
   obtain ⟨rfl,_⟩:=hv
   have heq:∀ n,(Op.equal t (.slice (some a) n cap) (.slice none 0 0)).run P w=.ok false w:=fun n=>(r_eq_slice 9999 ht).1 a n cap
   split at hq
   ·cases hq;exact good_pure hm (u:=.bool false) (by simp [eqGuard,binOp,heq]) (vlit_VR rfl)
   ·cases hq;exact good_pure hm (u:=.bool true) (by simp [eqGuard,binOp,heq]) (vlit_VR rfl)
   ·cases hq
  ·simp only [VR,LR,DR] at hu hv
   obtain ⟨rfl,_⟩:=hu
   obtain ⟨rfl,_⟩:=hv
   have heq:(Op.equal t (.slice none 0 0) (.slice none 0 0)).run P w=.ok true w:=(r_eq_slice 9999 ht).2
   split at hq
   ·cases hq;exact good_pure hm (u:=.bool true) (by simp [eqGuard,binOp,heq]) (vlit_VR rfl)
   ·cases hq;exact good_pure hm (u:=.bool false) (by simp [eqGuard,binOp,heq]) (vlit_VR rfl)
   ·cases hq
  ·cases hq
theorem zshape_ok {t:Nat} {g:Bool} {zs:List Value} (hz:zeroC P t=some zs) (h:zshape P t g=true):(P.info? t).bind (·.zero)=some (valOf g zs):=by
 obtain ⟨i,z,hi,hz',hz1,hz2⟩:=zeroC_some hz
 simp only [zshape,hi,Option.bind_some,hz'] at h ⊢
 cases z<;>simp at h<;>subst h<;>simp [Value.cells] at hz1<;>subst hz1<;>simp [valOf]
theorem len_ok {x:V} {u:Value} {n:Nat} (hx:VR w U ι ob x u) (h:lenQ x=some n) {t ty:Nat} (ht:(elemC P t).isSome=true):(Builtin.len_ #[t] ty #[u]).run P w=.ok (.int .i64 n) w:=by
 obtain ⟨e,he⟩:=Option.isSome_iff_exists.1 ht
 have hu:=r_slice he
 unfold lenQ at h
 split at h
 ·cases h;simp only [VR,LR] at hx;obtain ⟨_,_,_,_,_,_,_,a,c',rfl,_⟩:=hx;simp [Builtin.len_,run_underlying hu,goInt]
 ·cases h;simp only [VR,LR] at hx;rcases hx with ⟨rfl,rfl⟩ | ⟨_,_,_,_,_,_,_,_,a,c',rfl,_⟩<;>simp [Builtin.len_,run_underlying hu,goInt]
 ·cases h;simp only [VR,LR,DR] at hx;obtain ⟨a,cap,rfl,_⟩:=hx;simp [Builtin.len_,run_underlying hu,goInt]
 ·cases h;simp only [VR,LR,DR] at hx;obtain ⟨rfl,_⟩:=hx;simp [Builtin.len_,run_underlying hu,goInt]
 ·cases h
theorem mm2_ok {mx:Bool} {x y v:V} {ux uy:Value} (hx:VR w U ι ob x ux) (hy:VR w U ι ob y uy) (h:mm2 mx x y=some v):∃ u,((if mx then Builtin.max2 else Builtin.min2) ux uy).run P w=.ok u w∧VR w U ι ob v u:=by
 unfold mm2 at h
 split at h
 ·rename_i p q h1 h2
  have e1:=vInt_VR hx h1
  have e2:=vInt_VR hy h2
  split at h
  ·rename_i hk
   cases h
   refine ⟨_,?_,vlit_VR rfl⟩
   rw [e1,e2]
   cases mx with
   | true =>
    simp only [if_true,Builtin.max2,Sem.run_pure]
    congr 2
    split<;>omega
   | false =>
    simp only [Bool.false_eq_true,if_false,Builtin.min2,Sem.run_pure]
    congr 2
    split<;>omega
  ·cases h
 ·cases h
theorem mmF_ok (mx:Bool):∀ {rest:List V} {us:List Value} {x:V} {ux:Value} {v:V},VR w U ι ob x ux→VF w U ι ob rest us→mmF mx x rest=some v→∃ u,(us.foldlM (if mx then Builtin.max2 else Builtin.min2) ux).run P w=.ok u w∧VR w U ι ob v u
 | [],us,x,ux,v,hx,hr,h=>by
  simp only [VF] at hr
  subst hr
  simp only [mmF,Option.some.injEq] at h
  subst h
  exact ⟨ux,rfl,hx⟩
 | y::rest,us,x,ux,v,hx,hr,h=>by
  simp only [VF] at hr
  obtain ⟨uy,us',rfl,hy,hr⟩:=hr
  simp only [mmF,Option.bind_eq_some_iff] at h
  obtain ⟨z,hz,h⟩:=h
  obtain ⟨uz,h1,h2⟩:=mm2_ok (P:=P) hx hy hz
  obtain ⟨u,h3,h4⟩:=mmF_ok mx h2 hr h
  exact ⟨u,by simp only [List.foldlM_cons,Sem.run_bind,h1,Result.andThen_ok,h3],h4⟩
theorem mmList_ok (mx:Bool) {xs:List V} {us:List Value} {v:V} (hl:VF w U ι ob xs us) (h:mmList mx xs=some v):∃ u,((if mx then Builtin.max_ #[] 0 us.toArray else Builtin.min_ #[] 0 us.toArray)).run P w=.ok u w∧VR w U ι ob v u:=by
 cases xs with
 | nil=>simp [mmList] at h
 | cons x rest =>
  simp only [VF] at hl
  obtain ⟨ux,us',rfl,hx,hr⟩:=hl
  simp only [mmList] at h
  obtain ⟨u,h1,h2⟩:=mmF_ok (P:=P) mx hx hr h
  refine ⟨u,?_,h2⟩
  cases mx with
  | true=>simpa [Builtin.max_] using h1
  | false=>simpa [Builtin.min_] using h1
theorem map_VF {ρ:Operand→V} {ρ':Operand→Value} (hρ:∀ x,VR w U ι ob (ρ x) (ρ' x)):∀ xs:List Operand,VF w U ι ob (xs.map ρ) (xs.map ρ')
 | []=>by simp [VF]
 | x::xs=>by simp only [List.map_cons,VF];exact ⟨_,_,rfl,hρ x,map_VF hρ xs⟩
theorem oneCells_LF {ρ:Operand→V} {ρ':Operand→Value} (hρ:∀ x,VR w U ι ob (ρ x) (ρ' x)):∀ {xs:List Operand} {cs:List L},oneCells (xs.map ρ)=some cs→LF w U ι ob cs (xs.map ρ')
 | [],cs,h=>by simp [oneCells] at h;subst h;simp [LF]
 | x::xs,cs,h=>by
  simp only [List.map_cons] at h
  have hx:=hρ x
  cases hv:ρ x with
  | one y =>
   rw [hv] at h hx
   simp only [oneCells] at h
   split at h
   ·simp only [Option.map_eq_some_iff] at h
    obtain ⟨cs',h1,rfl⟩:=h
    simp only [List.map_cons,LF]
    exact ⟨_,_,rfl,by simpa only [VR] using hx,oneCells_LF hρ h1⟩
   ·cases h
  | agg ys=>rw [hv] at h;simp [oneCells] at h
  | tup ys=>rw [hv] at h;simp [oneCells] at h
theorem oInt_ok {ρ:Operand→V} {ρ':Operand→Value} (hρ:∀ x,VR w U ι ob (ρ x) (ρ' x)) {x:Option Operand} {o:Option Int} (h:oInt ρ x=some o):∃ k,x.map ρ'=o.map (Value.int k):=by
 cases x with
 | none=>simp [oInt] at h;subst h;exact ⟨.i64,rfl⟩
 | some x =>
  simp only [oInt,Option.map_eq_some_iff] at h
  obtain ⟨p,hp,rfl⟩:=h
  exact ⟨p.1,by simp [vInt_VR (hρ x) hp]⟩
set_option maxHeartbeats 1000000 in
theorem FR_cells {x:V} {v:Value} {ds:List D} (h:VR w U ι ob x v) (hc:x.cells=some (ds.map .d)):∃ cs,v=valOf (isAggV x) cs∧(isAggV x=false→cs.length=1)∧FR w U ds cs:=by
 have hl:=(VR.cells h hc).1
 refine ⟨v.cells.toList,?_,?_,LF_FR hl⟩
 ·cases x with
  | one y =>
   have hy:y.isDef=true:=by
    simp only [V.cells] at hc
    split at hc
    ·assumption
    ·cases hc
   simp only [VR] at h
   have:=(LR.cells h hy).1
   rw [this];rfl
  | agg xs=>simp only [VR] at h;obtain ⟨cs,rfl,_⟩:=h;simp [Value.cells,valOf,isAggV]
  | tup xs=>simp [V.cells] at hc
 ·intro hx
  cases x with
  | one y =>
   have hy:y.isDef=true:=by
    simp only [V.cells] at hc
    split at hc
    ·assumption
    ·cases hc
   simp only [VR] at h
   have:=(LR.cells h hy).1
   rw [this];rfl
  | agg xs=>simp [isAggV] at hx
  | tup xs=>simp [V.cells] at hc
theorem r_makeIfc {t:Nat} (h:conC P t=true) (v:Value):(Instr.makeInterface t v).run P w=.ok (.iface t v) w:=by
 unfold conC at h
 split at h
 ·cases h
 ·rename_i d hne hd
  simp only [Instr.makeInterface,Sem.run_bind,run_underlying hd,Result.andThen_ok]
  cases d<;>first | rfl | (exact absurd hd (hne _))
 ·cases h
theorem aop_good (hm:Mem w U ι ob) {dst:Option Nat} {ρ:Operand→V} {ρ':Operand→Value} (hρ:∀ x,VR w U ι ob (ρ x) (ρ' x)) (o:Oper) {r:Res} (h:(aop P dst ρ o.op).run ob=some r):OpGood P w U ι ob (execOp ρ' o) r:=by
 obtain ⟨d,op,ty,pos,after,guard⟩:=o
 cases op with
 | move x=>simp only [aop,Q.run,Option.some.injEq] at h;subst h;exact ⟨_,w,U,ι,rfl,hm,Evo.refl _ _ _ _,.inl ⟨_,rfl,hρ x⟩⟩
 | assign x=>simp only [aop,Q.run,Option.some.injEq] at h;subst h;exact ⟨_,w,U,ι,rfl,hm,Evo.refl _ _ _ _,.inl ⟨_,rfl,hρ x⟩⟩
 | pick c a b =>
  simp only [aop] at h
  obtain ⟨v,hv,rfl⟩:=pureR_run h
  simp only [Option.map_eq_some_iff] at hv
  obtain ⟨t,ht,rfl⟩:=hv
  have hc:=vBool_VR (hρ c) ht
  refine ⟨.value (if t=true then ρ' a else ρ' b),w,U,ι,?_,hm,Evo.refl _ _ _ _,.inl ⟨_,rfl,?_⟩⟩
  ·simp [execOp,hc,asBool]
  ·cases t<;>simp [hρ,putO]
 | alloc elem =>
  simp only [aop] at h
  obtain ⟨zs,hz,h⟩:=opt_bind_run h
  exact opGood (good_alloc hm hz h) rfl
 | box elem x =>
  simp only [aop] at h
  obtain ⟨cs,hc,h⟩:=opt_bind_run h
  cases dst with
  | some k=>exact opGood (good_boxQ hm (hρ x) hc h) rfl
  | none=>exact opGood (good_cbox hm (hρ x) hc h) rfl
 | build t parts =>
  simp only [aop] at h
  obtain ⟨zs,hz,h⟩:=opt_bind_run h
  obtain ⟨hg,h⟩:=guard_run h
  simp only [Bool.and_eq_true,beq_iff_eq] at hg
  refine opGood (good_build hm hz hg.1 hg.2 (parts':=parts.map fun (i,x)=>(i,ρ' x)) (by simp) ?_ h) rfl
  intro j p p' h1 h2
  simp only [List.getElem?_map,Option.map_eq_some_iff,Array.getElem?_map,Array.getElem?_toList] at h1 h2
  obtain ⟨q,hq,rfl⟩:=h1
  obtain ⟨q',hq',rfl⟩:=h2
  rw [hq] at hq'
  cases hq'
  exact ⟨rfl,hρ _⟩
 | buildSlice t len parts =>
  simp only [aop] at h
  obtain ⟨e,he,h⟩:=opt_bind_run h
  obtain ⟨s,hs,h⟩:=opt_bind_run h
  obtain ⟨zs,hz,h⟩:=opt_bind_run h
  obtain ⟨hg,h⟩:=guard_run h
  simp only [decide_eq_true_eq] at hg
  obtain ⟨⟨rows,us⟩,hrows,h⟩:=bind_run h
  obtain ⟨⟨v,u⟩,hf,h⟩:=bind_run h
  simp only [Q.run,Option.some.injEq] at h
  subst h
  cases dst with
  | some q=>exact opGood (good_buildSlice (dst:=some q) hm hρ he hs hz hg.1 hg.2.1 hg.2.2 hrows (by simpa only [layRow] using hf)) rfl
  | none =>
   simp only [layRow,Q.run,Option.some.injEq,Prod.mk.injEq] at hf
   obtain ⟨rfl,rfl⟩:=hf
   rw [List.append_nil]
   exact opGood (good_cslice hm hρ he hs hz hg.1 hg.2.1 hg.2.2 hrows) rfl
 | load t a =>
  simp only [aop] at h
  obtain ⟨g,hg,h⟩:=opt_bind_run h
  obtain ⟨s,hs,h⟩:=opt_bind_run h
  exact opGood (good_load hm (hρ a) hg hs h) rfl
 | store t a x =>
  simp only [aop] at h
  obtain ⟨cs,hc,h⟩:=opt_bind_run h
  obtain ⟨hg,h⟩:=guard_run h
  exact opGoodU (good_store hm (hρ a) (hρ x) hc (by simpa using hg) h) rfl
 | nilCheck x =>
  simp only [aop] at h
  have hx:=hρ x
  split at h
  ·rename_i k off he
   simp only [Q.run,Option.some.injEq] at h
   subst h
   rw [he] at hx
   have hx':=hx
   simp only [VR,LR] at hx'
   obtain ⟨_,_,_,hp⟩:=hx'
   exact ⟨.value (ρ' x),w,U,ι,by simp [execOp,hp],hm,Evo.refl _ _ _ _,.inl ⟨_,rfl,by rw [he];exact hx⟩⟩
  ·rename_i k i off c he
   simp only [Q.run,Option.some.injEq] at h
   subst h
   rw [he] at hx
   have hx':=hx
   simp only [VR,LR] at hx'
   obtain ⟨_,_,_,_,_,_,_,a,hp⟩:=hx'
   exact ⟨.value (ρ' x),w,U,ι,by simp [execOp,hp],hm,Evo.refl _ _ _ _,.inl ⟨_,rfl,by rw [he];exact hx⟩⟩
  ·rename_i k j off he
   simp only [Q.run,Option.some.injEq] at h
   subst h
   rw [he] at hx
   have hx':=hx
   simp only [VR,LR] at hx'
   obtain ⟨_,_,_,hp⟩:=hx'
   exact ⟨.value (ρ' x),w,U,ι,by simp [execOp,hp],hm,Evo.refl _ _ _ _,.inl ⟨_,rfl,by rw [he];exact hx⟩⟩
  ·rename_i r off he
   simp only [Q.run,Option.some.injEq] at h
   subst h
   rw [he] at hx
   have hx':=hx
   simp only [VR,LR,DR] at hx'
   obtain ⟨_,_,hp,_⟩:=hx'
   exact ⟨.value (ρ' x),w,U,ι,by simp [execOp,hp],hm,Evo.refl _ _ _ _,.inl ⟨_,rfl,by rw [he];exact hx⟩⟩
  ·simp [Q.run] at h
 | binOp op t x y yt =>
  simp only [aop] at h
  exact opGood (good_bin hm (hρ x) (hρ y) h) rfl
 | unOp op t x =>
  simp only [aop] at h
  obtain ⟨v,hv,rfl⟩:=pureR_run h
  split at hv
  ·rename_i b hb
   cases hv
   obtain ⟨hu,_⟩:=lit_VR (hρ x) hb
   exact opGood (good_pure hm (u:=.bool !b) (by simp [Op.unary,hu]) (vlit_VR rfl)) rfl
  ·rename_i k n hb
   cases hv
   obtain ⟨hu,_⟩:=lit_VR (hρ x) hb
   exact opGood (good_pure hm (u:=.int k (k.wrap (0 - n))) (by simp [Op.unary,hu,Op.intArith]) (vlit_VR rfl)) rfl
  ·cases hv
 | makeFunc fn first captured =>
  simp only [aop] at h
  split at h
  ·rename_i f caps hf hc
   split at h
   case isFalse=>simp [Q.run] at h
   rename_i hlt
   simp only [Q.run,Option.some.injEq] at h
   subst h
   have hl:=oneCells_LF hρ hc
   have hfe:first=#[]:=by
    have h0:=oneCells_LF hρ hf
    simpa [LF] using h0
   subst hfe
   exact opGood (s:=Instr.makeFunc (.func f) #[] (captured.map ρ')) (good_pure hm (u:=.func (.func f) #[] (captured.map ρ')) (by simp [Instr.makeFunc]) (by simp only [VR,LR,fnVal,if_pos hlt];exact ⟨_,rfl,by simpa using hl⟩)) (by simp [execOp])
  ·rename_i f c cs hf hc
   simp only [Q.run,Option.some.injEq] at h
   subst h
   have hl:=oneCells_LF hρ hf
   have hfe:captured=#[]:=by
    have h0:=oneCells_LF hρ hc
    simpa [LF] using h0
   subst hfe
   have hlt:¬ f+2000000 < 2000000:=Nat.not_lt.2 (Nat.le_add_left _ _)
   exact opGood (s:=Instr.makeFunc (.func f) (first.map ρ') #[]) (good_pure hm (u:=.func (.func f) (first.map ρ') #[]) (by simp [Instr.makeFunc]) (by simp only [VR,LR,fnVal,if_neg hlt,Nat.add_sub_cancel];exact ⟨_,rfl,by simpa using hl⟩)) (by simp [execOp])
  ·simp [Q.run] at h
 | makeSlice t l c =>
  simp only [aop] at h
  obtain ⟨e,he,h⟩:=opt_bind_run h
  obtain ⟨s,hs,h⟩:=opt_bind_run h
  obtain ⟨zs,hz,h⟩:=opt_bind_run h
  obtain ⟨bs,hb,h⟩:=opt_bind_run h
  obtain ⟨n,hn,h⟩:=opt_bind_run h
  obtain ⟨m,hmm,h⟩:=opt_bind_run h
  obtain ⟨hg,hh⟩:=guard_run h
  clear h
  simp only [decide_eq_true_eq] at hg
  obtain ⟨g1,g2,rfl,g4,g5,g6⟩:=hg
  have e1:=vInt_VR (hρ l) hn
  have e2:=vInt_VR (hρ c) hmm
  refine opGood (good_makeSlice hm he hs hz hb g1 g2 g4 g5 g6 hh (k:=n.1)) ?_
  simp [execOp,e1,e2]
 | slice t x lo hi mx =>
  simp only [aop] at h
  split at h
  ·rename_i hst
   obtain ⟨hg,h'⟩:=guard_run h
   clear h
   rw [Option.isNone_iff_eq_none] at hg
   subst hg
   obtain ⟨l,hl,h⟩:=opt_bind_run h'
   obtain ⟨hh,hhi,h⟩:=opt_bind_run h
   obtain ⟨v,hv,rfl⟩:=pureR_run h
   simp only [Option.map_eq_some_iff] at hv
   obtain ⟨z,hz,rfl⟩:=hv
   obtain ⟨kl,hkl⟩:=oInt_ok hρ hl
   obtain ⟨kh,hkh⟩:=oInt_ok hρ hhi
   exact opGood (good_strCut hm (hρ x) hst hkl hkh hz) rfl
  obtain ⟨hg,h'⟩:=guard_run h
  clear h
  simp only [Bool.and_eq_true,Option.isNone_iff_eq_none] at hg
  obtain ⟨_,rfl⟩:=hg
  obtain ⟨l,hl,h⟩:=opt_bind_run h'
  obtain ⟨hh,hhi,h⟩:=opt_bind_run h
  obtain ⟨e,he,h⟩:=opt_bind_run h
  obtain ⟨s,hs,h⟩:=opt_bind_run h
  obtain ⟨kl,hkl⟩:=oInt_ok hρ hl
  obtain ⟨kh,hkh⟩:=oInt_ok hρ hhi
  exact opGood (good_cut hm (hρ x) (r_slice he) hs hkl hkh h) rfl
 | fieldAddr s x f =>
  simp only [aop] at h
  obtain ⟨p,hp,h⟩:=opt_bind_run h
  exact opGood (good_fieldAddr hm (hρ x) hp h) rfl
 | field s x f =>
  simp only [aop] at h
  obtain ⟨p,hp,h⟩:=opt_bind_run h
  split at h
  ·rename_i cs hcs
   obtain ⟨v,hv,rfl⟩:=pureR_run h
   have hx:=hρ x
   rw [hcs] at hx
   simp only [VR] at hx
   obtain ⟨us,hus,hl⟩:=hx
   unfold fieldC at hp
   split at hp
   ·rename_i fs hfs
    split at hp
    ·rename_i fd hfd
     split at hp
     ·rename_i sz g hsz hgg
      split at hp
      ·cases hp
      ·cases hp
       simp only at hv
       unfold getCells at hv
       cases g with
       | true =>
        simp only [if_true] at hv
        split at hv
        ·cases hv
         refine opGood (good_pure hm (u:=.agg (us.extract fd.offset (fd.offset+sz))) ?_ ?_) rfl
         ·simp [Instr.field,run_underlying hfs,hfd,hus,asAgg,part,r_isAgg hgg,r_sizeOf hsz]
         ·simp only [VR]
          refine ⟨_,rfl,?_⟩
          have:=(hl.drop fd.offset).take sz
          simpa [List.extract_eq_take_drop] using this
        ·cases hv
       | false =>
        simp only [Bool.false_eq_true,if_false,Option.map_eq_some_iff] at hv
        obtain ⟨y,hy,rfl⟩:=hv
        obtain ⟨u,hu,hr⟩:=hl.at_ hy
        have hu':us[fd.offset]?=some u:=by simpa using hu
        refine opGood (good_pure hm (u:=u) ?_ (by simpa only [VR] using hr)) rfl
        simp [Instr.field,run_underlying hfs,hfd,hus,asAgg,part,r_isAgg hgg,hu']
     ·cases hp
    ·cases hp
   ·cases hp
  ·simp [Q.run] at h
 | indexAddr t x ix =>
  simp only [aop] at h
  obtain ⟨i,hi,h⟩:=opt_bind_run h
  have hix:=vInt_VR (hρ ix) hi
  split at h
  ·rename_i n e ha
   obtain ⟨s,hs,h⟩:=opt_bind_run h
   have hu:P.underlying t=some (.array n e):=by
    unfold arrC at ha
    split at ha
    ·cases ha;assumption
    ·cases ha
   exact opGood (good_indexAddr hm (hρ x) hix (.inl ⟨n,rfl,hu⟩) hs h) rfl
  ·rename_i e ha he
   obtain ⟨s,hs,h⟩:=opt_bind_run h
   exact opGood (good_indexAddr hm (hρ x) hix (.inr ⟨rfl,r_slice he⟩) hs h) rfl
  ·simp [Q.run] at h
 | lookup t x ix ok =>
  simp only [aop] at h
  obtain ⟨kd,hkd,h⟩:=opt_bind_run h
  obtain ⟨e,he,h⟩:=opt_bind_run h
  obtain ⟨g,hg,h⟩:=opt_bind_run h
  obtain ⟨zs,hz,h⟩:=opt_bind_run h
  obtain ⟨k,hk,h⟩:=opt_bind_run h
  obtain ⟨hku,_⟩:=lit_VR (hρ ix) hk
  by_cases hq:∃ key,ρ x=.one (.mq key)
  ·obtain ⟨key,hq⟩:=hq
   simp only [hq] at h
   have hgd:=(guard_run h).1
   have h9:=(guard_run h).2
   simp only [Bool.and_eq_true,Bool.not_eq_true'] at hgd
   obtain ⟨⟨⟨_,rfl⟩,rfl⟩,hzs⟩:=hgd
   exact opGood (s':=execOp ρ' ⟨d,.lookup t x ix false,ty,pos,after,guard⟩) (good_lookP hm (hq ▸ hρ x) hkd he hz (zshape_ok hz hzs) h9) (by simp [execOp,hku])
  replace h:(Q.guard (isKey kd k&&zshape P e g) (lookQ kd g ok zs (ρ x) k)).run ob=some r:=by
   revert h
   split
   ·rename_i key hx;exact absurd ⟨key,hx⟩ hq
   ·exact id
  obtain ⟨hgd,h⟩:=guard_run h
  simp only [Bool.and_eq_true] at hgd
  have:=opGood (s':=execOp ρ' ⟨d,.lookup t x ix ok,ty,pos,after,guard⟩) (good_lookup hm (hρ x) hkd he hz (zshape_ok hz hgd.2) h) (by simp [execOp,hku])
  exact this
 | mapUpdate t m k v =>
  simp only [aop] at h
  obtain ⟨kd,hkd,h⟩:=opt_bind_run h
  obtain ⟨e,he,h⟩:=opt_bind_run h
  obtain ⟨g,hg,h⟩:=opt_bind_run h
  obtain ⟨kv,hk,h⟩:=opt_bind_run h
  obtain ⟨hku,hkp⟩:=lit_VR (hρ k) hk
  exact opGoodU (good_upd hm (hρ m) (hρ v) hkp hkd h) (by simp [execOp,hku])
 | insert t m k v =>
  simp only [aop] at h
  obtain ⟨kd,hkd,h⟩:=opt_bind_run h
  obtain ⟨e,he,h⟩:=opt_bind_run h
  obtain ⟨g,hg,h⟩:=opt_bind_run h
  obtain ⟨kv,hk,h⟩:=opt_bind_run h
  obtain ⟨hku,hkp⟩:=lit_VR (hρ k) hk
  exact opGoodU (good_upd hm (hρ m) (hρ v) hkp hkd h) (by simp [execOp,hku])
 | makeMap t res =>
  cases res with
  | some _=>simp [aop,Q.run] at h
  | none =>
   simp only [aop] at h
   obtain ⟨_,h⟩:=guard_run h
   obtain ⟨g,hg,h⟩:=opt_bind_run h
   obtain ⟨o,ho,h⟩:=opt_bind_run h
   rw [Option.bind_eq_some_iff] at ho
   obtain ⟨e,_,ho⟩:=ho
   exact opGood (good_makeMap hm ho h) rfl
 | extract t i =>
  simp only [aop] at h
  split at h
  ·rename_i vs hvs
   obtain ⟨v,hv,rfl⟩:=pureR_run h
   have hx:=hρ t
   rw [hvs] at hx
   simp only [VR] at hx
   obtain ⟨us,hus,hl⟩:=hx
   obtain ⟨u,hu,hr⟩:=hl.at_ hv
   have hu':us[i]?=some u:=by simpa using hu
   exact opGood (good_pure hm (u:=u) (by simp [Instr.extract,hus,hu']) hr) rfl
  ·simp [Q.run] at h
 | call c =>
  simp only [aop] at h
  obtain ⟨callee,args,argTypes⟩:=c
  simp only at h
  have pre:∀ (b:Builtin) (r:Res),callee=.builtin b→(∃ v u,(∀ cs,(builtin b argTypes ty cs (args.map ρ')).run P w=.ok (.value u) w)∧r=(v,[])∧VR w U ι ob v u)→OpGood P w U ι ob (execOp ρ' ⟨d,.call ⟨callee,args,argTypes⟩,ty,pos,after,guard⟩) r:=by
   rintro b r rfl ⟨v,u,h1,rfl,h2⟩
   exact ⟨.value u,w,U,ι,by simp [execOp,resolve,invoke,h1],hm,Evo.refl _ _ _ _,.inl ⟨u,rfl,h2⟩⟩
  split at h
  ·split at h
   ·rename_i x hargs
    split at h
    ·rename_i t hts
     have ha:args=#[x]:=by cases args with | mk l=>simp at hargs;rw [hargs]
     have hat:argTypes=#[t]:=by cases argTypes with | mk l=>simp at hts;rw [hts]
     subst ha hat
     split at h
     ·rename_i e he
      obtain ⟨v,hv,rfl⟩:=pureR_run h
      simp only [Option.map_eq_some_iff] at hv
      obtain ⟨n,hn,rfl⟩:=hv
      refine pre .len _ rfl ⟨_,_,?_,rfl,vlit_VR (v:=.int .i64 n) rfl⟩
      have:=len_ok (P:=P) (ty:=ty) (hρ x) hn (t:=t) (by rw [he];rfl)
      intro cs;simp [builtin,this]
     ·obtain ⟨hg,h⟩:=guard_run h
      obtain ⟨v,hv,rfl⟩:=pureR_run h
      simp only [Option.map_eq_some_iff] at hv
      obtain ⟨n,hn,rfl⟩:=hv
      refine pre .len _ rfl ⟨_,_,?_,rfl,vlit_VR (v:=.int .i64 n) rfl⟩
      have hu:P.underlying t=some .string:=by
       unfold strC at hg
       split at hg
       ·assumption
       ·cases hg
      have hx:=hρ x
      unfold strLen at hn
      split at hn
      ·rename_i s hs
       cases hn
       rw [hs] at hx
       simp only [VR,LR,DR] at hx
       intro cs;simp [builtin,Builtin.len_,run_underlying hu,hx.1,goInt]
      ·cases hn
    ·simp [Q.run] at h
   ·simp [Q.run] at h
  ·split at h
   ·rename_i x t hargs hts
    have ha:args=#[x]:=by cases args with | mk l=>simp at hargs;rw [hargs]
    have hat:argTypes=#[t]:=by cases argTypes with | mk l=>simp at hts;rw [hts]
    subst ha hat
    split at h
    ·rename_i hs
     obtain ⟨hg,h⟩:=guard_run h
     simp only [Q.run,Option.some.injEq] at h
     subst h
     obtain ⟨e,he⟩:=Option.isSome_iff_exists.1 hg
     have hx:=hρ x
     rw [hs] at hx
     simp only [VR,LR,DR] at hx
     refine pre .cap _ rfl ⟨_,_,?_,rfl,vlit_VR (v:=.int .i64 0) rfl⟩
     intro cs
     simp [builtin,Builtin.cap_,run_underlying (r_slice he),hx.1,goInt]
    ·simp [Q.run] at h
   ·simp [Q.run] at h
  ·split at h
   ·rename_i x t hargs hts
    have ha:args=#[x]:=by cases args with | mk l=>simp at hargs;rw [hargs]
    have hat:argTypes=#[t]:=by cases argTypes with | mk l=>simp at hts;rw [hts]
    subst ha hat
    obtain ⟨e,he,h⟩:=opt_bind_run h
    obtain ⟨zs,hz,h⟩:=opt_bind_run h
    obtain ⟨hg,h⟩:=guard_run h
    simp only [decide_eq_true_eq] at hg
    exact opGood (good_clear (ty:=ty) hm (hρ x) he hz hg h) (by simp [execOp,resolve,invoke,builtin])
   ·simp [Q.run] at h
  ·split at h
   ·rename_i x y t t' hargs hts
    have ha:args=#[x,y]:=by cases args with | mk l=>simp at hargs;rw [hargs]
    have hat:argTypes=#[t,t']:=by cases argTypes with | mk l=>simp at hts;rw [hts]
    subst ha hat
    obtain ⟨e,he,h⟩:=opt_bind_run h
    obtain ⟨sz,hsz,h⟩:=opt_bind_run h
    have hg:=(guard_run h).1
    have h8:=(guard_run h).2
    simp only [decide_eq_true_eq] at hg
    obtain ⟨rfl,_⟩:=hg
    obtain ⟨new,hnew,h9⟩:=bind_run h8
    exact opGood (good_copy (ty:=ty) hm (hρ x) (hρ y) he hsz hnew h9) (by simp [execOp,resolve,invoke,builtin])
   ·simp [Q.run] at h
  ·obtain ⟨v,hv,rfl⟩:=pureR_run h
   obtain ⟨u,h1,h2⟩:=mmList_ok (P:=P) false (map_VF hρ args.toList) hv
   refine pre .min _ rfl ⟨v,u,?_,rfl,h2⟩
   simp only [Bool.false_eq_true,if_false] at h1
   have:Builtin.min_ argTypes ty (args.map ρ')=Builtin.min_ #[] 0 (args.toList.map ρ').toArray:=by simp [Builtin.min_]
   intro cs;simp [builtin,this,h1]
  ·obtain ⟨v,hv,rfl⟩:=pureR_run h
   obtain ⟨u,h1,h2⟩:=mmList_ok (P:=P) true (map_VF hρ args.toList) hv
   refine pre .max _ rfl ⟨v,u,?_,rfl,h2⟩
   simp only [if_true] at h1
   have:Builtin.max_ argTypes ty (args.map ρ')=Builtin.max_ #[] 0 (args.toList.map ρ').toArray:=by simp [Builtin.max_]
   intro cs;simp [builtin,this,h1]
  ·split at h
   ·rename_i s x t t' hargs hts
    have ha:args=#[s,x]:=by cases args with | mk l=>simp at hargs;rw [hargs]
    have hat:argTypes=#[t,t']:=by cases argTypes with | mk l=>simp at hts;rw [hts]
    subst ha hat
    split at h
    ·rename_i kt hkt
     split at h
     ·rename_i hs
      obtain ⟨e,he,h⟩:=opt_bind_run h
      obtain ⟨sz,hsz,h⟩:=opt_bind_run h
      obtain ⟨bs,hbs,h⟩:=opt_bind_run h
      obtain ⟨zs,hzs,h⟩:=opt_bind_run h
      obtain ⟨n,hn,h⟩:=opt_bind_run h
      obtain ⟨hg,h'⟩:=guard_run h
      clear h
      simp only [decide_eq_true_eq] at hg
      obtain ⟨h0,hzl,hn0,hbn,h63⟩:=hg
      have hx:=hρ s
      rw [hs] at hx
      simp only [VR,LR,DR] at hx
      have:=good_grow (P:=P) (ty:=ty) hm he hkt hsz hzs hbs h0 hzl hn0 hbn h63 (k:=n.1) h'
      have hxi:ρ' x=.int n.1 n.2:=vInt_VR (hρ x) hn
      rw [←hx.1,← hxi] at this
      exact opGood this (by simp [execOp,resolve,invoke,builtin])
     ·simp [Q.run] at h
    ·obtain ⟨e,he,h⟩:=opt_bind_run h
     obtain ⟨sz,hsz,h⟩:=opt_bind_run h
     obtain ⟨bs,hbs,h⟩:=opt_bind_run h
     obtain ⟨zs,hzs,h⟩:=opt_bind_run h
     obtain ⟨hg,h'⟩:=guard_run h
     clear h
     simp only [decide_eq_true_eq] at hg
     obtain ⟨rfl,h0,hb0,hzl⟩:=hg
     obtain ⟨new,hnew,h⟩:=bind_run h'
     have:=good_append (P:=P) (ty:=ty) hm (hρ s) (hρ x) he hsz hbs (by rw [hzs];rfl) h0 hb0 hnew h (fun zs' hz'=>by rw [hzs] at hz';cases hz';exact hzl)
     exact opGood this (by simp [execOp,resolve,invoke,builtin])
   ·simp [Q.run] at h
  ·simp [Q.run] at h
 | index t x ix =>
  simp only [aop] at h
  split at h
  ·rename_i hst
   obtain ⟨i,hi,h⟩:=opt_bind_run h
   obtain ⟨v,hv,rfl⟩:=pureR_run h
   simp only [Option.map_eq_some_iff] at hv
   obtain ⟨z,hz,rfl⟩:=hv
   exact opGood (good_strAt hm (hρ x) hst (vInt_VR (hρ ix) hi) hz) rfl
  obtain ⟨i,hi,h⟩:=opt_bind_run h
  obtain ⟨p,hp,h⟩:=opt_bind_run h
  obtain ⟨s,hs,h⟩:=opt_bind_run h
  obtain ⟨g,hg,h⟩:=opt_bind_run h
  have hix:=vInt_VR (hρ ix) hi
  have hu:P.underlying t=some (.array p.1 p.2):=by
   unfold arrC at hp
   split at hp
   ·cases hp;assumption
   ·cases hp
  split at h
  ·rename_i cs hcs
   obtain ⟨hb,h⟩:=guard_run h
   simp only [decide_eq_true_eq] at hb
   obtain ⟨v,hv,rfl⟩:=pureR_run h
   have hx:=hρ x
   rw [hcs] at hx
   simp only [VR] at hx
   obtain ⟨us,hus,hl⟩:=hx
   unfold getCells at hv
   cases g with
   | true =>
    simp only [if_true] at hv
    split at hv
    ·cases hv
     refine opGood (good_pure hm (u:=.agg (us.extract (i.2.toNat*s) (i.2.toNat*s+s))) ?_ ?_) rfl
     ·simp [Instr.index,hix,asIntOf,run_underlying hu,hus,hb,part,r_isAgg hg,r_sizeOf hs]
     ·simp only [VR]
      refine ⟨_,rfl,?_⟩
      have:=(hl.drop (i.2.toNat*s)).take s
      simpa [List.extract_eq_take_drop] using this
    ·cases hv
   | false =>
    simp only [Bool.false_eq_true,if_false,Option.map_eq_some_iff] at hv
    obtain ⟨y,hy,rfl⟩:=hv
    obtain ⟨u,hu',hr⟩:=hl.at_ hy
    have hu'':us[i.2.toNat*s]?=some u:=by simpa using hu'
    refine opGood (good_pure hm (u:=u) ?_ (by simpa only [VR] using hr)) rfl
    simp [Instr.index,hix,asIntOf,run_underlying hu,hus,hb,part,r_isAgg hg,r_sizeOf hs,hu'']
  ·simp [Q.run] at h
 | convert src dst x =>
  simp only [aop] at h
  split at h
  ·rename_i hst
   obtain ⟨e,he,h⟩:=opt_bind_run h
   obtain ⟨hu,h⟩:=guard_run h
   obtain ⟨rows,hr,h⟩:=bind_run h
   obtain ⟨v,hv,rfl⟩:=pureR_run h
   simp only [Option.map_eq_some_iff] at hv
   obtain ⟨l,hl,rfl⟩:=hv
   exact opGood (good_bytesStr hm (hρ x) hst he (by simpa using hu) hr hl) rfl
  obtain ⟨k0,hk0,h⟩:=opt_bind_run h
  obtain ⟨k,hk,h⟩:=opt_bind_run h
  obtain ⟨n,hn,h⟩:=opt_bind_run h
  simp only [Q.run,Option.some.injEq] at h
  subst h
  have hx:=vInt_VR (hρ x) hn
  have hs:P.underlying src=some (.int k0):=by
   unfold intC at hk0
   split at hk0
   ·cases hk0;assumption
   ·cases hk0
  have hd:P.underlying dst=some (.int k):=by
   unfold intC at hk
   split at hk
   ·cases hk;assumption
   ·cases hk
  refine opGood (good_pure hm (u:=.int k (k.wrap n.2)) ?_ (vlit_VR rfl)) rfl
  simp [convert,run_underlying hs,run_underlying hd,hx,Conv.intToInt]
 | makeInterface t x =>
  simp only [aop] at h
  obtain ⟨hg,h⟩:=guard_run h
  simp only [Bool.and_eq_true,beq_iff_eq] at hg
  obtain ⟨cs,hc,h⟩:=opt_bind_run h
  obtain ⟨⟨ds,us⟩,hf,h⟩:=bind_run h
  cases us with
  | cons _ _=>simp [Q.run] at h
  | nil =>
   simp only [Q.run,Option.some.injEq] at h
   subst h
   rw [ds_of_frzs hf] at hc
   obtain ⟨cs',h1,h2,h3⟩:=FR_cells (hρ x) hc
   refine ⟨.value (.iface t (ρ' x)),w,U,ι,?_,hm,Evo.refl _ _ _ _,.inl ⟨_,rfl,?_⟩⟩
   ·simp [execOp,r_makeIfc hg.1]
   ·simp only [VR,LR,DR]
    exact ⟨cs',by rw [←h1],h2,h3⟩
 | _=>simp [aop,Q.run] at h
end Go.VE
namespace Go.VE
open Go.RowKit
variable {P:Program} {w:World} {U:Nat→Prop} {ι:Pl} {ob:Ob}
inductive VD where
 | one (x:D)
 | agg (xs:List D)
def VDR (w:World) (U:Nat→Prop):VD→Value→Prop
 | .one x,v=>DR w U x v
 | .agg xs,v=>∃ cs,v=.agg cs∧FR w U xs cs.toList
def VDF (w:World) (U:Nat→Prop):List VD→List Value→Prop
 | [],vs=>vs=[]
 | x::xs,vs=>∃ v vs',vs=v::vs'∧VDR w U x v∧VDF w U xs vs'
inductive RC where
 | d (x:D)
 | own (rows:List (List D)) (size elem:Nat)
 | om (agg:Bool) (keys:List Value) (vals:List (List D))
inductive RV where
 | one (x:RC)
 | agg (xs:List RC)
 | tup (xs:List RV)
def RcR (w:World) (U:Nat→Prop):RC→Value→List Nat→Prop
 | .d x,v,bs=>bs=[]∧DR w U x v
 | .own rows size elem,v,bs=>∃ b cap cur,bs=[b]∧v=.slice (some ⟨b,0,none⟩) rows.length cap∧w.heap[b]?=some (.cells cur elem (0,0))∧rows.length≤cap∧cap≤maxLen∧cur.size=cap*size∧RR w U b 0 size rows
 | .om agg keys vals,v,bs=>∃ b es clock,bs=[b]∧v=.map (some b)∧w.heap[b]?=some (.map es clock)∧KR w U agg keys es.toList vals
def RcF (w:World) (U:Nat→Prop):List RC→List Value→List Nat→Prop
 | [],vs,bs=>vs=[]∧bs=[]
 | x::xs,vs,bs=>∃ v vs' b1 b2,vs=v::vs'∧bs=b1++b2∧RcR w U x v b1∧RcF w U xs vs' b2
mutual
def RvR (w:World) (U:Nat→Prop):RV→Value→List Nat→Prop
 | .one x,v,bs=>RcR w U x v bs
 | .agg xs,v,bs=>∃ cs,v=.agg cs∧RcF w U xs cs.toList bs
 | .tup xs,v,bs=>∃ vs,v=.tuple vs∧RvF w U xs vs.toList bs
def RvF (w:World) (U:Nat→Prop):List RV→List Value→List Nat→Prop
 | [],vs,bs=>vs=[]∧bs=[]
 | x::xs,vs,bs=>∃ v vs' b1 b2,vs=v::vs'∧bs=b1++b2∧RvR w U x v b1∧RvF w U xs vs' b2
end
def Post (w:World) (U:Nat→Prop) (r:RV) (e:Ending) (w':World):Prop :=
 ∃ v U' bs,e=.returned v∧Below w.heap.size w w'∧(∀ b,U b→U' b)∧(∀ b,U' b→b < w'.heap.size∧(U b∨w.heap.size≤b))∧bs.Nodup∧(∀ b∈bs,w.heap.size≤b∧b < w'.heap.size∧¬ U' b)∧RvR w' U' r v bs
def SC (P:Program) (f:Nat) (args:List VD) (r:RV):Prop :=
 (∀ (as:Array Value) (w:World),(callFunc f as).run P w=.ok (.enter f as) w) ∧
 ∀ (w:World) (U:Nat→Prop) (vs:Array Value),(∀ b,U b→b < w.heap.size)→XX w U→VDF w U args vs.toList→Calls P f vs w (Post w U r)
def D.isLit:D→Bool | .lit _=>true | _=>false
def RC.lits:RC→Bool
 | .d x=>x.isLit
 | .own rows _ _=>rows.all fun r=>r.all D.isLit
 | .om _ _ vals=>vals.all fun r=>r.all D.isLit
mutual
def RV.lits:RV→Bool
 | .one x=>x.lits
 | .agg xs=>xs.all RC.lits
 | .tup xs=>RV.litsF xs
def RV.litsF:List RV→Bool
 | []=>true
 | x::xs=>x.lits&&RV.litsF xs
end
theorem DR.lit_any {x:D} {v:Value} {U':Nat→Prop} (h:DR w U x v) (hx:x.isLit=true):DR w U' x v:=by
 cases x<;>simp [D.isLit] at hx
 simpa only [DR] using h
theorem FR.lit_any {U':Nat→Prop}:∀ {xs:List D} {vs:List Value},FR w U xs vs→xs.all D.isLit=true→FR w U' xs vs
 | [],vs,h,_=>by simpa [FR] using h
 | x::xs,vs,h,hx=>by
  simp only [FR,List.all_cons,Bool.and_eq_true] at h hx ⊢
  obtain ⟨v,vs',rfl,h1,h2⟩:=h
  exact ⟨v,vs',rfl,h1.lit_any hx.1,FR.lit_any h2 hx.2⟩
theorem RR.lit_any {U':Nat→Prop} {b o size:Nat} {rs:List (List D)} (h:RR w U b o size rs) (hx:(rs.all fun r=>r.all D.isLit)=true):RR w U' b o size rs:=by
 obtain ⟨h1,vs,h2,h3⟩:=RR_iff.1 h
 refine RR_iff.2 ⟨h1,vs,FR.lit_any h2 ?_,h3⟩
 simpa [List.all_flatten] using hx
theorem KR.lit_any {U':Nat→Prop} {agg:Bool}:∀ {vals:List (List D)} {keys:List Value} {es:List MapEntry},KR w U agg keys es vals→(vals.all fun r=>r.all D.isLit)=true→KR w U' agg keys es vals
 | [],keys,es,h,_=>by simpa [KR] using h
 | r::rs,keys,es,h,hx=>by
  simp only [List.all_cons,Bool.and_eq_true] at hx
  simp only [KR] at h ⊢
  obtain ⟨k,ks,e,es',cs,h1,h2,h3,h4,h5,h6,h7,h8⟩:=h
  exact ⟨k,ks,e,es',cs,h1,h2,h3,h4,h5,h6,FR.lit_any h7 hx.1,KR.lit_any h8 hx.2⟩
theorem RcR.lit_any {U':Nat→Prop} {x:RC} {v:Value} {bs:List Nat} (h:RcR w U x v bs) (hx:x.lits=true):RcR w U' x v bs:=by
 cases x with
 | d x=>exact ⟨h.1,h.2.lit_any hx⟩
 | own rows size elem=>obtain ⟨b,cap,cur,h1,h2,h3,h4,h5,h6,h7⟩:=h;exact ⟨b,cap,cur,h1,h2,h3,h4,h5,h6,h7.lit_any hx⟩
 | om agg keys vals=>obtain ⟨b,es,clock,h1,h2,h3,h4⟩:=h;exact ⟨b,es,clock,h1,h2,h3,h4.lit_any hx⟩
theorem RcF.lit_any {U':Nat→Prop}:∀ {xs:List RC} {vs:List Value} {bs:List Nat},RcF w U xs vs bs→xs.all RC.lits=true→RcF w U' xs vs bs
 | [],vs,bs,h,_=>h
 | x::xs,vs,bs,h,hx=>by
  simp only [List.all_cons,Bool.and_eq_true] at hx
  obtain ⟨v,vs',b1,b2,h1,h2,h3,h4⟩:=h
  exact ⟨v,vs',b1,b2,h1,h2,h3.lit_any hx.1,RcF.lit_any h4 hx.2⟩
mutual
theorem RvR.lit_any {U':Nat→Prop}:∀ (x:RV) (v:Value) (bs:List Nat),RvR w U x v bs→x.lits=true→RvR w U' x v bs
 | .one x,v,bs,h,hx=>by simp only [RvR,RV.lits] at h hx ⊢;exact h.lit_any hx
 | .agg xs,v,bs,h,hx=>by simp only [RvR,RV.lits] at h hx ⊢;obtain ⟨cs,h1,h2⟩:=h;exact ⟨cs,h1,h2.lit_any hx⟩
 | .tup xs,v,bs,h,hx=>by simp only [RvR,RV.lits] at h hx ⊢;obtain ⟨cs,h1,h2⟩:=h;exact ⟨cs,h1,RvF.lit_any xs _ _ h2 hx⟩
theorem RvF.lit_any {U':Nat→Prop}:∀ (xs:List RV) (vs:List Value) (bs:List Nat),RvF w U xs vs bs→RV.litsF xs=true→RvF w U' xs vs bs
 | [],vs,bs,h,_=>by simpa only [RvF] using h
 | x::xs,vs,bs,h,hx=>by
  simp only [RvF,RV.litsF,Bool.and_eq_true] at h hx ⊢
  obtain ⟨v,vs',b1,b2,h1,h2,h3,h4⟩:=h
  exact ⟨v,vs',b1,b2,h1,h2,RvR.lit_any x v b1 h3 hx.1,RvF.lit_any xs vs' b2 h4 hx.2⟩
end
def layR (base:Nat):RC→Nat→L×List (Nat×O)×Nat
 | .d x,n=>(.d x,[],n)
 | .own rows size elem,n=>(.slk (base+n) 0 rows.length rows.length,[(base+n,.arr rows size elem true)],n+1)
 | .om agg keys vals,n=>(.mk (base+n),[(base+n,.mp agg keys vals true)],n+1)
def layF (base:Nat):List RC→Nat→List L×List (Nat×O)×Nat
 | [],n=>([],[],n)
 | x::xs,n=>((layR base x n).1::(layF base xs (layR base x n).2.2).1,(layR base x n).2.1++(layF base xs (layR base x n).2.2).2.1,(layF base xs (layR base x n).2.2).2.2)
mutual
def layV (base:Nat):RV→Nat→V×List (Nat×O)×Nat
 | .one x,n=>(.one (layR base x n).1,(layR base x n).2.1,(layR base x n).2.2)
 | .agg xs,n=>(.agg (layF base xs n).1,(layF base xs n).2.1,(layF base xs n).2.2)
 | .tup xs,n=>(.tup (layVF base xs n).1,(layVF base xs n).2.1,(layVF base xs n).2.2)
def layVF (base:Nat):List RV→Nat→List V×List (Nat×O)×Nat
 | [],n=>([],[],n)
 | x::xs,n=>((layV base x n).1::(layVF base xs (layV base x n).2.2).1,(layV base x n).2.1++(layVF base xs (layV base x n).2.2).2.1,(layVF base xs (layV base x n).2.2).2.2)
end
def absentQ {α:Type}:List (Nat×O)→Q α→Q α
 | [],q=>q
 | (k,_)::r,q=>.get k fun
  | none=>absentQ r q
  | some _=>.fail
def baseOf:Option Nat→Nat
 | some d=>1000*(d+1)
 | none=>1000000000
def layQ (dst:Option Nat) (r:RV):Q Res:=Q.guard (decide (((layV (baseOf dst) r 0).2.1.map Prod.fst).Nodup)) <| absentQ (layV (baseOf dst) r 0).2.1 (.ret ((layV (baseOf dst) r 0).1,(layV (baseOf dst) r 0).2.1))
def fnOf:V→Option (Nat×List L)
 | .one (.fn f caps)=>if f < 2000000 then some (f,caps) else none
 | .one (.d (.fn f caps))=>if f < 2000000 then some (f,caps.map .d) else none
 | _=>none
def fnOfB:V→Option (Nat×List L)
 | .one (.fn f caps)=>if f < 2000000 then none else some (f - 2000000,caps)
 | .one (.d (.fn f caps))=>if f < 2000000 then none else some (f - 2000000,caps.map .d)
 | _=>none
def vToD:V→Q VD
 | .one l=>(toD 4 l).bind fun d=>.ret (.one d)
 | .agg ls=>(Q.mapM (toD 4) ls).bind fun ds=>.ret (.agg ds)
 | .tup _=>.fail
def L.isD:L→Bool | .d _=>true | _=>false
def L.isF:L→Bool
 | .fn _ caps=>caps.all L.isD
 | x=>x.isD
def V.isD:V→Bool
 | .one l=>l.isF
 | .agg ls=>ls.all L.isD
 | .tup _=>false
def callQ (C:Nat→List VD→Option RV) (dst:Option Nat) (f:Nat) (args:List V) (caps:List L):Q Res :=
 (Q.mapM vToD args).bind fun ds=>(Q.mapM (toD 4) caps).bind fun cs=>(Q.opt (C f (ds++cs.map .one))).bind fun r =>
  Q.guard (r.lits||(args.all V.isD&&caps.all L.isD)) (layQ dst r)
theorem toD_ok (hm:Mem w U ι ob) {Us:Nat→Prop} (hU:∀ b,U b→Us b) (hO:∀ k o,ob k=some o→Us (ι k).1):∀ (n:Nat) (x:L) (d:D) (v:Value),(toD n x).run ob=some d→LR w U ι ob x v→DR w Us d v:=by
 intro n
 induction n with
 | zero =>
  intro x d v h hx
  cases x with
  | d x=>simp only [toD,Q.run,Option.some.injEq] at h;subst h;simp only [LR] at hx;exact DR.mono (fun _ _=>rfl) hU _ _ hx
  | slk k off n c =>
   simp only [toD,Q.run] at h
   split at h
   ·rename_i rows size elem own hk
    obtain ⟨hg,h⟩:=guard_run h
    simp only [Q.run,Option.some.injEq] at h
    subst h
    exact slk_D hm hx hk (by simpa using hg) hU (hO _ _ hk)
   ·simp [Q.run] at h
  | pa k i off c =>
   simp only [toD,Q.run] at h
   split at h
   ·rename_i rows size elem own hk
    obtain ⟨hg,h⟩:=guard_run h
    obtain ⟨row,hrow,h⟩:=opt_bind_run h
    simp only [Q.run,Option.some.injEq] at h
    subst h
    simp only [LR] at hx
    obtain ⟨rows',size',elem',own',h1,h2,h3,_⟩:=hx
    rw [hk] at h1
    cases h1
    obtain ⟨_,rfl⟩:=h3 (by simpa using hg)
    obtain ⟨cur,h5,h6,h7,h8,h9,h10⟩:=hm.obj k _ hk
    simp only [DR]
    refine ⟨(ι k).1,0+i*size,by rw [Nat.zero_add],hO _ _ hk,?_⟩
    exact CR.mono (fun _ _=>rfl) hU _ rfl _ _ (h9.at_ hrow).2
   ·simp [Q.run] at h
  | ptr k off=>simp [toD,Q.run] at h
  | fn f caps=>simp [toD,Q.run] at h
  | mk k =>
   simp only [toD,Q.run] at h
   split at h
   ·rename_i agg keys vals own hk
    simp only [Q.run,Option.some.injEq] at h
    subst h
    simp only [LR] at hx
    obtain ⟨_,_,_,_,h1,rfl⟩:=hx
    obtain ⟨es,clock,h3,h4,h5⟩:=hm.obj _ _ hk
    simp only [DR]
    exact ⟨_,es,clock,rfl,hO _ _ hk,h3,KR.mono (fun _ _=>rfl) hU _ _ _ _ h4⟩
   ·simp [Q.run] at h
  | mq=>simp [toD,Q.run] at h
  | pb=>simp [toD,Q.run] at h
  | sln k n0 =>
   simp only [toD] at h
   split at h
   ·rename_i h0
    subst h0
    simp only [Q.run,Option.some.injEq] at h
    subst h
    rw [LR.sln_nil] at hx
    subst hx
    simp [DR,plain]
   ·rename_i h0
    simp only [Q.run] at h
    split at h
    ·rename_i rows size elem own hk
     obtain ⟨hg,h⟩:=guard_run h
     simp only [Q.run,Option.some.injEq] at h
     subst h
     have hg':n0=rows.length:=by simpa using hg
     have hD:=slk_D hm ((LR.sln_slk (by omega)).1 hx) hk hg' hU (hO _ _ hk)
     rwa [List.drop_zero,List.take_of_length_le (by omega)] at hD
    ·simp [Q.run] at h
  | undef=>simp [toD,Q.run] at h
 | succ n ih =>
  have many:∀ (cells:List L) (ds:List D) (vs:List Value),(Q.mapM (toD n) cells).run ob=some ds→LF w U ι ob cells vs→FR w Us ds vs:=by
   intro cells
   induction cells with
   | nil=>intro ds vs h hl;simp [Q.mapM,Q.run] at h;subst h;simpa [LF,FR] using hl
   | cons y ys ihc =>
    intro ds vs h hl
    simp only [Q.mapM] at h
    obtain ⟨d1,h1,h⟩:=bind_run h
    obtain ⟨ds2,h2,h⟩:=bind_run h
    simp only [Q.run,Option.some.injEq] at h
    subst h
    simp only [LF] at hl
    obtain ⟨v,vs',rfl,hv,hl⟩:=hl
    simp only [FR]
    exact ⟨v,vs',rfl,ih y d1 v h1 hv,ihc ds2 vs' h2 hl⟩
  intro x d v h hx
  cases x with
  | ptr k off =>
   simp only [toD,Q.run] at h
   split at h
   ·rename_i cells elem hk
    obtain ⟨ds,h1,h⟩:=bind_run h
    simp only [Q.run,Option.some.injEq] at h
    subst h
    simp only [LR] at hx
    obtain ⟨_,_,_,rfl⟩:=hx
    obtain ⟨cur,h2,h3,h4⟩:=hm.obj k _ hk
    simp only [DR]
    refine ⟨(ι k).1,0,by rw [Nat.zero_add],hO _ _ hk,CR_iff.2 ⟨cur.toList,many _ _ _ h1 h3,fun j u hu=>?_⟩⟩
    rw [heap_cell h2,Nat.zero_add]
    simpa using hu
   ·simp [Q.run] at h
  | fn f caps =>
   simp only [toD] at h
   obtain ⟨ds,h1,h⟩:=bind_run h
   simp only [Q.run,Option.some.injEq] at h
   subst h
   simp only [LR] at hx
   obtain ⟨cs,rfl,hl⟩:=hx
   simp only [DR]
   exact ⟨cs,rfl,many _ _ _ h1 hl⟩
  | d x=>simp only [toD,Q.run,Option.some.injEq] at h;subst h;simp only [LR] at hx;exact DR.mono (fun _ _=>rfl) hU _ _ hx
  | slk k off n' c =>
   simp only [toD,Q.run] at h
   split at h
   ·rename_i rows size elem own hk
    obtain ⟨hg,h⟩:=guard_run h
    simp only [Q.run,Option.some.injEq] at h
    subst h
    exact slk_D hm hx hk (by simpa using hg) hU (hO _ _ hk)
   ·simp [Q.run] at h
  | pa k i off c =>
   simp only [toD,Q.run] at h
   split at h
   ·rename_i rows size elem own hk
    obtain ⟨hg,h⟩:=guard_run h
    obtain ⟨row,hrow,h⟩:=opt_bind_run h
    simp only [Q.run,Option.some.injEq] at h
    subst h
    simp only [LR] at hx
    obtain ⟨rows',size',elem',own',h1,h2,h3,_⟩:=hx
    rw [hk] at h1
    cases h1
    obtain ⟨_,rfl⟩:=h3 (by simpa using hg)
    obtain ⟨cur,h5,h6,h7,h8,h9,h10⟩:=hm.obj k _ hk
    simp only [DR]
    refine ⟨(ι k).1,0+i*size,by rw [Nat.zero_add],hO _ _ hk,?_⟩
    exact CR.mono (fun _ _=>rfl) hU _ rfl _ _ (h9.at_ hrow).2
   ·simp [Q.run] at h
  | mk k =>
   simp only [toD,Q.run] at h
   split at h
   ·rename_i agg keys vals own hk
    simp only [Q.run,Option.some.injEq] at h
    subst h
    simp only [LR] at hx
    obtain ⟨_,_,_,_,h1,rfl⟩:=hx
    obtain ⟨es,clock,h3,h4,h5⟩:=hm.obj _ _ hk
    simp only [DR]
    exact ⟨_,es,clock,rfl,hO _ _ hk,h3,KR.mono (fun _ _=>rfl) hU _ _ _ _ h4⟩
   ·simp [Q.run] at h
  | mq=>simp [toD,Q.run] at h
  | pb=>simp [toD,Q.run] at h
  | sln k n0 =>
   simp only [toD] at h
   split at h
   ·rename_i h0
    subst h0
    simp only [Q.run,Option.some.injEq] at h
    subst h
    rw [LR.sln_nil] at hx
    subst hx
    simp [DR,plain]
   ·rename_i h0
    simp only [Q.run] at h
    split at h
    ·rename_i rows size elem own hk
     obtain ⟨hg,h⟩:=guard_run h
     simp only [Q.run,Option.some.injEq] at h
     subst h
     have hg':n0=rows.length:=by simpa using hg
     have hD:=slk_D hm ((LR.sln_slk (by omega)).1 hx) hk hg' hU (hO _ _ hk)
     rwa [List.drop_zero,List.take_of_length_le (by omega)] at hD
    ·simp [Q.run] at h
  | undef=>simp [toD,Q.run] at h
theorem toDs_ok (hm:Mem w U ι ob) {Us:Nat→Prop} (hU:∀ b,U b→Us b) (hO:∀ k o,ob k=some o→Us (ι k).1) (n:Nat):∀ (cells:List L) (ds:List D) (vs:List Value),(Q.mapM (toD n) cells).run ob=some ds→LF w U ι ob cells vs→FR w Us ds vs
 | [],ds,vs,h,hl=>by simp [Q.mapM,Q.run] at h;subst h;simpa [LF,FR] using hl
 | y::ys,ds,vs,h,hl=>by
  simp only [Q.mapM] at h
  obtain ⟨d1,h1,h⟩:=bind_run h
  obtain ⟨ds2,h2,h⟩:=bind_run h
  simp only [Q.run,Option.some.injEq] at h
  subst h
  simp only [LF] at hl
  obtain ⟨v,vs',rfl,hv,hl⟩:=hl
  simp only [FR]
  exact ⟨v,vs',rfl,toD_ok hm hU hO n y d1 v h1 hv,toDs_ok hm hU hO n ys ds2 vs' h2 hl⟩
theorem toDs_free (n:Nat):∀ (cells:List L) (ds:List D),(Q.mapM (toD n) cells).run ob=some ds→cells.all L.isD=true→cells=ds.map .d
 | [],ds,h,_=>by simp [Q.mapM,Q.run] at h;subst h;rfl
 | y::ys,ds,h,hf=>by
  simp only [Q.mapM] at h
  obtain ⟨d1,h1,h⟩:=bind_run h
  obtain ⟨ds2,h2,h⟩:=bind_run h
  simp only [Q.run,Option.some.injEq] at h
  subst h
  simp only [List.all_cons,Bool.and_eq_true] at hf
  have hf2:=hf.2
  cases y<;>simp [L.isD] at hf
  have:∀ m z,(toD m (.d z)).run ob=some d1→z=d1:=by intro m z h;cases m<;>simpa [toD,Q.run] using h
  rw [List.map_cons,this _ _ h1,← toDs_free n ys ds2 h2 hf2]
theorem args_ok (hm:Mem w U ι ob):∀ (args:List V) (ds:List VD) (vs:List Value),(Q.mapM vToD args).run ob=some ds→VF w U ι ob args vs→VDF w (fun b=>b < w.heap.size) ds vs
 | [],ds,vs,h,hl=>by simp [Q.mapM,Q.run] at h;subst h;simpa [VF,VDF] using hl
 | y::ys,ds,vs,h,hl=>by
  simp only [Q.mapM] at h
  obtain ⟨d1,h1,h⟩:=bind_run h
  obtain ⟨ds2,h2,h⟩:=bind_run h
  simp only [Q.run,Option.some.injEq] at h
  subst h
  simp only [VF] at hl
  obtain ⟨v,vs',rfl,hv,hl⟩:=hl
  simp only [VDF]
  refine ⟨v,vs',rfl,?_,args_ok hm ys ds2 vs' h2 hl⟩
  cases y with
  | one l =>
   simp only [vToD] at h1
   obtain ⟨d,h3,h1⟩:=bind_run h1
   simp only [Q.run,Option.some.injEq] at h1
   subst h1
   simp only [VR] at hv
   exact toD_ok hm (fun b hb=>hm.lt b hb) (fun _ _ h=>hm.block h) _ _ _ _ h3 hv
  | agg ls =>
   simp only [vToD] at h1
   obtain ⟨d,h3,h1⟩:=bind_run h1
   simp only [Q.run,Option.some.injEq] at h1
   subst h1
   simp only [VR] at hv
   obtain ⟨cs,rfl,hl2⟩:=hv
   exact ⟨cs,rfl,toDs_ok hm (fun b hb=>hm.lt b hb) (fun _ _ h=>hm.block h) _ _ _ _ h3 hl2⟩
  | tup _=>simp [vToD,Q.run] at h1
theorem args_free:∀ (args:List V) (ds:List VD) (vs:List Value),(Q.mapM vToD args).run ob=some ds→args.all V.isD=true→VF w U ι ob args vs→VDF w U ds vs
 | [],ds,vs,h,_,hl=>by simp [Q.mapM,Q.run] at h;subst h;simpa [VF,VDF] using hl
 | y::ys,ds,vs,h,hf,hl=>by
  simp only [Q.mapM] at h
  obtain ⟨d1,h1,h⟩:=bind_run h
  obtain ⟨ds2,h2,h⟩:=bind_run h
  simp only [Q.run,Option.some.injEq] at h
  subst h
  simp only [List.all_cons,Bool.and_eq_true] at hf
  simp only [VF] at hl
  obtain ⟨v,vs',rfl,hv,hl⟩:=hl
  simp only [VDF]
  refine ⟨v,vs',rfl,?_,args_free ys ds2 vs' h2 hf.2 hl⟩
  cases y with
  | one l =>
   simp only [vToD] at h1
   obtain ⟨d,h3,h1⟩:=bind_run h1
   simp only [Q.run,Option.some.injEq] at h1
   subst h1
   simp only [VR] at hv
   cases l with
   | d x =>
    simp only [toD,Q.run,Option.some.injEq] at h3
    subst h3
    simpa only [LR,VDR] using hv
   | fn f caps =>
    simp only [toD] at h3
    obtain ⟨cs,hcs,h3⟩:=bind_run h3
    simp only [Q.run,Option.some.injEq] at h3
    subst h3
    have:=toDs_free 3 caps cs hcs (by simpa [V.isD,L.isF] using hf.1)
    subst this
    simp only [LR] at hv
    obtain ⟨us,hus,hl3⟩:=hv
    simp only [VDR,DR]
    exact ⟨us,hus,LF_FR hl3⟩
   | _=>simp [V.isD,L.isF,L.isD] at hf
  | agg ls =>
   simp only [vToD] at h1
   obtain ⟨d,h3,h1⟩:=bind_run h1
   simp only [Q.run,Option.some.injEq] at h1
   subst h1
   simp only [VR] at hv
   obtain ⟨cs,rfl,hl2⟩:=hv
   have:=toDs_free 4 ls d h3 (by simpa [V.isD] using hf.1)
   subst this
   exact ⟨cs,rfl,LF_FR hl2⟩
  | tup _=>simp [vToD,Q.run] at h1
theorem VDF.append {xs ys:List VD} {vs us:List Value} (h:VDF w U xs vs) (k:VDF w U ys us):VDF w U (xs++ys) (vs++us):=by
 induction xs generalizing vs with
 | nil=>simp only [VDF] at h;simpa [h] using k
 | cons x xs ih=>simp only [VDF] at h;obtain ⟨v,vs',rfl,h1,h2⟩:=h;simp only [List.cons_append,VDF];exact ⟨v,_,rfl,h1,ih h2⟩
theorem FR_VDF {xs:List D} {vs:List Value} (h:FR w U xs vs):VDF w U (xs.map .one) vs:=by
 induction xs generalizing vs with
 | nil=>simpa [FR,VDF] using h
 | cons x xs ih=>simp only [FR] at h;obtain ⟨v,vs',rfl,h1,h2⟩:=h;simp only [List.map_cons,VDF];exact ⟨v,vs',rfl,h1,ih h2⟩
structure Took (w:World) (U:Nat→Prop) (ι:Pl) (ob:Ob) (w':World) (U':Nat→Prop) (ι':Pl) (ob':Ob) (rest:List Nat):Prop where
 mem:Mem w' U' ι' ob'
 evo:Evo w U ι ob w' U' ι' ob'
 far:∀ b∈rest,w.heap.size≤b∧b < w'.heap.size∧¬ U' b∧∀ i oi,ob' i=some oi→oi.owned=true→b∉(ι' i).foot
def absentO (ob:Ob):List (Nat×O)→Prop
 | []=>True
 | (k,o)::r=>ob k=none∧absentO (putO ob [(k,o)]) r
theorem took_one {w':World} {U':Nat→Prop} {ι':Pl} {ob':Ob} {b:Nat} {rest:List Nat} (ht:Took w U ι ob w' U' ι' ob' (b::rest)) (hnd:(b::rest).Nodup) {k:Nat} (hk:ob' k=none) (new:O) (cap:Nat)
  (hor:∀ ob2,OR w' U' (updP ι' k ⟨b,cap,[]⟩) ob2 k new):Took w U ι ob w' U' (updP ι' k ⟨b,cap,[]⟩) (put1 ob' k new) rest∧(∀ x v,LR w' U' ι' ob' x v→LR w' U' (updP ι' k ⟨b,cap,[]⟩) (put1 ob' k new) x v):=by
 obtain ⟨f1,f2,f3,f4⟩:=ht.far b (by simp)
 obtain ⟨m1,m2,m3⟩:=mem_add ht.mem ht.evo k new ⟨b,cap,[]⟩ rfl hk f1 f2 f3 f4 (hor _)
 refine ⟨⟨m1,m2,?_⟩,m3⟩
 intro b' hb'
 obtain ⟨g1,g2,g3,g4⟩:=ht.far b' (by simp [hb'])
 refine ⟨g1,g2,g3,?_⟩
 intro i oi hi hoi
 by_cases hik:i=k
 ·subst hik
  rw [updP_same]
  intro hm
  simp [Pt.foot] at hm
  subst hm
  simp at hnd
  exact hnd.1 hb'
 ·rw [put1_other _ _ hik] at hi
  rw [updP_other _ _ hik]
  exact g4 i oi hi hoi
def Keeps (w':World) (U':Nat→Prop) (ι1:Pl) (ob1:Ob) (ι2:Pl) (ob2:Ob):Prop:=∀ x v,LR w' U' ι1 ob1 x v→LR w' U' ι2 ob2 x v
theorem Keeps.LF {w':World} {U':Nat→Prop} {ι1 ι2:Pl} {ob1 ob2:Ob} (h:Keeps w' U' ι1 ob1 ι2 ob2):∀ {xs:List L} {vs:List Value},LF w' U' ι1 ob1 xs vs→LF w' U' ι2 ob2 xs vs
 | [],vs,hl=>by simpa [VE.LF] using hl
 | x::xs,vs,hl=>by simp only [VE.LF] at hl ⊢;obtain ⟨v,vs',h1,h2,h3⟩:=hl;exact ⟨v,vs',h1,h _ _ h2,Keeps.LF h h3⟩
mutual
theorem Keeps.VR {w':World} {U':Nat→Prop} {ι1 ι2:Pl} {ob1 ob2:Ob} (h:Keeps w' U' ι1 ob1 ι2 ob2):∀ (x:V) (v:Value),VR w' U' ι1 ob1 x v→VR w' U' ι2 ob2 x v
 | .one x,v,hv=>by simp only [VE.VR] at hv ⊢;exact h _ _ hv
 | .agg xs,v,hv=>by simp only [VE.VR] at hv ⊢;obtain ⟨cs,h1,h2⟩:=hv;exact ⟨cs,h1,Keeps.LF h h2⟩
 | .tup xs,v,hv=>by simp only [VE.VR] at hv ⊢;obtain ⟨cs,h1,h2⟩:=hv;exact ⟨cs,h1,Keeps.VF h _ _ h2⟩
theorem Keeps.VF {w':World} {U':Nat→Prop} {ι1 ι2:Pl} {ob1 ob2:Ob} (h:Keeps w' U' ι1 ob1 ι2 ob2):∀ (xs:List V) (vs:List Value),VF w' U' ι1 ob1 xs vs→VF w' U' ι2 ob2 xs vs
 | [],vs,hl=>by simpa [VE.VF] using hl
 | x::xs,vs,hl=>by simp only [VE.VF] at hl ⊢;obtain ⟨v,vs',h1,h2,h3⟩:=hl;exact ⟨v,vs',h1,Keeps.VR h _ _ h2,Keeps.VF h xs vs' h3⟩
end
theorem Keeps.refl (w':World) (U':Nat→Prop) (ι1:Pl) (ob1:Ob):Keeps w' U' ι1 ob1 ι1 ob1:=fun _ _ h=>h
theorem Keeps.trans {w':World} {U':Nat→Prop} {ι1 ι2 ι3:Pl} {ob1 ob2 ob3:Ob} (h:Keeps w' U' ι1 ob1 ι2 ob2) (k:Keeps w' U' ι2 ob2 ι3 ob3):Keeps w' U' ι1 ob1 ι3 ob3:=fun _ _ hx=>k _ _ (h _ _ hx)
theorem absentO_append {ob:Ob}:∀ {us vs:List (Nat×O)},absentO ob (us++vs)↔absentO ob us∧absentO (putO ob us) vs:=by
 intro us
 induction us generalizing ob with
 | nil=>intro vs;simp [absentO,putO]
 | cons x us ih=>intro vs;obtain ⟨k,o⟩:=x;simp only [List.cons_append,absentO,ih,and_assoc];rw [←putO_append];rfl
theorem took_c {base:Nat} {w':World} {U':Nat→Prop} {ι':Pl} {ob':Ob} {x:RC} {v:Value} {bs rest:List Nat} {n:Nat} (hx:RcR w' U' x v bs) (ht:Took w U ι ob w' U' ι' ob' (bs++rest)) (hnd:(bs++rest).Nodup)
  (hab:absentO ob' (layR base x n).2.1):∃ ι2,Took w U ι ob w' U' ι2 (putO ob' (layR base x n).2.1) rest∧Keeps w' U' ι' ob' ι2 (putO ob' (layR base x n).2.1)∧LR w' U' ι2 (putO ob' (layR base x n).2.1) (layR base x n).1 v:=by
 cases x with
 | d x =>
  obtain ⟨rfl,hd⟩:=hx
  exact ⟨ι',by simpa [layR,putO] using ht,Keeps.refl _ _ _ _,by simpa only [layR,LR] using hd⟩
 | own rows size elem =>
  obtain ⟨b,cap,cur,rfl,rfl,h3,h4,h5,h6,h7⟩:=hx
  simp only [layR,absentO] at hab
  have hfb:=(ht.far b (by simp)).2.2.1
  obtain ⟨t1,t2⟩:=took_one (k:=base+n) ht hnd hab.1 (.arr rows size elem true) cap (fun ob2=>⟨cur,by rw [updP_same];exact h3,by rw [updP_same];exact h4,by rw [updP_same];exact h5,by rw [updP_same];exact h6,by rw [updP_same];exact h7,by rw [updP_same];simpa using hfb⟩)
  refine ⟨_,t1,t2,?_⟩
  simp only [layR,LR,putO]
  exact ⟨rows,size,elem,true,put1_same _ _ _,Nat.le_refl _,fun _=>⟨by omega,by rw [updP_same];simp⟩,_,_,rfl,h4,h5⟩
 | om agg keys vals =>
  obtain ⟨b,es,clock,rfl,rfl,h3,h4⟩:=hx
  simp only [layR,absentO] at hab
  have hfb:=(ht.far b (by simp)).2.2.1
  obtain ⟨t1,t2⟩:=took_one (k:=base+n) ht hnd hab.1 (.mp agg keys vals true) 0 (fun ob2=>⟨es,clock,by rw [updP_same];exact h3,h4,by rw [updP_same];simpa using hfb⟩)
  refine ⟨_,t1,t2,?_⟩
  simp only [layR,LR,putO]
  exact ⟨agg,keys,vals,true,put1_same _ _ _,by rw [updP_same]⟩
theorem took_f {base:Nat} {w':World} {U':Nat→Prop}:∀ {xs:List RC} {vs:List Value} {bs rest:List Nat} {n:Nat} {ι':Pl} {ob':Ob},RcF w' U' xs vs bs→Took w U ι ob w' U' ι' ob' (bs++rest)→(bs++rest).Nodup →
  absentO ob' (layF base xs n).2.1→∃ ι2,Took w U ι ob w' U' ι2 (putO ob' (layF base xs n).2.1) rest∧Keeps w' U' ι' ob' ι2 (putO ob' (layF base xs n).2.1)∧LF w' U' ι2 (putO ob' (layF base xs n).2.1) (layF base xs n).1 vs
 | [],vs,bs,rest,n,ι',ob',h,ht,hnd,hab=>by
  obtain ⟨rfl,rfl⟩:=h
  exact ⟨ι',by simpa [layF,putO] using ht,Keeps.refl _ _ _ _,by simp [layF,LF]⟩
 | x::xs,vs,bs,rest,n,ι',ob',h,ht,hnd,hab=>by
  obtain ⟨v,vs',b1,b2,rfl,rfl,h1,h2⟩:=h
  simp only [layF,absentO_append] at hab
  obtain ⟨ι2,t1,t2,t3⟩:=took_c (rest:=b2++rest) (n:=n) h1 (by rwa [List.append_assoc] at ht) (by rwa [List.append_assoc] at hnd) hab.1
  have hnd2:(b2++rest).Nodup:=by rw [List.append_assoc] at hnd;exact (List.nodup_append.1 hnd).2.1
  obtain ⟨ι3,t4,t5,t6⟩:=took_f (rest:=rest) h2 t1 hnd2 hab.2
  refine ⟨ι3,by simpa only [layF,putO_append] using t4,by simpa only [layF,putO_append] using t2.trans t5,?_⟩
  simp only [layF,putO_append,LF]
  exact ⟨v,vs',rfl,t5 _ _ t3,t6⟩
mutual
theorem took_v {base:Nat} {w':World} {U':Nat→Prop}:∀ (x:RV) (v:Value) (bs rest:List Nat) (n:Nat) (ι':Pl) (ob':Ob),RvR w' U' x v bs→Took w U ι ob w' U' ι' ob' (bs++rest)→(bs++rest).Nodup →
  absentO ob' (layV base x n).2.1→∃ ι2,Took w U ι ob w' U' ι2 (putO ob' (layV base x n).2.1) rest∧Keeps w' U' ι' ob' ι2 (putO ob' (layV base x n).2.1)∧VR w' U' ι2 (putO ob' (layV base x n).2.1) (layV base x n).1 v
 | .one x,v,bs,rest,n,ι',ob',h,ht,hnd,hab=>by
  simp only [RvR] at h
  simp only [layV] at hab ⊢
  obtain ⟨ι2,t1,t2,t3⟩:=took_c h ht hnd hab
  exact ⟨ι2,t1,t2,by simpa only [VR] using t3⟩
 | .agg xs,v,bs,rest,n,ι',ob',h,ht,hnd,hab=>by
  simp only [RvR] at h
  obtain ⟨cs,rfl,h⟩:=h
  simp only [layV] at hab ⊢
  obtain ⟨ι2,t1,t2,t3⟩:=took_f h ht hnd hab
  exact ⟨ι2,t1,t2,by simp only [VR];exact ⟨cs,rfl,t3⟩⟩
 | .tup xs,v,bs,rest,n,ι',ob',h,ht,hnd,hab=>by
  simp only [RvR] at h
  obtain ⟨cs,rfl,h⟩:=h
  simp only [layV] at hab ⊢
  obtain ⟨ι2,t1,t2,t3⟩:=took_vf xs cs.toList bs rest n ι' ob' h ht hnd hab
  exact ⟨ι2,t1,t2,by simp only [VR];exact ⟨cs,rfl,t3⟩⟩
theorem took_vf {base:Nat} {w':World} {U':Nat→Prop}:∀ (xs:List RV) (vs:List Value) (bs rest:List Nat) (n:Nat) (ι':Pl) (ob':Ob),RvF w' U' xs vs bs→Took w U ι ob w' U' ι' ob' (bs++rest)→(bs++rest).Nodup →
  absentO ob' (layVF base xs n).2.1→∃ ι2,Took w U ι ob w' U' ι2 (putO ob' (layVF base xs n).2.1) rest∧Keeps w' U' ι' ob' ι2 (putO ob' (layVF base xs n).2.1)∧VF w' U' ι2 (putO ob' (layVF base xs n).2.1) (layVF base xs n).1 vs
 | [],vs,bs,rest,n,ι',ob',h,ht,hnd,hab=>by
  simp only [RvF] at h
  obtain ⟨rfl,rfl⟩:=h
  exact ⟨ι',by simpa [layVF,putO] using ht,Keeps.refl _ _ _ _,by simp [layVF,VF]⟩
 | x::xs,vs,bs,rest,n,ι',ob',h,ht,hnd,hab=>by
  simp only [RvF] at h
  obtain ⟨v,vs',b1,b2,rfl,rfl,h1,h2⟩:=h
  simp only [layVF,absentO_append] at hab
  obtain ⟨ι2,t1,t2,t3⟩:=took_v x v b1 (b2++rest) n ι' ob' h1 (by rwa [List.append_assoc] at ht) (by rwa [List.append_assoc] at hnd) hab.1
  have hnd2:(b2++rest).Nodup:=by rw [List.append_assoc] at hnd;exact (List.nodup_append.1 hnd).2.1
  obtain ⟨ι3,t4,t5,t6⟩:=took_vf xs vs' b2 rest _ ι2 _ h2 t1 hnd2 hab.2
  refine ⟨ι3,by simpa only [layVF,putO_append] using t4,by simpa only [layVF,putO_append] using t2.trans t5,?_⟩
  simp only [layVF,putO_append,VF]
  exact ⟨v,vs',rfl,Keeps.VR t5 _ _ t3,t6⟩
end
theorem absentQ_ok {α:Type} {q:Q α} {r:α}:∀ {us:List (Nat×O)},(absentQ us q).run ob=some r→(∀ p∈us,ob p.1=none)∧q.run ob=some r
 | [],h=>⟨by simp,h⟩
 | (k,o)::us,h=>by
  simp only [absentQ,Q.run] at h
  cases hk:ob k with
  | none =>
   rw [hk] at h
   obtain ⟨h1,h2⟩:=absentQ_ok h
   refine ⟨fun p hp=>?_,h2⟩
   rcases List.mem_cons.1 hp with rfl | hp
   ·exact hk
   ·exact h1 p hp
  | some _=>rw [hk] at h;simp [Q.run] at h
theorem absentO_of:∀ {us:List (Nat×O)} {ob:Ob},(us.map Prod.fst).Nodup→(∀ p∈us,ob p.1=none)→absentO ob us
 | [],ob,_,_=>trivial
 | (k,o)::us,ob,hn,h=>by
  simp only [List.map_cons,List.nodup_cons] at hn
  refine ⟨h (k,o) (by simp),absentO_of hn.2 fun p hp=>?_⟩
  have hne:p.1≠k:=fun e=>hn.1 (by rw [←e];exact List.mem_map_of_mem hp)
  rw [putO_other1 _ _ hne]
  exact h p (by simp [hp])
def Back (w:World) (U:Nat→Prop) (ι:Pl) (ob:Ob) (r:Res) (e:Ending) (w':World):Prop :=
 ∃ v U' ι',e=.returned v∧Mem w' U' ι' (putO ob r.2)∧Evo w U ι ob w' U' ι' (putO ob r.2)∧VR w' U' ι' (putO ob r.2) r.1 v
theorem post_back (hm:Mem w U ι ob) {Uc:Nat→Prop} {dst:Option Nat} {rv:RV} {r:Res} (hl:(layQ dst rv).run ob=some r) (_:∀ b,Uc b→b < w.heap.size) (hcase:(∀ b,Uc b↔U b)∨rv.lits=true) {e:Ending} {w':World} (hp:Post w Uc rv e w') :
  Back w U ι ob r e w':=by
 obtain ⟨v,U1,bs,rfl,hb,h1,h2,h3,h4,h5⟩:=hp
 unfold layQ at hl
 obtain ⟨hnd,hl⟩:=guard_run hl
 obtain ⟨hab,hl⟩:=absentQ_ok hl
 simp only [Q.run,Option.some.injEq] at hl
 subst hl
 have hab':=absentO_of (by simpa using hnd) hab
 obtain ⟨U2,k1,k2,k3,k4⟩:∃ U2:Nat→Prop,(∀ b,U b→U2 b)∧(∀ b,U2 b→b < w'.heap.size∧(U b∨w.heap.size≤b))∧(∀ b∈bs,¬ U2 b)∧RvR w' U2 rv v bs:=by
  rcases hcase with hc | hc
  ·exact ⟨U1,fun b hb'=>h1 b ((hc b).2 hb'),fun b hb'=>⟨(h2 b hb').1,(h2 b hb').2.imp (hc b).1 id⟩,fun b hb'=>(h4 b hb').2.2,h5⟩
  ·exact ⟨U,fun _ h=>h,fun b hb'=>⟨Nat.lt_of_lt_of_le (hm.lt b hb') hb.size,.inl hb'⟩,fun b hb' hUb=>by have:=(h4 b hb').1;have:=hm.lt b hUb;omega,RvR.lit_any _ _ _ h5 hc⟩
 have kept:∀ b,b < w.heap.size→w'.heap[b]?=w.heap[b]?:=fun b hb'=>hb.block b hb'
 have ev:Evo w U ι ob w' U2 ι ob:=⟨hb.os,hb.tape,hb.output,hb.size,fun b hb'=>kept b (hm.lt b hb'),k1,fun _ cells _ h=>⟨cells,h,rfl⟩,fun _ rows _ _ own h=>⟨rows,own,h,Nat.le_refl _,fun _=>rfl⟩,fun _ _ keys vals own h=>⟨keys,vals,own,h,rfl⟩,fun _ keys vals h=>⟨keys,vals,h,rfl⟩,fun _ keys rows _ _ h=>⟨keys,rows,h,rfl,List.prefix_refl _⟩,
  fun b hb' _=>kept b hb',fun k o h ho b hb=>.inr ⟨k,o,h,ho,hb⟩,fun b hb'=>(k2 b hb').2.imp id .inl⟩
 have hm2:Mem w' U2 ι ob:=by
  refine ⟨fun b hb'=>(k2 b hb').1,fun k o hk=>?_,hm.inj,hm.one,hm.lay.mono ev.kept ev.sub⟩
  exact OR.evo ev rfl (fun b hb=>kept _ (hm.foot hk hb)) (fun b hb=>⟨fun h=>(k2 _ h).2.resolve_right (by have:=hm.foot hk hb;omega),k1 _⟩) (hm.obj k o hk)
 have ht:Took w U ι ob w' U2 ι ob (bs++[]):=by
  refine ⟨hm2,ev,fun b hb'=>?_⟩
  rw [List.append_nil] at hb'
  obtain ⟨g1,g2,_⟩:=h4 b hb'
  exact ⟨g1,g2,k3 b hb',fun i oi hi _ heq=>by have:=hm.foot hi heq;omega⟩
 obtain ⟨ι2,t1,t2,t3⟩:=took_v rv v bs [] 0 ι ob k4 ht (by simpa using h3) hab'
 exact ⟨v,U2,ι2,rfl,t1.mem,t1.evo,t3⟩
theorem fnOf_ok {x:V} {u:Value} {f:Nat} {caps:List L} (hx:VR w U ι ob x u) (h:fnOf x=some (f,caps)):∃ cs,u=.func (.func f) #[] cs∧LF w U ι ob caps cs.toList:=by
 unfold fnOf at h
 split at h
 ·split at h
  ·rename_i hlt;cases h;simp only [VR,LR,fnVal,if_pos hlt] at hx;exact hx
  ·cases h
 ·split at h
  ·rename_i hlt
   cases h
   simp only [VR,LR,DR,fnVal,if_pos hlt] at hx
   obtain ⟨cs,h1,h2⟩:=hx
   exact ⟨cs,h1,row_LF h2⟩
  ·cases h
 ·cases h
theorem fnOfB_ok {x:V} {u:Value} {f:Nat} {caps:List L} (hx:VR w U ι ob x u) (h:fnOfB x=some (f,caps)):∃ cs,u=.func (.func f) cs #[]∧LF w U ι ob caps cs.toList:=by
 unfold fnOfB at h
 split at h
 ·split at h
  ·cases h
  ·rename_i hlt;simp only [Option.some.injEq,Prod.mk.injEq] at h;obtain ⟨rfl,rfl⟩:=h;simp only [VR,LR,fnVal,if_neg hlt] at hx;exact hx
 ·split at h
  ·cases h
  ·rename_i hlt
   simp only [Option.some.injEq,Prod.mk.injEq] at h
   obtain ⟨rfl,rfl⟩:=h
   simp only [VR,LR,DR,fnVal,if_neg hlt] at hx
   obtain ⟨cs,h1,h2⟩:=hx
   exact ⟨cs,h1,row_LF h2⟩
 ·cases h
theorem metC_ok {t:Nat} {name:String} {f:Nat} (h:metC P t name=some f) (v:Value) (n:Nat):(method (n+1) t v name).run P w=.ok (f,v) w:=by
 unfold metC at h
 split at h
 ·rename_i i hi
  split at h
  ·rename_i m hm
   split at h
   ·cases h
   ·rename_i f' d hu hp hf hne
    cases h
    simp only [method,Sem.run_bind,r_typeInfo hi,Result.andThen_ok,hm]
    rw [hp,hf]
    simp only [follow,Sem.run_bind,Sem.run_pure,Result.andThen_ok,receiverAt,run_underlying hne]
    cases d<;>first | rfl | (exact absurd hne (hu _))
   ·cases h
  ·cases h
 ·cases h
theorem ifcOf_ok {x:V} {u:Value} {name:String} {f:Nat} {rv:V} (hx:VR w U ι ob x u) (h:ifcOf P name x=some (f,rv)):∃ t v,u=.iface t v∧metC P t name=some f∧VR w U ι ob rv v:=by
 unfold ifcOf at h
 split at h
 ·rename_i t row
  obtain ⟨f',hf,he⟩:=Option.map_eq_some_iff.1 h
  cases he
  simp only [VR,LR,DR] at hx
  obtain ⟨cs,rfl,_,hr⟩:=hx
  refine ⟨t,_,rfl,hf,?_⟩
  simp only [VR,valOf]
  exact ⟨cs.toArray,rfl,row_LF hr⟩
 ·rename_i t y
  obtain ⟨f',hf,he⟩:=Option.map_eq_some_iff.1 h
  cases he
  simp only [VR,LR,DR] at hx
  obtain ⟨cs,rfl,hl,hr⟩:=hx
  refine ⟨t,_,rfl,hf,?_⟩
  simp only [FR] at hr
  obtain ⟨v,vs',rfl,h1,rfl⟩:=hr
  simp only [VR,LR,valOf]
  exact h1
 ·cases h
theorem inv_good (hm:Mem w U ι ob) {C:Nat→List VD→Option RV} (hC:∀ f ds r,C f ds=some r→SC P f ds r) {dst:Option Nat} {ρ:Operand→V} {ρ':Operand→Value} (hρ:∀ x,VR w U ι ob (ρ x) (ρ' x)) {recv:Operand} {name:String} {args:Array Operand} (ha:args.toList=[]) {argTypes:Array TypeId}
  {f:Nat} {rvv:V} (hf:ifcOf P name (ρ recv)=some (f,rvv)) {r:Res} (h:(callQ C dst f [rvv] []).run ob=some r) (d:Option Nat) (ty:Nat) (pos:String) (after:Array Edge) (guard:Option (Nat×Bool)) :
  ∃ as,(execOp ρ' ⟨d,.call ⟨.invoke recv name,args,argTypes⟩,ty,pos,after,guard⟩).run P w=.ok (.enter f as) w∧Calls P f as w (Back w U ι ob r):=by
 unfold callQ at h
 obtain ⟨ds,hds,h⟩:=bind_run h
 obtain ⟨cs,hcs,h⟩:=bind_run h
 obtain ⟨rv,hrv,h⟩:=opt_bind_run h
 obtain ⟨hg,h'⟩:=guard_run h
 obtain ⟨t,v,hv,hmet,hrr⟩:=ifcOf_ok (hρ recv) hf
 obtain ⟨hcall,hsc⟩:=hC _ _ _ hrv
 have hcs':cs=[]:=by simpa [Q.mapM,Q.run] using hcs.symm
 subst hcs'
 have ha':args=#[]:=by cases args with | mk l=>simp at ha;rw [ha]
 subst ha'
 have hvf:VF w U ι ob [rvv] [v]:=by simp only [VF];exact ⟨v,[],rfl,hrr,rfl⟩
 refine ⟨#[v],?_,?_⟩
 ·have hd:Made.depth=99+1:=rfl
  have:=metC_ok (w:=w) hmet v (P.types.size+99)
  simp [execOp,resolve,invoke,hv,callMethod,hd,this,hcall]
 ·simp only [Bool.or_eq_true,Bool.and_eq_true] at hg
  rcases hg with hlit | ⟨hfa,hfc⟩
  ·have hv:VDF w (fun b=>b < w.heap.size) (ds++([]:List D).map .one) #[v].toList:=by
    simpa using args_ok hm _ _ _ hds hvf
   exact (hsc w _ _ (fun _ h=>h) (hm.lay.mono (fun _ _=>rfl) hm.lt) hv).mono fun e w' hp=>post_back hm h' (fun _ h=>h) (.inr hlit) hp
  ·have hv:VDF w U (ds++([]:List D).map .one) #[v].toList:=by
    simpa using args_free _ _ _ hds hfa hvf
   exact (hsc w U _ hm.lt hm.lay hv).mono fun e w' hp=>post_back hm h' hm.lt (.inl fun _=>Iff.rfl) hp
theorem call_good (hm:Mem w U ι ob) {C:Nat→List VD→Option RV} (hC:∀ f ds r,C f ds=some r→SC P f ds r) {dst:Option Nat} {ρ:Operand→V} {ρ':Operand→Value} (hρ:∀ x,VR w U ι ob (ρ x) (ρ' x)) {fo:Operand} {args:Array Operand} {argTypes:Array TypeId}
  {f:Nat} {caps:List L} (hf:fnOf (ρ fo)=some (f,caps)) {r:Res} (h:(callQ C dst f (args.toList.map ρ) caps).run ob=some r) (d:Option Nat) (ty:Nat) (pos:String) (after:Array Edge) (guard:Option (Nat×Bool)) :
  ∃ as,(execOp ρ' ⟨d,.call ⟨.value fo,args,argTypes⟩,ty,pos,after,guard⟩).run P w=.ok (.enter f as) w∧Calls P f as w (Back w U ι ob r):=by
 unfold callQ at h
 obtain ⟨ds,hds,h⟩:=bind_run h
 obtain ⟨cs,hcs,h⟩:=bind_run h
 obtain ⟨rv,hrv,h⟩:=opt_bind_run h
 obtain ⟨hg,h⟩:=guard_run h
 obtain ⟨caps',hcv,hcl⟩:=fnOf_ok (hρ fo) hf
 obtain ⟨hcall,hsc⟩:=hC _ _ _ hrv
 refine ⟨args.map ρ'++caps',?_,?_⟩
 ·simp [execOp,resolve,hcv,Deferred.ofValue,invoke,hcall]
 ·have hvf:=map_VF hρ args.toList
  simp only [Bool.or_eq_true,Bool.and_eq_true] at hg
  rcases hg with hlit | ⟨hfa,hfc⟩
  ·have hv:VDF w (fun b=>b < w.heap.size) (ds++cs.map .one) (args.map ρ'++caps').toList:=by
    rw [Array.toList_append,Array.toList_map]
    exact (args_ok hm _ _ _ hds hvf).append (FR_VDF (toDs_ok hm (fun b hb=>hm.lt b hb) (fun _ _ h=>hm.block h) _ _ _ _ hcs hcl))
   exact (hsc w _ _ (fun _ h=>h) (hm.lay.mono (fun _ _=>rfl) hm.lt) hv).mono fun e w' hp=>post_back hm h (fun _ h=>h) (.inr hlit) hp
  ·have hv:VDF w U (ds++cs.map .one) (args.map ρ'++caps').toList:=by
    rw [Array.toList_append,Array.toList_map]
    refine (args_free _ _ _ hds hfa hvf).append (FR_VDF ?_)
    have:=toDs_free 4 caps cs hcs hfc
    subst this
    exact LF_FR hcl
   exact (hsc w U _ hm.lt hm.lay hv).mono fun e w' hp=>post_back hm h hm.lt (.inl fun _=>Iff.rfl) hp
theorem VF_append11:∀ {xs ys:List V} {us vs:List Value},VF w U ι ob xs us→VF w U ι ob ys vs→VF w U ι ob (xs++ys) (us++vs)
 | [],ys,us,vs,h,h2=>by simp only [VF] at h;subst h;simpa using h2
 | x::xs,ys,us,vs,h,h2=>by
  simp only [VF] at h
  obtain ⟨v,vs',rfl,h1,h3⟩:=h
  simp only [List.cons_append,VF]
  exact ⟨v,vs'++vs,rfl,h1,VF_append11 h3 h2⟩
theorem LF_VF11:∀ {xs:List L} {vs:List Value},LF w U ι ob xs vs→VF w U ι ob (xs.map .one) vs
 | [],vs,h=>by simpa [LF,VF] using h
 | x::xs,vs,h=>by
  simp only [LF] at h
  obtain ⟨v,vs',e,h1,h2⟩:=h
  simp only [List.map_cons,VF,VR]
  exact ⟨v,vs',e,h1,LF_VF11 h2⟩
theorem callB_good (hm:Mem w U ι ob) {C:Nat→List VD→Option RV} (hC:∀ f ds r,C f ds=some r→SC P f ds r) {dst:Option Nat} {ρ:Operand→V} {ρ':Operand→Value} (hρ:∀ x,VR w U ι ob (ρ x) (ρ' x)) {fo:Operand} {args:Array Operand} {argTypes:Array TypeId}
  {f:Nat} {caps:List L} (hf:fnOfB (ρ fo)=some (f,caps)) {r:Res} (h:(callQ C dst f (caps.map .one++args.toList.map ρ) []).run ob=some r) (d:Option Nat) (ty:Nat) (pos:String) (after:Array Edge) (guard:Option (Nat×Bool)) :
  ∃ as,(execOp ρ' ⟨d,.call ⟨.value fo,args,argTypes⟩,ty,pos,after,guard⟩).run P w=.ok (.enter f as) w∧Calls P f as w (Back w U ι ob r):=by
 unfold callQ at h
 obtain ⟨ds,hds,h⟩:=bind_run h
 obtain ⟨cs,hcs,h⟩:=bind_run h
 obtain ⟨rv,hrv,h⟩:=opt_bind_run h
 obtain ⟨hg,h'⟩:=guard_run h
 obtain ⟨caps',hcv,hcl⟩:=fnOfB_ok (hρ fo) hf
 obtain ⟨hcall,hsc⟩:=hC _ _ _ hrv
 have hcs':cs=[]:=by simpa [Q.mapM,Q.run] using hcs.symm
 subst hcs'
 refine ⟨caps'++args.map ρ',?_,?_⟩
 ·simp [execOp,resolve,hcv,Deferred.ofValue,invoke,hcall]
 ·have hvf:VF w U ι ob (caps.map .one++args.toList.map ρ) (caps'++args.map ρ').toList:=by
   rw [Array.toList_append,Array.toList_map]
   exact VF_append11 (LF_VF11 hcl) (map_VF hρ args.toList)
  simp only [Bool.or_eq_true,Bool.and_eq_true] at hg
  rcases hg with hlit | ⟨hfa,hfc⟩
  ·have hv:VDF w (fun b=>b < w.heap.size) (ds++([]:List D).map .one) (caps'++args.map ρ').toList:=by
    simpa using args_ok hm _ _ _ hds hvf
   exact (hsc w _ _ (fun _ h=>h) (hm.lay.mono (fun _ _=>rfl) hm.lt) hv).mono fun e w' hp=>post_back hm h' (fun _ h=>h) (.inr hlit) hp
  ·have hv:VDF w U (ds++([]:List D).map .one) (caps'++args.map ρ').toList:=by
    simpa using args_free _ _ _ hds hfa hvf
   exact (hsc w U _ hm.lt hm.lay hv).mono fun e w' hp=>post_back hm h' hm.lt (.inl fun _=>Iff.rfl) hp
end Go.VE
namespace Go.VE
open Go.RowKit
structure St where
 env:List (Nat×V)
 ob:List (Nat×O)
def getE:List (Nat×V)→Nat→V
 | [],_=>.one .undef
 | (k,v)::r,t=>if t=k then v else getE r t
def rawO:List (Nat×O)→Nat→Option O
 | [],_=>none
 | (k,o)::r,j=>if j=k then some o else rawO r j
def getO:List (Nat×O)→Ob
 | [],_=>none
 | (k,o)::r,j=>if j=k then o.val else getO r j
theorem getO_raw:∀ (l:List (Nat×O)) (k:Nat),getO l k=(rawO l k).bind O.val
 | [],_=>rfl
 | (j,o)::r,k=>by
  simp only [getO,rawO]
  split
  ·rfl
  ·exact getO_raw r k
theorem getO_some {l:List (Nat×O)} {k:Nat} {o:O} (h:getO l k=some o):rawO l k=some o∧o.val=some o:=by
 rw [getO_raw] at h
 cases hr:rawO l k with
 | none=>rw [hr] at h;cases h
 | some o' =>
  rw [hr] at h
  simp only [Option.bind_some] at h
  cases o'<;>simp only [O.val] at h<;>cases h<;>exact ⟨rfl,rfl⟩
def addO:List (Nat×O)→List (Nat×O)→List (Nat×O)
 | [],ob=>ob
 | (k,o)::r,ob=>addO r ((k,o)::ob)
abbrev Cs:=Nat→List VD→Option RV
def calleeOf:Op→Option (Operand×List Operand)
 | .call ⟨.value fo,args,_⟩=>some (fo,args.toList)
 | _=>none
def invOf:Op→Option (Operand×String)
 | .call ⟨.invoke recv name,args,_⟩=>match args.toList with
  | []=>some (recv,name)
  | _=>none
 | _=>none
def opQ (C:Cs) (P:Program) (dst:Option Nat) (ρ:Operand→V) (op:Op):Q Res:=match calleeOf op with
 | some (fo,args)=>match fnOf (ρ fo) with
  | some (f,caps)=>callQ C dst f (args.map ρ) caps
  | none=>match fnOfB (ρ fo) with
   | some (f,caps)=>callQ C dst f (caps.map .one++args.map ρ) []
   | none=>.fail
 | none=>match invOf op with
  | some (recv,name)=>match ifcOf P name (ρ recv) with
   | some (f,v)=>callQ C dst f [v] []
   | none=>.fail
  | none=>aop P dst ρ op
def dstOK (nt:Nat):Option Nat→Bool
 | some d=>decide (d < nt)
 | none=>true
def gateTmp (ops:Array Oper) (j:Nat):Option Nat:=(ops[j]?).bind (·.dst)
inductive Ex where
 | normal
 | exit (id:Nat)
 | ret
mutual
def L.keysOf:L→List Nat
 | .d _=>[]
 | .slk k _ _ _=>[k]
 | .pa k _ _ _=>[k]
 | .ptr k _=>[k]
 | .fn _ caps=>L.keysF caps
 | .mk k=>[k]
 | .mq k=>[k]
 | .pb k _ _=>[k]
 | .sln k _=>[k]
 | .undef=>[]
def L.keysF:List L→List Nat
 | []=>[]
 | x::xs=>x.keysOf++L.keysF xs
end
mutual
def V.keysOf:V→List Nat
 | .one x=>x.keysOf
 | .agg xs=>L.keysF xs
 | .tup xs=>V.keysF xs
def V.keysF:List V→List Nat
 | []=>[]
 | x::xs=>x.keysOf++V.keysF xs
end
def O.keysOf:O→List Nat
 | .box cells _=>L.keysF cells
 | .ml _ vals=>L.keysF vals
 | _=>[]
def keepO (ob:List (Nat×O)):List Nat→List (Nat×O)
 | []=>[]
 | k::ks=>match rawO ob k with
  | some o=>(k,o)::keepO ob ks
  | none=>keepO ob ks
end Go.VE
namespace Go.VE
open Go.RowKit
variable {P:Program}
def Sim (w0:World) (U0:Nat→Prop) (nt:Nat) (env:Nat→V) (ob:Ob) (a:Act) (w:World):Prop :=
 ∃ (U:Nat→Prop) (ι0 ι:Pl),Mem w U ι ob∧Evo w0 U0 ι0 (fun _=>none) w U ι ob∧a.defers=[]∧a.tmps.size=nt∧∀ t,VR w U ι ob (env t) (a.tmps.getD t undef)
theorem getO_addO:∀ (u ob:List (Nat×O)),getO (addO u ob)=putO (getO ob) u
 | [],ob=>rfl
 | (k,o)::r,ob=>by
  rw [addO,getO_addO r,putO_step]
  rfl
theorem constV_VR {w:World} {U:Nat→Prop} {ι:Pl} {ob:Ob} (v:Value):VR w U ι ob (constV v) v:=by
 have one:∀ v:Value,plain v=true→VR w U ι ob (.one (.d (.lit v))) v:=fun v h=>vlit_VR h
 have und:∀ v:Value,VR w U ι ob (.one .undef) v:=fun v=>by simp [VR,LR]
 cases v with
 | agg cs =>
  simp only [constV]
  split
  ·rename_i h
   simp only [VR]
   exact ⟨cs,rfl,litsL_LF h⟩
  ·exact und _
 | _=>simp only [constV];split<;>first | exact one _ ‹_› | exact und _
theorem ev_VR {w:World} {U:Nat→Prop} {ι:Pl} {ob:Ob} {env:Nat→V} {a:Act} (h:∀ t,VR w U ι ob (env t) (a.tmps.getD t undef)):∀ x,VR w U ι ob (ev env x) (a.eval x)
 | .tmp t=>h t
 | .const v=>constV_VR v
 | .global g=>by simp [ev,VR,LR]
 | .func f=>by
  simp only [ev,Act.eval]
  split
  ·rename_i hlt;simp only [VR,LR,fnVal,if_pos hlt];exact ⟨#[],rfl,by simp [LF]⟩
  ·simp [VR,LR]
def putF (dst:Option Nat) (v:V) (env:Nat→V):Nat→V:=fun t=>if dst=some t then v else env t
theorem put_size (a:Act) (dst:Option Nat) (v:Value):(a.put dst v).tmps.size=a.tmps.size:=by cases dst<;>simp [Act.put]
theorem put_defers (a:Act) (dst:Option Nat) (v:Value):(a.put dst v).defers=a.defers:=by cases dst<;>rfl
theorem put_get (a:Act) (dst:Option Nat) (v:Value) (t:Nat) (hd:∀ d,dst=some d→d < a.tmps.size):(a.put dst v).tmps.getD t undef=if dst=some t then v else a.tmps.getD t undef:=by
 cases dst with
 | none=>simp [Act.put]
 | some d =>
  have:=hd d rfl
  simp only [Act.put,Option.some.injEq,Array.getD_eq_getD_getElem?,Array.getElem?_setIfInBounds]
  by_cases h:d=t
  ·subst h;simp [this]
  ·simp [h]
theorem calleeOf_some {op:Op} {fo:Operand} {args:List Operand} (h:calleeOf op=some (fo,args)):∃ (as:Array Operand) (ts:Array TypeId),op=.call ⟨.value fo,as,ts⟩∧args=as.toList:=by
 unfold calleeOf at h
 split at h
 ·cases h;exact ⟨_,_,rfl,rfl⟩
 ·cases h
theorem invOf_some {op:Op} {recv:Operand} {name:String} (h:invOf op=some (recv,name)):∃ (as:Array Operand) (ts:Array TypeId),op=.call ⟨.invoke recv name,as,ts⟩∧as.toList=[]:=by
 unfold invOf at h
 split at h
 ·split at h
  ·rename_i ha
   cases h;exact ⟨_,_,rfl,ha⟩
  ·cases h
 ·cases h
theorem yielded_bool {w:World} {U:Nat→Prop} {ι:Pl} {ob:Ob} {env:Nat→V} {a:Act} {ops:Array Oper} {j gt:Nat} {b:Bool} (hv:∀ t,VR w U ι ob (env t) (a.tmps.getD t undef)) (hg:gateTmp ops j=some gt) (he:env gt=.one (.d (.lit (.bool b)))) :
  yielded ops a.tmps j=some b:=by
 have:=hv gt
 rw [he] at this
 simp only [VR,LR,DR] at this
 have h1:=this.1
 rw [Array.getD_eq_getD_getElem?] at h1
 unfold yielded
 unfold gateTmp at hg
 rw [hg]
 simp only [Option.bind_some]
 cases hx:a.tmps[gt]? with
 | none=>rw [hx] at h1;simp [undef] at h1
 | some x=>rw [hx] at h1;simp at h1;subst h1;rfl
theorem yielded_none {w:World} {U:Nat→Prop} {ι:Pl} {ob:Ob} {env:Nat→V} {a:Act} {ops:Array Oper} {j gt:Nat} (hv:∀ t,VR w U ι ob (env t) (a.tmps.getD t undef)) (hg:gateTmp ops j=some gt) (he:env gt=.tup []) :
  yielded ops a.tmps j=none:=by
 have:=hv gt
 rw [he] at this
 simp only [VR,VF] at this
 obtain ⟨vs,h1,h2⟩:=this
 rw [Array.getD_eq_getD_getElem?] at h1
 unfold yielded
 unfold gateTmp at hg
 rw [hg]
 simp only [Option.bind_some]
 cases hx:a.tmps[gt]? with
 | none=>rfl
 | some x=>rw [hx] at h1;simp at h1;subst h1;rfl
theorem getE_same {env:List (Nat×V)} {gt:Nat} {b c:Bool} (he:getE env gt=.one (.d (.lit (.bool b)))) (hb:b=c):getE ((gt,vlit (.bool c))::env)=getE env:=by
 funext t
 simp only [getE]
 split
 ·rename_i h;subst h;rw [he,← hb];rfl
 ·rfl
end Go.VE
namespace Go.VE
open Go.RowKit
variable {P:Program} {κ:Oper→Option Nat}
def clsOf:Op→Nat
 | .move _ | .assign _ | .pick .. | .build .. | .binOp .. | .unOp .. | .extract .. | .field .. | .fieldAddr .. | .makeFunc .. | .nilCheck _=>0
 | .load .. | .indexAddr .. | .slice .. | .lookup ..=>1
 | .call ⟨.builtin .len,_,_⟩ | .call ⟨.builtin .min,_,_⟩ | .call ⟨.builtin .max,_,_⟩=>0
 | _=>2
def memFree (a b:Op):Bool:=clsOf a==0||clsOf b==0||(clsOf a==1&&clsOf b==1)
def NG (q:Q Res):Prop:=q=.fail∨∃ v,q=.ret (v,[])
theorem NG.ret (v:V):NG (.ret (v,[])):=.inr ⟨v,rfl⟩
theorem NG.fail:NG .fail:=.inl rfl
theorem NG.opt {α:Type} (o:Option α) {f:α→Q Res} (h:∀ a,NG (f a)):NG ((Q.opt o).bind f):=by cases o with | none=>exact .inl rfl | some a=>exact h a
theorem NG.pure (o:Option V):NG (pureR o):=NG.opt o fun v=>NG.ret v
theorem NG.guard {b:Bool} {q:Q Res} (h:NG q):NG (Q.guard b q):=by cases b with | false=>exact .inl rfl | true=>exact h
theorem NG.reads {q:Q Res} (h:NG q) (ob:Ob):q.reads ob=[]:=by rcases h with rfl | ⟨v,rfl⟩<;>rfl
theorem NG.upd {q:Q Res} (h:NG q) {ob:Ob} {r:Res} (hr:q.run ob=some r):r.2=[]:=by
 rcases h with rfl | ⟨v,rfl⟩
 ·simp [Q.run] at hr
 ·simp [Q.run] at hr;subst hr;rfl
def NU (q:Q Res):Prop:=∀ ob r,q.run ob=some r→r.2=[]
theorem NG.nu {q:Q Res} (h:NG q):NU q:=fun _ _ hr=>h.upd hr
theorem NU.opt {α:Type} (o:Option α) {f:α→Q Res} (h:∀ a,NU (f a)):NU ((Q.opt o).bind f):=by cases o with | none=>exact NG.fail.nu | some a=>exact h a
theorem NU.guard {b:Bool} {q:Q Res} (h:NU q):NU (Q.guard b q):=by cases b with | false=>exact NG.fail.nu | true=>exact h
theorem NU.get {k:Nat} {f:Option O→Q Res} (h:∀ o,NU (f o)):NU (.get k f):=fun ob r hr=>h _ ob r (by simpa only [Q.run] using hr)
theorem NU.last {α:Type} (q:Q α) {f:α→Q Res} (h:∀ a,NU (f a)):NU (q.bind f):=fun ob r hr=>by
 rw [Q.run_bind] at hr
 cases hq:q.run ob with
 | none=>rw [hq] at hr;cases hr
 | some a=>rw [hq] at hr;exact h a ob r hr
theorem opQ_ng {C:Cs} {dst:Option Nat} {ρ:Operand→V} {op:Op} (h:clsOf op=0):NG (opQ C P dst ρ op):=by
 unfold clsOf at h
 split at h<;>first | (exact absurd h (by decide)) | skip
 all_goals simp only [opQ,calleeOf,invOf,aop]
 case h_1=>exact NG.ret _
 case h_2=>exact NG.ret _
 case h_3=>exact NG.pure _
 case h_4=>exact NG.opt _ fun _=>NG.guard (NG.pure _)
 case h_5=>exact NG.pure _
 case h_6=>exact NG.pure _
 case h_7=>split;exact NG.pure _;exact NG.fail
 case h_8=>exact NG.opt _ fun _=>by split;exact NG.pure _;exact NG.fail
 case h_9=>exact NG.opt _ fun _=>NG.pure _
 case h_10=>(split;(split;exact NG.ret _;exact NG.fail);exact NG.ret _;exact NG.fail)
 case h_11=>split<;>first | exact NG.ret _ | exact NG.fail
 case h_16 =>
  split
  ·split
   ·split
    ·exact NG.pure _
    ·exact NG.guard (NG.pure _)
   ·exact NG.fail
  ·exact NG.fail
 case h_17=>exact NG.pure _
 case h_18=>exact NG.pure _
theorem opQ_nu {C:Cs} {dst:Option Nat} {ρ:Operand→V} {op:Op} (h:clsOf op=1):NU (opQ C P dst ρ op):=by
 unfold clsOf at h
 split at h<;>first | (exact absurd h (by decide)) | skip
 all_goals simp only [opQ,calleeOf,invOf,aop]
 case h_12 =>
  refine NU.opt _ fun _=>NU.opt _ fun _=>?_
  unfold loadQ
  split
  ·refine NU.get fun o=>?_
   split
   ·exact (NG.pure _).nu
   ·exact NG.fail.nu
  ·refine NU.get fun o=>?_
   split
   ·exact NU.guard (NU.opt _ fun _=>(NG.pure _).nu)
   ·exact NG.fail.nu
  ·exact (NG.pure _).nu
  ·refine NU.get fun o=>?_
   split
   ·exact NU.opt _ fun _=>(NG.pure _).nu
   ·exact NG.fail.nu
  ·exact NG.fail.nu
 case h_13 =>
  have hi:∀ a es x i,NU (indexQ a es x i):=by
   intro a es x i
   unfold indexQ
   split
   ·exact (NG.pure _).nu
   ·split
    ·refine NU.get fun o=>?_
     split
     ·exact NU.guard (NG.pure _).nu
     ·exact NG.fail.nu
    ·refine NU.get fun o=>?_
     split
     ·exact NU.guard (NG.pure _).nu
     ·exact NG.fail.nu
    ·exact NU.guard (NG.pure _).nu
    ·exact NG.fail.nu
  refine NU.opt _ fun _=>?_
  split
  ·exact NU.opt _ fun _=>hi _ _ _ _
  ·exact NU.opt _ fun _=>hi _ _ _ _
  ·exact NG.fail.nu
 case h_14 =>
  split
  ·exact NU.guard (NU.opt _ fun _=>NU.opt _ fun _=>(NG.pure _).nu)
  refine NU.guard (NU.opt _ fun _=>NU.opt _ fun _=>NU.opt _ fun _=>NU.opt _ fun _=>?_)
  unfold cutQ
  split
  ·refine NU.get fun o=>?_
   split
   ·exact NU.guard (NG.pure _).nu
   ·exact NG.fail.nu
  ·exact NU.guard (NG.pure _).nu
  ·exact (NG.pure _).nu
  ·exact NG.fail.nu
 case h_15 =>
  refine NU.opt _ fun _=>NU.opt _ fun _=>NU.opt _ fun _=>NU.opt _ fun _=>NU.opt _ fun _=>?_
  split
  ·refine NU.guard ?_
   unfold lookP
   refine NU.get fun o=>?_
   split
   ·exact NU.opt _ fun _=>(NG.ret _).nu
   ·refine NU.opt _ fun q=>?_
    cases q with
    | some j=>exact (NG.ret _).nu
    | none=>dsimp only;split;exact (NG.ret _).nu;exact NG.fail.nu
   ·exact NG.fail.nu
  ·refine NU.guard ?_
   unfold lookQ
   exact NU.last _ fun _=>(NG.ret _).nu
abbrev X:=(Nat→V)×Ob
def app (o:Oper) (r:Option Res) (x:X):X:=match r with
 | some q=>(putF o.dst q.1 x.1,putO x.2 q.2)
 | none=>(putF o.dst (.tup []) x.1,x.2)
def wr:Option Res→List Nat
 | some q=>q.2.map (·.1)
 | none=>[]
def gateSt (ops:Array Oper) (o:Oper) (env:Nat→V) (go:Bool):Prop:=match o.guard with
 | none=>go=true
 | some (j,want)=>∃ gt,gateTmp ops j=some gt∧((∃ b,env gt=.one (.d (.lit (.bool b)))∧go=decide (b=want))∨(env gt=.tup []∧go=false))
structure OkAt (κ:Oper→Option Nat) (C:Cs) (P:Program) (nt:Nat) (ops:Array Oper) (o:Oper) (x:X) (r:Option Res) (R:List Nat):Prop where
 gate:gateSt ops o x.1 r.isSome
 run:∀ q,r=some q→(opQ C P (κ o) (ev x.1) o.op).run x.2=some q∧(opQ C P (κ o) (ev x.1) o.op).reads x.2=R∧dstOK nt o.dst=true
 skip:r=none→R=[]
theorem putF_congr {dst:Option Nat} {v:V} {e e':Nat→V} {t:Nat} (h:e t=e' t):putF dst v e t=putF dst v e' t:=by simp only [putF];split<;>simp [h]
theorem putF_ne {dst:Option Nat} {v:V} {e:Nat→V} {t:Nat} (h:dst≠some t):putF dst v e t=e t:=by simp [putF,h]
theorem putO_congr:∀ {u:List (Nat×O)} {b b':Ob} {k:Nat},b k=b' k→putO b u k=putO b' u k
 | [],_,_,_,h=>h
 | (j,o)::u,b,b',k,h=>by
  rw [putO_step,putO_step]
  exact putO_congr (u:=u) (by split<;>simp [h])
theorem putO_ne:∀ {u:List (Nat×O)} {b:Ob} {k:Nat},k∉u.map (·.1)→putO b u k=b k
 | [],_,_,_=>rfl
 | (j,o)::u,b,k,h=>by
  simp only [List.map_cons,List.mem_cons,not_or] at h
  rw [putO_step,putO_ne h.2]
  simp [h.1]
theorem putO_get:∀ {u:List (Nat×O)} {b b':Ob} {k:Nat},k∈u.map (·.1)→putO b u k=putO b' u k
 | (j,o)::u,b,b',k,h=>by
  rw [putO_step,putO_step]
  by_cases hk:k∈u.map (·.1)
  ·exact putO_get hk
  ·rw [putO_ne hk,putO_ne hk]
   simp only [List.map_cons,List.mem_cons] at h
   rcases h with rfl | h
   ·simp
   ·exact absurd h hk
theorem app_1 {o:Oper} {r:Option Res} {x y:X} {t:Nat} (h:x.1 t=y.1 t):(app o r x).1 t=(app o r y).1 t:=by cases r<;>exact putF_congr h
theorem app_2 {o:Oper} {r:Option Res} {x y:X} {k:Nat} (h:x.2 k=y.2 k):(app o r x).2 k=(app o r y).2 k:=by cases r with | none=>exact h | some q=>exact putO_congr h
theorem app_ne1 {o:Oper} {r:Option Res} {x:X} {t:Nat} (h:o.dst≠some t):(app o r x).1 t=x.1 t:=by cases r<;>exact putF_ne h
theorem app_ne2 {o:Oper} {r:Option Res} {x:X} {k:Nat} (h:k∉wr r):(app o r x).2 k=x.2 k:=by cases r with | none=>rfl | some q=>exact putO_ne h
theorem app_comm {o o':Oper} {r r':Option Res} {x:X} (hd:∀ d,o.dst=some d→o'.dst≠some d) (hw:∀ k∈wr r,k∉wr r'):app o r (app o' r' x)=app o' r' (app o r x):=by
 refine Prod.ext (funext fun t=>?_) (funext fun k=>?_)
 ·by_cases h:o.dst=some t
  ·rw [app_ne1 (o:=o') (hd t h)]
   have:∀ (y z:X),(app o r y).1 t=(app o r z).1 t:=by intro y z;cases r<;>simp [app,putF,h]
   exact this _ _
  ·rw [app_ne1 h]
   exact app_1 (app_ne1 h).symm
 ·by_cases h:k∈wr r
  ·rw [app_ne2 (o:=o') (hw k h)]
   cases r with
   | none=>simp [wr] at h
   | some q=>exact putO_get h
  ·rw [app_ne2 h]
   exact app_2 (app_ne2 h).symm
def T (o:Nat→Oper) (r:Nat→Option Res) (L:Nat→Bool) (x0:X):Nat→X
 | 0=>x0
 | i+1=>if L i=true then app (o i) (r i) (T o r L x0 i) else T o r L x0 i
structure Far (ops:Array Oper) (o:Nat→Oper) (r:Nat→Option Res) (R:Nat→List Nat) (j i:Nat):Prop where
 ji:∀ d,(o j).dst=some d→d∉(o i).looksAt ops
 dd:∀ d,(o j).dst=some d→(o i).dst≠some d
 ij:∀ d,(o i).dst=some d→d∉(o j).looksAt ops
 wrd:∀ k∈wr (r j),k∉R i
 ww:∀ k∈wr (r j),k∉wr (r i)
 rdw:∀ k∈R j,k∉wr (r i)
structure Plan (ops:Array Oper) (n:Nat) (o:Nat→Oper) (r:Nat→Option Res) (R:Nat→List Nat) (E:Nat→Nat→Prop):Prop where
 lt:∀ j i,E j i→j < i
 far:∀ j i,j < i→i < n→¬E j i→Far ops o r R j i
section
variable {ops:Array Oper} {n:Nat} {o:Nat→Oper} {r:Nat→Option Res} {R:Nat→List Nat} {E:Nat→Nat→Prop} {L:Nat→Bool} {x0:X}
def Ag (ops:Array Oper) (o:Nat→Oper) (R:Nat→List Nat) (i:Nat) (x y:X):Prop:=(∀ t∈(o i).looksAt ops,x.1 t=y.1 t)∧∀ k∈R i,x.2 k=y.2 k
theorem agree_low (hp:Plan ops n o r R E) {i:Nat} (hi:i < n) (he:∀ j,E j i→L j=true):∀ m,m≤i→Ag ops o R i (T o r L x0 m) (T o r (fun _=>true) x0 m)
 | 0,_=>⟨fun _ _=>rfl,fun _ _=>rfl⟩
 | m+1,hm=>by
  have ih:=agree_low hp hi he m (by omega)
  simp only [T,if_true]
  by_cases hl:L m=true
  ·rw [if_pos hl]
   exact ⟨fun t ht=>app_1 (ih.1 t ht),fun k hk=>app_2 (ih.2 k hk)⟩
  ·rw [if_neg hl]
   have hf:=hp.far m i (by omega) hi fun h=>hl (he m h)
   refine ⟨fun t ht=>?_,fun k hk=>?_⟩
   ·rw [app_ne1 (fun h=>hf.ji t h ht)];exact ih.1 t ht
   ·rw [app_ne2 (fun h=>hf.wrd k h hk)];exact ih.2 k hk
theorem agree_high (hp:Plan ops n o r R E) {i:Nat} (hi:i < n) (hL:L i=false) (hc:∀ j,j < n→L j=true→∀ e,E e j→L e=true):∀ m,i≤m→m≤n→Ag ops o R i (T o r L x0 m) (T o r L x0 i)
 | 0,h,_=>by
  have:i=0:=by omega
  subst this;exact ⟨fun _ _=>rfl,fun _ _=>rfl⟩
 | m+1,h,hm=>by
  by_cases hi':i=m+1
  ·subst hi';exact ⟨fun _ _=>rfl,fun _ _=>rfl⟩
  ·have ih:=agree_high hp hi hL hc m (by omega) (by omega)
   simp only [T]
   by_cases hl:L m=true
   ·rw [if_pos hl]
    have hne:i≠m:=fun h=>by subst h;rw [hL] at hl;cases hl
    have hf:=hp.far i m (by omega) (by omega) fun h=>by have:=hc m (by omega) hl i h;rw [hL] at this;cases this
    refine ⟨fun t ht=>?_,fun k hk=>?_⟩
    ·rw [app_ne1 (fun h=>hf.ij t h ht)];exact ih.1 t ht
    ·rw [app_ne2 (fun h=>hf.rdw k hk h)];exact ih.2 k hk
   ·rw [if_neg hl];exact ih
theorem agree (hp:Plan ops n o r R E) {i:Nat} (hi:i < n) (hL:L i=false) (he:∀ j,E j i→L j=true) (hc:∀ j,j < n→L j=true→∀ e,E e j→L e=true):Ag ops o R i (T o r L x0 n) (T o r (fun _=>true) x0 i):=by
 have h1:=agree_high (x0:=x0) (r:=r) hp hi hL hc n (by omega) (Nat.le_refl _)
 have h2:=agree_low (x0:=x0) hp hi he i (Nat.le_refl _)
 exact ⟨fun t ht=>(h1.1 t ht).trans (h2.1 t ht),fun k hk=>(h1.2 k hk).trans (h2.2 k hk)⟩
theorem insert_last (hp:Plan ops n o r R E) {i:Nat} (hi:i < n) (hL:L i=false) (hc:∀ j,j < n→L j=true→∀ e,E e j→L e=true) {L':Nat→Bool} (hL':∀ j,L' j=(L j||j==i)) :
  ∀ m,m≤n→T o r L' x0 m=if i < m then app (o i) (r i) (T o r L x0 m) else T o r L x0 m
 | 0,_=>by simp [T]
 | m+1,hm=>by
  have ih:=insert_last hp hi hL hc hL' m (by omega)
  simp only [T]
  by_cases h:m=i
  ·subst h
   rw [if_pos (by rw [hL'];simp),if_pos (by omega),ih,if_neg (by omega),hL]
   simp
  ·have e1:L' m=L m:=by rw [hL'];simp [h]
   rw [e1]
   by_cases hl:L m=true
   ·rw [if_pos hl,if_pos hl,ih]
    by_cases him:i < m
    ·rw [if_pos him,if_pos (by omega)]
     have hf:=hp.far i m him (by omega) fun h=>by have:=hc m (by omega) hl i h;rw [hL] at this;cases this
     exact (app_comm hf.dd hf.ww).symm
    ·rw [if_neg him,if_neg (by omega)]
   ·rw [if_neg hl,if_neg hl,ih]
    by_cases him:i < m
    ·rw [if_pos him,if_pos (by omega)]
    ·rw [if_neg him,if_neg (by omega)]
end
end Go.VE
namespace Go.VE
open Go.RowKit
variable {P:Program} {κ:Oper→Option Nat}
theorem oInt_congr {ρ ρ':Operand→V} (o:Option Operand) (h:∀ x∈o,ρ x=ρ' x):oInt ρ o=oInt ρ' o:=by
 cases o with
 | none=>rfl
 | some x=>simp only [oInt,h x rfl]
theorem rowsOf_congr {ρ ρ':Operand→V} {s:Nat}:∀ (ps:List (Nat×Operand)) (rows:List (List D)),(∀ p∈ps,ρ p.2=ρ' p.2)→rowsOf ρ s rows ps=rowsOf ρ' s rows ps
 | [],_,_=>rfl
 | (i,x)::ps,rows,h=>by
  simp only [rowsOf,h (i,x) (by simp)]
  congr 1
  funext cs
  congr 1
  congr 1
  funext q
  rw [rowsOf_congr ps _ fun p hp=>h p (by simp [hp])]
theorem aop_congr {dst:Option Nat} {ρ ρ':Operand→V} (op:Op) (h:∀ x∈op.operands,ρ x=ρ' x):aop P dst ρ op=aop P dst ρ' op:=by
 cases op<;>simp only [Op.operands] at h<;>simp only [aop]
 case build t ps =>
  have:(ps.toList.map fun p=>(p.1,ρ p.2))=ps.toList.map fun p=>(p.1,ρ' p.2):=List.map_congr_left fun p hp=>by rw [h p.2 (by simp only [List.mem_toArray,List.mem_map];exact ⟨p,hp,rfl⟩)]
  rw [this]
 case buildSlice t n ps =>
  have:∀ s rows,rowsOf ρ s rows ps.toList=rowsOf ρ' s rows ps.toList:=fun s rows=>rowsOf_congr _ _ fun p hp=>h p.2 (by simp only [List.mem_toArray,List.mem_map];exact ⟨p,hp,rfl⟩)
  simp only [this]
 case makeFunc fn first captured =>
  have:captured.toList.map ρ=captured.toList.map ρ':=List.map_congr_left fun x hx=>h x (by simp;exact .inr (by simpa using hx))
  have this':first.toList.map ρ=first.toList.map ρ':=List.map_congr_left fun x hx=>h x (by simp;exact .inl (by simpa using hx))
  rw [this,this']
 case makeMap t r=>cases r<;>rfl
 case slice t x lo hi mx =>
  rw [oInt_congr lo fun x hx=>h x (by simp at hx;subst hx;simp),oInt_congr hi fun x hx=>h x (by simp at hx;subst hx;simp),h x (by simp)]
 case call c =>
  have e:c.args.toList.map ρ=c.args.toList.map ρ':=List.map_congr_left fun x hx=>h x (by simp only [Call.operands];simp at hx;cases c.callee<;>simp [hx])
  have e1:∀ x,c.args.toList=[x]→ρ x=ρ' x:=fun x hx=>by rw [hx] at e;simpa using e
  have e2:∀ x y,c.args.toList=[x,y]→ρ x=ρ' x∧ρ y=ρ' y:=fun x y hx=>by rw [hx] at e;simpa using e
  split
  ·split
   ·rename_i x hx;simp only [e1 x hx]
   ·rfl
  ·split
   ·rename_i x t hx _;simp only [e1 x hx]
   ·rfl
  ·split
   ·rename_i x t hx _
    rw [e1 x hx]
   ·rfl
  ·split
   ·rename_i x y t t' hx _
    rw [(e2 x y hx).1,(e2 x y hx).2]
   ·rfl
  ·rw [e]
  ·rw [e]
  ·split
   ·rename_i s x t t' hx _
    rw [(e2 s x hx).1,(e2 s x hx).2]
   ·rfl
  ·rfl
 all_goals (first | rfl | (simp_all;done))
theorem opQ_congr {C:Cs} {dst:Option Nat} {ρ ρ':Operand→V} (op:Op) (h:∀ x∈op.operands,ρ x=ρ' x):opQ C P dst ρ op=opQ C P dst ρ' op:=by
 unfold opQ
 split
 ·rename_i fo args hc
  obtain ⟨as,ts,hop,rfl⟩:=calleeOf_some hc
  subst hop
  have hfo:ρ fo=ρ' fo:=h fo (by simp [Op.operands,Call.operands])
  have e:as.toList.map ρ=as.toList.map ρ':=List.map_congr_left fun x hx=>h x (by simp only [Op.operands,Call.operands];simp at hx;simp [hx])
  rw [hfo,e]
 split
 ·rename_i recv name hc
  obtain ⟨as,ts,hop,ha⟩:=invOf_some hc
  subst hop
  have hfo:ρ recv=ρ' recv:=h recv (by simp [Op.operands,Call.operands])
  rw [hfo]
 ·exact aop_congr op h
theorem ev_congr {e e':Nat→V} {ops:Array Oper} {o:Oper} (h:∀ t∈o.looksAt ops,e t=e' t):∀ x∈o.op.operands,ev e x=ev e' x:=fun x hx=>by
 cases x with
 | tmp t=>exact h t (List.mem_append_left _ (List.mem_filterMap.2 ⟨.tmp t,by simpa using hx,rfl⟩))
 | _=>rfl
theorem OkAt.agree {C:Cs} {nt:Nat} {ops:Array Oper} {o:Oper} {x y:X} {r:Option Res} {R:List Nat} (h:OkAt κ C P nt ops o x r R) (h1:∀ t∈o.looksAt ops,y.1 t=x.1 t) (h2:∀ k∈R,y.2 k=x.2 k):OkAt κ C P nt ops o y r R:=by
 refine ⟨?_,fun q hq=>?_,h.skip⟩
 ·have:=h.gate
  unfold gateSt at this ⊢
  split
  ·rename_i hg;rw [hg] at this;exact this
  ·rename_i j want hg
   rw [hg] at this
   obtain ⟨gt,h3,h4⟩:=this
   refine ⟨gt,h3,?_⟩
   have:y.1 gt=x.1 gt:=h1 gt (List.mem_append_right _ (by rw [hg];simp only [gateTmp] at h3;simp [h3]))
   rw [this]
   exact h4
 ·obtain ⟨a,b,c⟩:=h.run q hq
  have e:opQ C P (κ o) (ev y.1) o.op=opQ C P (κ o) (ev x.1) o.op:=opQ_congr _ (ev_congr h1)
  rw [e]
  have:=Q.run_agree (opQ C P (κ o) (ev x.1) o.op) (ob:=x.2) (ob':=y.2) (fun k hk=>h2 k (by rw [b] at hk;exact hk))
  exact ⟨this.1.trans a,this.2.trans b,c⟩
def Lexd (κ:Oper→Option Nat) (C:Cs) (P:Program) (nt:Nat) (ops:Array Oper):List Oper→X→List (Option Res×List Nat)→X→Prop
 | [],x,[],y=>x=y
 | o::rest,x,(r,R)::rs,y=>OkAt κ C P nt ops o x r R∧Lexd κ C P nt ops rest (app o r x) rs y
 | _,_,_,_=>False
def rwOf (p:Option Res×List Nat):List Nat×List Nat:=(p.2,wr p.1)
def disj (a b:List Nat×List Nat):Prop:=(∀ k∈a.2,k∉b.1∧k∉b.2)∧∀ k∈a.1,k∉b.2
theorem Lexd.index {C:Cs} {nt:Nat} {ops:Array Oper} {d:Oper}:∀ {rest:List Oper} {x y:X} {recs:List (Option Res×List Nat)},Lexd κ C P nt ops rest x recs y→recs.length=rest.length ∧
  (∀ i,i < rest.length→OkAt κ C P nt ops (rest.getD i d) (T (fun i=>rest.getD i d) (fun i=>(recs.getD i (none,[])).1) (fun _=>true) x i) (recs.getD i (none,[])).1 (recs.getD i (none,[])).2) ∧
  y=T (fun i=>rest.getD i d) (fun i=>(recs.getD i (none,[])).1) (fun _=>true) x rest.length
 | [],x,y,[],h=>⟨rfl,fun i hi=>by simp at hi,h.symm⟩
 | o::rest,x,y,(r,R)::recs,h=>by
  obtain ⟨h1,h2⟩:=h
  obtain ⟨h3,h4,h5⟩:=Lexd.index (d:=d) h2
  have sh:∀ i,T (fun i=>(o::rest).getD i d) (fun i=>(((r,R)::recs).getD i (none,[])).1) (fun _=>true) x (i+1)=T (fun i=>rest.getD i d) (fun i=>(recs.getD i (none,[])).1) (fun _=>true) (app o r x) i:=by
   intro i
   induction i with
   | zero=>simp [T]
   | succ i ih=>rw [T,ih];simp [T]
  refine ⟨by simp [h3],fun i hi=>?_,?_⟩
  ·cases i with
   | zero=>simpa [T] using h1
   | succ i =>
    rw [sh]
    have:=h4 i (by simpa using hi)
    simpa using this
  ·rw [List.length_cons,sh];exact h5
 | [],_,_,_::_,h=>h.elim
 | _::_,_,_,[],h=>h.elim
theorem Sim.drawn {w0 w:World} {U0:Nat→Prop} {nt:Nat} {env:Nat→V} {ob:Ob} {a:Act} (hs:Sim w0 U0 nt env ob a w) (n:Nat):Sim w0 U0 nt env ob a { w with drawn:=n }:=by
 obtain ⟨U,ι0,ι,hm,he,h1,h2,h3⟩:=hs
 have ev:Evo w U ι ob { w with drawn:=n } U ι ob :=
  ⟨rfl,rfl,rfl,Nat.le_refl _,fun _ _=>rfl,fun _ h=>h,fun _ cells _ h=>⟨cells,h,rfl⟩,fun _ rows _ _ own h=>⟨rows,own,h,Nat.le_refl _,fun _=>rfl⟩,fun _ _ keys vals own h=>⟨keys,vals,own,h,rfl⟩,fun _ keys vals h=>⟨keys,vals,h,rfl⟩,fun _ keys rows _ _ h=>⟨keys,rows,h,rfl,List.prefix_refl _⟩,fun _ _ _=>rfl,fun k o h ho _ hb=>.inr ⟨k,o,h,ho,hb⟩,fun _ h=>.inl h⟩
 exact ⟨U,ι0,ι,⟨hm.lt,fun k o hk=>OR.evo ev rfl (fun _ _=>rfl) (fun _ _=>Iff.rfl) (hm.obj k o hk),hm.inj,hm.one,hm.lay.mono ev.kept ev.sub⟩,he.trans ev,h1,h2,fun t=>VR.evo ev _ _ (h3 t)⟩
def cnt (L:Array Bool):Nat→Nat
 | 0=>0
 | n+1=>cnt L n+if L.getD n true=true then 0 else 1
theorem cnt_set {L:Array Bool} {i:Nat} (h:L.getD i true=false):∀ n,cnt (L.setIfInBounds i true) n+(if i < n then 1 else 0)=cnt L n
 | 0=>by simp [cnt]
 | n+1=>by
  have ih:=cnt_set h n
  have hi:i < L.size:=by
   rw [Array.getD_eq_getD_getElem?] at h
   cases hx:L[i]? with
   | none=>rw [hx] at h;simp at h
   | some x=>exact (Array.getElem?_eq_some_iff.1 hx).1
  simp only [cnt]
  by_cases hn:i=n
  ·subst hn
   have h1:(L.setIfInBounds i true).getD i true=true:=by simp [Array.getD_eq_getD_getElem?,hi]
   rw [if_neg (by omega)] at ih
   rw [h1,h]
   simp only [if_true,Bool.false_eq_true,if_false,Nat.lt_succ_self]
   omega
  ·have h1:(L.setIfInBounds i true).getD n true=L.getD n true:=by simp [Array.getD_eq_getD_getElem?,hn]
   rw [h1]
   by_cases hlt:i < n
   ·rw [if_pos hlt] at ih;rw [if_pos (by omega:i < n+1)];split<;>omega
   ·rw [if_neg hlt] at ih;rw [if_neg (by omega:¬ i < n+1)];split<;>omega
theorem cnt_zero {L:Array Bool}:∀ {n:Nat},cnt L n=0→∀ i,i < n→L.getD i true=true
 | n+1,h,i,hi=>by
  simp only [cnt] at h
  by_cases hn:i=n
  ·subst hn
   by_cases hl:L.getD i true=true
   ·exact hl
   ·rw [if_neg hl] at h;omega
  ·exact cnt_zero (n:=n) (by omega) i (by omega)
theorem cnt_le (L:Array Bool):∀ n,cnt L n≤n
 | 0=>Nat.le_refl _
 | n+1=>by have:=cnt_le L n;simp only [cnt];split<;>omega
end Go.VE
namespace Go.VE
open Go.RowKit
variable {P:Program}
mutual
theorem LR.keys {w:World} {U:Nat→Prop} {ι:Pl} {ob ob':Ob}:∀ (x:L) (v:Value),(∀ k∈x.keysOf,ob' k=ob k)→LR w U ι ob x v→LR w U ι ob' x v
 | .d x,v,_,h=>by simpa only [LR] using h
 | .slk k off n c,v,hk,h=>by
  simp only [LR] at h ⊢
  obtain ⟨rows,size,elem,own,h1,h2⟩:=h
  exact ⟨rows,size,elem,own,by rw [hk k (by simp [L.keysOf])];exact h1,h2⟩
 | .pa k i off c,v,hk,h=>by
  simp only [LR] at h ⊢
  obtain ⟨rows,size,elem,own,h1,h2⟩:=h
  exact ⟨rows,size,elem,own,by rw [hk k (by simp [L.keysOf])];exact h1,h2⟩
 | .ptr k off,v,hk,h=>by
  simp only [LR] at h ⊢
  obtain ⟨cells,elem,h1,h2⟩:=h
  exact ⟨cells,elem,by rw [hk k (by simp [L.keysOf])];exact h1,h2⟩
 | .fn f caps,v,hk,h=>by
  simp only [LR] at h ⊢
  obtain ⟨cs,h1,h2⟩:=h
  exact ⟨cs,h1,LF.keys caps cs.toList (fun k hkk=>hk k (by simpa [L.keysOf] using hkk)) h2⟩
 | .mk k,v,hk,h=>by
  simp only [LR] at h ⊢
  obtain ⟨agg,keys,vals,own,h1,h2⟩:=h
  exact ⟨agg,keys,vals,own,by rw [hk k (by simp [L.keysOf])];exact h1,h2⟩
 | .mq k,v,hk,h=>by
  simp only [LR] at h ⊢
  rw [hk k (by simp [L.keysOf])]
  exact h
 | .pb k j off,v,hk,h=>by
  simp only [LR] at h ⊢
  rw [hk k (by simp [L.keysOf])]
  exact h
 | .sln k n,v,hk,h=>by
  simp only [LR] at h ⊢
  rw [hk k (by simp [L.keysOf])]
  exact h
 | .undef,v,_,_=>by simp [LR]
theorem LF.keys {w:World} {U:Nat→Prop} {ι:Pl} {ob ob':Ob}:∀ (xs:List L) (vs:List Value),(∀ k∈L.keysF xs,ob' k=ob k)→LF w U ι ob xs vs→LF w U ι ob' xs vs
 | [],vs,_,h=>by simpa [LF] using h
 | x::xs,vs,hk,h=>by
  simp only [LF] at h ⊢
  obtain ⟨v,vs',h1,h2,h3⟩:=h
  exact ⟨v,vs',h1,LR.keys x v (fun k hkk=>hk k (by simp [L.keysF,hkk])) h2,LF.keys xs vs' (fun k hkk=>hk k (by simp [L.keysF,hkk])) h3⟩
end
theorem ER.ofKeys {w:World} {U:Nat→Prop} {ι:Pl} {ob ob':Ob}:∀ (ks:List Value) (xs:List L) (es:List MapEntry),(∀ k∈L.keysF xs,ob' k=ob k)→ER w U ι ob ks xs es→ER w U ι ob' ks xs es
 | [],[],[],_,_=>trivial
 | k::ks,x::xs,e::es,hk,h=>by
  simp only [ER] at h ⊢
  exact ⟨h.1,h.2.1,LR.keys x _ (fun k hkk=>hk k (by simp [L.keysF,hkk])) h.2.2.1,ER.ofKeys ks xs es (fun k hkk=>hk k (by simp [L.keysF,hkk])) h.2.2.2⟩
 | [],[],_::_,_,h=>by simp [ER] at h
 | [],_::_,_,_,h=>by simp [ER] at h
 | _::_,[],_,_,h=>by simp [ER] at h
 | _::_,_::_,[],_,h=>by simp [ER] at h
theorem OR.ofKeys {w:World} {U:Nat→Prop} {ι:Pl} {ob ob':Ob} {k:Nat} {o:O} (hk:∀ j∈o.keysOf,ob' j=ob j) (h:OR w U ι ob k o):OR w U ι ob' k o:=by
 cases o with
 | box cells elem=>obtain ⟨cur,h1,h2,h3⟩:=h;exact ⟨cur,h1,LF.keys _ _ (fun j hj=>hk j (by simpa [O.keysOf] using hj)) h2,h3⟩
 | ml keys vals=>obtain ⟨es,clock,h1,h2,h3⟩:=h;exact ⟨es,clock,h1,ER.ofKeys _ _ _ (fun j hj=>hk j (by simpa [O.keysOf] using hj)) h2,h3⟩
 | arr=>exact h
 | mp=>exact h
 | am=>exact h
 | nul=>exact h
mutual
theorem VR.keys {w:World} {U:Nat→Prop} {ι:Pl} {ob ob':Ob}:∀ (x:V) (v:Value),(∀ k∈x.keysOf,ob' k=ob k)→VR w U ι ob x v→VR w U ι ob' x v
 | .one x,v,hk,h=>by simp only [VR] at h ⊢;exact LR.keys x v (fun k hkk=>hk k (by simpa [V.keysOf] using hkk)) h
 | .agg xs,v,hk,h=>by
  simp only [VR] at h ⊢
  obtain ⟨cs,h1,h2⟩:=h
  exact ⟨cs,h1,LF.keys xs cs.toList (fun k hkk=>hk k (by simpa [V.keysOf] using hkk)) h2⟩
 | .tup xs,v,hk,h=>by
  simp only [VR] at h ⊢
  obtain ⟨cs,h1,h2⟩:=h
  exact ⟨cs,h1,VF.keys xs cs.toList (fun k hkk=>hk k (by simpa [V.keysOf] using hkk)) h2⟩
theorem VF.keys {w:World} {U:Nat→Prop} {ι:Pl} {ob ob':Ob}:∀ (xs:List V) (vs:List Value),(∀ k∈V.keysF xs,ob' k=ob k)→VF w U ι ob xs vs→VF w U ι ob' xs vs
 | [],vs,_,h=>by simpa [VF] using h
 | x::xs,vs,hk,h=>by
  simp only [VF] at h ⊢
  obtain ⟨v,vs',h1,h2,h3⟩:=h
  exact ⟨v,vs',h1,VR.keys x v (fun k hkk=>hk k (by simp [V.keysF,hkk])) h2,VF.keys xs vs' (fun k hkk=>hk k (by simp [V.keysF,hkk])) h3⟩
end
theorem rawO_keepO (ob:List (Nat×O)):∀ (ks:List Nat) (k:Nat),rawO (keepO ob ks) k=if k∈ks then rawO ob k else none
 | [],k=>by simp [keepO,rawO]
 | x::ks,k=>by
  simp only [keepO]
  cases hx:rawO ob x with
  | none =>
   simp only [rawO_keepO ob ks k,List.mem_cons]
   by_cases h:k=x
   ·subst h;simp [hx]
   ·simp [h]
  | some o =>
   simp only [rawO,rawO_keepO ob ks k,List.mem_cons]
   by_cases h:k=x
   ·subst h;simp [hx]
   ·simp [h]
theorem getO_keepO (ob:List (Nat×O)) (ks:List Nat) (k:Nat):getO (keepO ob ks) k=if k∈ks then getO ob k else none:=by
 rw [getO_raw,getO_raw,rawO_keepO]
 split<;>rfl
theorem mem_keepO' {ob:List (Nat×O)}:∀ {ks:List Nat} {k:Nat} {o:O},k∈ks→rawO ob k=some o→(k,o)∈keepO ob ks
 | x::ks,k,o,h,ho=>by
  simp only [keepO]
  rcases List.mem_cons.1 h with rfl | h
  ·rw [ho];simp
  ·split
   ·exact List.mem_cons_of_mem _ (mem_keepO' h ho)
   ·exact mem_keepO' h ho
theorem mem_keepO {ob:List (Nat×O)} {ks:List Nat} {k:Nat} {o:O} (h:k∈ks) (ho:getO ob k=some o):(k,o)∈keepO ob ks:=mem_keepO' h (getO_some ho).1
def exOf:Ex→Exit
 | .normal=>.normal
 | .exit id=>.exit id
 | .ret=>.ret
end Go.VE
namespace Go.VE
open Go.RowKit
variable {P:Program}
def vOf:VD→V
 | .one x=>.one (.d x)
 | .agg xs=>.agg (xs.map .d)
def envOf:List VD→Nat→List (Nat×V)
 | [],_=>[]
 | x::xs,i=>(i,vOf x)::envOf xs (i+1)
def resV (P:Program) (env:Nat→V):List ResultVar→Q (List V)
 | []=>.ret []
 | .tmp t::r=>(resV P env r).bind fun vs=>.ret (env t::vs)
 | .cell a T::r=>(Q.opt (aggC P T)).bind fun g=>(Q.opt (sizeC P T)).bind fun s=>(loadQ g s (env a)).bind fun p=>(resV P env r).bind fun vs=>.ret (p.1::vs)
def rvD:V→Q RV
 | .one l=>(toD 4 l).bind fun d=>.ret (.one (.d d))
 | .agg ls=>(Q.mapM (toD 4) ls).bind fun ds=>.ret (.agg (ds.map .d))
 | .tup _=>.fail
def rcO:L→Q (RC×List Nat)
 | .d x=>.ret (.d x,[])
 | .slk k off n c=>.get k fun
  | some (.arr rows size elem own)=>Q.guard (decide (off=0∧n≤rows.length∧c=rows.length)) (.ret (if own=true then (.own (rows.take n) size elem,[k]) else (.d (.sl size (rows.take n)),[])))
  | _=>.fail
 | .mk k=>.get k fun
  | some (.mp agg keys vals own)=>.ret (if own=true then (.om agg keys vals,[k]) else (.d (.mp agg keys vals),[]))
  | _=>.fail
 | _=>.fail
def rcOs:List L→Q (List RC×List Nat)
 | []=>.ret ([],[])
 | x::xs=>(rcO x).bind fun p=>(rcOs xs).bind fun q=>.ret (p.1::q.1,p.2++q.2)
def rvO:V→Q (RV×List Nat)
 | .one l=>(rcO l).bind fun p=>.ret (.one p.1,p.2)
 | .agg ls=>(rcOs ls).bind fun p=>.ret (.agg p.1,p.2)
 | .tup _=>.fail
def rvOs:List V→Q (List RV×List Nat)
 | []=>.ret ([],[])
 | x::xs=>(rvO x).bind fun p=>(rvOs xs).bind fun q=>.ret (p.1::q.1,p.2++q.2)
def pack:List RV→RV
 | [x]=>x
 | xs=>.tup xs
def resQ (own:Bool) (P:Program) (rs:List ResultVar) (env:Nat→V):Q RV :=
 (resV P env rs).bind fun vs=>match own with
  | true=>(rvOs vs).bind fun p=>Q.guard (decide p.2.Nodup) (.ret (pack p.1))
  | false=>(Q.mapM rvD vs).bind fun xs=>.ret (pack xs)
def fin (own:Bool) (P:Program) (rs:List ResultVar):Ex→St→Option RV
 | .exit _,_=>none
 | _,st=>(resQ own P rs (getE st.env)).run (getO st.ob)
def packV:List Value→Value
 | [x]=>x
 | xs=>.tuple xs.toArray
section
variable {w:World} {U:Nat→Prop} {ι:Pl} {ob:Ob}
theorem resV_ok (hm:Mem w U ι ob) {env:Nat→V} {tmps:Array Value} (hv:∀ t,VR w U ι ob (env t) (tmps.getD t undef)):∀ {rs:List ResultVar} {vs:List V},(resV P env rs).run ob=some vs →
  ∃ us,(rs.mapM (fun | .tmp t=>pure (tmps.getD t undef) | .cell a t=>do loadVar t (← asAddr (tmps.getD a undef)):ResultVar→Sem Value)).run P w=.ok us w∧VF w U ι ob vs us
 | [],vs,h=>by simp [resV,Q.run] at h;subst h;exact ⟨[],by simp,by simp [VF]⟩
 | .tmp t::rs,vs,h=>by
  simp only [resV] at h
  obtain ⟨vs',h1,h⟩:=bind_run h
  simp only [Q.run,Option.some.injEq] at h
  subst h
  obtain ⟨us,h2,h3⟩:=resV_ok hm hv h1
  refine ⟨tmps.getD t undef::us,?_,by simp only [VF];exact ⟨_,us,rfl,hv t,h3⟩⟩
  rw [List.mapM_cons,Sem.run_bind,Sem.run_pure,Result.andThen_ok,Sem.run_bind,h2]
  rfl
 | .cell a T::rs,vs,h=>by
  simp only [resV] at h
  obtain ⟨g,hg,h⟩:=opt_bind_run h
  obtain ⟨s,hs,h⟩:=opt_bind_run h
  obtain ⟨p,hp,h⟩:=bind_run h
  obtain ⟨vs',h1,h⟩:=bind_run h
  simp only [Q.run,Option.some.injEq] at h
  subst h
  obtain ⟨us,h2,h3⟩:=resV_ok hm hv h1
  obtain ⟨ad,u,h4,h5,h6,_⟩:=load_ok (P:=P) hm (hv a) hg hs hp
  refine ⟨u::us,?_,by simp only [VF];exact ⟨_,us,rfl,h6,h3⟩⟩
  have h7:(asAddr (.pointer (some ad)):Sem Addr).run P w=.ok ad w:=rfl
  rw [List.mapM_cons,Sem.run_bind,Sem.run_bind,h4,h7,Result.andThen_ok,h5,Result.andThen_ok,Sem.run_bind,h2]
  rfl
theorem results_ok {fn:Func} {tmps:Array Value} {us:List Value} (h:(fn.results.toList.mapM (fun | .tmp t=>pure (tmps.getD t undef) | .cell a t=>do loadVar t (← asAddr (tmps.getD a undef)):ResultVar→Sem Value)).run P w=.ok us w) :
  (results fn tmps).run P w=.ok (packV us) w:=by
 unfold results
 rw [Array.mapM_eq_mapM_toList,Sem.run_bind,Sem.run_map]
 erw [h]
 simp only [Result.andThen_ok,Sem.run_pure]
 congr 1
 match us with
 | []=>rfl
 | [x]=>rfl
 | x::y::r=>rfl
theorem rvD_ok (hm:Mem w U ι ob) {Us:Nat→Prop} (hU:∀ b,U b→Us b) (hO:∀ k o,ob k=some o→Us (ι k).1):∀ {xs:List V} {vs:List Value} {cs:List RV},(Q.mapM rvD xs).run ob=some cs→VF w U ι ob xs vs→RvF w Us cs vs []
 | [],vs,cs,h,hl=>by
  simp only [Q.mapM,Q.run,Option.some.injEq] at h
  subst h
  simp only [VF] at hl;subst hl;simp only [RvF];trivial
 | x::xs,vs,cs,h,hl=>by
  simp only [Q.mapM] at h
  obtain ⟨p,h1,h⟩:=bind_run h
  obtain ⟨q,h2,h⟩:=bind_run h
  simp only [Q.run,Option.some.injEq] at h
  subst h
  simp only [VF] at hl
  obtain ⟨v,vs',rfl,h3,h4⟩:=hl
  have b1:=rvD_ok hm hU hO h2 h4
  simp only [RvF]
  refine ⟨v,vs',[],[],rfl,by trivial,?_,b1⟩
  cases x with
  | one l =>
   simp only [rvD] at h1
   obtain ⟨d,h5,h1⟩:=bind_run h1
   simp only [Q.run,Option.some.injEq] at h1
   subst h1
   simp only [VR] at h3
   simp only [RvR,RcR]
   exact ⟨by trivial,toD_ok hm hU hO _ _ _ _ h5 h3⟩
  | agg ls =>
   simp only [rvD] at h1
   obtain ⟨ds,h5,h1⟩:=bind_run h1
   simp only [Q.run,Option.some.injEq] at h1
   subst h1
   simp only [VR] at h3
   obtain ⟨us,rfl,hl⟩:=h3
   have hf:=toDs_ok hm hU hO _ _ _ _ h5 hl
   simp only [RvR]
   refine ⟨us,rfl,?_⟩
   have key:∀ {ds:List D} {us:List Value},FR w Us ds us→RcF w Us (ds.map .d) us []:=by
    intro ds
    induction ds with
    | nil=>intro us h;exact ⟨by simpa only [FR] using h,rfl⟩
    | cons d ds ih=>intro us h;simp only [FR] at h;obtain ⟨v,vs',rfl,h1,h2⟩:=h;exact ⟨v,vs',[],[],rfl,rfl,⟨rfl,h1⟩,ih h2⟩
   exact key hf
  | tup _=>simp [rvD,Q.run] at h1
theorem pack_ok {xs:List RV} {us:List Value} {bs:List Nat} (h:RvF w U xs us bs):RvR w U (pack xs) (packV us) bs:=by
 match xs,h with
 | [],h=>simp only [RvF] at h;obtain ⟨rfl,rfl⟩:=h;simp only [pack,packV,RvR,RvF];exact ⟨_,rfl,by trivial⟩
 | [x],h =>
  simp only [RvF] at h
  obtain ⟨v,vs',b1,b2,rfl,rfl,h1,rfl,rfl⟩:=h
  simpa only [pack,packV,List.append_nil] using h1
 | x::y::r,h =>
  have h':=h
  simp only [RvF] at h
  obtain ⟨v,vs',b1,b2,rfl,rfl,h1,v2,vs2,b3,b4,rfl,rfl,_⟩:=h
  simp only [pack,packV,RvR]
  exact ⟨_,rfl,h'⟩
end
theorem envOf_VR {w:World} {U:Nat→Prop} {ι:Pl} {ob:Ob}:∀ {ds:List VD} {vs:List Value} {i:Nat},VDF w U ds vs→∀ t,VR w U ι ob (getE (envOf ds i) t) (if t < i then undef else vs.getD (t - i) undef)∨getE (envOf ds i) t=.one .undef
 | [],vs,i,h,t=>.inr rfl
 | x::ds,vs,i,h,t=>by
  simp only [VDF] at h
  obtain ⟨v,vs',rfl,h1,h2⟩:=h
  simp only [envOf,getE]
  by_cases ht:t=i
  ·subst ht
   left
   simp only [if_true,Nat.lt_irrefl,if_false,Nat.sub_self,List.getD_cons_zero]
   cases x with
   | one x=>simpa only [vOf,VR,LR,VDR] using h1
   | agg xs=>obtain ⟨cs,rfl,hf⟩:=h1;simp only [vOf,VR];exact ⟨cs,rfl,row_LF hf⟩
  ·simp only [if_neg ht]
   rcases envOf_VR (ι:=ι) (ob:=ob) (i:=i+1) h2 t with h3 | h3
   ·left
    by_cases hlt:t < i
    ·rw [if_pos hlt];rwa [if_pos (by omega)] at h3
    ·rw [if_neg hlt]
     rw [if_neg (by omega)] at h3
     rw [show t - i=(t - (i+1))+1 by omega,List.getD_cons_succ]
     exact h3
   ·exact .inr h3
theorem VDF.len {w:World} {U:Nat→Prop} {ds:List VD} {vs:List Value} (h:VDF w U ds vs):vs.length=ds.length:=by
 induction ds generalizing vs with
 | nil=>simp only [VDF] at h;simp [h]
 | cons x xs ih=>simp only [VDF] at h;obtain ⟨v,vs',rfl,_,h2⟩:=h;simp [ih h2]
end Go.VE
