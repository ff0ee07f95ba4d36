/- All operations together. -/
import Derived.Test.YtdeodfmhbgejoaaMa
import Derived.Laws.StructEq
import Derived.Lib.AppendZeros
import Derived.Orders
import Derived.LoopN
namespace Go.VE
open Go.RowKit

variable {P : Program} {w : World} {U : Nat → Prop} {ι : Pl} {ob : Ob}

theorem good_grow (hm : Mem w U ι ob) {dst : Option Nat} {t t' ty e s bs : Nat} {zs : List Value} {k kt : IntKind} {n : Int} {r : Res} (he : elemC P t = some e) (ht : intC P t' = some kt) (hs : sizeC P e = some s) (hz : zeroC P e = some zs) (hb : bytesC P e = some bs)
    (hs0 : 0 < s) (hzl : zs.length = s) (h0 : 0 < n) (hbn : (bs : Int) * n ≤ 140737488355328) (h63 : n ≤ 9223372036854775807)
    (hr : (fresh dst (.arr (List.replicate n.toNat (zs.map .lit)) s e true) fun k => .one (.slk k 0 n.toNat n.toNat)).run ob = some r) : Good P w U ι ob (Builtin.append_ #[t, t'] ty #[.slice none 0 0, .int k n]) r := by
  obtain ⟨i, z, hi, hz', hz1, hz2⟩ := zeroC_some hz
  obtain ⟨i', hi', hs'⟩ := sizeC_info hs
  obtain ⟨i'', hi'', hb'⟩ := bytesC_info hb
  rw [hi] at hi' hi''
  cases hi'; cases hi''
  have hkt : P.underlying t' = some (.int kt) := by
    unfold intC at ht
    split at ht
    · cases ht; assumption
    · cases ht
  obtain ⟨m, rfl⟩ : ∃ m : Nat, n = m := ⟨n.toNat, by omega⟩
  simp only [Int.toNat_natCast] at hr
  have hbm : m * i.bytes ≤ 281474976710656 := by rw [hb', Nat.mul_comm]; have : ((bs * m : Nat) : Int) ≤ 140737488355328 := by rw [Int.natCast_mul]; exact hbn
                                                 omega
  have hrun := Lib.run_append_nil_zeros (P := P) w t t' ty e i z k kt (r_slice he) hkt hi hz' m (by omega) (by omega) h63 hbm
  have hzsz : z.cells.size = s := by rw [← hzl, ← hz1]; simp
  refine arr_new hm w.drew (.inr rfl) hr (by simp) (grownCap_ge w m 0 e) (grownCap_le_maxLen w m 0 e (by simp [maxLen]; omega)) ?_ (by intro r hr; rw [List.eq_of_mem_replicate hr]; simpa using hzl) ⟨(List.replicate m zs).flatten, replicate_FR hz2 _, ?_⟩ hrun
  · have := grownCap_ge w m 0 e
    simp only [Array.size_append, Builtin.zeroCells, Array.size_map, Array.size_range, hzsz]
    rw [← Nat.add_mul]
    congr 1
    omega
  · intro j u hu
    have hmf := made_flatten (z := z.cells) (n := m) hzsz hs0
    rw [hz1] at hmf
    rw [← hmf] at hu
    have hj : j < m * s := by
      have := (List.getElem?_eq_some_iff.1 hu).1
      simpa using this
    rw [Array.getElem?_append_left (by simp [Builtin.zeroCells, hzsz]; exact hj)]
    rw [← Array.getElem?_toList]
    simp only [Builtin.zeroCells, hzsz] at hu ⊢
    exact hu

def OpGood (P : Program) (w : World) (U : Nat → Prop) (ι : Pl) (ob : Ob) (s : Sem Next) (r : Res) : Prop :=
  ∃ nx w' U' ι', s.run P w = .ok nx w' ∧ Mem w' U' ι' (putO ob r.2) ∧ Evo w U ι ob w' U' ι' (putO ob r.2) ∧ ((∃ v, nx = .value v ∧ VR w' U' ι' (putO ob r.2) r.1 v) ∨ (nx = .skip ∧ r.1 = .one .undef))

theorem opGood {s : Sem Value} {r : Res} {s' : Sem Next} (h : Good P w U ι ob s r) (hs : s' = (do pure (.value (← s)))) : OpGood P w U ι ob s' r := by
  obtain ⟨v, w', U', ι', h1, h2, h3, h4⟩ := h
  subst hs
  exact ⟨.value v, w', U', ι', by simp [h1], h2, h3, .inl ⟨v, rfl, h4⟩⟩

theorem opGoodU {s : Sem Unit} {r : Res} {s' : Sem Next} (h : GoodU P w U ι ob s r) (hs : s' = (do s; pure .skip)) : OpGood P w U ι ob s' r := by
  obtain ⟨w', U', ι', h1, h2, h3, h4⟩ := h
  subst hs
  exact ⟨.skip, w', U', ι', by simp [h1], h2, h3, .inr ⟨rfl, h4⟩⟩

/-! ### equality of structs -/
def veq : List Bool → List Value → List Value → Option Bool
  | [], [], [] => some true
  | k :: ks, u :: us, v :: vs => match litEq k u v, veq ks us vs with
    | some b, some c => some (b && c)
    | _, _ => none
  | _, _, _ => none

theorem veq_len : ∀ {ks : List Bool} {us vs : List Value} {b : Bool}, veq ks us vs = some b → us.length = ks.length ∧ vs.length = ks.length
  | [], [], [], _, _ => ⟨rfl, rfl⟩
  | [], [], _ :: _, _, h => by simp [veq] at h
  | [], _ :: _, _, _, h => by simp [veq] at h
  | _ :: _, [], _, _, h => by simp [veq] at h
  | _ :: _, _ :: _, [], _, h => by simp [veq] at h
  | k :: ks, u :: us, v :: vs, b, h => by
    simp only [veq] at h
    split at h
    · rename_i h1 h2
      have := veq_len h2
      simp [this.1, this.2]
    · cases h

theorem veq_append : ∀ {ks js : List Bool} {us vs : List Value} {b : Bool}, veq (ks ++ js) us vs = some b → ∃ b1 b2, veq ks (us.take ks.length) (vs.take ks.length) = some b1 ∧ veq js (us.drop ks.length) (vs.drop ks.length) = some b2 ∧ b = (b1 && b2)
  | [], js, us, vs, b, h => ⟨true, b, by simp [veq], by simpa using h, by simp⟩
  | k :: ks, js, [], vs, b, h => by simp [veq] at h
  | k :: ks, js, u :: us, [], b, h => by simp [veq] at h
  | k :: ks, js, u :: us, v :: vs, b, h => by
    simp only [List.cons_append, veq] at h
    split at h
    · rename_i c1 c2 h1 h2
      obtain ⟨b1, b2, h3, h4, rfl⟩ := veq_append h2
      cases h
      exact ⟨c1 && b1, b2, by simp [veq, h1, h3], by simpa using h4, by rw [Bool.and_assoc]⟩
    · cases h

theorem litEq_int {u v : Value} {b : Bool} (h : litEq true u v = some b) : ∃ k a c, u = .int k a ∧ v = .int k c ∧ b = (a == c) := by
  unfold litEq at h
  split at h
  · split at h
    · rename_i hk
      subst hk
      cases h
      exact ⟨_, _, _, rfl, rfl, rfl⟩
    · cases h
  · contradiction
  · cases h
theorem litEq_bool {u v : Value} {b : Bool} (h : litEq false u v = some b) : ∃ a c, u = .bool a ∧ v = .bool c ∧ b = (a == c) := by
  unfold litEq at h
  split at h
  · contradiction
  · cases h; exact ⟨_, _, rfl, rfl, rfl⟩
  · cases h
theorem veq_one {k : Bool} {u v : Value} {b : Bool} (h : veq [k] [u] [v] = some b) : litEq k u v = some b := by
  simp only [veq] at h
  split at h
  · rename_i h1 h2
    cases h2
    cases h
    rw [h1, Bool.and_true]
  · cases h

def mkVal (P : Program) (t : Nat) (us : List Value) : Value := if aggC P t = some true then .agg us.toArray else us.getD 0 undef

theorem part_ok {t s off : Nat} {us : List Value} (hs : sizeC P t = some s) (hg : (aggC P t).isSome = true) (hne : aggC P t = some true ∨ s = 1) (hl : off + s ≤ us.length) :
    (part t us.toArray off).run P w = .ok (mkVal P t ((us.drop off).take s)) w := by
  obtain ⟨g, hg⟩ := Option.isSome_iff_exists.1 hg
  unfold part mkVal
  simp only [Sem.run_bind, r_isAgg hg, Result.andThen_ok, Sem.run_ite, r_sizeOf hs, Sem.run_pure, hg]
  cases g with
  | true =>
    simp only [if_true]
    congr 2
    apply Array.ext'
    simp [List.extract_eq_take_drop]
  | false =>
    have h1 : s = 1 := hne.resolve_left (by simp [hg])
    subst h1
    have hlt : off < us.length := by omega
    simp [hlt, List.getElem?_take, List.getElem?_drop]

theorem flat_isAgg {d t : Nat} {ks : List Bool} (h : flatC P d t = some ks) : (aggC P t).isSome = true ∧ (aggC P t = some true ∨ ks.length = 1) := by
  cases d with
  | zero => simp [flatC] at h
  | succ d =>
    simp only [flatC] at h
    split at h <;> rename_i hu
    · cases h; simp [aggC, hu, isAggD]
    · cases h; simp [aggC, hu, isAggD]
    · simp [aggC, hu, isAggD]
    · cases h

theorem flat_eq : ∀ (d : Nat) {t : Nat} {ks : List Bool}, flatC P d t = some ks → ∀ {us vs : List Value} {b : Bool} (D : Nat), d ≤ D → veq ks us vs = some b → (Op.equalIn D t (mkVal P t us) (mkVal P t vs)).run P w = .ok b w
  | 0, t, ks, h, _, _, _, _, _, _ => by simp [flatC] at h
  | d + 1, t, ks, h, us, vs, b, D, hD, hv => by
    obtain ⟨D, rfl⟩ : ∃ D', D = D' + 1 := ⟨D - 1, by omega⟩
    simp only [flatC] at h
    split at h <;> rename_i hu
    · rename_i k
      cases h
      obtain ⟨hl1, hl2⟩ := veq_len hv
      match us, vs, hl1, hl2 with
      | [u], [v], _, _ =>
        obtain ⟨_, _, _, rfl, rfl, rfl⟩ := litEq_int (veq_one hv)
        simp only [mkVal, aggC, hu, isAggD, Option.map_some, Option.some.injEq, Bool.false_eq_true, if_false, List.getD_cons_zero]
        rw [run_equalIn_int _ _ _ _ _ _ _ hu]
    · cases h
      obtain ⟨hl1, hl2⟩ := veq_len hv
      match us, vs, hl1, hl2 with
      | [u], [v], _, _ =>
        obtain ⟨_, _, rfl, rfl, rfl⟩ := litEq_bool (veq_one hv)
        simp only [mkVal, aggC, hu, isAggD, Option.map_some, Option.some.injEq, Bool.false_eq_true, if_false, List.getD_cons_zero]
        rw [run_equalIn_bool' _ _ _ _ _ hu]
    · rename_i fs
      split at h
      · cases h
      · rename_i hno
        have hagg : aggC P t = some true := by simp [aggC, hu, isAggD]
        have hfo : P.fieldsOf t = fs := by simp [Program.fieldsOf, hu]
        simp only [mkVal, hagg, if_true]
        rw [run_equalIn_agg _ _ _ _ _ (by rw [hfo]; exact hu) (by simpa using (not_or.1 hno).1), hfo]
        have key : ∀ (fl : List Field) (off : Nat) (ks : List Bool), flatF (flatC P d) P off fl = some ks → ∀ (b : Bool), veq ks (us.drop off) (vs.drop off) = some b → (Op.eqFields D us.toArray vs.toArray fl).run P w = .ok b w := by
          intro fl
          induction fl with
          | nil =>
            intro off ks hk b hb
            simp only [flatF, Option.some.injEq] at hk
            subst hk
            cases hd1 : us.drop off with
            | nil =>
              cases hd2 : vs.drop off with
              | nil => rw [hd1, hd2] at hb; simp [veq] at hb; subst hb; simp [Op.eqFields]
              | cons _ _ => rw [hd1, hd2] at hb; simp [veq] at hb
            | cons _ _ => rw [hd1] at hb; simp [veq] at hb
          | cons f fl ih =>
            intro off ks hk b hb
            simp only [flatF] at hk
            split at hk
            · rename_i ks1 hf1
              split at hk
              · rename_i hcond
                obtain ⟨ho, hn, hsz, h0⟩ := hcond
                simp only [Option.map_eq_some_iff] at hk
                obtain ⟨ks2, hk2, rfl⟩ := hk
                obtain ⟨b1, b2, hb1, hb2, rfl⟩ := veq_append hb
                obtain ⟨hlu, hlv⟩ := veq_len hb
                simp at hlu hlv
                obtain ⟨ha1, ha2⟩ := flat_isAgg hf1
                have p1 := part_ok (P := P) (w := w) (off := off) (us := us) hsz ha1 ha2
                have p2 := part_ok (P := P) (w := w) (off := off) (us := vs) hsz ha1 ha2
                have hpos : off + ks1.length ≤ us.length ∧ off + ks1.length ≤ vs.length := by omega
                have he := flat_eq d hf1 D (by omega) hb1
                simp only [Op.eqFields, Sem.run_ite, if_pos hn, Sem.run_bind, ho, p1 hpos.1, p2 hpos.2, Result.andThen_ok, he]
                have := ih (off + ks1.length) ks2 hk2 b2 (by simpa [List.drop_drop] using hb2)
                cases b1 <;> simp [this]
              · cases hk
            · cases hk
        exact key _ 0 ks h b (by simpa using hv)
    · cases h

theorem cells_veq {ks : List Bool} {xs ys : List L} {us vs : List Value} {b : Bool} (h : cellsEq ks xs ys = some b) (hu : LF w U ι ob xs us) (hv : LF w U ι ob ys vs) : veq ks us vs = some b := by
  induction ks generalizing xs ys us vs b with
  | nil =>
    cases xs <;> cases ys <;> simp [cellsEq] at h
    subst h
    simp only [LF] at hu hv
    subst hu hv
    rfl
  | cons k ks ih =>
    cases xs with
    | nil => simp [cellsEq] at h
    | cons x xs =>
      cases ys with
      | nil => cases x <;> simp [cellsEq] at h
      | cons y ys =>
        cases x with
        | d x =>
          cases y with
          | d y =>
            cases x with
            | lit u =>
              cases y with
              | lit v =>
                simp only [cellsEq] at h
                split at h
                · rename_i b1 b2 h1 h2
                  cases h
                  simp only [LF, LR, DR] at hu hv
                  obtain ⟨_, us', rfl, ⟨rfl, _⟩, hu⟩ := hu
                  obtain ⟨_, vs', rfl, ⟨rfl, _⟩, hv⟩ := hv
                  simp [veq, h1, ih h2 hu hv]
                · cases h
              | _ => simp [cellsEq] at h
            | _ => simp [cellsEq] at h
          | _ => cases x <;> simp [cellsEq] at h
        | _ => simp [cellsEq] at h

theorem r_eq_bool {d t : Nat} (a b : Bool) (h : P.underlying t = some .bool) : (Op.equal t (.bool a) (.bool b)).run P w = .ok (a == b) w := by
  unfold Op.equal Op.maxDepth
  exact run_equalIn_bool' w 9999 t a b h

theorem good_bin (hm : Mem w U ι ob) {op : BinOp} {t : Nat} {a b : V} {u v : Value} {x y : Operand} {r : Res} (hu : VR w U ι ob a u) (hv : VR w U ι ob b v) (hr : (pureR (binQ P op t a b)).run ob = some r) :
    Good P w U ι ob (do eqGuard op t x y u v; binOp op t u v) r := by
  obtain ⟨r', hq, rfl⟩ := pureR_run hr
  unfold binQ at hq
  split at hq
  · rename_i k m k' n
    simp only [VR, LR, DR] at hu hv
    obtain ⟨rfl, _⟩ := hu
    obtain ⟨rfl, _⟩ := hv
    simp only [Option.map_eq_some_iff] at hq
    obtain ⟨z, hz, rfl⟩ := hq
    unfold aBin at hz
    split at hz
    · split at hz
      · cases hz
      · rename_i h0
        cases hz
        exact good_pure hm (by simp [eqGuard_at_int, binOp, Op.shift, h0]) (vlit_VR rfl)
    · split at hz
      · cases hz
      · rename_i h0
        cases hz
        exact good_pure hm (by simp [eqGuard_at_int, binOp, Op.shift, h0]) (vlit_VR rfl)
    · rename_i hn1 hn2
      split at hz
      · rename_i hk
        subst hk
        refine good_pure hm (u := z) ?_ (vlit_VR ?_)
        · cases op <;> simp at hz hn1 hn2 <;> first
            | (subst hz; simp [eqGuard_at_int, binOp, Op.intArith, Op.intCmp, Op.intDiv, Op.intBits]; done)
            | (obtain ⟨h0, rfl⟩ := hz; simp [eqGuard_at_int, binOp, Op.intArith, Op.intCmp, Op.intDiv, Op.intBits, h0]; done)
        · cases op <;> simp at hz hn1 hn2 <;> first
            | (subst hz; rfl)
            | (obtain ⟨h0, rfl⟩ := hz; rfl)
      · cases hz
  · rename_i m n
    simp only [VR, LR, DR] at hu hv
    obtain ⟨rfl, _⟩ := hu
    obtain ⟨rfl, _⟩ := hv
    split at hq
    · rename_i hb
      have ht : P.underlying t = some .bool := by
        unfold boolC at hb
        split at hb
        · assumption
        · cases hb
      cases op <;> simp at hq
      · subst hq
        refine good_pure hm (u := .bool (m == n)) ?_ (vlit_VR rfl)
        simp [eqGuard_at_bool, binOp, r_eq_bool (d := 0) m n ht]
      · subst hq
        refine good_pure hm (u := .bool (m != n)) ?_ (vlit_VR rfl)
        simp [eqGuard_at_bool, binOp, r_eq_bool (d := 0) m n ht]
        cases m <;> cases n <;> rfl
    · cases hq
  · rename_i m n
    simp only [VR, LR, DR] at hu hv
    obtain ⟨rfl, _⟩ := hu
    obtain ⟨rfl, _⟩ := hv
    simp only [Option.map_eq_some_iff] at hq
    obtain ⟨z, hz, rfl⟩ := hq
    unfold aStr at hz
    refine good_pure hm (u := z) ?_ (vlit_VR ?_)
    · cases op <;> simp at hz <;> first
        | (subst hz; simp [eqGuard_at_string, binOp, Op.stringOp]; done)
        | (obtain ⟨h0, rfl⟩ := hz; simp [eqGuard_at_string, binOp, Op.stringOp]; omega)
    · cases op <;> simp at hz <;> first
        | (subst hz; rfl)
        | (obtain ⟨h0, rfl⟩ := hz; rfl)
  · rename_i xs ys
    split at hq
    · rename_i ks hks
      split at hq
      · rename_i hagg
        simp only [VR] at hu hv
        obtain ⟨us, rfl, hu⟩ := hu
        obtain ⟨vs, rfl, hv⟩ := hv
        have hguard : P.eqGuardType P.depth t = false := by
          simp only [flatC] at hks
          split at hks <;> rename_i hun
          · simp [aggC, hun, isAggD] at hagg
          · simp [aggC, hun, isAggD] at hagg
          · split at hks
            · cases hks
            · rename_i hno; simpa using (not_or.1 hno).2
          · cases hks
        have heq : ∀ b, cellsEq ks xs ys = some b → (Op.equalIn 10000 t (.agg us) (.agg vs)).run P w = .ok b w := by
          intro b hb
          have := flat_eq 8 hks (w := w) 10000 (by omega) (cells_veq hb hu hv)
          simpa [mkVal, hagg] using this
        split at hq
        · rename_i b hb
          cases hq
          refine good_pure hm (u := .bool b) ?_ (vlit_VR rfl)
          rw [Sem.run_bind, run_eqGuard_agg _ _ _ _ _ _ _ hguard, Result.andThen_ok, run_eql_struct, heq b hb]
          rfl
        · rename_i b hb
          cases hq
          refine good_pure hm (u := .bool !b) ?_ (vlit_VR rfl)
          rw [Sem.run_bind, run_eqGuard_agg _ _ _ _ _ _ _ hguard, Result.andThen_ok, run_neq_struct, heq b hb]
          rfl
        · cases hq
      · cases hq
    · cases hq
  · cases hq

/-! ### everything -/
theorem zshape_ok {t : Nat} {g : Bool} {zs : List Value} (hz : zeroC P t = some zs) (h : zshape P t g = true) : (P.info? t).bind (·.zero) = some (valOf g zs) := by
  obtain ⟨i, z, hi, hz', hz1, hz2⟩ := zeroC_some hz
  simp only [zshape, hi, Option.bind_some, hz'] at h ⊢
  cases z <;> simp at h <;> subst h <;> simp [Value.cells] at hz1 <;> subst hz1 <;> simp [valOf]

theorem len_ok {x : V} {u : Value} {n : Nat} (hx : VR w U ι ob x u) (h : lenQ x = some n) {t ty : Nat} (ht : (elemC P t).isSome = true) : (Builtin.len_ #[t] ty #[u]).run P w = .ok (.int .i64 n) w := by
  obtain ⟨e, he⟩ := Option.isSome_iff_exists.1 ht
  have hu := r_slice he
  unfold lenQ at h
  split at h
  · cases h; simp only [VR, LR] at hx; obtain ⟨_, _, _, _, _, _, _, a, c', rfl, _⟩ := hx; simp [Builtin.len_, run_underlying hu, goInt]
  · cases h; simp only [VR, LR, DR] at hx; obtain ⟨a, cap, rfl, _⟩ := hx; simp [Builtin.len_, run_underlying hu, goInt]
  · cases h; simp only [VR, LR, DR] at hx; obtain ⟨rfl, _⟩ := hx; simp [Builtin.len_, run_underlying hu, goInt]
  · cases h

theorem mm2_ok {mx : Bool} {x y v : V} {ux uy : Value} (hx : VR w U ι ob x ux) (hy : VR w U ι ob y uy) (h : mm2 mx x y = some v) : ∃ u, ((if mx then Builtin.max2 else Builtin.min2) ux uy).run P w = .ok u w ∧ VR w U ι ob v u := by
  unfold mm2 at h
  split at h
  · rename_i p q h1 h2
    have e1 := vInt_VR hx h1
    have e2 := vInt_VR hy h2
    split at h
    · rename_i hk
      cases h
      refine ⟨_, ?_, vlit_VR rfl⟩
      rw [e1, e2]
      cases mx with
      | true =>
        simp only [if_true, Builtin.max2, Sem.run_pure]
        congr 2
        split <;> omega
      | false =>
        simp only [Bool.false_eq_true, if_false, Builtin.min2, Sem.run_pure]
        congr 2
        split <;> omega
    · cases h
  · cases h

theorem mmF_ok (mx : Bool) : ∀ {rest : List V} {us : List Value} {x : V} {ux : Value} {v : V}, VR w U ι ob x ux → VF w U ι ob rest us → mmF mx x rest = some v → ∃ u, (us.foldlM (if mx then Builtin.max2 else Builtin.min2) ux).run P w = .ok u w ∧ VR w U ι ob v u
  | [], us, x, ux, v, hx, hr, h => by
    simp only [VF] at hr
    subst hr
    simp only [mmF, Option.some.injEq] at h
    subst h
    exact ⟨ux, rfl, hx⟩
  | y :: rest, us, x, ux, v, hx, hr, h => by
    simp only [VF] at hr
    obtain ⟨uy, us', rfl, hy, hr⟩ := hr
    simp only [mmF, Option.bind_eq_some_iff] at h
    obtain ⟨z, hz, h⟩ := h
    obtain ⟨uz, h1, h2⟩ := mm2_ok (P := P) hx hy hz
    obtain ⟨u, h3, h4⟩ := mmF_ok mx h2 hr h
    exact ⟨u, by simp only [List.foldlM_cons, Sem.run_bind, h1, Result.andThen_ok, h3], h4⟩

theorem mmList_ok (mx : Bool) {xs : List V} {us : List Value} {v : V} (hl : VF w U ι ob xs us) (h : mmList mx xs = some v) : ∃ u, ((if mx then Builtin.max_ #[] 0 us.toArray else Builtin.min_ #[] 0 us.toArray)).run P w = .ok u w ∧ VR w U ι ob v u := by
  cases xs with
  | nil => simp [mmList] at h
  | cons x rest =>
    simp only [VF] at hl
    obtain ⟨ux, us', rfl, hx, hr⟩ := hl
    simp only [mmList] at h
    obtain ⟨u, h1, h2⟩ := mmF_ok (P := P) mx hx hr h
    refine ⟨u, ?_, h2⟩
    cases mx with
    | true => simpa [Builtin.max_] using h1
    | false => simpa [Builtin.min_] using h1

theorem map_VF {ρ : Operand → V} {ρ' : Operand → Value} (hρ : ∀ x, VR w U ι ob (ρ x) (ρ' x)) : ∀ xs : List Operand, VF w U ι ob (xs.map ρ) (xs.map ρ')
  | [] => by simp [VF]
  | x :: xs => by simp only [List.map_cons, VF]; exact ⟨_, _, rfl, hρ x, map_VF hρ xs⟩

theorem oneCells_LF {ρ : Operand → V} {ρ' : Operand → Value} (hρ : ∀ x, VR w U ι ob (ρ x) (ρ' x)) : ∀ {xs : List Operand} {cs : List L}, oneCells (xs.map ρ) = some cs → LF w U ι ob cs (xs.map ρ')
  | [], cs, h => by simp [oneCells] at h; subst h; simp [LF]
  | x :: xs, cs, h => by
    simp only [List.map_cons] at h
    have hx := hρ x
    cases hv : ρ x with
    | one y =>
      rw [hv] at h hx
      simp only [oneCells] at h
      split at h
      · simp only [Option.map_eq_some_iff] at h
        obtain ⟨cs', h1, rfl⟩ := h
        simp only [List.map_cons, LF]
        exact ⟨_, _, rfl, by simpa only [VR] using hx, oneCells_LF hρ h1⟩
      · cases h
    | agg ys => rw [hv] at h; simp [oneCells] at h
    | tup ys => rw [hv] at h; simp [oneCells] at h

theorem oInt_ok {ρ : Operand → V} {ρ' : Operand → Value} (hρ : ∀ x, VR w U ι ob (ρ x) (ρ' x)) {x : Option Operand} {o : Option Int} (h : oInt ρ x = some o) : ∃ k, x.map ρ' = o.map (Value.int k) := by
  cases x with
  | none => simp [oInt] at h; subst h; exact ⟨.i64, rfl⟩
  | some x =>
    simp only [oInt, Option.map_eq_some_iff] at h
    obtain ⟨p, hp, rfl⟩ := h
    exact ⟨p.1, by simp [vInt_VR (hρ x) hp]⟩

set_option maxHeartbeats 1000000 in
theorem aop_good (hm : Mem w U ι ob) {dst : Option Nat} {ρ : Operand → V} {ρ' : Operand → Value} (hρ : ∀ x, VR w U ι ob (ρ x) (ρ' x)) (o : Oper) {r : Res} (h : (aop P dst ρ o.op).run ob = some r) : OpGood P w U ι ob (execOp ρ' o) r := by
  obtain ⟨d, op, ty, pos, after, guard⟩ := o
  cases op with
  | move x => simp only [aop, Q.run, Option.some.injEq] at h; subst h; exact ⟨_, w, U, ι, rfl, hm, Evo.refl _ _ _ _, .inl ⟨_, rfl, hρ x⟩⟩
  | assign x => simp only [aop, Q.run, Option.some.injEq] at h; subst h; exact ⟨_, w, U, ι, rfl, hm, Evo.refl _ _ _ _, .inl ⟨_, rfl, hρ x⟩⟩
  | pick c a b =>
    simp only [aop] at h
    obtain ⟨v, hv, rfl⟩ := pureR_run h
    simp only [Option.map_eq_some_iff] at hv
    obtain ⟨t, ht, rfl⟩ := hv
    have hc := vBool_VR (hρ c) ht
    refine ⟨.value (if t = true then ρ' a else ρ' b), w, U, ι, ?_, hm, Evo.refl _ _ _ _, .inl ⟨_, rfl, ?_⟩⟩
    · simp [execOp, hc, asBool]
    · cases t <;> simp [hρ, putO]
  | alloc elem =>
    simp only [aop] at h
    obtain ⟨zs, hz, h⟩ := opt_bind_run h
    exact opGood (good_alloc hm hz h) rfl
  | box elem x =>
    simp only [aop] at h
    obtain ⟨cs, hc, h⟩ := opt_bind_run h
    exact opGood (good_box hm (hρ x) hc h) rfl
  | build t parts =>
    simp only [aop] at h
    obtain ⟨zs, hz, h⟩ := opt_bind_run h
    obtain ⟨hg, h⟩ := guard_run h
    simp only [Bool.and_eq_true, beq_iff_eq] at hg
    refine opGood (good_build hm hz hg.1 hg.2 (parts' := parts.map fun (i, x) => (i, ρ' x)) (by simp) ?_ h) rfl
    intro j p p' h1 h2
    simp only [List.getElem?_map, Option.map_eq_some_iff, Array.getElem?_map, Array.getElem?_toList] at h1 h2
    obtain ⟨q, hq, rfl⟩ := h1
    obtain ⟨q', hq', rfl⟩ := h2
    rw [hq] at hq'
    cases hq'
    exact ⟨rfl, hρ _⟩
  | buildSlice t len parts =>
    simp only [aop] at h
    obtain ⟨e, he, h⟩ := opt_bind_run h
    obtain ⟨s, hs, h⟩ := opt_bind_run h
    obtain ⟨zs, hz, h⟩ := opt_bind_run h
    obtain ⟨hg, h⟩ := guard_run h
    simp only [decide_eq_true_eq] at hg
    obtain ⟨⟨rows, us⟩, hrows, h⟩ := bind_run h
    obtain ⟨⟨v, u⟩, hf, h⟩ := bind_run h
    simp only [Q.run, Option.some.injEq] at h
    subst h
    exact opGood (good_buildSlice hm hρ he hs hz hg.1 hg.2.1 hg.2.2 hrows hf) rfl
  | load t a =>
    simp only [aop] at h
    obtain ⟨g, hg, h⟩ := opt_bind_run h
    obtain ⟨s, hs, h⟩ := opt_bind_run h
    exact opGood (good_load hm (hρ a) hg hs h) rfl
  | store t a x =>
    simp only [aop] at h
    obtain ⟨cs, hc, h⟩ := opt_bind_run h
    obtain ⟨hg, h⟩ := guard_run h
    exact opGoodU (good_store hm (hρ a) (hρ x) hc (by simpa using hg) h) rfl
  | nilCheck x =>
    simp only [aop] at h
    have hx := hρ x
    split at h
    · rename_i k off he
      simp only [Q.run, Option.some.injEq] at h
      subst h
      rw [he] at hx
      have hx' := hx
      simp only [VR, LR] at hx'
      obtain ⟨_, _, _, hp⟩ := hx'
      exact ⟨.value (ρ' x), w, U, ι, by simp [execOp, hp], hm, Evo.refl _ _ _ _, .inl ⟨_, rfl, by rw [he]; exact hx⟩⟩
    · rename_i k i off c he
      simp only [Q.run, Option.some.injEq] at h
      subst h
      rw [he] at hx
      have hx' := hx
      simp only [VR, LR] at hx'
      obtain ⟨_, _, _, _, _, _, _, a, hp⟩ := hx'
      exact ⟨.value (ρ' x), w, U, ι, by simp [execOp, hp], hm, Evo.refl _ _ _ _, .inl ⟨_, rfl, by rw [he]; exact hx⟩⟩
    · rename_i r off he
      simp only [Q.run, Option.some.injEq] at h
      subst h
      rw [he] at hx
      have hx' := hx
      simp only [VR, LR, DR] at hx'
      obtain ⟨_, _, hp, _⟩ := hx'
      exact ⟨.value (ρ' x), w, U, ι, by simp [execOp, hp], hm, Evo.refl _ _ _ _, .inl ⟨_, rfl, by rw [he]; exact hx⟩⟩
    · simp [Q.run] at h
  | binOp op t x y yt =>
    simp only [aop] at h
    exact opGood (good_bin hm (hρ x) (hρ y) h) rfl
  | unOp op t x =>
    simp only [aop] at h
    obtain ⟨v, hv, rfl⟩ := pureR_run h
    split at hv
    · rename_i b hb
      cases hv
      obtain ⟨hu, _⟩ := lit_VR (hρ x) hb
      exact opGood (good_pure hm (u := .bool !b) (by simp [Op.unary, hu]) (vlit_VR rfl)) rfl
    · rename_i k n hb
      cases hv
      obtain ⟨hu, _⟩ := lit_VR (hρ x) hb
      exact opGood (good_pure hm (u := .int k (k.wrap (0 - n))) (by simp [Op.unary, hu, Op.intArith]) (vlit_VR rfl)) rfl
    · cases hv
  | makeFunc fn first captured =>
    simp only [aop] at h
    split at h
    · rename_i f caps hf hc
      simp only [Q.run, Option.some.injEq] at h
      subst h
      have hl := oneCells_LF hρ hc
      have hfe : first = #[] := by
        cases first with
        | mk l => simp at hf; rw [hf]
      subst hfe
      exact opGood (s := Instr.makeFunc (.func f) #[] (captured.map ρ')) (good_pure hm (u := .func (.func f) #[] (captured.map ρ')) (by simp [Instr.makeFunc]) (by simp only [VR, LR]; exact ⟨_, rfl, by simpa using hl⟩)) (by simp [execOp])
    · simp [Q.run] at h
  | makeSlice t l c =>
    simp only [aop] at h
    obtain ⟨e, he, h⟩ := opt_bind_run h
    obtain ⟨s, hs, h⟩ := opt_bind_run h
    obtain ⟨zs, hz, h⟩ := opt_bind_run h
    obtain ⟨bs, hb, h⟩ := opt_bind_run h
    obtain ⟨n, hn, h⟩ := opt_bind_run h
    obtain ⟨m, hmm, h⟩ := opt_bind_run h
    obtain ⟨hg, hh⟩ := guard_run h
    clear h
    simp only [decide_eq_true_eq] at hg
    obtain ⟨g1, g2, rfl, g4, g5, g6⟩ := hg
    have e1 := vInt_VR (hρ l) hn
    have e2 := vInt_VR (hρ c) hmm
    refine opGood (good_makeSlice hm he hs hz hb g1 g2 g4 g5 g6 hh (k := n.1)) ?_
    simp [execOp, e1, e2]
  | slice t x lo hi mx =>
    simp only [aop] at h
    obtain ⟨hg, h'⟩ := guard_run h
    clear h
    simp only [Bool.and_eq_true, Option.isNone_iff_eq_none] at hg
    obtain ⟨_, rfl⟩ := hg
    obtain ⟨l, hl, h⟩ := opt_bind_run h'
    obtain ⟨hh, hhi, h⟩ := opt_bind_run h
    obtain ⟨e, he, h⟩ := opt_bind_run h
    obtain ⟨s, hs, h⟩ := opt_bind_run h
    obtain ⟨kl, hkl⟩ := oInt_ok hρ hl
    obtain ⟨kh, hkh⟩ := oInt_ok hρ hhi
    exact opGood (good_cut hm (hρ x) (r_slice he) hs hkl hkh h) rfl
  | fieldAddr s x f =>
    simp only [aop] at h
    obtain ⟨p, hp, h⟩ := opt_bind_run h
    exact opGood (good_fieldAddr hm (hρ x) hp h) rfl
  | field s x f =>
    simp only [aop] at h
    obtain ⟨p, hp, h⟩ := opt_bind_run h
    split at h
    · rename_i cs hcs
      obtain ⟨v, hv, rfl⟩ := pureR_run h
      have hx := hρ x
      rw [hcs] at hx
      simp only [VR] at hx
      obtain ⟨us, hus, hl⟩ := hx
      unfold fieldC at hp
      split at hp
      · rename_i fs hfs
        split at hp
        · rename_i fd hfd
          split at hp
          · rename_i sz g hsz hgg
            split at hp
            · cases hp
            · cases hp
              simp only at hv
              unfold getCells at hv
              cases g with
              | true =>
                simp only [if_true] at hv
                split at hv
                · cases hv
                  refine opGood (good_pure hm (u := .agg (us.extract fd.offset (fd.offset + sz))) ?_ ?_) rfl
                  · simp [Instr.field, run_underlying hfs, hfd, hus, asAgg, part, r_isAgg hgg, r_sizeOf hsz]
                  · simp only [VR]
                    refine ⟨_, rfl, ?_⟩
                    have := (hl.drop fd.offset).take sz
                    simpa [List.extract_eq_take_drop] using this
                · cases hv
              | false =>
                simp only [Bool.false_eq_true, if_false, Option.map_eq_some_iff] at hv
                obtain ⟨y, hy, rfl⟩ := hv
                obtain ⟨u, hu, hr⟩ := hl.at_ hy
                have hu' : us[fd.offset]? = some u := by simpa using hu
                refine opGood (good_pure hm (u := u) ?_ (by simpa only [VR] using hr)) rfl
                simp [Instr.field, run_underlying hfs, hfd, hus, asAgg, part, r_isAgg hgg, hu']
          · cases hp
        · cases hp
      · cases hp
    · simp [Q.run] at h
  | indexAddr t x ix =>
    simp only [aop] at h
    obtain ⟨i, hi, h⟩ := opt_bind_run h
    have hix := vInt_VR (hρ ix) hi
    split at h
    · rename_i n e ha
      obtain ⟨s, hs, h⟩ := opt_bind_run h
      have hu : P.underlying t = some (.array n e) := by
        unfold arrC at ha
        split at ha
        · cases ha; assumption
        · cases ha
      exact opGood (good_indexAddr hm (hρ x) hix (.inl ⟨n, rfl, hu⟩) hs h) rfl
    · rename_i e ha he
      obtain ⟨s, hs, h⟩ := opt_bind_run h
      exact opGood (good_indexAddr hm (hρ x) hix (.inr ⟨rfl, r_slice he⟩) hs h) rfl
    · simp [Q.run] at h
  | lookup t x ix ok =>
    simp only [aop] at h
    obtain ⟨kd, hkd, h⟩ := opt_bind_run h
    obtain ⟨e, he, h⟩ := opt_bind_run h
    obtain ⟨g, hg, h⟩ := opt_bind_run h
    obtain ⟨zs, hz, h⟩ := opt_bind_run h
    obtain ⟨k, hk, h⟩ := opt_bind_run h
    obtain ⟨hgd, h⟩ := guard_run h
    simp only [Bool.and_eq_true] at hgd
    obtain ⟨hku, _⟩ := lit_VR (hρ ix) hk
    have := opGood (s' := execOp ρ' ⟨d, .lookup t x ix ok, ty, pos, after, guard⟩) (good_lookup hm (hρ x) hkd he hz (zshape_ok hz hgd.2) h) (by simp [execOp, hku])
    exact this
  | mapUpdate t m k v =>
    simp only [aop] at h
    obtain ⟨kd, hkd, h⟩ := opt_bind_run h
    obtain ⟨e, he, h⟩ := opt_bind_run h
    obtain ⟨g, hg, h⟩ := opt_bind_run h
    obtain ⟨kv, hk, h⟩ := opt_bind_run h
    obtain ⟨hku, hkp⟩ := lit_VR (hρ k) hk
    exact opGoodU (good_upd hm (hρ m) (hρ v) hkp hkd h) (by simp [execOp, hku])
  | makeMap t res =>
    cases res with
    | some _ => simp [aop, Q.run] at h
    | none =>
      simp only [aop] at h
      obtain ⟨_, h⟩ := guard_run h
      obtain ⟨g, hg, h⟩ := opt_bind_run h
      exact opGood (good_makeMap hm h) rfl
  | extract t i =>
    simp only [aop] at h
    split at h
    · rename_i vs hvs
      obtain ⟨v, hv, rfl⟩ := pureR_run h
      have hx := hρ t
      rw [hvs] at hx
      simp only [VR] at hx
      obtain ⟨us, hus, hl⟩ := hx
      obtain ⟨u, hu, hr⟩ := hl.at_ hv
      have hu' : us[i]? = some u := by simpa using hu
      exact opGood (good_pure hm (u := u) (by simp [Instr.extract, hus, hu']) hr) rfl
    · simp [Q.run] at h
  | call c =>
    simp only [aop] at h
    obtain ⟨callee, args, argTypes⟩ := c
    simp only at h
    have pre : ∀ (b : Builtin) (r : Res), callee = .builtin b → (∃ v u, (∀ cs, (builtin b argTypes ty cs (args.map ρ')).run P w = .ok (.value u) w) ∧ r = (v, []) ∧ VR w U ι ob v u) → OpGood P w U ι ob (execOp ρ' ⟨d, .call ⟨callee, args, argTypes⟩, ty, pos, after, guard⟩) r := by
      rintro b r rfl ⟨v, u, h1, rfl, h2⟩
      exact ⟨.value u, w, U, ι, by simp [execOp, resolve, invoke, h1], hm, Evo.refl _ _ _ _, .inl ⟨u, rfl, h2⟩⟩
    split at h
    · split at h
      · rename_i x hargs
        split at h
        · rename_i t hts
          have ha : args = #[x] := by cases args with | mk l => simp at hargs; rw [hargs]
          have hat : argTypes = #[t] := by cases argTypes with | mk l => simp at hts; rw [hts]
          subst ha hat
          split at h
          · rename_i e he
            obtain ⟨v, hv, rfl⟩ := pureR_run h
            simp only [Option.map_eq_some_iff] at hv
            obtain ⟨n, hn, rfl⟩ := hv
            refine pre .len _ rfl ⟨_, _, ?_, rfl, vlit_VR (v := .int .i64 n) rfl⟩
            have := len_ok (P := P) (ty := ty) (hρ x) hn (t := t) (by rw [he]; rfl)
            intro cs; simp [builtin, this]
          · obtain ⟨hg, h⟩ := guard_run h
            obtain ⟨v, hv, rfl⟩ := pureR_run h
            simp only [Option.map_eq_some_iff] at hv
            obtain ⟨n, hn, rfl⟩ := hv
            refine pre .len _ rfl ⟨_, _, ?_, rfl, vlit_VR (v := .int .i64 n) rfl⟩
            have hu : P.underlying t = some .string := by
              unfold strC at hg
              split at hg
              · assumption
              · cases hg
            have hx := hρ x
            unfold strLen at hn
            split at hn
            · rename_i s hs
              cases hn
              rw [hs] at hx
              simp only [VR, LR, DR] at hx
              intro cs; simp [builtin, Builtin.len_, run_underlying hu, hx.1, goInt]
            · cases hn
        · simp [Q.run] at h
      · simp [Q.run] at h
    · split at h
      · rename_i x t hargs hts
        have ha : args = #[x] := by cases args with | mk l => simp at hargs; rw [hargs]
        have hat : argTypes = #[t] := by cases argTypes with | mk l => simp at hts; rw [hts]
        subst ha hat
        split at h
        · rename_i hs
          obtain ⟨hg, h⟩ := guard_run h
          simp only [Q.run, Option.some.injEq] at h
          subst h
          obtain ⟨e, he⟩ := Option.isSome_iff_exists.1 hg
          have hx := hρ x
          rw [hs] at hx
          simp only [VR, LR, DR] at hx
          refine pre .cap _ rfl ⟨_, _, ?_, rfl, vlit_VR (v := .int .i64 0) rfl⟩
          intro cs
          simp [builtin, Builtin.cap_, run_underlying (r_slice he), hx.1, goInt]
        · simp [Q.run] at h
      · simp [Q.run] at h
    · obtain ⟨v, hv, rfl⟩ := pureR_run h
      obtain ⟨u, h1, h2⟩ := mmList_ok (P := P) false (map_VF hρ args.toList) hv
      refine pre .min _ rfl ⟨v, u, ?_, rfl, h2⟩
      simp only [Bool.false_eq_true, if_false] at h1
      have : Builtin.min_ argTypes ty (args.map ρ') = Builtin.min_ #[] 0 (args.toList.map ρ').toArray := by simp [Builtin.min_]
      intro cs; simp [builtin, this, h1]
    · obtain ⟨v, hv, rfl⟩ := pureR_run h
      obtain ⟨u, h1, h2⟩ := mmList_ok (P := P) true (map_VF hρ args.toList) hv
      refine pre .max _ rfl ⟨v, u, ?_, rfl, h2⟩
      simp only [if_true] at h1
      have : Builtin.max_ argTypes ty (args.map ρ') = Builtin.max_ #[] 0 (args.toList.map ρ').toArray := by simp [Builtin.max_]
      intro cs; simp [builtin, this, h1]
    · split at h
      · rename_i s x t t' hargs hts
        have ha : args = #[s, x] := by cases args with | mk l => simp at hargs; rw [hargs]
        have hat : argTypes = #[t, t'] := by cases argTypes with | mk l => simp at hts; rw [hts]
        subst ha hat
        split at h
        · rename_i kt hkt
          split at h
          · rename_i hs
            obtain ⟨e, he, h⟩ := opt_bind_run h
            obtain ⟨sz, hsz, h⟩ := opt_bind_run h
            obtain ⟨bs, hbs, h⟩ := opt_bind_run h
            obtain ⟨zs, hzs, h⟩ := opt_bind_run h
            obtain ⟨n, hn, h⟩ := opt_bind_run h
            obtain ⟨hg, h'⟩ := guard_run h
            clear h
            simp only [decide_eq_true_eq] at hg
            obtain ⟨h0, hzl, hn0, hbn, h63⟩ := hg
            have hx := hρ s
            rw [hs] at hx
            simp only [VR, LR, DR] at hx
            have := good_grow (P := P) (ty := ty) hm he hkt hsz hzs hbs h0 hzl hn0 hbn h63 (k := n.1) h'
            have hxi : ρ' x = .int n.1 n.2 := vInt_VR (hρ x) hn
            rw [← hx.1, ← hxi] at this
            exact opGood this (by simp [execOp, resolve, invoke, builtin])
          · simp [Q.run] at h
        · obtain ⟨e, he, h⟩ := opt_bind_run h
          obtain ⟨sz, hsz, h⟩ := opt_bind_run h
          obtain ⟨bs, hbs, h⟩ := opt_bind_run h
          obtain ⟨zs, hzs, h⟩ := opt_bind_run h
          obtain ⟨hg, h'⟩ := guard_run h
          clear h
          simp only [decide_eq_true_eq] at hg
          obtain ⟨rfl, h0, hb0, hzl⟩ := hg
          obtain ⟨new, hnew, h⟩ := bind_run h'
          have := good_append (P := P) (ty := ty) hm (hρ s) (hρ x) he hsz hbs (by rw [hzs]; rfl) h0 hb0 hnew h (fun zs' hz' => by rw [hzs] at hz'; cases hz'; exact hzl)
          exact opGood this (by simp [execOp, resolve, invoke, builtin])
      · simp [Q.run] at h
    · simp [Q.run] at h
  | _ => simp [aop, Q.run] at h

end Go.VE
/- Contracts of functions, and calls by them. -/
namespace Go.VE
open Go.RowKit

variable {P : Program} {w : World} {U : Nat → Prop} {ι : Pl} {ob : Ob}

inductive VD where
  | one (x : D)
  | agg (xs : List D)

def VDR (w : World) (U : Nat → Prop) : VD → Value → Prop
  | .one x, v => DR w U x v
  | .agg xs, v => ∃ cs, v = .agg cs ∧ FR w U xs cs.toList
def VDF (w : World) (U : Nat → Prop) : List VD → List Value → Prop
  | [], vs => vs = []
  | x :: xs, vs => ∃ v vs', vs = v :: vs' ∧ VDR w U x v ∧ VDF w U xs vs'

/-- A result's cell: data, or a slice or map that the caller may write. -/
inductive RC where
  | d (x : D)
  | own (rows : List (List D)) (size elem : Nat)
  | om (agg : Bool) (keys : List Value) (vals : List (List D))
inductive RV where
  | one (x : RC)
  | agg (xs : List RC)
  | tup (xs : List RV)

def RcR (w : World) (U : Nat → Prop) : RC → Value → List Nat → Prop
  | .d x, v, bs => bs = [] ∧ DR w U x v
  | .own rows size elem, v, bs => ∃ b cap cur, bs = [b] ∧ v = .slice (some ⟨b, 0, none⟩) rows.length cap ∧ w.heap[b]? = some (.cells cur elem (0, 0)) ∧ rows.length ≤ cap ∧ cap ≤ maxLen ∧ cur.size = cap * size ∧ RR w U b 0 size rows
  | .om agg keys vals, v, bs => ∃ b es clock, bs = [b] ∧ v = .map (some b) ∧ w.heap[b]? = some (.map es clock) ∧ KR w U agg keys es.toList vals
def RcF (w : World) (U : Nat → Prop) : List RC → List Value → List Nat → Prop
  | [], vs, bs => vs = [] ∧ bs = []
  | x :: xs, vs, bs => ∃ v vs' b1 b2, vs = v :: vs' ∧ bs = b1 ++ b2 ∧ RcR w U x v b1 ∧ RcF w U xs vs' b2
mutual
def RvR (w : World) (U : Nat → Prop) : RV → Value → List Nat → Prop
  | .one x, v, bs => RcR w U x v bs
  | .agg xs, v, bs => ∃ cs, v = .agg cs ∧ RcF w U xs cs.toList bs
  | .tup xs, v, bs => ∃ vs, v = .tuple vs ∧ RvF w U xs vs.toList bs
def RvF (w : World) (U : Nat → Prop) : List RV → List Value → List Nat → Prop
  | [], vs, bs => vs = [] ∧ bs = []
  | x :: xs, vs, bs => ∃ v vs' b1 b2, vs = v :: vs' ∧ bs = b1 ++ b2 ∧ RvR w U x v b1 ∧ RvF w U xs vs' b2
end

/-- What a call of f on data hands back. -/
def Post (w : World) (U : Nat → Prop) (r : RV) (e : Ending) (w' : World) : Prop :=
  ∃ v U' bs, e = .returned v ∧ Below w.heap.size w w' ∧ (∀ b, U b → U' b) ∧ (∀ b, U' b → b < w'.heap.size ∧ (U b ∨ w.heap.size ≤ b)) ∧ bs.Nodup ∧ (∀ b ∈ bs, w.heap.size ≤ b ∧ b < w'.heap.size ∧ ¬ U' b) ∧ RvR w' U' r v bs

def SC (P : Program) (f : Nat) (args : List VD) (r : RV) : Prop :=
  (∀ (as : Array Value) (w : World), (callFunc f as).run P w = .ok (.enter f as) w) ∧
  ∀ (w : World) (U : Nat → Prop) (vs : Array Value), (∀ b, U b → b < w.heap.size) → VDF w U args vs.toList → Calls P f vs w (Post w U r)

/-! ### only numbers and the like -/
def D.isLit : D → Bool | .lit _ => true | _ => false
def RC.lits : RC → Bool
  | .d x => x.isLit
  | .own rows _ _ => rows.all fun r => r.all D.isLit
  | .om _ _ vals => vals.all fun r => r.all D.isLit
mutual
def RV.lits : RV → Bool
  | .one x => x.lits
  | .agg xs => xs.all RC.lits
  | .tup xs => RV.litsF xs
def RV.litsF : List RV → Bool
  | [] => true
  | x :: xs => x.lits && RV.litsF xs
end

theorem DR.lit_any {x : D} {v : Value} {U' : Nat → Prop} (h : DR w U x v) (hx : x.isLit = true) : DR w U' x v := by
  cases x <;> simp [D.isLit] at hx
  simpa only [DR] using h
theorem FR.lit_any {U' : Nat → Prop} : ∀ {xs : List D} {vs : List Value}, FR w U xs vs → xs.all D.isLit = true → FR w U' xs vs
  | [], vs, h, _ => by simpa [FR] using h
  | x :: xs, vs, h, hx => by
    simp only [FR, List.all_cons, Bool.and_eq_true] at h hx ⊢
    obtain ⟨v, vs', rfl, h1, h2⟩ := h
    exact ⟨v, vs', rfl, h1.lit_any hx.1, FR.lit_any h2 hx.2⟩
theorem RR.lit_any {U' : Nat → Prop} {b o size : Nat} {rs : List (List D)} (h : RR w U b o size rs) (hx : (rs.all fun r => r.all D.isLit) = true) : RR w U' b o size rs := by
  obtain ⟨h1, vs, h2, h3⟩ := RR_iff.1 h
  refine RR_iff.2 ⟨h1, vs, FR.lit_any h2 ?_, h3⟩
  simpa [List.all_flatten] using hx
theorem KR.lit_any {U' : Nat → Prop} {agg : Bool} : ∀ {vals : List (List D)} {keys : List Value} {es : List MapEntry}, KR w U agg keys es vals → (vals.all fun r => r.all D.isLit) = true → KR w U' agg keys es vals
  | [], keys, es, h, _ => by simpa [KR] using h
  | r :: rs, keys, es, h, hx => by
    simp only [List.all_cons, Bool.and_eq_true] at hx
    simp only [KR] at h ⊢
    obtain ⟨k, ks, e, es', cs, h1, h2, h3, h4, h5, h6, h7, h8⟩ := h
    exact ⟨k, ks, e, es', cs, h1, h2, h3, h4, h5, h6, FR.lit_any h7 hx.1, KR.lit_any h8 hx.2⟩
theorem RcR.lit_any {U' : Nat → Prop} {x : RC} {v : Value} {bs : List Nat} (h : RcR w U x v bs) (hx : x.lits = true) : RcR w U' x v bs := by
  cases x with
  | d x => exact ⟨h.1, h.2.lit_any hx⟩
  | own rows size elem => obtain ⟨b, cap, cur, h1, h2, h3, h4, h5, h6, h7⟩ := h; exact ⟨b, cap, cur, h1, h2, h3, h4, h5, h6, h7.lit_any hx⟩
  | om agg keys vals => obtain ⟨b, es, clock, h1, h2, h3, h4⟩ := h; exact ⟨b, es, clock, h1, h2, h3, h4.lit_any hx⟩
theorem RcF.lit_any {U' : Nat → Prop} : ∀ {xs : List RC} {vs : List Value} {bs : List Nat}, RcF w U xs vs bs → xs.all RC.lits = true → RcF w U' xs vs bs
  | [], vs, bs, h, _ => h
  | x :: xs, vs, bs, h, hx => by
    simp only [List.all_cons, Bool.and_eq_true] at hx
    obtain ⟨v, vs', b1, b2, h1, h2, h3, h4⟩ := h
    exact ⟨v, vs', b1, b2, h1, h2, h3.lit_any hx.1, RcF.lit_any h4 hx.2⟩
mutual
theorem RvR.lit_any {U' : Nat → Prop} : ∀ (x : RV) (v : Value) (bs : List Nat), RvR w U x v bs → x.lits = true → RvR w U' x v bs
  | .one x, v, bs, h, hx => by simp only [RvR, RV.lits] at h hx ⊢; exact h.lit_any hx
  | .agg xs, v, bs, h, hx => by simp only [RvR, RV.lits] at h hx ⊢; obtain ⟨cs, h1, h2⟩ := h; exact ⟨cs, h1, h2.lit_any hx⟩
  | .tup xs, v, bs, h, hx => by simp only [RvR, RV.lits] at h hx ⊢; obtain ⟨cs, h1, h2⟩ := h; exact ⟨cs, h1, RvF.lit_any xs _ _ h2 hx⟩
theorem RvF.lit_any {U' : Nat → Prop} : ∀ (xs : List RV) (vs : List Value) (bs : List Nat), RvF w U xs vs bs → RV.litsF xs = true → RvF w U' xs vs bs
  | [], vs, bs, h, _ => by simpa only [RvF] using h
  | x :: xs, vs, bs, h, hx => by
    simp only [RvF, RV.litsF, Bool.and_eq_true] at h hx ⊢
    obtain ⟨v, vs', b1, b2, h1, h2, h3, h4⟩ := h
    exact ⟨v, vs', b1, b2, h1, h2, RvR.lit_any x v b1 h3 hx.1, RvF.lit_any xs vs' b2 h4 hx.2⟩
end

/-! ### a result laid into the caller's objects -/
def layR (base : Nat) : RC → Nat → L × List (Nat × O) × Nat
  | .d x, n => (.d x, [], n)
  | .own rows size elem, n => (.slk (base + n) 0 rows.length rows.length, [(base + n, .arr rows size elem true)], n + 1)
  | .om agg keys vals, n => (.mk (base + n), [(base + n, .mp agg keys vals true)], n + 1)
def layF (base : Nat) : List RC → Nat → List L × List (Nat × O) × Nat
  | [], n => ([], [], n)
  | x :: xs, n => ((layR base x n).1 :: (layF base xs (layR base x n).2.2).1, (layR base x n).2.1 ++ (layF base xs (layR base x n).2.2).2.1, (layF base xs (layR base x n).2.2).2.2)
mutual
def layV (base : Nat) : RV → Nat → V × List (Nat × O) × Nat
  | .one x, n => (.one (layR base x n).1, (layR base x n).2.1, (layR base x n).2.2)
  | .agg xs, n => (.agg (layF base xs n).1, (layF base xs n).2.1, (layF base xs n).2.2)
  | .tup xs, n => (.tup (layVF base xs n).1, (layVF base xs n).2.1, (layVF base xs n).2.2)
def layVF (base : Nat) : List RV → Nat → List V × List (Nat × O) × Nat
  | [], n => ([], [], n)
  | x :: xs, n => ((layV base x n).1 :: (layVF base xs (layV base x n).2.2).1, (layV base x n).2.1 ++ (layVF base xs (layV base x n).2.2).2.1, (layVF base xs (layV base x n).2.2).2.2)
end

def absentQ {α : Type} : List (Nat × O) → Q α → Q α
  | [], q => q
  | (k, _) :: r, q => .get k fun
    | none => absentQ r q
    | some _ => .fail

def baseOf : Option Nat → Nat
  | some d => 1000 * (d + 1)
  | none => 1000000000
def layQ (dst : Option Nat) (r : RV) : Q Res := Q.guard (decide (((layV (baseOf dst) r 0).2.1.map Prod.fst).Nodup)) <| absentQ (layV (baseOf dst) r 0).2.1 (.ret ((layV (baseOf dst) r 0).1, (layV (baseOf dst) r 0).2.1))

def fnOf : V → Option (Nat × List L)
  | .one (.fn f caps) => some (f, caps)
  | .one (.d (.fn f caps)) => some (f, caps.map .d)
  | _ => none
def vToD : V → Q VD
  | .one l => (toD 4 l).bind fun d => .ret (.one d)
  | .agg ls => (Q.mapM (toD 4) ls).bind fun ds => .ret (.agg ds)
  | .tup _ => .fail
def L.isD : L → Bool | .d _ => true | _ => false
def L.isF : L → Bool
  | .fn _ [] => true
  | x => x.isD
def V.isD : V → Bool
  | .one l => l.isF
  | .agg ls => ls.all L.isD
  | .tup _ => false

def callQ (C : Nat → List VD → Option RV) (dst : Option Nat) (f : Nat) (args : List V) (caps : List L) : Q Res :=
  (Q.mapM vToD args).bind fun ds => (Q.mapM (toD 4) caps).bind fun cs => (Q.opt (C f (ds ++ cs.map .one))).bind fun r =>
    Q.guard (r.lits || (args.all V.isD && caps.all L.isD)) (layQ dst r)

theorem toD_ok (hm : Mem w U ι ob) {Us : Nat → Prop} (hU : ∀ b, U b → Us b) (hO : ∀ k o, ob k = some o → Us (ι k).1) : ∀ (n : Nat) (x : L) (d : D) (v : Value), (toD n x).run ob = some d → LR w U ι ob x v → DR w Us d v := by
  intro n
  induction n with
  | zero =>
    intro x d v h hx
    cases x with
    | d x => simp only [toD, Q.run, Option.some.injEq] at h; subst h; simp only [LR] at hx; exact DR.mono (fun _ _ => rfl) hU _ _ hx
    | slk k off n c =>
      simp only [toD, Q.run] at h
      split at h
      · rename_i rows size elem own hk
        obtain ⟨hg, h⟩ := guard_run h
        simp only [Q.run, Option.some.injEq] at h
        subst h
        exact slk_D hm hx hk (by simpa using hg) hU (hO _ _ hk)
      · simp [Q.run] at h
    | pa k i off c =>
      simp only [toD, Q.run] at h
      split at h
      · rename_i rows size elem own hk
        obtain ⟨hg, h⟩ := guard_run h
        obtain ⟨row, hrow, h⟩ := opt_bind_run h
        simp only [Q.run, Option.some.injEq] at h
        subst h
        simp only [LR] at hx
        obtain ⟨rows', size', elem', own', h1, h2, h3, _⟩ := hx
        rw [hk] at h1
        cases h1
        obtain ⟨_, rfl⟩ := h3 (by simpa using hg)
        obtain ⟨cur, h5, h6, h7, h8, h9, h10⟩ := hm.obj k _ hk
        simp only [DR]
        refine ⟨(ι k).1, 0 + i * size, by rw [Nat.zero_add], hO _ _ hk, ?_⟩
        exact CR.mono (fun _ _ => rfl) hU _ rfl _ _ (h9.at_ hrow).2
      · simp [Q.run] at h
    | ptr k off => simp [toD, Q.run] at h
    | fn f caps => simp [toD, Q.run] at h
    | mk k =>
      simp only [toD, Q.run] at h
      split at h
      · rename_i agg keys vals own hk
        simp only [Q.run, Option.some.injEq] at h
        subst h
        simp only [LR] at hx
        obtain ⟨_, _, _, _, h1, rfl⟩ := hx
        obtain ⟨es, clock, h3, h4, h5⟩ := hm.obj _ _ hk
        simp only [DR]
        exact ⟨_, es, clock, rfl, hO _ _ hk, h3, KR.mono (fun _ _ => rfl) hU _ _ _ _ h4⟩
      · simp [Q.run] at h
    | undef => simp [toD, Q.run] at h
  | succ n ih =>
    have many : ∀ (cells : List L) (ds : List D) (vs : List Value), (Q.mapM (toD n) cells).run ob = some ds → LF w U ι ob cells vs → FR w Us ds vs := by
      intro cells
      induction cells with
      | nil => intro ds vs h hl; simp [Q.mapM, Q.run] at h; subst h; simpa [LF, FR] using hl
      | cons y ys ihc =>
        intro ds vs h hl
        simp only [Q.mapM] at h
        obtain ⟨d1, h1, h⟩ := bind_run h
        obtain ⟨ds2, h2, h⟩ := bind_run h
        simp only [Q.run, Option.some.injEq] at h
        subst h
        simp only [LF] at hl
        obtain ⟨v, vs', rfl, hv, hl⟩ := hl
        simp only [FR]
        exact ⟨v, vs', rfl, ih y d1 v h1 hv, ihc ds2 vs' h2 hl⟩
    intro x d v h hx
    cases x with
    | ptr k off =>
      simp only [toD, Q.run] at h
      split at h
      · rename_i cells elem hk
        obtain ⟨ds, h1, h⟩ := bind_run h
        simp only [Q.run, Option.some.injEq] at h
        subst h
        simp only [LR] at hx
        obtain ⟨_, _, _, rfl⟩ := hx
        obtain ⟨cur, h2, h3, h4⟩ := hm.obj k _ hk
        simp only [DR]
        refine ⟨(ι k).1, 0, by rw [Nat.zero_add], hO _ _ hk, CR_iff.2 ⟨cur.toList, many _ _ _ h1 h3, fun j u hu => ?_⟩⟩
        rw [heap_cell h2, Nat.zero_add]
        simpa using hu
      · simp [Q.run] at h
    | fn f caps =>
      simp only [toD] at h
      obtain ⟨ds, h1, h⟩ := bind_run h
      simp only [Q.run, Option.some.injEq] at h
      subst h
      simp only [LR] at hx
      obtain ⟨cs, rfl, hl⟩ := hx
      simp only [DR]
      exact ⟨cs, rfl, many _ _ _ h1 hl⟩
    | d x => simp only [toD, Q.run, Option.some.injEq] at h; subst h; simp only [LR] at hx; exact DR.mono (fun _ _ => rfl) hU _ _ hx
    | slk k off n' c =>
      simp only [toD, Q.run] at h
      split at h
      · rename_i rows size elem own hk
        obtain ⟨hg, h⟩ := guard_run h
        simp only [Q.run, Option.some.injEq] at h
        subst h
        exact slk_D hm hx hk (by simpa using hg) hU (hO _ _ hk)
      · simp [Q.run] at h
    | pa k i off c =>
      simp only [toD, Q.run] at h
      split at h
      · rename_i rows size elem own hk
        obtain ⟨hg, h⟩ := guard_run h
        obtain ⟨row, hrow, h⟩ := opt_bind_run h
        simp only [Q.run, Option.some.injEq] at h
        subst h
        simp only [LR] at hx
        obtain ⟨rows', size', elem', own', h1, h2, h3, _⟩ := hx
        rw [hk] at h1
        cases h1
        obtain ⟨_, rfl⟩ := h3 (by simpa using hg)
        obtain ⟨cur, h5, h6, h7, h8, h9, h10⟩ := hm.obj k _ hk
        simp only [DR]
        refine ⟨(ι k).1, 0 + i * size, by rw [Nat.zero_add], hO _ _ hk, ?_⟩
        exact CR.mono (fun _ _ => rfl) hU _ rfl _ _ (h9.at_ hrow).2
      · simp [Q.run] at h
    | mk k =>
      simp only [toD, Q.run] at h
      split at h
      · rename_i agg keys vals own hk
        simp only [Q.run, Option.some.injEq] at h
        subst h
        simp only [LR] at hx
        obtain ⟨_, _, _, _, h1, rfl⟩ := hx
        obtain ⟨es, clock, h3, h4, h5⟩ := hm.obj _ _ hk
        simp only [DR]
        exact ⟨_, es, clock, rfl, hO _ _ hk, h3, KR.mono (fun _ _ => rfl) hU _ _ _ _ h4⟩
      · simp [Q.run] at h
    | undef => simp [toD, Q.run] at h

theorem toDs_ok (hm : Mem w U ι ob) {Us : Nat → Prop} (hU : ∀ b, U b → Us b) (hO : ∀ k o, ob k = some o → Us (ι k).1) (n : Nat) : ∀ (cells : List L) (ds : List D) (vs : List Value), (Q.mapM (toD n) cells).run ob = some ds → LF w U ι ob cells vs → FR w Us ds vs
  | [], ds, vs, h, hl => by simp [Q.mapM, Q.run] at h; subst h; simpa [LF, FR] using hl
  | y :: ys, ds, vs, h, hl => by
    simp only [Q.mapM] at h
    obtain ⟨d1, h1, h⟩ := bind_run h
    obtain ⟨ds2, h2, h⟩ := bind_run h
    simp only [Q.run, Option.some.injEq] at h
    subst h
    simp only [LF] at hl
    obtain ⟨v, vs', rfl, hv, hl⟩ := hl
    simp only [FR]
    exact ⟨v, vs', rfl, toD_ok hm hU hO n y d1 v h1 hv, toDs_ok hm hU hO n ys ds2 vs' h2 hl⟩

theorem toDs_free (n : Nat) : ∀ (cells : List L) (ds : List D), (Q.mapM (toD n) cells).run ob = some ds → cells.all L.isD = true → cells = ds.map .d
  | [], ds, h, _ => by simp [Q.mapM, Q.run] at h; subst h; rfl
  | y :: ys, ds, h, hf => by
    simp only [Q.mapM] at h
    obtain ⟨d1, h1, h⟩ := bind_run h
    obtain ⟨ds2, h2, h⟩ := bind_run h
    simp only [Q.run, Option.some.injEq] at h
    subst h
    simp only [List.all_cons, Bool.and_eq_true] at hf
    have hf2 := hf.2
    cases y <;> simp [L.isD] at hf
    have : ∀ m z, (toD m (.d z)).run ob = some d1 → z = d1 := by intro m z h; cases m <;> simpa [toD, Q.run] using h
    rw [List.map_cons, this _ _ h1, ← toDs_free n ys ds2 h2 hf2]

theorem args_ok (hm : Mem w U ι ob) : ∀ (args : List V) (ds : List VD) (vs : List Value), (Q.mapM vToD args).run ob = some ds → VF w U ι ob args vs → VDF w (fun b => b < w.heap.size) ds vs
  | [], ds, vs, h, hl => by simp [Q.mapM, Q.run] at h; subst h; simpa [VF, VDF] using hl
  | y :: ys, ds, vs, h, hl => by
    simp only [Q.mapM] at h
    obtain ⟨d1, h1, h⟩ := bind_run h
    obtain ⟨ds2, h2, h⟩ := bind_run h
    simp only [Q.run, Option.some.injEq] at h
    subst h
    simp only [VF] at hl
    obtain ⟨v, vs', rfl, hv, hl⟩ := hl
    simp only [VDF]
    refine ⟨v, vs', rfl, ?_, args_ok hm ys ds2 vs' h2 hl⟩
    cases y with
    | one l =>
      simp only [vToD] at h1
      obtain ⟨d, h3, h1⟩ := bind_run h1
      simp only [Q.run, Option.some.injEq] at h1
      subst h1
      simp only [VR] at hv
      exact toD_ok hm (fun b hb => hm.lt b hb) (fun _ _ h => hm.block h) _ _ _ _ h3 hv
    | agg ls =>
      simp only [vToD] at h1
      obtain ⟨d, h3, h1⟩ := bind_run h1
      simp only [Q.run, Option.some.injEq] at h1
      subst h1
      simp only [VR] at hv
      obtain ⟨cs, rfl, hl2⟩ := hv
      exact ⟨cs, rfl, toDs_ok hm (fun b hb => hm.lt b hb) (fun _ _ h => hm.block h) _ _ _ _ h3 hl2⟩
    | tup _ => simp [vToD, Q.run] at h1

theorem args_free : ∀ (args : List V) (ds : List VD) (vs : List Value), (Q.mapM vToD args).run ob = some ds → args.all V.isD = true → VF w U ι ob args vs → VDF w U ds vs
  | [], ds, vs, h, _, hl => by simp [Q.mapM, Q.run] at h; subst h; simpa [VF, VDF] using hl
  | y :: ys, ds, vs, h, hf, hl => by
    simp only [Q.mapM] at h
    obtain ⟨d1, h1, h⟩ := bind_run h
    obtain ⟨ds2, h2, h⟩ := bind_run h
    simp only [Q.run, Option.some.injEq] at h
    subst h
    simp only [List.all_cons, Bool.and_eq_true] at hf
    simp only [VF] at hl
    obtain ⟨v, vs', rfl, hv, hl⟩ := hl
    simp only [VDF]
    refine ⟨v, vs', rfl, ?_, args_free ys ds2 vs' h2 hf.2 hl⟩
    cases y with
    | one l =>
      simp only [vToD] at h1
      obtain ⟨d, h3, h1⟩ := bind_run h1
      simp only [Q.run, Option.some.injEq] at h1
      subst h1
      simp only [VR] at hv
      cases l with
      | d x =>
        simp only [toD, Q.run, Option.some.injEq] at h3
        subst h3
        simpa only [LR, VDR] using hv
      | fn f caps =>
        cases caps with
        | nil =>
          simp only [toD, Q.mapM, Q.bind, Q.run, Option.some.injEq] at h3
          subst h3
          simp only [LR, LF] at hv
          simp only [VDR, DR, FR]
          exact hv
        | cons c cs => simp [V.isD, L.isF, L.isD] at hf
      | _ => simp [V.isD, L.isF, L.isD] at hf
    | agg ls =>
      simp only [vToD] at h1
      obtain ⟨d, h3, h1⟩ := bind_run h1
      simp only [Q.run, Option.some.injEq] at h1
      subst h1
      simp only [VR] at hv
      obtain ⟨cs, rfl, hl2⟩ := hv
      have := toDs_free 4 ls d h3 (by simpa [V.isD] using hf.1)
      subst this
      exact ⟨cs, rfl, LF_FR hl2⟩
    | tup _ => simp [vToD, Q.run] at h1

theorem VDF.append {xs ys : List VD} {vs us : List Value} (h : VDF w U xs vs) (k : VDF w U ys us) : VDF w U (xs ++ ys) (vs ++ us) := by
  induction xs generalizing vs with
  | nil => simp only [VDF] at h; simpa [h] using k
  | cons x xs ih => simp only [VDF] at h; obtain ⟨v, vs', rfl, h1, h2⟩ := h; simp only [List.cons_append, VDF]; exact ⟨v, _, rfl, h1, ih h2⟩

theorem FR_VDF {xs : List D} {vs : List Value} (h : FR w U xs vs) : VDF w U (xs.map .one) vs := by
  induction xs generalizing vs with
  | nil => simpa [FR, VDF] using h
  | cons x xs ih => simp only [FR] at h; obtain ⟨v, vs', rfl, h1, h2⟩ := h; simp only [List.map_cons, VDF]; exact ⟨v, vs', rfl, h1, ih h2⟩

/-! ### results taken in -/
/-- All that holds while a result is taken in: relative to the world ahead of the call. -/
structure Took (w : World) (U : Nat → Prop) (ι : Pl) (ob : Ob) (w' : World) (U' : Nat → Prop) (ι' : Pl) (ob' : Ob) (rest : List Nat) : Prop where
  mem : Mem w' U' ι' ob'
  evo : Evo w U ι ob w' U' ι' ob'
  far : ∀ b ∈ rest, w.heap.size ≤ b ∧ b < w'.heap.size ∧ ¬ U' b ∧ ∀ i oi, ob' i = some oi → oi.owned = true → (ι' i).1 ≠ b

def absentO (ob : Ob) : List (Nat × O) → Prop
  | [] => True
  | (k, o) :: r => ob k = none ∧ absentO (put1 ob k o) r

theorem took_one {w' : World} {U' : Nat → Prop} {ι' : Pl} {ob' : Ob} {b : Nat} {rest : List Nat} (ht : Took w U ι ob w' U' ι' ob' (b :: rest)) (hnd : (b :: rest).Nodup) {k : Nat} (hk : ob' k = none) (new : O) (cap : Nat)
    (hor : ∀ ob2, OR w' U' (updP ι' k (b, cap)) ob2 k new) : Took w U ι ob w' U' (updP ι' k (b, cap)) (put1 ob' k new) rest ∧ (∀ x v, LR w' U' ι' ob' x v → LR w' U' (updP ι' k (b, cap)) (put1 ob' k new) x v) := by
  obtain ⟨f1, f2, f3, f4⟩ := ht.far b (by simp)
  obtain ⟨m1, m2, m3⟩ := mem_add ht.mem ht.evo k new (b, cap) hk f1 f2 f3 f4 (hor _)
  refine ⟨⟨m1, m2, ?_⟩, m3⟩
  intro b' hb'
  obtain ⟨g1, g2, g3, g4⟩ := ht.far b' (by simp [hb'])
  refine ⟨g1, g2, g3, ?_⟩
  intro i oi hi hoi
  by_cases hik : i = k
  · subst hik
    rw [updP_same]
    rintro rfl
    simp at hnd
    exact hnd.1 hb'
  · rw [put1_other _ _ hik] at hi
    rw [updP_other _ _ hik]
    exact g4 i oi hi hoi

def Keeps (w' : World) (U' : Nat → Prop) (ι1 : Pl) (ob1 : Ob) (ι2 : Pl) (ob2 : Ob) : Prop := ∀ x v, LR w' U' ι1 ob1 x v → LR w' U' ι2 ob2 x v

theorem Keeps.LF {w' : World} {U' : Nat → Prop} {ι1 ι2 : Pl} {ob1 ob2 : Ob} (h : Keeps w' U' ι1 ob1 ι2 ob2) : ∀ {xs : List L} {vs : List Value}, LF w' U' ι1 ob1 xs vs → LF w' U' ι2 ob2 xs vs
  | [], vs, hl => by simpa [VE.LF] using hl
  | x :: xs, vs, hl => by simp only [VE.LF] at hl ⊢; obtain ⟨v, vs', h1, h2, h3⟩ := hl; exact ⟨v, vs', h1, h _ _ h2, Keeps.LF h h3⟩
mutual
theorem Keeps.VR {w' : World} {U' : Nat → Prop} {ι1 ι2 : Pl} {ob1 ob2 : Ob} (h : Keeps w' U' ι1 ob1 ι2 ob2) : ∀ (x : V) (v : Value), VR w' U' ι1 ob1 x v → VR w' U' ι2 ob2 x v
  | .one x, v, hv => by simp only [VE.VR] at hv ⊢; exact h _ _ hv
  | .agg xs, v, hv => by simp only [VE.VR] at hv ⊢; obtain ⟨cs, h1, h2⟩ := hv; exact ⟨cs, h1, Keeps.LF h h2⟩
  | .tup xs, v, hv => by simp only [VE.VR] at hv ⊢; obtain ⟨cs, h1, h2⟩ := hv; exact ⟨cs, h1, Keeps.VF h _ _ h2⟩
theorem Keeps.VF {w' : World} {U' : Nat → Prop} {ι1 ι2 : Pl} {ob1 ob2 : Ob} (h : Keeps w' U' ι1 ob1 ι2 ob2) : ∀ (xs : List V) (vs : List Value), VF w' U' ι1 ob1 xs vs → VF w' U' ι2 ob2 xs vs
  | [], vs, hl => by simpa [VE.VF] using hl
  | x :: xs, vs, hl => by simp only [VE.VF] at hl ⊢; obtain ⟨v, vs', h1, h2, h3⟩ := hl; exact ⟨v, vs', h1, Keeps.VR h _ _ h2, Keeps.VF h xs vs' h3⟩
end
theorem Keeps.refl (w' : World) (U' : Nat → Prop) (ι1 : Pl) (ob1 : Ob) : Keeps w' U' ι1 ob1 ι1 ob1 := fun _ _ h => h
theorem Keeps.trans {w' : World} {U' : Nat → Prop} {ι1 ι2 ι3 : Pl} {ob1 ob2 ob3 : Ob} (h : Keeps w' U' ι1 ob1 ι2 ob2) (k : Keeps w' U' ι2 ob2 ι3 ob3) : Keeps w' U' ι1 ob1 ι3 ob3 := fun _ _ hx => k _ _ (h _ _ hx)

theorem absentO_append {ob : Ob} : ∀ {us vs : List (Nat × O)}, absentO ob (us ++ vs) ↔ absentO ob us ∧ absentO (putO ob us) vs := by
  intro us
  induction us generalizing ob with
  | nil => intro vs; simp [absentO, putO]
  | cons x us ih => intro vs; obtain ⟨k, o⟩ := x; simp only [List.cons_append, absentO, putO, ih, and_assoc]

theorem took_c {base : Nat} {w' : World} {U' : Nat → Prop} {ι' : Pl} {ob' : Ob} {x : RC} {v : Value} {bs rest : List Nat} {n : Nat} (hx : RcR w' U' x v bs) (ht : Took w U ι ob w' U' ι' ob' (bs ++ rest)) (hnd : (bs ++ rest).Nodup)
    (hab : absentO ob' (layR base x n).2.1) : ∃ ι2, Took w U ι ob w' U' ι2 (putO ob' (layR base x n).2.1) rest ∧ Keeps w' U' ι' ob' ι2 (putO ob' (layR base x n).2.1) ∧ LR w' U' ι2 (putO ob' (layR base x n).2.1) (layR base x n).1 v := by
  cases x with
  | d x =>
    obtain ⟨rfl, hd⟩ := hx
    exact ⟨ι', by simpa [layR, putO] using ht, Keeps.refl _ _ _ _, by simpa only [layR, LR] using hd⟩
  | own rows size elem =>
    obtain ⟨b, cap, cur, rfl, rfl, h3, h4, h5, h6, h7⟩ := hx
    simp only [layR, absentO] at hab
    have hfb := (ht.far b (by simp)).2.2.1
    obtain ⟨t1, t2⟩ := took_one (k := base + n) ht hnd hab.1 (.arr rows size elem true) cap (fun ob2 => ⟨cur, by rw [updP_same]; exact h3, by rw [updP_same]; exact h4, by rw [updP_same]; exact h5, by rw [updP_same]; exact h6, by rw [updP_same]; exact h7, by rw [updP_same]; simpa using hfb⟩)
    refine ⟨_, t1, t2, ?_⟩
    simp only [layR, LR, putO]
    exact ⟨rows, size, elem, true, put1_same _ _ _, Nat.le_refl _, fun _ => ⟨by omega, by rw [updP_same]; simp⟩, _, _, rfl, h4, h5⟩
  | om agg keys vals =>
    obtain ⟨b, es, clock, rfl, rfl, h3, h4⟩ := hx
    simp only [layR, absentO] at hab
    have hfb := (ht.far b (by simp)).2.2.1
    obtain ⟨t1, t2⟩ := took_one (k := base + n) ht hnd hab.1 (.mp agg keys vals true) 0 (fun ob2 => ⟨es, clock, by rw [updP_same]; exact h3, h4, by rw [updP_same]; simpa using hfb⟩)
    refine ⟨_, t1, t2, ?_⟩
    simp only [layR, LR, putO]
    exact ⟨agg, keys, vals, true, put1_same _ _ _, by rw [updP_same]⟩

theorem took_f {base : Nat} {w' : World} {U' : Nat → Prop} : ∀ {xs : List RC} {vs : List Value} {bs rest : List Nat} {n : Nat} {ι' : Pl} {ob' : Ob}, RcF w' U' xs vs bs → Took w U ι ob w' U' ι' ob' (bs ++ rest) → (bs ++ rest).Nodup →
    absentO ob' (layF base xs n).2.1 → ∃ ι2, Took w U ι ob w' U' ι2 (putO ob' (layF base xs n).2.1) rest ∧ Keeps w' U' ι' ob' ι2 (putO ob' (layF base xs n).2.1) ∧ LF w' U' ι2 (putO ob' (layF base xs n).2.1) (layF base xs n).1 vs
  | [], vs, bs, rest, n, ι', ob', h, ht, hnd, hab => by
    obtain ⟨rfl, rfl⟩ := h
    exact ⟨ι', by simpa [layF, putO] using ht, Keeps.refl _ _ _ _, by simp [layF, LF]⟩
  | x :: xs, vs, bs, rest, n, ι', ob', h, ht, hnd, hab => by
    obtain ⟨v, vs', b1, b2, rfl, rfl, h1, h2⟩ := h
    simp only [layF, absentO_append] at hab
    obtain ⟨ι2, t1, t2, t3⟩ := took_c (rest := b2 ++ rest) (n := n) h1 (by rwa [List.append_assoc] at ht) (by rwa [List.append_assoc] at hnd) hab.1
    have hnd2 : (b2 ++ rest).Nodup := by rw [List.append_assoc] at hnd; exact (List.nodup_append.1 hnd).2.1
    obtain ⟨ι3, t4, t5, t6⟩ := took_f (rest := rest) h2 t1 hnd2 hab.2
    refine ⟨ι3, by simpa only [layF, putO_append] using t4, by simpa only [layF, putO_append] using t2.trans t5, ?_⟩
    simp only [layF, putO_append, LF]
    exact ⟨v, vs', rfl, t5 _ _ t3, t6⟩

mutual
theorem took_v {base : Nat} {w' : World} {U' : Nat → Prop} : ∀ (x : RV) (v : Value) (bs rest : List Nat) (n : Nat) (ι' : Pl) (ob' : Ob), RvR w' U' x v bs → Took w U ι ob w' U' ι' ob' (bs ++ rest) → (bs ++ rest).Nodup →
    absentO ob' (layV base x n).2.1 → ∃ ι2, Took w U ι ob w' U' ι2 (putO ob' (layV base x n).2.1) rest ∧ Keeps w' U' ι' ob' ι2 (putO ob' (layV base x n).2.1) ∧ VR w' U' ι2 (putO ob' (layV base x n).2.1) (layV base x n).1 v
  | .one x, v, bs, rest, n, ι', ob', h, ht, hnd, hab => by
    simp only [RvR] at h
    simp only [layV] at hab ⊢
    obtain ⟨ι2, t1, t2, t3⟩ := took_c h ht hnd hab
    exact ⟨ι2, t1, t2, by simpa only [VR] using t3⟩
  | .agg xs, v, bs, rest, n, ι', ob', h, ht, hnd, hab => by
    simp only [RvR] at h
    obtain ⟨cs, rfl, h⟩ := h
    simp only [layV] at hab ⊢
    obtain ⟨ι2, t1, t2, t3⟩ := took_f h ht hnd hab
    exact ⟨ι2, t1, t2, by simp only [VR]; exact ⟨cs, rfl, t3⟩⟩
  | .tup xs, v, bs, rest, n, ι', ob', h, ht, hnd, hab => by
    simp only [RvR] at h
    obtain ⟨cs, rfl, h⟩ := h
    simp only [layV] at hab ⊢
    obtain ⟨ι2, t1, t2, t3⟩ := took_vf xs cs.toList bs rest n ι' ob' h ht hnd hab
    exact ⟨ι2, t1, t2, by simp only [VR]; exact ⟨cs, rfl, t3⟩⟩
theorem took_vf {base : Nat} {w' : World} {U' : Nat → Prop} : ∀ (xs : List RV) (vs : List Value) (bs rest : List Nat) (n : Nat) (ι' : Pl) (ob' : Ob), RvF w' U' xs vs bs → Took w U ι ob w' U' ι' ob' (bs ++ rest) → (bs ++ rest).Nodup →
    absentO ob' (layVF base xs n).2.1 → ∃ ι2, Took w U ι ob w' U' ι2 (putO ob' (layVF base xs n).2.1) rest ∧ Keeps w' U' ι' ob' ι2 (putO ob' (layVF base xs n).2.1) ∧ VF w' U' ι2 (putO ob' (layVF base xs n).2.1) (layVF base xs n).1 vs
  | [], vs, bs, rest, n, ι', ob', h, ht, hnd, hab => by
    simp only [RvF] at h
    obtain ⟨rfl, rfl⟩ := h
    exact ⟨ι', by simpa [layVF, putO] using ht, Keeps.refl _ _ _ _, by simp [layVF, VF]⟩
  | x :: xs, vs, bs, rest, n, ι', ob', h, ht, hnd, hab => by
    simp only [RvF] at h
    obtain ⟨v, vs', b1, b2, rfl, rfl, h1, h2⟩ := h
    simp only [layVF, absentO_append] at hab
    obtain ⟨ι2, t1, t2, t3⟩ := took_v x v b1 (b2 ++ rest) n ι' ob' h1 (by rwa [List.append_assoc] at ht) (by rwa [List.append_assoc] at hnd) hab.1
    have hnd2 : (b2 ++ rest).Nodup := by rw [List.append_assoc] at hnd; exact (List.nodup_append.1 hnd).2.1
    obtain ⟨ι3, t4, t5, t6⟩ := took_vf xs vs' b2 rest _ ι2 _ h2 t1 hnd2 hab.2
    refine ⟨ι3, by simpa only [layVF, putO_append] using t4, by simpa only [layVF, putO_append] using t2.trans t5, ?_⟩
    simp only [layVF, putO_append, VF]
    exact ⟨v, vs', rfl, Keeps.VR t5 _ _ t3, t6⟩
end

theorem absentQ_ok {α : Type} {q : Q α} {r : α} : ∀ {us : List (Nat × O)}, (absentQ us q).run ob = some r → (∀ p ∈ us, ob p.1 = none) ∧ q.run ob = some r
  | [], h => ⟨by simp, h⟩
  | (k, o) :: us, h => by
    simp only [absentQ, Q.run] at h
    cases hk : ob k with
    | none =>
      rw [hk] at h
      obtain ⟨h1, h2⟩ := absentQ_ok h
      refine ⟨fun p hp => ?_, h2⟩
      rcases List.mem_cons.1 hp with rfl | hp
      · exact hk
      · exact h1 p hp
    | some _ => rw [hk] at h; simp [Q.run] at h

theorem absentO_of : ∀ {us : List (Nat × O)} {ob : Ob}, (us.map Prod.fst).Nodup → (∀ p ∈ us, ob p.1 = none) → absentO ob us
  | [], ob, _, _ => trivial
  | (k, o) :: us, ob, hn, h => by
    simp only [List.map_cons, List.nodup_cons] at hn
    refine ⟨h (k, o) (by simp), absentO_of hn.2 fun p hp => ?_⟩
    have hne : p.1 ≠ k := fun e => hn.1 (by rw [← e]; exact List.mem_map_of_mem hp)
    rw [put1_other _ _ hne]
    exact h p (by simp [hp])

/-! ### a call by contract -/
def Back (w : World) (U : Nat → Prop) (ι : Pl) (ob : Ob) (r : Res) (e : Ending) (w' : World) : Prop :=
  ∃ v U' ι', e = .returned v ∧ Mem w' U' ι' (putO ob r.2) ∧ Evo w U ι ob w' U' ι' (putO ob r.2) ∧ VR w' U' ι' (putO ob r.2) r.1 v

theorem post_back (hm : Mem w U ι ob) {Uc : Nat → Prop} {dst : Option Nat} {rv : RV} {r : Res} (hl : (layQ dst rv).run ob = some r) (hU : ∀ b, Uc b → b < w.heap.size) (hcase : (∀ b, Uc b ↔ U b) ∨ rv.lits = true) {e : Ending} {w' : World} (hp : Post w Uc rv e w') :
    Back w U ι ob r e w' := by
  obtain ⟨v, U1, bs, rfl, hb, h1, h2, h3, h4, h5⟩ := hp
  unfold layQ at hl
  obtain ⟨hnd, hl⟩ := guard_run hl
  obtain ⟨hab, hl⟩ := absentQ_ok hl
  simp only [Q.run, Option.some.injEq] at hl
  subst hl
  have hab' := absentO_of (by simpa using hnd) hab
  -- what is never written, for the caller
  obtain ⟨U2, k1, k2, k3, k4⟩ : ∃ U2 : Nat → Prop, (∀ b, U b → U2 b) ∧ (∀ b, U2 b → b < w'.heap.size ∧ (U b ∨ w.heap.size ≤ b)) ∧ (∀ b ∈ bs, ¬ U2 b) ∧ RvR w' U2 rv v bs := by
    rcases hcase with hc | hc
    · exact ⟨U1, fun b hb' => h1 b ((hc b).2 hb'), fun b hb' => ⟨(h2 b hb').1, (h2 b hb').2.imp (hc b).1 id⟩, fun b hb' => (h4 b hb').2.2, h5⟩
    · exact ⟨U, fun _ h => h, fun b hb' => ⟨Nat.lt_of_lt_of_le (hm.lt b hb') hb.size, .inl hb'⟩, fun b hb' hUb => by have := (h4 b hb').1; have := hm.lt b hUb; omega, RvR.lit_any _ _ _ h5 hc⟩
  have kept : ∀ b, b < w.heap.size → w'.heap[b]? = w.heap[b]? := fun b hb' => hb.block b hb'
  have ev : Evo w U ι ob w' U2 ι ob := ⟨hb.os, hb.tape, hb.output, hb.size, fun b hb' => kept b (hm.lt b hb'), k1, fun _ cells _ h => ⟨cells, h, rfl⟩, fun _ rows _ _ own h => ⟨rows, own, h, Nat.le_refl _, fun _ => rfl⟩, fun _ _ keys vals own h => ⟨keys, vals, own, h, rfl⟩,
    fun b hb' _ => kept b hb', fun k o h ho => .inr ⟨k, o, h, ho, rfl⟩, fun b hb' => (k2 b hb').2.imp id .inl⟩
  have hm2 : Mem w' U2 ι ob := by
    refine ⟨fun b hb' => (k2 b hb').1, fun k o hk => ?_, hm.inj⟩
    have hblk := hm.block hk
    refine OR.evo ev rfl (kept _ hblk) ⟨fun h => (k2 _ h).2.resolve_right (by omega), k1 _⟩ (hm.obj k o hk)
  have ht : Took w U ι ob w' U2 ι ob (bs ++ []) := by
    refine ⟨hm2, ev, fun b hb' => ?_⟩
    rw [List.append_nil] at hb'
    obtain ⟨g1, g2, _⟩ := h4 b hb'
    exact ⟨g1, g2, k3 b hb', fun i oi hi _ heq => by have := hm.block hi; omega⟩
  obtain ⟨ι2, t1, t2, t3⟩ := took_v rv v bs [] 0 ι ob k4 ht (by simpa using h3) hab'
  exact ⟨v, U2, ι2, rfl, t1.mem, t1.evo, t3⟩

theorem fnOf_ok {x : V} {u : Value} {f : Nat} {caps : List L} (hx : VR w U ι ob x u) (h : fnOf x = some (f, caps)) : ∃ cs, u = .func (.func f) #[] cs ∧ LF w U ι ob caps cs.toList := by
  unfold fnOf at h
  split at h
  · cases h; simp only [VR, LR] at hx; exact hx
  · cases h
    simp only [VR, LR, DR] at hx
    obtain ⟨cs, h1, h2⟩ := hx
    exact ⟨cs, h1, row_LF h2⟩
  · cases h

theorem call_good (hm : Mem w U ι ob) {C : Nat → List VD → Option RV} (hC : ∀ f ds r, C f ds = some r → SC P f ds r) {dst : Option Nat} {ρ : Operand → V} {ρ' : Operand → Value} (hρ : ∀ x, VR w U ι ob (ρ x) (ρ' x)) {fo : Operand} {args : Array Operand} {argTypes : Array TypeId}
    {f : Nat} {caps : List L} (hf : fnOf (ρ fo) = some (f, caps)) {r : Res} (h : (callQ C dst f (args.toList.map ρ) caps).run ob = some r) (d : Option Nat) (ty : Nat) (pos : String) (after : Array Edge) (guard : Option (Nat × Bool)) :
    ∃ as, (execOp ρ' ⟨d, .call ⟨.value fo, args, argTypes⟩, ty, pos, after, guard⟩).run P w = .ok (.enter f as) w ∧ Calls P f as w (Back w U ι ob r) := by
  unfold callQ at h
  obtain ⟨ds, hds, h⟩ := bind_run h
  obtain ⟨cs, hcs, h⟩ := bind_run h
  obtain ⟨rv, hrv, h⟩ := opt_bind_run h
  obtain ⟨hg, h⟩ := guard_run h
  obtain ⟨caps', hcv, hcl⟩ := fnOf_ok (hρ fo) hf
  obtain ⟨hcall, hsc⟩ := hC _ _ _ hrv
  refine ⟨args.map ρ' ++ caps', ?_, ?_⟩
  · simp [execOp, resolve, hcv, Deferred.ofValue, invoke, hcall]
  · have hvf := map_VF hρ args.toList
    simp only [Bool.or_eq_true, Bool.and_eq_true] at hg
    rcases hg with hlit | ⟨hfa, hfc⟩
    · have hv : VDF w (fun b => b < w.heap.size) (ds ++ cs.map .one) (args.map ρ' ++ caps').toList := by
        rw [Array.toList_append, Array.toList_map]
        exact (args_ok hm _ _ _ hds hvf).append (FR_VDF (toDs_ok hm (fun b hb => hm.lt b hb) (fun _ _ h => hm.block h) _ _ _ _ hcs hcl))
      exact (hsc w _ _ (fun _ h => h) hv).mono fun e w' hp => post_back hm h (fun _ h => h) (.inr hlit) hp
    · have hv : VDF w U (ds ++ cs.map .one) (args.map ρ' ++ caps').toList := by
        rw [Array.toList_append, Array.toList_map]
        refine (args_free _ _ _ hds hfa hvf).append (FR_VDF ?_)
        have := toDs_free 4 caps cs hcs hfc
        subst this
        exact LF_FR hcl
      exact (hsc w U _ hm.lt hv).mono fun e w' hp => post_back hm h hm.lt (.inl fun _ => Iff.rfl) hp

end Go.VE
/- Statements over the data. -/
namespace Go.VE
open Go.RowKit

structure St where
  env : List (Nat × V)
  ob : List (Nat × O)

def getE : List (Nat × V) → Nat → V
  | [], _ => .one .undef
  | (k, v) :: r, t => if t = k then v else getE r t
def getO : List (Nat × O) → Ob
  | [], _ => none
  | (k, o) :: r, j => if j = k then some o else getO r j
def addO : List (Nat × O) → List (Nat × O) → List (Nat × O)
  | [], ob => ob
  | (k, o) :: r, ob => addO r ((k, o) :: ob)

abbrev Cs := Nat → List VD → Option RV

def calleeOf : Op → Option (Operand × List Operand)
  | .call ⟨.value fo, args, _⟩ => some (fo, args.toList)
  | _ => none

def opQ (C : Cs) (P : Program) (dst : Option Nat) (ρ : Operand → V) (op : Op) : Q Res := match calleeOf op with
  | some (fo, args) => match fnOf (ρ fo) with
    | some (f, caps) => callQ C dst f (args.map ρ) caps
    | none => .fail
  | none => aop P dst ρ op

def putS (dst : Option Nat) (v : V) (upd : List (Nat × O)) (st : St) : St := ⟨match dst with | some d => (d, v) :: st.env | none => st.env, addO upd st.ob⟩
def dstOK (nt : Nat) : Option Nat → Bool
  | some d => decide (d < nt)
  | none => true

def runOp {α : Type} (C : Cs) (P : Program) (nt : Nat) (o : Oper) (st : St) (k : St → Option α) : Option α :=
  match (opQ C P o.dst (ev (getE st.env)) o.op).run (getO st.ob) with
  | none => none
  | some r => if dstOK nt o.dst = true then k (putS o.dst r.1 r.2 st) else none

def gateTmp (ops : Array Oper) (j : Nat) : Option Nat := (ops[j]?).bind (·.dst)

def execOps {α : Type} (C : Cs) (P : Program) (nt : Nat) (ops : Array Oper) : List Oper → St → (St → Option α) → Option α
  | [], st, k => k st
  | o :: rest, st, k => match o.guard with
    | none => runOp C P nt o st fun st' => execOps C P nt ops rest st' k
    | some (j, want) => match gateTmp ops j with
      | none => none
      | some gt => match getE st.env gt with
        | .one (.d (.lit (.bool b))) => if b = want then runOp C P nt o ⟨(gt, vlit (.bool want)) :: st.env, st.ob⟩ fun st' => execOps C P nt ops rest st' k
          else execOps C P nt ops rest (putS o.dst (.tup []) [] ⟨(gt, vlit (.bool !want)) :: st.env, st.ob⟩) k
        | .tup [] => execOps C P nt ops rest (putS o.dst (.tup []) [] st) k
        | _ => none

inductive Ex where
  | normal
  | exit (id : Nat)
  | ret

mutual
def L.keysOf : L → List Nat
  | .d _ => []
  | .slk k _ _ _ => [k]
  | .pa k _ _ _ => [k]
  | .ptr k _ => [k]
  | .fn _ caps => L.keysF caps
  | .mk k => [k]
  | .undef => []
def L.keysF : List L → List Nat
  | [] => []
  | x :: xs => x.keysOf ++ L.keysF xs
end
mutual
def V.keysOf : V → List Nat
  | .one x => x.keysOf
  | .agg xs => L.keysF xs
  | .tup xs => V.keysF xs
def V.keysF : List V → List Nat
  | [] => []
  | x :: xs => x.keysOf ++ V.keysF xs
end
def O.keysOf : O → List Nat
  | .box cells _ => L.keysF cells
  | _ => []

def keepE (env : List (Nat × V)) : List Nat → List (Nat × V)
  | [] => []
  | t :: ts => (t, getE env t) :: keepE env ts
def keepO (ob : List (Nat × O)) : List Nat → List (Nat × O)
  | [] => []
  | k :: ks => match getO ob k with
    | some o => (k, o) :: keepO ob ks
    | none => keepO ob ks
def hasK (ob : List (Nat × O)) (k : Nat) : Bool := (getO ob k).isSome
def norm (lv : Option (List Nat × List Nat)) (st : St) : Option St := match lv with
  | none => some st
  | some (ts, ks) =>
    if ((keepE st.env ts).all fun p => p.2.keysOf.all fun k => ks.contains k && hasK st.ob k) && ((keepO st.ob ks).all fun p => p.2.keysOf.all fun k => ks.contains k && hasK st.ob k)
    then some ⟨keepE st.env ts, keepO st.ob ks⟩ else none

structure Cfg where
  C : Cs
  live : Nat → Option (List Nat × List Nat)
  draw : Nat → Array Oper → List (Nat × Nat)

/-- A region that draws its order: the order of the text; what is read and written is noted where it must be held apart. -/
def execD {α : Type} (C : Cs) (P : Program) (nt : Nat) (ops : Array Oper) (pairs : List (Nat × Nat)) : List Oper → Nat → List (List Nat × List Nat) → St → (St → Option α) → Option α
  | [], _, _, st, k => k st
  | o :: rest, i, log, st, k =>
    let go (st : St) : Option α :=
      match (opQ C P o.dst (ev (getE st.env)) o.op).run (getO st.ob) with
      | none => none
      | some r =>
        let rw := ((opQ C P o.dst (ev (getE st.env)) o.op).reads (getO st.ob), r.2.map (·.1))
        if dstOK nt o.dst && (pairs.all fun p => if p.2 = i then (match log[p.1]? with
            | some (rj, wj) => (wj.all fun x => !(rw.1.contains x) && !(rw.2.contains x)) && (rj.all fun x => !(rw.2.contains x))
            | none => false) else true)
        then execD C P nt ops pairs rest (i + 1) (log ++ [rw]) (putS o.dst r.1 r.2 st) k else none
    match o.guard with
    | none => go st
    | some (j, want) => match gateTmp ops j with
      | none => none
      | some gt => match getE st.env gt with
        | .one (.d (.lit (.bool b))) => if b = want then go ⟨(gt, vlit (.bool want)) :: st.env, st.ob⟩
          else execD C P nt ops pairs rest (i + 1) (log ++ [([], [])]) (putS o.dst (.tup []) [] ⟨(gt, vlit (.bool !want)) :: st.env, st.ob⟩) k
        | .tup [] => execD C P nt ops pairs rest (i + 1) (log ++ [([], [])]) (putS o.dst (.tup []) [] st) k
        | _ => none

def condE (env : List (Nat × V)) (c : Operand) : Option (Bool × Option Nat) := match c with
  | .tmp t => match getE env t with
    | .one (.d (.lit (.bool b))) => some (b, some t)
    | _ => none
  | .const (.bool b) => some (b, none)
  | _ => none
def refine_ (st : St) (t : Option Nat) (b : Bool) : St := match t with
  | some t => ⟨(t, vlit (.bool b)) :: st.env, st.ob⟩
  | none => st

def exec {α : Type} (cfg : Cfg) (P : Program) (nt : Nat) : Nat → Nat → Code → St → (Ex → St → Option α) → Option α
  | 0, _, _, _, _ => none
  | n + 1, cur, c, st, k => match c with
    | .skip => k .normal st
    | .label _ => k .normal st
    | .ret => k .ret st
    | .exit id => k (.exit id) st
    | .region id ops draw => match draw with
      | false => execOps cfg.C P nt ops ops.toList st (k .normal)
      | true => match cfg.draw id ops with
        | [] => execOps cfg.C P nt ops ops.toList st (k .normal)
        | p :: ps => execD cfg.C P nt ops (p :: ps) ops.toList 0 [] st (k .normal)
    | .seq a b => exec cfg P nt n cur a st fun e st' => match e with
      | .normal => exec cfg P nt n cur b st' k
      | .exit i => k (.exit i) st'
      | .ret => k .ret st'
    | .cond c a b => match condE st.env c with
      | none => none
      | some (t, rt) => if t = true then exec cfg P nt n cur a (refine_ st rt true) k else exec cfg P nt n cur b (refine_ st rt false) k
    | .block id c => exec cfg P nt n id c st fun e st' => match e with
      | .normal => k .normal st'
      | .ret => k .ret st'
      | .exit i => if i = id then (match norm (cfg.live id) st' with
          | some st'' => k .normal st''
          | none => none) else k (.exit i) st'
    | .loop c => match norm (cfg.live cur) st with
      | none => none
      | some st0 => exec cfg P nt n cur c st0 fun e st' => match e with
        | .normal => exec cfg P nt n cur (.loop c) st' k
        | .exit i => k (.exit i) st'
        | .ret => k .ret st'
    | _ => none

end Go.VE
/- Statements over the data are followed by the machine. -/
namespace Go.VE
open Go.RowKit

variable {P : Program}

/-- The activation and memory follow the data. -/
def Sim (w0 : World) (U0 : Nat → Prop) (nt : Nat) (env : Nat → V) (ob : Ob) (a : Act) (w : World) : Prop :=
  ∃ (U : Nat → Prop) (ι0 ι : Pl), Mem w U ι ob ∧ Evo w0 U0 ι0 (fun _ => none) w U ι ob ∧ a.defers = [] ∧ a.tmps.size = nt ∧ ∀ t, VR w U ι ob (env t) (a.tmps.getD t undef)

abbrev SimS (w0 : World) (U0 : Nat → Prop) (nt : Nat) (st : St) (a : Act) (w : World) : Prop := Sim w0 U0 nt (getE st.env) (getO st.ob) a w

theorem getO_addO : ∀ (u ob : List (Nat × O)), getO (addO u ob) = putO (getO ob) u
  | [], ob => rfl
  | (k, o) :: r, ob => by
    simp only [addO, putO]
    rw [getO_addO r]
    congr 1

theorem constV_VR {w : World} {U : Nat → Prop} {ι : Pl} {ob : Ob} (v : Value) : VR w U ι ob (constV v) v := by
  have one : ∀ v : Value, plain v = true → VR w U ι ob (.one (.d (.lit v))) v := fun v h => vlit_VR h
  have und : ∀ v : Value, VR w U ι ob (.one .undef) v := fun v => by simp [VR, LR]
  cases v with
  | agg cs =>
    simp only [constV]
    split
    · rename_i h
      simp only [VR]
      exact ⟨cs, rfl, litsL_LF h⟩
    · exact und _
  | _ => simp only [constV]; split <;> first | exact one _ ‹_› | exact und _

theorem ev_VR {w : World} {U : Nat → Prop} {ι : Pl} {ob : Ob} {env : Nat → V} {a : Act} (h : ∀ t, VR w U ι ob (env t) (a.tmps.getD t undef)) : ∀ x, VR w U ι ob (ev env x) (a.eval x)
  | .tmp t => h t
  | .const v => constV_VR v
  | .global g => by simp [ev, VR, LR]
  | .func f => by simp only [ev, Act.eval, VR, LR]; exact ⟨#[], rfl, by simp [LF]⟩

def putF (dst : Option Nat) (v : V) (env : Nat → V) : Nat → V := fun t => if dst = some t then v else env t

theorem getE_putS (dst : Option Nat) (v : V) (upd : List (Nat × O)) (st : St) : getE (putS dst v upd st).env = putF dst v (getE st.env) := by
  funext t
  cases dst with
  | none => simp [putS, putF]
  | some d =>
    simp only [putS, getE, putF, Option.some.injEq]
    by_cases h : t = d
    · simp [h]
    · simp [h, Ne.symm h]

theorem put_size (a : Act) (dst : Option Nat) (v : Value) : (a.put dst v).tmps.size = a.tmps.size := by cases dst <;> simp [Act.put]
theorem put_defers (a : Act) (dst : Option Nat) (v : Value) : (a.put dst v).defers = a.defers := by cases dst <;> rfl
theorem put_get (a : Act) (dst : Option Nat) (v : Value) (t : Nat) (hd : ∀ d, dst = some d → d < a.tmps.size) : (a.put dst v).tmps.getD t undef = if dst = some t then v else a.tmps.getD t undef := by
  cases dst with
  | none => simp [Act.put]
  | some d =>
    have := hd d rfl
    simp only [Act.put, Option.some.injEq, Array.getD_eq_getD_getElem?, Array.getElem?_setIfInBounds]
    by_cases h : d = t
    · subst h; simp [this]
    · simp [h]

/-- One operation put. -/
theorem sim_put {w0 w w' : World} {U0 U U' : Nat → Prop} {ι0 ι ι' : Pl} {nt : Nat} {env : Nat → V} {ob : Ob} {a : Act} {dst : Option Nat} {v : V} {u : Value} {upd : List (Nat × O)}
    (he0 : Evo w0 U0 ι0 (fun _ => none) w U ι ob) (hdf : a.defers = []) (hsz : a.tmps.size = nt) (hv : ∀ t, VR w U ι ob (env t) (a.tmps.getD t undef)) (hd : dstOK nt dst = true)
    (hm : Mem w' U' ι' (putO ob upd)) (he : Evo w U ι ob w' U' ι' (putO ob upd)) (hu : VR w' U' ι' (putO ob upd) v u) : Sim w0 U0 nt (putF dst v env) (putO ob upd) (a.put dst u) w' := by
  refine ⟨U', ι0, ι', hm, he0.trans he, by rw [put_defers, hdf], by rw [put_size, hsz], fun t => ?_⟩
  rw [put_get a dst u t (fun d hdd => by rw [hdd] at hd; rw [hsz]; simpa [dstOK] using hd)]
  simp only [putF]
  split
  · exact hu
  · exact VR.evo he _ _ (hv t)

theorem calleeOf_some {op : Op} {fo : Operand} {args : List Operand} (h : calleeOf op = some (fo, args)) : ∃ (as : Array Operand) (ts : Array TypeId), op = .call ⟨.value fo, as, ts⟩ ∧ args = as.toList := by
  unfold calleeOf at h
  split at h
  · cases h; exact ⟨_, _, rfl, rfl⟩
  · cases h

theorem opQ_wp {C : Cs} (hC : ∀ f ds r, C f ds = some r → SC P f ds r) {w0 w : World} {U0 : Nat → Prop} {nt : Nat} {env : Nat → V} {ob : Ob} {a : Act} {o : Oper} {r : Res} (hs : Sim w0 U0 nt env ob a w)
    (h : (opQ C P o.dst (ev env) o.op).run ob = some r) (hd : dstOK nt o.dst = true) {K : Act → World → Prop} {R : Exit → Act → World → Prop} (hK : ∀ a' w', Sim w0 U0 nt (putF o.dst r.1 env) (putO ob r.2) a' w' → K a' w') : o.wp P a w K R := by
  obtain ⟨U, ι0, ι, hm, he0, hdf, hsz, hv⟩ := hs
  have hρ := ev_VR hv
  unfold opQ at h
  split at h
  · rename_i fo args hc
    obtain ⟨as, ts, hop, rfl⟩ := calleeOf_some hc
    split at h
    · rename_i f caps hf
      obtain ⟨d, op, ty, pos, after, guard⟩ := o
      simp only at hop h hd hK
      subst hop
      obtain ⟨vs, h1, h2⟩ := call_good hm hC hρ hf h d ty pos after guard
      unfold Oper.wp
      rw [h1]
      simp only [Oper.upon]
      exact h2.mono fun e w' ⟨v, U', ι', he, m1, m2, m3⟩ => by
        subst he
        exact hK _ _ (sim_put he0 hdf hsz hv hd m1 m2 m3)
    · simp [Q.run] at h
  · obtain ⟨nx, w', U', ι', h1, m1, m2, m3⟩ := aop_good (P := P) hm hρ o h
    unfold Oper.wp
    rw [h1]
    rcases m3 with ⟨v, rfl, m3⟩ | ⟨rfl, m3⟩
    · exact hK _ _ (sim_put he0 hdf hsz hv hd m1 m2 m3)
    · exact hK _ _ (sim_put he0 hdf hsz hv hd m1 m2 (by rw [m3]; simp [VR, LR]))

theorem sim_skip {w0 w : World} {U0 : Nat → Prop} {nt : Nat} {env : Nat → V} {ob : Ob} {a : Act} (hs : Sim w0 U0 nt env ob a w) (dst : Option Nat) : Sim w0 U0 nt (putF dst (.tup []) env) ob (a.put dst undef) w := by
  obtain ⟨U, ι0, ι, hm, he0, hdf, hsz, hv⟩ := hs
  refine ⟨U, ι0, ι, hm, he0, by rw [put_defers, hdf], by rw [put_size, hsz], fun t => ?_⟩
  have und : VR w U ι ob (.tup []) undef := by simp only [VR, VF]; exact ⟨#[], rfl, rfl⟩
  simp only [putF]
  cases dst with
  | none => simpa [Act.put] using hv t
  | some d =>
    simp only [Act.put, Option.some.injEq, Array.getD_eq_getD_getElem?, Array.getElem?_setIfInBounds]
    by_cases h : d = t
    · subst h
      simp only [if_true]
      split <;> exact und
    · have := hv t
      rw [Array.getD_eq_getD_getElem?] at this
      simpa [h] using this

theorem yielded_bool {w : World} {U : Nat → Prop} {ι : Pl} {ob : Ob} {env : Nat → V} {a : Act} {ops : Array Oper} {j gt : Nat} {b : Bool} (hv : ∀ t, VR w U ι ob (env t) (a.tmps.getD t undef)) (hg : gateTmp ops j = some gt) (he : env gt = .one (.d (.lit (.bool b)))) :
    yielded ops a.tmps j = some b := by
  have := hv gt
  rw [he] at this
  simp only [VR, LR, DR] at this
  have h1 := this.1
  rw [Array.getD_eq_getD_getElem?] at h1
  unfold yielded
  unfold gateTmp at hg
  rw [hg]
  simp only [Option.bind_some]
  cases hx : a.tmps[gt]? with
  | none => rw [hx] at h1; simp [undef] at h1
  | some x => rw [hx] at h1; simp at h1; subst h1; rfl

theorem yielded_none {w : World} {U : Nat → Prop} {ι : Pl} {ob : Ob} {env : Nat → V} {a : Act} {ops : Array Oper} {j gt : Nat} (hv : ∀ t, VR w U ι ob (env t) (a.tmps.getD t undef)) (hg : gateTmp ops j = some gt) (he : env gt = .tup []) :
    yielded ops a.tmps j = none := by
  have := hv gt
  rw [he] at this
  simp only [VR, VF] at this
  obtain ⟨vs, h1, h2⟩ := this
  rw [Array.getD_eq_getD_getElem?] at h1
  unfold yielded
  unfold gateTmp at hg
  rw [hg]
  simp only [Option.bind_some]
  cases hx : a.tmps[gt]? with
  | none => rfl
  | some x => rw [hx] at h1; simp at h1; subst h1; rfl

theorem getE_same {env : List (Nat × V)} {gt : Nat} {b c : Bool} (he : getE env gt = .one (.d (.lit (.bool b)))) (hb : b = c) : getE ((gt, vlit (.bool c)) :: env) = getE env := by
  funext t
  simp only [getE]
  split
  · rename_i h; subst h; rw [he, ← hb]; rfl
  · rfl

theorem execOps_sound {C : Cs} (hC : ∀ f ds r, C f ds = some r → SC P f ds r) {α : Type} {nt : Nat} {ops : Array Oper} {r : α} {w0 : World} {U0 : Nat → Prop} {Q : Exit → Act → World → Prop} : ∀ {rest : List Oper} {st : St} {k : St → Option α} {a : Act} {w : World},
    execOps C P nt ops rest st k = some r → SimS w0 U0 nt st a w → (∀ st' a' w', k st' = some r → SimS w0 U0 nt st' a' w' → Q .normal a' w') → wpList P ops Q rest a w
  | [], st, k, a, w, h, hs, hQ => hQ st a w h hs
  | o :: rest, st, k, a, w, h, hs, hQ => by
    have run : ∀ (st : St) , SimS w0 U0 nt st a w → (runOp C P nt o st fun st' => execOps C P nt ops rest st' k) = some r → o.wp P a w (wpList P ops Q rest) Q := by
      intro st hs h
      unfold runOp at h
      split at h
      · cases h
      · rename_i res hres
        split at h
        · rename_i hd
          refine opQ_wp hC hs hres hd fun a' w' hs' => execOps_sound hC h ?_ hQ
          unfold SimS
          rw [getE_putS]
          simp only [putS, getO_addO]
          exact hs'
        · cases h
    have skip : ∀ (st : St), SimS w0 U0 nt st a w → execOps C P nt ops rest (putS o.dst (.tup []) [] st) k = some r → wpList P ops Q rest (a.put o.dst undef) w := by
      intro st hs h
      refine execOps_sound hC h ?_ hQ
      unfold SimS
      rw [getE_putS]
      simp only [putS, addO]
      exact sim_skip hs o.dst
    unfold execOps at h
    unfold wpList
    cases hg : o.guard with
    | none =>
      rw [hg] at h
      rw [if_pos (by simp [Region.wanted, hg])]
      exact .inl (run st hs h)
    | some jw =>
      obtain ⟨j, want⟩ := jw
      rw [hg] at h
      simp only at h
      split at h
      · cases h
      · rename_i gt hgt
        split at h
        · rename_i b he
          have hy : yielded ops a.tmps j = some b := by
            obtain ⟨U, ι0, ι, hm, he0, hdf, hsz, hv⟩ := hs
            exact yielded_bool hv hgt he
          by_cases hb : b = want
          · rw [if_pos hb] at h
            rw [if_pos (by simp [Region.wanted, hg, hy, hb])]
            refine .inl (run _ ?_ h)
            unfold SimS
            rw [getE_same he hb]
            exact hs
          · rw [if_neg hb] at h
            rw [if_neg (by simp [Region.wanted, hg, hy, hb])]
            refine skip _ ?_ h
            unfold SimS
            rw [getE_same he (by cases b <;> cases want <;> simp_all)]
            exact hs
        · rename_i he
          have hy : yielded ops a.tmps j = none := by
            obtain ⟨U, ι0, ι, hm, he0, hdf, hsz, hv⟩ := hs
            exact yielded_none hv hgt he
          rw [if_neg (by simp [Region.wanted, hg, hy])]
          exact skip st hs h
        · cases h

end Go.VE
/- Regions that draw their order. -/
namespace Go.VE
open Go.RowKit

variable {P : Program}

/-- 0: neither reads nor writes memory · 1: reads · 2: whatever. -/
def clsOf : Op → Nat
  | .move _ | .assign _ | .pick .. | .build .. | .binOp .. | .unOp .. | .extract .. | .field .. | .fieldAddr .. | .makeFunc .. | .nilCheck _ => 0
  | .load .. | .indexAddr .. | .slice .. | .lookup .. => 1
  | .call ⟨.builtin .len, _, _⟩ | .call ⟨.builtin .min, _, _⟩ | .call ⟨.builtin .max, _, _⟩ => 0
  | _ => 2

def memFree (a b : Op) : Bool := clsOf a == 0 || clsOf b == 0 || (clsOf a == 1 && clsOf b == 1)

def regOK (ops : Array Oper) (pairs : List (Nat × Nat)) : Bool :=
  (List.range ops.size).all fun i => match ops[i]? with
    | none => true
    | some oi => (oi.after.toList.all fun e => !Region.binds .any e || decide (e.on < i)) &&
      (List.range i).all fun j => match ops[j]? with
        | none => true
        | some oj => (oi.after.toList.any fun e => Region.binds .any e && e.on == j) || (Oper.apart ops oj oi && (memFree oj.op oi.op || pairs.contains (j, i)))

/-! ### what an operation reads and writes -/
def NG (q : Q Res) : Prop := q = .fail ∨ ∃ v, q = .ret (v, [])
theorem NG.ret (v : V) : NG (.ret (v, [])) := .inr ⟨v, rfl⟩
theorem NG.fail : NG .fail := .inl rfl
theorem NG.opt {α : Type} (o : Option α) {f : α → Q Res} (h : ∀ a, NG (f a)) : NG ((Q.opt o).bind f) := by cases o with | none => exact .inl rfl | some a => exact h a
theorem NG.pure (o : Option V) : NG (pureR o) := NG.opt o fun v => NG.ret v
theorem NG.guard {b : Bool} {q : Q Res} (h : NG q) : NG (Q.guard b q) := by cases b with | false => exact .inl rfl | true => exact h
theorem NG.reads {q : Q Res} (h : NG q) (ob : Ob) : q.reads ob = [] := by rcases h with rfl | ⟨v, rfl⟩ <;> rfl
theorem NG.upd {q : Q Res} (h : NG q) {ob : Ob} {r : Res} (hr : q.run ob = some r) : r.2 = [] := by
  rcases h with rfl | ⟨v, rfl⟩
  · simp [Q.run] at hr
  · simp [Q.run] at hr; subst hr; rfl

def NU (q : Q Res) : Prop := ∀ ob r, q.run ob = some r → r.2 = []
theorem NG.nu {q : Q Res} (h : NG q) : NU q := fun _ _ hr => h.upd hr
theorem NU.opt {α : Type} (o : Option α) {f : α → Q Res} (h : ∀ a, NU (f a)) : NU ((Q.opt o).bind f) := by cases o with | none => exact NG.fail.nu | some a => exact h a
theorem NU.guard {b : Bool} {q : Q Res} (h : NU q) : NU (Q.guard b q) := by cases b with | false => exact NG.fail.nu | true => exact h
theorem NU.get {k : Nat} {f : Option O → Q Res} (h : ∀ o, NU (f o)) : NU (.get k f) := fun ob r hr => h _ ob r (by simpa only [Q.run] using hr)
theorem NU.last {α : Type} (q : Q α) {f : α → Q Res} (h : ∀ a, NU (f a)) : NU (q.bind f) := fun ob r hr => by
  rw [Q.run_bind] at hr
  cases hq : q.run ob with
  | none => rw [hq] at hr; cases hr
  | some a => rw [hq] at hr; exact h a ob r hr

theorem opQ_ng {C : Cs} {dst : Option Nat} {ρ : Operand → V} {op : Op} (h : clsOf op = 0) : NG (opQ C P dst ρ op) := by
  unfold clsOf at h
  split at h <;> first | (exact absurd h (by decide)) | skip
  all_goals simp only [opQ, calleeOf, aop]
  case h_1 => exact NG.ret _
  case h_2 => exact NG.ret _
  case h_3 => exact NG.pure _
  case h_4 => exact NG.opt _ fun _ => NG.guard (NG.pure _)
  case h_5 => exact NG.pure _
  case h_6 => exact NG.pure _
  case h_7 => split; exact NG.pure _; exact NG.fail
  case h_8 => exact NG.opt _ fun _ => by split; exact NG.pure _; exact NG.fail
  case h_9 => exact NG.opt _ fun _ => NG.pure _
  case h_10 => split; exact NG.ret _; exact NG.fail
  case h_11 => split <;> first | exact NG.ret _ | exact NG.fail
  case h_16 =>
    split
    · split
      · split
        · exact NG.pure _
        · exact NG.guard (NG.pure _)
      · exact NG.fail
    · exact NG.fail
  case h_17 => exact NG.pure _
  case h_18 => exact NG.pure _

theorem opQ_nu {C : Cs} {dst : Option Nat} {ρ : Operand → V} {op : Op} (h : clsOf op = 1) : NU (opQ C P dst ρ op) := by
  unfold clsOf at h
  split at h <;> first | (exact absurd h (by decide)) | skip
  all_goals simp only [opQ, calleeOf, aop]
  case h_12 =>
    refine NU.opt _ fun _ => NU.opt _ fun _ => ?_
    unfold loadQ
    split
    · refine NU.get fun o => ?_
      split
      · exact (NG.pure _).nu
      · exact NG.fail.nu
    · refine NU.get fun o => ?_
      split
      · exact NU.guard (NU.opt _ fun _ => (NG.pure _).nu)
      · exact NG.fail.nu
    · exact (NG.pure _).nu
    · exact NG.fail.nu
  case h_13 =>
    have hi : ∀ a es x i, NU (indexQ a es x i) := by
      intro a es x i
      unfold indexQ
      split
      · exact (NG.pure _).nu
      · split
        · refine NU.get fun o => ?_
          split
          · exact NU.guard (NG.pure _).nu
          · exact NG.fail.nu
        · exact NU.guard (NG.pure _).nu
        · exact NG.fail.nu
    refine NU.opt _ fun _ => ?_
    split
    · exact NU.opt _ fun _ => hi _ _ _ _
    · exact NU.opt _ fun _ => hi _ _ _ _
    · exact NG.fail.nu
  case h_14 =>
    refine NU.guard (NU.opt _ fun _ => NU.opt _ fun _ => NU.opt _ fun _ => NU.opt _ fun _ => ?_)
    unfold cutQ
    split
    · refine NU.get fun o => ?_
      split
      · exact NU.guard (NG.pure _).nu
      · exact NG.fail.nu
    · exact NU.guard (NG.pure _).nu
    · exact (NG.pure _).nu
    · exact NG.fail.nu
  case h_15 =>
    refine NU.opt _ fun _ => NU.opt _ fun _ => NU.opt _ fun _ => NU.opt _ fun _ => NU.opt _ fun _ => NU.guard ?_
    unfold lookQ
    exact NU.last _ fun _ => (NG.ret _).nu

/-! ### the text's order, and any other one -/
abbrev X := (Nat → V) × Ob

def app (o : Oper) (r : Option Res) (x : X) : X := match r with
  | some q => (putF o.dst q.1 x.1, putO x.2 q.2)
  | none => (putF o.dst (.tup []) x.1, x.2)
def wr : Option Res → List Nat
  | some q => q.2.map (·.1)
  | none => []

def gateSt (ops : Array Oper) (o : Oper) (env : Nat → V) (go : Bool) : Prop := match o.guard with
  | none => go = true
  | some (j, want) => ∃ gt, gateTmp ops j = some gt ∧ ((∃ b, env gt = .one (.d (.lit (.bool b))) ∧ go = decide (b = want)) ∨ (env gt = .tup [] ∧ go = false))

structure OkAt (C : Cs) (P : Program) (nt : Nat) (ops : Array Oper) (o : Oper) (x : X) (r : Option Res) (R : List Nat) : Prop where
  gate : gateSt ops o x.1 r.isSome
  run : ∀ q, r = some q → (opQ C P o.dst (ev x.1) o.op).run x.2 = some q ∧ (opQ C P o.dst (ev x.1) o.op).reads x.2 = R ∧ dstOK nt o.dst = true
  skip : r = none → R = []

theorem putF_congr {dst : Option Nat} {v : V} {e e' : Nat → V} {t : Nat} (h : e t = e' t) : putF dst v e t = putF dst v e' t := by simp only [putF]; split <;> simp [h]
theorem putF_ne {dst : Option Nat} {v : V} {e : Nat → V} {t : Nat} (h : dst ≠ some t) : putF dst v e t = e t := by simp [putF, h]
theorem putO_congr : ∀ {u : List (Nat × O)} {b b' : Ob} {k : Nat}, b k = b' k → putO b u k = putO b' u k
  | [], _, _, _, h => h
  | (j, o) :: u, b, b', k, h => by
    simp only [putO]
    exact putO_congr (u := u) (by simp only [put1]; split <;> simp [h])
theorem putO_ne : ∀ {u : List (Nat × O)} {b : Ob} {k : Nat}, k ∉ u.map (·.1) → putO b u k = b k
  | [], _, _, _ => rfl
  | (j, o) :: u, b, k, h => by
    simp only [List.map_cons, List.mem_cons, not_or] at h
    simp only [putO]
    rw [putO_ne h.2]
    simp [put1, h.1]
theorem putO_get : ∀ {u : List (Nat × O)} {b b' : Ob} {k : Nat}, k ∈ u.map (·.1) → putO b u k = putO b' u k
  | (j, o) :: u, b, b', k, h => by
    simp only [putO]
    by_cases hk : k ∈ u.map (·.1)
    · exact putO_get hk
    · rw [putO_ne hk, putO_ne hk]
      simp only [List.map_cons, List.mem_cons] at h
      rcases h with rfl | h
      · simp [put1]
      · exact absurd h hk

theorem app_1 {o : Oper} {r : Option Res} {x y : X} {t : Nat} (h : x.1 t = y.1 t) : (app o r x).1 t = (app o r y).1 t := by cases r <;> exact putF_congr h
theorem app_2 {o : Oper} {r : Option Res} {x y : X} {k : Nat} (h : x.2 k = y.2 k) : (app o r x).2 k = (app o r y).2 k := by cases r with | none => exact h | some q => exact putO_congr h
theorem app_ne1 {o : Oper} {r : Option Res} {x : X} {t : Nat} (h : o.dst ≠ some t) : (app o r x).1 t = x.1 t := by cases r <;> exact putF_ne h
theorem app_ne2 {o : Oper} {r : Option Res} {x : X} {k : Nat} (h : k ∉ wr r) : (app o r x).2 k = x.2 k := by cases r with | none => rfl | some q => exact putO_ne h
theorem app_comm {o o' : Oper} {r r' : Option Res} {x : X} (hd : ∀ d, o.dst = some d → o'.dst ≠ some d) (hw : ∀ k ∈ wr r, k ∉ wr r') : app o r (app o' r' x) = app o' r' (app o r x) := by
  refine Prod.ext (funext fun t => ?_) (funext fun k => ?_)
  · by_cases h : o.dst = some t
    · rw [app_ne1 (o := o') (hd t h)]
      have : ∀ (y z : X), (app o r y).1 t = (app o r z).1 t := by intro y z; cases r <;> simp [app, putF, h]
      exact this _ _
    · rw [app_ne1 h]
      exact app_1 (app_ne1 h).symm
  · by_cases h : k ∈ wr r
    · rw [app_ne2 (o := o') (hw k h)]
      cases r with
      | none => simp [wr] at h
      | some q => exact putO_get h
    · rw [app_ne2 h]
      exact app_2 (app_ne2 h).symm

def T (o : Nat → Oper) (r : Nat → Option Res) (L : Nat → Bool) (x0 : X) : Nat → X
  | 0 => x0
  | i + 1 => if L i = true then app (o i) (r i) (T o r L x0 i) else T o r L x0 i

structure Far (ops : Array Oper) (o : Nat → Oper) (r : Nat → Option Res) (R : Nat → List Nat) (j i : Nat) : Prop where
  ji : ∀ d, (o j).dst = some d → d ∉ (o i).looksAt ops
  dd : ∀ d, (o j).dst = some d → (o i).dst ≠ some d
  ij : ∀ d, (o i).dst = some d → d ∉ (o j).looksAt ops
  wrd : ∀ k ∈ wr (r j), k ∉ R i
  ww : ∀ k ∈ wr (r j), k ∉ wr (r i)
  rdw : ∀ k ∈ R j, k ∉ wr (r i)

structure Plan (ops : Array Oper) (n : Nat) (o : Nat → Oper) (r : Nat → Option Res) (R : Nat → List Nat) (E : Nat → Nat → Prop) : Prop where
  lt : ∀ j i, E j i → j < i
  far : ∀ j i, j < i → i < n → ¬E j i → Far ops o r R j i

section
variable {ops : Array Oper} {n : Nat} {o : Nat → Oper} {r : Nat → Option Res} {R : Nat → List Nat} {E : Nat → Nat → Prop} {L : Nat → Bool} {x0 : X}

def Ag (ops : Array Oper) (o : Nat → Oper) (R : Nat → List Nat) (i : Nat) (x y : X) : Prop := (∀ t ∈ (o i).looksAt ops, x.1 t = y.1 t) ∧ ∀ k ∈ R i, x.2 k = y.2 k

theorem agree_low (hp : Plan ops n o r R E) {i : Nat} (hi : i < n) (he : ∀ j, E j i → L j = true) : ∀ m, m ≤ i → Ag ops o R i (T o r L x0 m) (T o r (fun _ => true) x0 m)
  | 0, _ => ⟨fun _ _ => rfl, fun _ _ => rfl⟩
  | m + 1, hm => by
    have ih := agree_low hp hi he m (by omega)
    simp only [T, if_true]
    by_cases hl : L m = true
    · rw [if_pos hl]
      exact ⟨fun t ht => app_1 (ih.1 t ht), fun k hk => app_2 (ih.2 k hk)⟩
    · rw [if_neg hl]
      have hf := hp.far m i (by omega) hi fun h => hl (he m h)
      refine ⟨fun t ht => ?_, fun k hk => ?_⟩
      · rw [app_ne1 (fun h => hf.ji t h ht)]; exact ih.1 t ht
      · rw [app_ne2 (fun h => hf.wrd k h hk)]; exact ih.2 k hk

theorem agree_high (hp : Plan ops n o r R E) {i : Nat} (hi : i < n) (hL : L i = false) (hc : ∀ j, j < n → L j = true → ∀ e, E e j → L e = true) : ∀ m, i ≤ m → m ≤ n → Ag ops o R i (T o r L x0 m) (T o r L x0 i)
  | 0, h, _ => by have : i = 0 := by omega
                  subst this; exact ⟨fun _ _ => rfl, fun _ _ => rfl⟩
  | m + 1, h, hm => by
    by_cases hi' : i = m + 1
    · subst hi'; exact ⟨fun _ _ => rfl, fun _ _ => rfl⟩
    · have ih := agree_high hp hi hL hc m (by omega) (by omega)
      simp only [T]
      by_cases hl : L m = true
      · rw [if_pos hl]
        have hne : i ≠ m := fun h => by subst h; rw [hL] at hl; cases hl
        have hf := hp.far i m (by omega) (by omega) fun h => by have := hc m (by omega) hl i h; rw [hL] at this; cases this
        refine ⟨fun t ht => ?_, fun k hk => ?_⟩
        · rw [app_ne1 (fun h => hf.ij t h ht)]; exact ih.1 t ht
        · rw [app_ne2 (fun h => hf.rdw k hk h)]; exact ih.2 k hk
      · rw [if_neg hl]; exact ih

theorem agree (hp : Plan ops n o r R E) {i : Nat} (hi : i < n) (hL : L i = false) (he : ∀ j, E j i → L j = true) (hc : ∀ j, j < n → L j = true → ∀ e, E e j → L e = true) : Ag ops o R i (T o r L x0 n) (T o r (fun _ => true) x0 i) := by
  have h1 := agree_high (x0 := x0) (r := r) hp hi hL hc n (by omega) (Nat.le_refl _)
  have h2 := agree_low (x0 := x0) hp hi he i (Nat.le_refl _)
  exact ⟨fun t ht => (h1.1 t ht).trans (h2.1 t ht), fun k hk => (h1.2 k hk).trans (h2.2 k hk)⟩

theorem insert_last (hp : Plan ops n o r R E) {i : Nat} (hi : i < n) (hL : L i = false) (hc : ∀ j, j < n → L j = true → ∀ e, E e j → L e = true) {L' : Nat → Bool} (hL' : ∀ j, L' j = (L j || j == i)) :
    ∀ m, m ≤ n → T o r L' x0 m = if i < m then app (o i) (r i) (T o r L x0 m) else T o r L x0 m
  | 0, _ => by simp [T]
  | m + 1, hm => by
    have ih := insert_last hp hi hL hc hL' m (by omega)
    simp only [T]
    by_cases h : m = i
    · subst h
      rw [if_pos (by rw [hL']; simp), if_pos (by omega), ih, if_neg (by omega), hL]
      simp
    · have e1 : L' m = L m := by rw [hL']; simp [h]
      rw [e1]
      by_cases hl : L m = true
      · rw [if_pos hl, if_pos hl, ih]
        by_cases him : i < m
        · rw [if_pos him, if_pos (by omega)]
          have hf := hp.far i m him (by omega) fun h => by have := hc m (by omega) hl i h; rw [hL] at this; cases this
          exact (app_comm hf.dd hf.ww).symm
        · rw [if_neg him, if_neg (by omega)]
      · rw [if_neg hl, if_neg hl, ih]
        by_cases him : i < m
        · rw [if_pos him, if_pos (by omega)]
        · rw [if_neg him, if_neg (by omega)]
end
end Go.VE
/- Regions that draw their order, the join. -/
namespace Go.VE
open Go.RowKit

variable {P : Program}

theorem oInt_congr {ρ ρ' : Operand → V} (o : Option Operand) (h : ∀ x ∈ o, ρ x = ρ' x) : oInt ρ o = oInt ρ' o := by
  cases o with
  | none => rfl
  | some x => simp only [oInt, h x rfl]

theorem rowsOf_congr {ρ ρ' : Operand → V} {s : Nat} : ∀ (ps : List (Nat × Operand)) (rows : List (List D)), (∀ p ∈ ps, ρ p.2 = ρ' p.2) → rowsOf ρ s rows ps = rowsOf ρ' s rows ps
  | [], _, _ => rfl
  | (i, x) :: ps, rows, h => by
    simp only [rowsOf, h (i, x) (by simp)]
    congr 1
    funext cs
    congr 1
    congr 1
    funext q
    rw [rowsOf_congr ps _ fun p hp => h p (by simp [hp])]

theorem aop_congr {dst : Option Nat} {ρ ρ' : Operand → V} (op : Op) (h : ∀ x ∈ op.operands, ρ x = ρ' x) : aop P dst ρ op = aop P dst ρ' op := by
  cases op <;> simp only [Op.operands] at h <;> simp only [aop]
  case build t ps =>
    have : (ps.toList.map fun p => (p.1, ρ p.2)) = ps.toList.map fun p => (p.1, ρ' p.2) := List.map_congr_left fun p hp => by rw [h p.2 (by simp only [List.mem_toArray, List.mem_map]; exact ⟨p, hp, rfl⟩)]
    rw [this]
  case buildSlice t n ps =>
    have : ∀ s rows, rowsOf ρ s rows ps.toList = rowsOf ρ' s rows ps.toList := fun s rows => rowsOf_congr _ _ fun p hp => h p.2 (by simp only [List.mem_toArray, List.mem_map]; exact ⟨p, hp, rfl⟩)
    simp only [this]
  case makeFunc fn first captured =>
    have : captured.toList.map ρ = captured.toList.map ρ' := List.map_congr_left fun x hx => h x (by simp; exact .inr (by simpa using hx))
    rw [this]
  case makeMap t r => cases r <;> rfl
  case slice t x lo hi mx =>
    rw [oInt_congr lo fun x hx => h x (by simp at hx; subst hx; simp), oInt_congr hi fun x hx => h x (by simp at hx; subst hx; simp), h x (by simp)]
  case call c =>
    have e : c.args.toList.map ρ = c.args.toList.map ρ' := List.map_congr_left fun x hx => h x (by simp only [Call.operands]; simp at hx; cases c.callee <;> simp [hx])
    have e1 : ∀ x, c.args.toList = [x] → ρ x = ρ' x := fun x hx => by rw [hx] at e; simpa using e
    have e2 : ∀ x y, c.args.toList = [x, y] → ρ x = ρ' x ∧ ρ y = ρ' y := fun x y hx => by rw [hx] at e; simpa using e
    split
    · split
      · rename_i x hx; simp only [e1 x hx]
      · rfl
    · split
      · rename_i x t hx _; simp only [e1 x hx]
      · rfl
    · rw [e]
    · rw [e]
    · split
      · rename_i s x t t' hx _
        rw [(e2 s x hx).1, (e2 s x hx).2]
      · rfl
    · rfl
  all_goals (first | rfl | (simp_all; done))

theorem opQ_congr {C : Cs} {dst : Option Nat} {ρ ρ' : Operand → V} (op : Op) (h : ∀ x ∈ op.operands, ρ x = ρ' x) : opQ C P dst ρ op = opQ C P dst ρ' op := by
  unfold opQ
  split
  · rename_i fo args hc
    obtain ⟨as, ts, hop, rfl⟩ := calleeOf_some hc
    subst hop
    have hfo : ρ fo = ρ' fo := h fo (by simp [Op.operands, Call.operands])
    have e : as.toList.map ρ = as.toList.map ρ' := List.map_congr_left fun x hx => h x (by simp only [Op.operands, Call.operands]; simp at hx; simp [hx])
    rw [hfo, e]
  · exact aop_congr op h

theorem ev_congr {e e' : Nat → V} {ops : Array Oper} {o : Oper} (h : ∀ t ∈ o.looksAt ops, e t = e' t) : ∀ x ∈ o.op.operands, ev e x = ev e' x := fun x hx => by
  cases x with
  | tmp t => exact h t (List.mem_append_left _ (List.mem_filterMap.2 ⟨.tmp t, by simpa using hx, rfl⟩))
  | _ => rfl

theorem OkAt.agree {C : Cs} {nt : Nat} {ops : Array Oper} {o : Oper} {x y : X} {r : Option Res} {R : List Nat} (h : OkAt C P nt ops o x r R) (h1 : ∀ t ∈ o.looksAt ops, y.1 t = x.1 t) (h2 : ∀ k ∈ R, y.2 k = x.2 k) : OkAt C P nt ops o y r R := by
  refine ⟨?_, fun q hq => ?_, h.skip⟩
  · have := h.gate
    unfold gateSt at this ⊢
    split
    · rename_i hg; rw [hg] at this; exact this
    · rename_i j want hg
      rw [hg] at this
      obtain ⟨gt, h3, h4⟩ := this
      refine ⟨gt, h3, ?_⟩
      have : y.1 gt = x.1 gt := h1 gt (List.mem_append_right _ (by rw [hg]; simp only [gateTmp] at h3; simp [h3]))
      rw [this]
      exact h4
  · obtain ⟨a, b, c⟩ := h.run q hq
    have e : opQ C P o.dst (ev y.1) o.op = opQ C P o.dst (ev x.1) o.op := opQ_congr _ (ev_congr h1)
    rw [e]
    have := Q.run_agree (opQ C P o.dst (ev x.1) o.op) (ob := x.2) (ob' := y.2) (fun k hk => h2 k (by rw [b] at hk; exact hk))
    exact ⟨this.1.trans a, this.2.trans b, c⟩

/-! ### what the evaluator has noted -/
def Lexd (C : Cs) (P : Program) (nt : Nat) (ops : Array Oper) : List Oper → X → List (Option Res × List Nat) → X → Prop
  | [], x, [], y => x = y
  | o :: rest, x, (r, R) :: rs, y => OkAt C P nt ops o x r R ∧ Lexd C P nt ops rest (app o r x) rs y
  | _, _, _, _ => False

def rwOf (p : Option Res × List Nat) : List Nat × List Nat := (p.2, wr p.1)
def disj (a b : List Nat × List Nat) : Prop := (∀ k ∈ a.2, k ∉ b.1 ∧ k ∉ b.2) ∧ ∀ k ∈ a.1, k ∉ b.2

theorem stX {st : St} {o : Oper} {v : V} {u : List (Nat × O)} : (getE (putS o.dst v u st).env, getO (putS o.dst v u st).ob) = (putF o.dst v (getE st.env), putO (getO st.ob) u) := by
  rw [getE_putS]; simp only [putS, getO_addO]

def Noted {α : Type} (C : Cs) (P : Program) (nt : Nat) (ops : Array Oper) (pairs : List (Nat × Nat)) (rest : List Oper) (i : Nat) (log : List (List Nat × List Nat)) (x : X) (k : St → Option α) (r : α) : Prop :=
  ∃ recs st', Lexd C P nt ops rest x recs (getE st'.env, getO st'.ob) ∧ k st' = some r ∧
      ∀ p ∈ pairs, ∀ m q R, recs[m]? = some (some q, R) → p.2 = i + m → ∃ a, (log ++ recs.map rwOf)[p.1]? = some a ∧ disj a (R, wr (some q))

theorem noted_run {α : Type} {C : Cs} {nt : Nat} {ops : Array Oper} {pairs : List (Nat × Nat)} {o : Oper} {rest : List Oper} {i : Nat} {log : List (List Nat × List Nat)} {x : X} {k : St → Option α} {r : α} {res : Res} {R : List Nat}
    (hok : OkAt C P nt ops o x (some res) R) (hc : ∀ p ∈ pairs, p.2 = i → ∃ a, log[p.1]? = some a ∧ disj a (R, wr (some res)))
    (h : Noted C P nt ops pairs rest (i + 1) (log ++ [(R, wr (some res))]) (app o (some res) x) k r) : Noted C P nt ops pairs (o :: rest) i log x k r := by
  obtain ⟨recs, st', g1, g2, g3⟩ := h
  refine ⟨(some res, R) :: recs, st', ⟨hok, g1⟩, g2, ?_⟩
  intro p hp m q R' hm hpm
  cases m with
  | zero =>
    simp only [List.getElem?_cons_zero, Option.some.injEq, Prod.mk.injEq] at hm
    obtain ⟨rfl, rfl⟩ := hm
    obtain ⟨a, h1, h2⟩ := hc p hp (by omega)
    refine ⟨a, ?_, h2⟩
    rw [List.getElem?_append_left (List.getElem?_eq_some_iff.1 h1).1]
    exact h1
  | succ m =>
    obtain ⟨a, h1, h2⟩ := g3 p hp m q R' (by simpa using hm) (by omega)
    refine ⟨a, ?_, h2⟩
    rw [List.append_assoc] at h1
    exact h1

theorem noted_skip {α : Type} {C : Cs} {nt : Nat} {ops : Array Oper} {pairs : List (Nat × Nat)} {o : Oper} {rest : List Oper} {i : Nat} {log : List (List Nat × List Nat)} {x : X} {k : St → Option α} {r : α}
    (hok : OkAt C P nt ops o x none [])
    (h : Noted C P nt ops pairs rest (i + 1) (log ++ [([], [])]) (app o none x) k r) : Noted C P nt ops pairs (o :: rest) i log x k r := by
  obtain ⟨recs, st', g1, g2, g3⟩ := h
  refine ⟨(none, []) :: recs, st', ⟨hok, g1⟩, g2, ?_⟩
  intro p hp m q R' hm hpm
  cases m with
  | zero => simp at hm
  | succ m =>
    obtain ⟨a, h1, h2⟩ := g3 p hp m q R' (by simpa using hm) (by omega)
    refine ⟨a, ?_, h2⟩
    rw [List.append_assoc] at h1
    exact h1

def goD {α : Type} (C : Cs) (P : Program) (nt : Nat) (ops : Array Oper) (pairs : List (Nat × Nat)) (o : Oper) (rest : List Oper) (i : Nat) (log : List (List Nat × List Nat)) (k : St → Option α) (st : St) : Option α :=
  match (opQ C P o.dst (ev (getE st.env)) o.op).run (getO st.ob) with
  | none => none
  | some r =>
    let rw := ((opQ C P o.dst (ev (getE st.env)) o.op).reads (getO st.ob), r.2.map (·.1))
    if dstOK nt o.dst && (pairs.all fun p => if p.2 = i then (match log[p.1]? with
        | some (rj, wj) => (wj.all fun x => !(rw.1.contains x) && !(rw.2.contains x)) && (rj.all fun x => !(rw.2.contains x))
        | none => false) else true)
    then execD C P nt ops pairs rest (i + 1) (log ++ [rw]) (putS o.dst r.1 r.2 st) k else none

theorem execD_cons {α : Type} {C : Cs} {nt : Nat} {ops : Array Oper} {pairs : List (Nat × Nat)} {o : Oper} {rest : List Oper} {i : Nat} {log : List (List Nat × List Nat)} {st : St} {k : St → Option α} :
    execD C P nt ops pairs (o :: rest) i log st k = match o.guard with
    | none => goD C P nt ops pairs o rest i log k st
    | some (j, want) => match gateTmp ops j with
      | none => none
      | some gt => match getE st.env gt with
        | .one (.d (.lit (.bool b))) => if b = want then goD C P nt ops pairs o rest i log k ⟨(gt, vlit (.bool want)) :: st.env, st.ob⟩
          else execD C P nt ops pairs rest (i + 1) (log ++ [([], [])]) (putS o.dst (.tup []) [] ⟨(gt, vlit (.bool !want)) :: st.env, st.ob⟩) k
        | .tup [] => execD C P nt ops pairs rest (i + 1) (log ++ [([], [])]) (putS o.dst (.tup []) [] st) k
        | _ => none := rfl

theorem goD_noted {α : Type} {C : Cs} {nt : Nat} {ops : Array Oper} {pairs : List (Nat × Nat)} {o : Oper} {rest : List Oper} {i : Nat} {log : List (List Nat × List Nat)} {st st0 : St} {k : St → Option α} {r : α}
    (ih : ∀ {i : Nat} {log : List (List Nat × List Nat)} {st : St}, execD C P nt ops pairs rest i log st k = some r → Noted C P nt ops pairs rest i log (getE st.env, getO st.ob) k r)
    (he : getE st0.env = getE st.env) (ho : getO st0.ob = getO st.ob) (hg : gateSt ops o (getE st.env) true) (h : goD C P nt ops pairs o rest i log k st0 = some r) : Noted C P nt ops pairs (o :: rest) i log (getE st.env, getO st.ob) k r := by
  unfold goD at h
  split at h
  · cases h
  · rename_i res hres
    simp only at h
    split at h
    · rename_i hc
      simp only [Bool.and_eq_true, List.all_eq_true] at hc
      obtain ⟨hd, hc⟩ := hc
      have h' := ih h
      rw [stX, he, ho] at h'
      rw [he, ho] at hres hc
      refine noted_run ⟨hg, fun q hq => ?_, fun hq => by cases hq⟩ ?_ h'
      · cases hq
        exact ⟨hres, rfl, hd⟩
      · intro p hp hpi
        have := hc p hp
        rw [if_pos hpi] at this
        split at this
        · rename_i rj wj hlog
          refine ⟨(rj, wj), hlog, ?_⟩
          simp only [Bool.and_eq_true, List.all_eq_true, Bool.not_eq_true', List.contains_eq_mem, decide_eq_false_iff_not] at this
          exact ⟨fun k hk => this.1 k hk, fun k hk => this.2 k hk⟩
        · cases this
    · cases h

theorem execD_good {C : Cs} {α : Type} {nt : Nat} {ops : Array Oper} {pairs : List (Nat × Nat)} {r : α} {k : St → Option α} : ∀ {rest : List Oper} {i : Nat} {log : List (List Nat × List Nat)} {st : St},
    execD C P nt ops pairs rest i log st k = some r → Noted C P nt ops pairs rest i log (getE st.env, getO st.ob) k r := by
  intro rest
  induction rest with
  | nil => intro i log st h; exact ⟨[], st, rfl, h, fun _ _ m q R hm => by simp at hm⟩
  | cons o rest ih =>
    intro i log st h
    have skip : ∀ (st0 : St), getE st0.env = getE st.env → getO st0.ob = getO st.ob → gateSt ops o (getE st.env) false →
        execD C P nt ops pairs rest (i + 1) (log ++ [([], [])]) (putS o.dst (.tup []) [] st0) k = some r → Noted C P nt ops pairs (o :: rest) i log (getE st.env, getO st.ob) k r := by
      intro st0 he ho hg h
      have h' := ih h
      rw [stX, he, ho] at h'
      exact noted_skip ⟨hg, fun q hq => (by cases hq), fun _ => rfl⟩ h'
    rw [execD_cons] at h
    cases hg : o.guard with
    | none =>
      rw [hg] at h
      exact goD_noted ih rfl rfl (by simp [gateSt, hg]) h
    | some jw =>
      obtain ⟨j, want⟩ := jw
      rw [hg] at h
      simp only at h
      split at h
      · cases h
      · rename_i gt hgt
        split at h
        · rename_i b he
          by_cases hb : b = want
          · rw [if_pos hb] at h
            exact goD_noted (st := st) (st0 := ⟨(gt, vlit (.bool want)) :: st.env, st.ob⟩) ih (getE_same he hb) rfl (by simp only [gateSt, hg]; exact ⟨gt, hgt, .inl ⟨b, he, by simp [hb]⟩⟩) h
          · rw [if_neg hb] at h
            have hb' : b = !want := by cases b <;> cases want <;> simp_all
            exact skip ⟨(gt, vlit (.bool !want)) :: st.env, st.ob⟩ (getE_same he hb') rfl (by simp only [gateSt, hg]; exact ⟨gt, hgt, .inl ⟨b, he, by simp [hb]⟩⟩) h
        · rename_i he
          exact skip st rfl rfl (by simp only [gateSt, hg]; exact ⟨gt, hgt, .inr ⟨he, by trivial⟩⟩) h
        · cases h

theorem execD_nil {C : Cs} {α : Type} {nt : Nat} {ops : Array Oper} : ∀ {rest : List Oper} {i : Nat} {log : List (List Nat × List Nat)} {st : St} {k : St → Option α}, execD C P nt ops [] rest i log st k = execOps C P nt ops rest st k
  | [], i, log, st, k => rfl
  | o :: rest, i, log, st, k => by
    unfold execD execOps
    simp only [List.all_nil, Bool.and_true, execD_nil (rest := rest), runOp]

theorem Lexd.index {C : Cs} {nt : Nat} {ops : Array Oper} {d : Oper} : ∀ {rest : List Oper} {x y : X} {recs : List (Option Res × List Nat)}, Lexd C P nt ops rest x recs y → recs.length = rest.length ∧
    (∀ i, i < rest.length → OkAt C P nt ops (rest.getD i d) (T (fun i => rest.getD i d) (fun i => (recs.getD i (none, [])).1) (fun _ => true) x i) (recs.getD i (none, [])).1 (recs.getD i (none, [])).2) ∧
    y = T (fun i => rest.getD i d) (fun i => (recs.getD i (none, [])).1) (fun _ => true) x rest.length
  | [], x, y, [], h => ⟨rfl, fun i hi => by simp at hi, h.symm⟩
  | o :: rest, x, y, (r, R) :: recs, h => by
    obtain ⟨h1, h2⟩ := h
    obtain ⟨h3, h4, h5⟩ := Lexd.index (d := d) h2
    have sh : ∀ i, T (fun i => (o :: rest).getD i d) (fun i => (((r, R) :: recs).getD i (none, [])).1) (fun _ => true) x (i + 1) = T (fun i => rest.getD i d) (fun i => (recs.getD i (none, [])).1) (fun _ => true) (app o r x) i := by
      intro i
      induction i with
      | zero => simp [T]
      | succ i ih => rw [T, ih]; simp [T]
    refine ⟨by simp [h3], fun i hi => ?_, ?_⟩
    · cases i with
      | zero => simpa [T] using h1
      | succ i =>
        rw [sh]
        have := h4 i (by simpa using hi)
        simpa using this
    · rw [List.length_cons, sh]; exact h5
  | [], _, _, _ :: _, h => h.elim
  | _ :: _, _, _, [], h => h.elim

/-! ### the machine's order -/
theorem Sim.drawn {w0 w : World} {U0 : Nat → Prop} {nt : Nat} {env : Nat → V} {ob : Ob} {a : Act} (hs : Sim w0 U0 nt env ob a w) (n : Nat) : Sim w0 U0 nt env ob a { w with drawn := n } := by
  obtain ⟨U, ι0, ι, hm, he, h1, h2, h3⟩ := hs
  have ev : Evo w U ι ob { w with drawn := n } U ι ob :=
    ⟨rfl, rfl, rfl, Nat.le_refl _, fun _ _ => rfl, fun _ h => h, fun _ cells _ h => ⟨cells, h, rfl⟩, fun _ rows _ _ own h => ⟨rows, own, h, Nat.le_refl _, fun _ => rfl⟩, fun _ _ keys vals own h => ⟨keys, vals, own, h, rfl⟩, fun _ _ _ => rfl, fun k o h ho => .inr ⟨k, o, h, ho, rfl⟩, fun _ h => .inl h⟩
  refine ⟨U, ι0, ι, ⟨hm.lt, fun k o hk => ?_, hm.inj⟩, he.trans ev, h1, h2, fun t => VR.evo ev _ _ (h3 t)⟩
  have h0 := hm.obj k o hk
  cases o with
  | box cells elem =>
    obtain ⟨cur, a, b, c⟩ := h0
    exact ⟨cur, a, LF.evo ev _ _ b, c⟩
  | arr rows size elem own =>
    obtain ⟨cur, a, b, c, d, e, f⟩ := h0
    exact ⟨cur, a, b, c, d, RR.mono (w := w) (w' := { w with drawn := n }) (U := U) (fun _ _ => rfl) (fun _ h => h) _ rfl _ _ _ e, f⟩
  | mp agg keys vals own =>
    obtain ⟨es, clock, a, b, c⟩ := h0
    exact ⟨es, clock, a, KR.mono (w := w) (w' := { w with drawn := n }) (U := U) (fun _ _ => rfl) (fun _ h => h) _ _ _ _ b, c⟩

def cnt (L : Array Bool) : Nat → Nat
  | 0 => 0
  | n + 1 => cnt L n + if L.getD n true = true then 0 else 1

theorem cnt_set {L : Array Bool} {i : Nat} (h : L.getD i true = false) : ∀ n, cnt (L.setIfInBounds i true) n + (if i < n then 1 else 0) = cnt L n
  | 0 => by simp [cnt]
  | n + 1 => by
    have ih := cnt_set h n
    have hi : i < L.size := by
      rw [Array.getD_eq_getD_getElem?] at h
      cases hx : L[i]? with
      | none => rw [hx] at h; simp at h
      | some x => exact (Array.getElem?_eq_some_iff.1 hx).1
    simp only [cnt]
    by_cases hn : i = n
    · subst hn
      have h1 : (L.setIfInBounds i true).getD i true = true := by simp [Array.getD_eq_getD_getElem?, hi]
      rw [if_neg (by omega)] at ih
      rw [h1, h]
      simp only [if_true, Bool.false_eq_true, if_false, Nat.lt_succ_self]
      omega
    · have h1 : (L.setIfInBounds i true).getD n true = L.getD n true := by simp [Array.getD_eq_getD_getElem?, Array.getElem?_setIfInBounds, hn]
      rw [h1]
      by_cases hlt : i < n
      · rw [if_pos hlt] at ih; rw [if_pos (by omega : i < n + 1)]; split <;> omega
      · rw [if_neg hlt] at ih; rw [if_neg (by omega : ¬ i < n + 1)]; split <;> omega

theorem cnt_zero {L : Array Bool} : ∀ {n : Nat}, cnt L n = 0 → ∀ i, i < n → L.getD i true = true
  | n + 1, h, i, hi => by
    simp only [cnt] at h
    by_cases hn : i = n
    · subst hn
      by_cases hl : L.getD i true = true
      · exact hl
      · rw [if_neg hl] at h; omega
    · exact cnt_zero (n := n) (by omega) i (by omega)

theorem draw_main {C : Cs} (hC : ∀ f ds r, C f ds = some r → SC P f ds r) {nt : Nat} {ops : Array Oper} {w0 : World} {U0 : Nat → Prop} {R : Exit → Act → World → Prop} {o : Nat → Oper} {rc : Nat → Option Res} {RR : Nat → List Nat} {E : Nat → Nat → Prop} {x0 : X}
    (ho : ∀ i, i < ops.size → ops[i]? = some (o i)) (hp : Plan ops ops.size o rc RR E) (hE : ∀ i j, i < ops.size → (E j i ↔ ∃ e ∈ (o i).after.toList, Region.binds .any e = true ∧ e.on = j))
    (hok : ∀ i, i < ops.size → OkAt C P nt ops (o i) (T o rc (fun _ => true) x0 i) (rc i) (RR i))
    (hR : ∀ a w, Sim w0 U0 nt (T o rc (fun _ => true) x0 ops.size).1 (T o rc (fun _ => true) x0 ops.size).2 a w → R .normal a w) :
    ∀ (fuel : Nat) (L : Array Bool) (a : Act) (w : World), L.size = ops.size → cnt L ops.size ≤ fuel → (∀ j, j < ops.size → L.getD j true = true → ∀ e, E e j → L.getD e true = true) →
      Sim w0 U0 nt (T o rc (fun i => L.getD i true) x0 ops.size).1 (T o rc (fun i => L.getD i true) x0 ops.size).2 a w → wpAny P .any ops R fuel L a w := by
  have nil : ∀ (L : Array Bool), L.size = ops.size → Region.ready .any ops L = [] → ∀ i, i < ops.size → L.getD i true = true := by
    intro L hL hr i
    induction i using Nat.strongRecOn with
    | ind i ih =>
      intro hi
      by_cases hl : L.getD i true = true
      · exact hl
      · exfalso
        have : i ∈ Region.ready .any ops L := by
          unfold Region.ready
          refine List.mem_filter.2 ⟨List.mem_range.2 hi, ?_⟩
          simp only [ho i hi, Option.map_some, Option.getD_some]
          simp only [Bool.not_eq_true] at hl
          rw [hl]
          simp only [Bool.not_false, Bool.true_and, Array.all_eq_true_iff_forall_mem, Bool.or_eq_true, Bool.not_eq_true']
          intro e he
          by_cases hb : Region.binds .any e = true
          · right
            have hEe : E e.on i := (hE i e.on hi).2 ⟨e, by simpa using he, hb, rfl⟩
            have hlt := hp.lt _ _ hEe
            have := ih e.on hlt (by omega)
            rw [Array.getD_eq_getD_getElem?, Array.getElem?_eq_getElem (by omega)] at this ⊢
            simpa using this
          · left; simpa using hb
        rw [hr] at this
        cases this
  have fin : ∀ (L : Array Bool), (∀ i, i < ops.size → L.getD i true = true) → ∀ m, m ≤ ops.size → T o rc (fun i => L.getD i true) x0 m = T o rc (fun _ => true) x0 m := by
    intro L h m
    induction m with
    | zero => intro _; rfl
    | succ m ih => intro hm; simp only [T]; rw [if_pos (h m (by omega)), if_pos True.intro, ih (by omega)]
  intro fuel
  induction fuel with
  | zero =>
    intro L a w hL hc hcl hs
    have all := cnt_zero (n := ops.size) (L := L) (by omega)
    refine ⟨?_, ?_⟩
    · unfold Region.ready
      refine List.filter_eq_nil_iff.2 fun i hi => ?_
      rw [all i (List.mem_range.1 hi)]
      simp
    · rw [fin L all _ (Nat.le_refl _)] at hs
      exact hR a w hs
  | succ fuel ih =>
    intro L a w hL hc hcl hs
    refine ⟨fun hr => ?_, fun i hi => ?_⟩
    · rw [fin L (nil L hL hr) _ (Nat.le_refl _)] at hs
      exact hR a w hs
    · unfold Region.ready at hi
      obtain ⟨hi1, hi2⟩ := List.mem_filter.1 hi
      have hin := List.mem_range.1 hi1
      rw [ho i hin] at hi2
      simp only [Option.map_some, Option.getD_some, Bool.and_eq_true, Bool.not_eq_true', Array.all_eq_true_iff_forall_mem, Bool.or_eq_true] at hi2
      obtain ⟨hli, hed⟩ := hi2
      have hedges : ∀ j, E j i → L.getD j true = true := by
        intro j hj
        obtain ⟨e, he, hb, rfl⟩ := (hE i j hin).1 hj
        rcases hed e (by simpa using he) with h | h
        · rw [hb] at h; cases h
        · have hlt := hp.lt _ _ hj
          rw [Array.getD_eq_getD_getElem?, Array.getElem?_eq_getElem (by omega)] at h ⊢
          simpa using h
      have hag := agree (x0 := x0) hp hin (L := fun i => L.getD i true) hli hedges hcl
      have hok' := (hok i hin).agree hag.1 hag.2
      have hL' : ∀ j, j < ops.size → (L.setIfInBounds i true).getD j true = (L.getD j true || j == i) := by
        intro j hj
        by_cases hji : j = i
        · subst hji; simp [Array.getD_eq_getD_getElem?, hL, hj]
        · simp [Array.getD_eq_getD_getElem?, Array.getElem?_setIfInBounds, hji, Ne.symm hji]
      have hcl' : ∀ j, j < ops.size → (L.setIfInBounds i true).getD j true = true → ∀ e, E e j → (L.setIfInBounds i true).getD e true = true := by
        intro j hj hlj e he
        have hej := hp.lt _ _ he
        rw [hL' e (by omega)]
        rw [hL' j hj] at hlj
        by_cases hji : j = i
        · subst hji; simp [hedges e he]
        · simp only [Bool.or_eq_true, beq_iff_eq, hji, or_false] at hlj
          simp [hcl j hj hlj e he]
      have hins : T o rc (fun j => (L.setIfInBounds i true).getD j true) x0 ops.size = app (o i) (rc i) (T o rc (fun i => L.getD i true) x0 ops.size) := by
        have h1 : ∀ m, m ≤ ops.size → T o rc (fun j => (L.setIfInBounds i true).getD j true) x0 m = T o rc (fun j => L.getD j true || j == i) x0 m := by
          intro m
          induction m with
          | zero => intro _; rfl
          | succ m ihm => intro hm; simp only [T]; simp only [hL' m (by omega), ihm (by omega)]
        rw [h1 _ (Nat.le_refl _), insert_last hp hin (L := fun i => L.getD i true) hli hcl (fun _ => rfl) _ (Nat.le_refl _), if_pos hin]
      have next : ∀ a' w', Sim w0 U0 nt (app (o i) (rc i) (T o rc (fun i => L.getD i true) x0 ops.size)).1 (app (o i) (rc i) (T o rc (fun i => L.getD i true) x0 ops.size)).2 a' w' → wpAny P .any ops R fuel (L.setIfInBounds i true) a' w' := by
        intro a' w' hs'
        refine ih _ a' w' (by simpa using hL) ?_ hcl' (by rw [hins]; exact hs')
        have := cnt_set hli ops.size
        rw [if_pos hin] at this
        omega
      unfold wpOp
      simp only [ho i hin]
      cases hrc : rc i with
      | some q =>
        have hw : Region.wanted (o i) (yielded ops a.tmps) = true := by
          have hg := hok'.gate
          rw [hrc] at hg
          unfold gateSt at hg
          split at hg
          · rename_i hgd; simp [Region.wanted, hgd]
          · rename_i j want hgd
            obtain ⟨gt, h1, h2⟩ := hg
            obtain ⟨U, ι0, ι, hm, he0, hdf, hsz, hv⟩ := hs
            rcases h2 with ⟨b, h2, h3⟩ | ⟨_, h3⟩
            · have hb : b = want := by simpa using h3
              simp [Region.wanted, hgd, yielded_bool hv h1 h2, hb]
            · simp at h3
        rw [if_pos hw]
        obtain ⟨h1, _, h3⟩ := hok'.run q hrc
        refine .inl (opQ_wp hC hs h1 h3 fun a' w' hs' => next a' w' ?_)
        rw [hrc]
        exact hs'
      | none =>
        have hw : Region.wanted (o i) (yielded ops a.tmps) = false := by
          have hg := hok'.gate
          rw [hrc] at hg
          unfold gateSt at hg
          split at hg
          · simp at hg
          · rename_i j want hgd
            obtain ⟨gt, h1, h2⟩ := hg
            obtain ⟨U, ι0, ι, hm, he0, hdf, hsz, hv⟩ := hs
            rcases h2 with ⟨b, h2, h3⟩ | ⟨h2, _⟩
            · have hb : b ≠ want := by simpa using h3
              simp [Region.wanted, hgd, yielded_bool hv h1 h2, hb]
            · simp [Region.wanted, hgd, yielded_none hv h1 h2]
        rw [if_neg (by rw [hw]; simp)]
        refine next _ _ ?_
        rw [hrc]
        exact sim_skip hs _


theorem cnt_le (L : Array Bool) : ∀ n, cnt L n ≤ n
  | 0 => Nat.le_refl _
  | n + 1 => by have := cnt_le L n; simp only [cnt]; split <;> omega

theorem memFree_ok {C : Cs} {nt : Nat} {ops : Array Oper} {oi oj : Oper} {xi xj : X} {ri rj : Option Res} {Ri Rj : List Nat} (h : memFree oj.op oi.op = true) (hi : OkAt C P nt ops oi xi ri Ri) (hj : OkAt C P nt ops oj xj rj Rj) :
    (∀ k ∈ wr rj, k ∉ Ri) ∧ (∀ k ∈ wr rj, k ∉ wr ri) ∧ ∀ k ∈ Rj, k ∉ wr ri := by
  have c0 : ∀ {o : Oper} {x : X} {r : Option Res} {R : List Nat}, OkAt C P nt ops o x r R → clsOf o.op = 0 → wr r = [] ∧ R = [] := by
    intro o x r R h hc
    cases r with
    | none => exact ⟨rfl, h.skip rfl⟩
    | some q =>
      obtain ⟨a, b, _⟩ := h.run q rfl
      have hn := opQ_ng (P := P) (C := C) (dst := o.dst) (ρ := ev x.1) hc
      exact ⟨by simp [wr, hn.upd a], by rw [← b, hn.reads]⟩
  have c1 : ∀ {o : Oper} {x : X} {r : Option Res} {R : List Nat}, OkAt C P nt ops o x r R → clsOf o.op = 1 → wr r = [] := by
    intro o x r R h hc
    cases r with
    | none => rfl
    | some q =>
      obtain ⟨a, b, _⟩ := h.run q rfl
      have hn := opQ_nu (P := P) (C := C) (dst := o.dst) (ρ := ev x.1) hc
      simp [wr, hn _ _ a]
  simp only [memFree, Bool.or_eq_true, Bool.and_eq_true, beq_iff_eq] at h
  rcases h with (h | h) | ⟨h, h'⟩
  · obtain ⟨a, b⟩ := c0 hj h
    rw [a, b]
    simp
  · obtain ⟨a, b⟩ := c0 hi h
    rw [a, b]
    simp
  · rw [c1 hj h, c1 hi h']
    simp

theorem draw_sound {C : Cs} (hC : ∀ f ds r, C f ds = some r → SC P f ds r) {α : Type} {nt : Nat} {ops : Array Oper} {pairs : List (Nat × Nat)} {r : α} {w0 : World} {U0 : Nat → Prop} {R : Exit → Act → World → Prop} {st : St} {k : St → Option α} {a : Act} {w : World}
    (hok : regOK ops pairs = true) (h : execD C P nt ops pairs ops.toList 0 [] st k = some r) (hs : SimS w0 U0 nt st a w) (hR : ∀ st' a' w', k st' = some r → SimS w0 U0 nt st' a' w' → R .normal a' w') : wpAny P .any ops R ops.size (Array.replicate ops.size false) a { w with drawn := w.drawn + 1 } := by
  obtain ⟨recs, st', g1, g2, g3⟩ := execD_good h
  let d : Oper := ⟨none, .move (.const undef), 0, default, #[], none⟩
  obtain ⟨hlen, hind, hfin⟩ := g1.index (d := d)
  have ho : ∀ i, i < ops.size → ops[i]? = some (ops.toList.getD i d) := by
    intro i hi
    rw [List.getD_eq_getElem?_getD, Array.getElem?_toList, Array.getElem?_eq_getElem hi]
    rfl
  have hlen' : recs.length = ops.size := by simpa using hlen
  let E : Nat → Nat → Prop := fun j i => ∃ e ∈ (ops.toList.getD i d).after.toList, Region.binds .any e = true ∧ e.on = j
  have hreg : ∀ i, i < ops.size → (∀ e ∈ (ops.toList.getD i d).after.toList, Region.binds .any e = true → e.on < i) ∧ ∀ j, j < i → E j i ∨ (Oper.apart ops (ops.toList.getD j d) (ops.toList.getD i d) = true ∧ (memFree (ops.toList.getD j d).op (ops.toList.getD i d).op = true ∨ (j, i) ∈ pairs)) := by
    intro i hi
    unfold regOK at hok
    have h1 := List.all_eq_true.1 hok i (List.mem_range.2 hi)
    rw [ho i hi] at h1
    simp only [Bool.and_eq_true, List.all_eq_true] at h1
    refine ⟨fun e he hb => by have := h1.1 e he; simpa [hb] using this, fun j hj => ?_⟩
    have h2 := h1.2 j (List.mem_range.2 hj)
    rw [ho j (by omega)] at h2
    simp only [Bool.or_eq_true, List.any_eq_true, Bool.and_eq_true, beq_iff_eq, List.contains_iff_mem] at h2
    rcases h2 with ⟨e, he, hb, h2⟩ | ⟨h2, h3⟩
    · exact .inl ⟨e, he, hb, h2⟩
    · exact .inr ⟨h2, h3⟩
  have hplan : Plan ops ops.size (fun i => ops.toList.getD i d) (fun i => (recs.getD i (none, [])).1) (fun i => (recs.getD i (none, [])).2) E := by
    refine ⟨?_, ?_⟩
    · rintro j i ⟨e, he, hb, rfl⟩
      by_cases hi : i < ops.size
      · exact (hreg i hi).1 e he hb
      · have : ops.toList.getD i d = d := by rw [List.getD_eq_getElem?_getD, List.getElem?_eq_none (by simpa using hi)]; rfl
        rw [this] at he
        cases he
    · intro j i hj hi hE
      rcases (hreg i hi).2 j hj with h | ⟨hap, hm⟩
      · exact absurd h hE
      · obtain ⟨a1, a2, a3⟩ := Oper.apart_spec hap
        have hi' := hind i (by simpa using hi)
        have hj' := hind j (by simp; omega)
        have mem : (∀ k ∈ wr (recs.getD j (none, [])).1, k ∉ (recs.getD i (none, [])).2) ∧ (∀ k ∈ wr (recs.getD j (none, [])).1, k ∉ wr (recs.getD i (none, [])).1) ∧ ∀ k ∈ (recs.getD j (none, [])).2, k ∉ wr (recs.getD i (none, [])).1 := by
          rcases hm with hm | hm
          · exact memFree_ok hm hi' hj'
          · cases hri : (recs.getD i (none, [])).1 with
            | none => rw [hi'.skip hri]; simp [wr]
            | some q =>
              have e1 : recs[i]? = some (some q, (recs.getD i (none, [])).2) := by
                rw [List.getElem?_eq_getElem (by omega)]
                rw [List.getD_eq_getElem?_getD, List.getElem?_eq_getElem (by omega)] at hri ⊢
                simp only [Option.getD_some] at hri ⊢
                rw [← hri]
              obtain ⟨a, h1, h2, h3⟩ := g3 (j, i) hm i q _ e1 (by simp)
              simp only [List.nil_append, List.getElem?_map] at h1
              rw [List.getElem?_eq_getElem (by omega)] at h1
              simp only [Option.map_some, Option.some.injEq] at h1
              have e2 : recs.getD j (none, []) = recs[j]'(by omega) := by rw [List.getD_eq_getElem?_getD, List.getElem?_eq_getElem (by omega)]; rfl
              rw [e2]
              subst h1
              exact ⟨fun k hk => (h2 k hk).1, fun k hk => (h2 k hk).2, fun k hk => h3 k hk⟩
        exact ⟨a1, a2, a3, mem.1, mem.2.1, mem.2.2⟩
  refine draw_main (w0 := w0) (U0 := U0) hC ho hplan (fun i j _ => Iff.rfl) (x0 := (getE st.env, getO st.ob)) (fun i hi => hind i (by simpa using hi)) ?_ ops.size (Array.replicate ops.size false) a _ (by simp) (cnt_le _ _) ?_ ?_
  · intro a' w' hs'
    refine hR st' a' w' g2 ?_
    have e : ops.toList.length = ops.size := by simp
    rw [e] at hfin
    rw [← hfin] at hs'
    exact hs'
  · intro j hj hl
    simp [Array.getD_eq_getD_getElem?, hj] at hl
  · have : ∀ m, m ≤ ops.size → T (fun i => ops.toList.getD i d) (fun i => (recs.getD i (none, [])).1) (fun i => (Array.replicate ops.size false).getD i true) (getE st.env, getO st.ob) m = (getE st.env, getO st.ob) := by
      intro m
      induction m with
      | zero => intro _; rfl
      | succ m ih =>
        intro hm
        simp only [T]
        rw [if_neg, ih (by omega)]
        simp only [Array.getD_eq_getD_getElem?]
        rw [Array.getElem?_eq_getElem (by simp; omega)]
        simp
    rw [this _ (Nat.le_refl _)]
    exact hs.drawn _

theorem draw_sound0 {C : Cs} (hC : ∀ f ds r, C f ds = some r → SC P f ds r) {α : Type} {nt : Nat} {ops : Array Oper} {r : α} {w0 : World} {U0 : Nat → Prop} {R : Exit → Act → World → Prop} {st : St} {k : St → Option α} {a : Act} {w : World}
    (hok : regOK ops [] = true) (h : execOps C P nt ops ops.toList st k = some r) (hs : SimS w0 U0 nt st a w) (hR : ∀ st' a' w', k st' = some r → SimS w0 U0 nt st' a' w' → R .normal a' w') : wpAny P .any ops R ops.size (Array.replicate ops.size false) a { w with drawn := w.drawn + 1 } :=
  draw_sound hC hok (execD_nil.trans h) hs hR

end Go.VE
/- Whole functions. -/
namespace Go.VE
open Go.RowKit

variable {P : Program}

mutual
theorem LR.keys {w : World} {U : Nat → Prop} {ι : Pl} {ob ob' : Ob} : ∀ (x : L) (v : Value), (∀ k ∈ x.keysOf, ob' k = ob k) → LR w U ι ob x v → LR w U ι ob' x v
  | .d x, v, _, h => by simpa only [LR] using h
  | .slk k off n c, v, hk, h => by
    simp only [LR] at h ⊢
    obtain ⟨rows, size, elem, own, h1, h2⟩ := h
    exact ⟨rows, size, elem, own, by rw [hk k (by simp [L.keysOf])]; exact h1, h2⟩
  | .pa k i off c, v, hk, h => by
    simp only [LR] at h ⊢
    obtain ⟨rows, size, elem, own, h1, h2⟩ := h
    exact ⟨rows, size, elem, own, by rw [hk k (by simp [L.keysOf])]; exact h1, h2⟩
  | .ptr k off, v, hk, h => by
    simp only [LR] at h ⊢
    obtain ⟨cells, elem, h1, h2⟩ := h
    exact ⟨cells, elem, by rw [hk k (by simp [L.keysOf])]; exact h1, h2⟩
  | .fn f caps, v, hk, h => by
    simp only [LR] at h ⊢
    obtain ⟨cs, h1, h2⟩ := h
    exact ⟨cs, h1, LF.keys caps cs.toList (fun k hkk => hk k (by simpa [L.keysOf] using hkk)) h2⟩
  | .mk k, v, hk, h => by
    simp only [LR] at h ⊢
    obtain ⟨agg, keys, vals, own, h1, h2⟩ := h
    exact ⟨agg, keys, vals, own, by rw [hk k (by simp [L.keysOf])]; exact h1, h2⟩
  | .undef, v, _, _ => by simp [LR]
theorem LF.keys {w : World} {U : Nat → Prop} {ι : Pl} {ob ob' : Ob} : ∀ (xs : List L) (vs : List Value), (∀ k ∈ L.keysF xs, ob' k = ob k) → LF w U ι ob xs vs → LF w U ι ob' xs vs
  | [], vs, _, h => by simpa [LF] using h
  | x :: xs, vs, hk, h => by
    simp only [LF] at h ⊢
    obtain ⟨v, vs', h1, h2, h3⟩ := h
    exact ⟨v, vs', h1, LR.keys x v (fun k hkk => hk k (by simp [L.keysF, hkk])) h2, LF.keys xs vs' (fun k hkk => hk k (by simp [L.keysF, hkk])) h3⟩
end
mutual
theorem VR.keys {w : World} {U : Nat → Prop} {ι : Pl} {ob ob' : Ob} : ∀ (x : V) (v : Value), (∀ k ∈ x.keysOf, ob' k = ob k) → VR w U ι ob x v → VR w U ι ob' x v
  | .one x, v, hk, h => by simp only [VR] at h ⊢; exact LR.keys x v (fun k hkk => hk k (by simpa [V.keysOf] using hkk)) h
  | .agg xs, v, hk, h => by
    simp only [VR] at h ⊢
    obtain ⟨cs, h1, h2⟩ := h
    exact ⟨cs, h1, LF.keys xs cs.toList (fun k hkk => hk k (by simpa [V.keysOf] using hkk)) h2⟩
  | .tup xs, v, hk, h => by
    simp only [VR] at h ⊢
    obtain ⟨cs, h1, h2⟩ := h
    exact ⟨cs, h1, VF.keys xs cs.toList (fun k hkk => hk k (by simpa [V.keysOf] using hkk)) h2⟩
theorem VF.keys {w : World} {U : Nat → Prop} {ι : Pl} {ob ob' : Ob} : ∀ (xs : List V) (vs : List Value), (∀ k ∈ V.keysF xs, ob' k = ob k) → VF w U ι ob xs vs → VF w U ι ob' xs vs
  | [], vs, _, h => by simpa [VF] using h
  | x :: xs, vs, hk, h => by
    simp only [VF] at h ⊢
    obtain ⟨v, vs', h1, h2, h3⟩ := h
    exact ⟨v, vs', h1, VR.keys x v (fun k hkk => hk k (by simp [V.keysF, hkk])) h2, VF.keys xs vs' (fun k hkk => hk k (by simp [V.keysF, hkk])) h3⟩
end

theorem getE_keepE (env : List (Nat × V)) : ∀ (ts : List Nat) (t : Nat), getE (keepE env ts) t = if t ∈ ts then getE env t else .one .undef
  | [], t => by simp [keepE, getE]
  | x :: ts, t => by
    simp only [keepE, getE, getE_keepE env ts t, List.mem_cons]
    by_cases h : t = x
    · simp [h]
    · simp [h]

theorem getO_keepO (ob : List (Nat × O)) : ∀ (ks : List Nat) (k : Nat), getO (keepO ob ks) k = if k ∈ ks then getO ob k else none
  | [], k => by simp [keepO, getO]
  | x :: ks, k => by
    simp only [keepO]
    cases hx : getO ob x with
    | none =>
      simp only [getO_keepO ob ks k, List.mem_cons]
      by_cases h : k = x
      · subst h; simp [hx]
      · simp [h]
    | some o =>
      simp only [getO, getO_keepO ob ks k, List.mem_cons]
      by_cases h : k = x
      · subst h; simp [hx]
      · simp [h]

theorem mem_keepE {env : List (Nat × V)} : ∀ {ts : List Nat} {t : Nat}, t ∈ ts → (t, getE env t) ∈ keepE env ts
  | x :: ts, t, h => by
    simp only [keepE]
    rcases List.mem_cons.1 h with rfl | h
    · simp
    · exact List.mem_cons_of_mem _ (mem_keepE h)
theorem mem_keepO {ob : List (Nat × O)} : ∀ {ks : List Nat} {k : Nat} {o : O}, k ∈ ks → getO ob k = some o → (k, o) ∈ keepO ob ks
  | x :: ks, k, o, h, ho => by
    simp only [keepO]
    rcases List.mem_cons.1 h with rfl | h
    · rw [ho]; simp
    · split
      · exact List.mem_cons_of_mem _ (mem_keepO h ho)
      · exact mem_keepO h ho

theorem sim_norm {w0 w : World} {U0 : Nat → Prop} {nt : Nat} {st st' : St} {a : Act} {lv : Option (List Nat × List Nat)} (h : norm lv st = some st') (hs : SimS w0 U0 nt st a w) : SimS w0 U0 nt st' a w := by
  unfold norm at h
  split at h
  · cases h; exact hs
  · rename_i ts ks
    split at h
    · rename_i hc
      cases h
      simp only [Bool.and_eq_true, List.all_eq_true, List.contains_iff_mem] at hc
      obtain ⟨hc1, hc2⟩ := hc
      obtain ⟨U, ι0, ι, hm, he0, hdf, hsz, hv⟩ := hs
      refine ⟨U, ι0, ι, ⟨hm.lt, ?_, ?_⟩, ⟨he0.os, he0.tape, he0.output, he0.size, he0.kept, he0.sub, (by intro _ _ _ h; cases h), (by intro _ _ _ _ _ h; cases h), (by intro _ _ _ _ _ h; cases h), he0.same, ?_, he0.orig⟩, hdf, hsz, ?_⟩
      · intro k o hk
        simp only [getO_keepO] at hk
        split at hk
        · rename_i hkk
          have h0 := hm.obj k o hk
          have hkeys := hc2 (k, o) (mem_keepO hkk hk)
          cases o with
          | box cells elem =>
            obtain ⟨cur, h1, h2, h3⟩ := h0
            refine ⟨cur, h1, LF.keys _ _ (fun j hj => ?_) h2, h3⟩
            have := hkeys j (by simpa [O.keysOf] using hj)
            rw [getO_keepO, if_pos this.1]
          | arr => exact h0
          | mp => exact h0
        · cases hk
      · intro k k' o o' hk hk' ho ho' hne
        simp only [getO_keepO] at hk hk'
        split at hk
        · split at hk'
          · exact hm.inj k k' o o' hk hk' ho ho' hne
          · cases hk'
        · cases hk
      · intro k o hk ho
        simp only [getO_keepO] at hk
        split at hk
        · exact he0.ownd k o hk ho
        · cases hk
      · intro t
        simp only [getE_keepE]
        split
        · rename_i ht
          refine VR.keys _ _ (fun j hj => ?_) (hv t)
          have := hc1 (t, getE st.env t) (mem_keepE ht) j hj
          rw [getO_keepO, if_pos this.1]
        · simp [VR, LR]
    · cases h

def exOf : Ex → Exit
  | .normal => .normal
  | .exit id => .exit id
  | .ret => .ret

theorem sim_refine {w0 w : World} {U0 : Nat → Prop} {nt : Nat} {st : St} {a : Act} {c : Operand} {b : Bool} {rt : Option Nat} (h : condE st.env c = some (b, rt)) (hs : SimS w0 U0 nt st a w) : SimS w0 U0 nt (refine_ st rt b) a w ∧ a.eval c = .bool b := by
  unfold condE at h
  split at h
  · rename_i t
    split at h
    · rename_i b' he
      cases h
      refine ⟨?_, ?_⟩
      · unfold SimS
        simp only [refine_]
        rw [getE_same he rfl]
        exact hs
      · obtain ⟨U, ι0, ι, hm, he0, hdf, hsz, hv⟩ := hs
        have := hv t
        rw [he] at this
        simp only [VR, LR, DR] at this
        exact this.1
    · cases h
  · cases h
    exact ⟨hs, rfl⟩
  · cases h

def drawsOK (dr : Nat → Array Oper → List (Nat × Nat)) : Code → Bool
  | .region id ops true => regOK ops (dr id ops)
  | .seq a b => drawsOK dr a && drawsOK dr b
  | .cond _ a b => drawsOK dr a && drawsOK dr b
  | .block _ c => drawsOK dr c
  | .loop c => drawsOK dr c
  | _ => true

/-- Where control has gone, the data says so. -/
def After {α : Type} (w0 : World) (U0 : Nat → Prop) (nt : Nat) (k : Ex → St → Option α) (r : α) (e : Exit) (a : Act) (w : World) : Prop := ∃ x st, e = exOf x ∧ k x st = some r ∧ SimS w0 U0 nt st a w

theorem exec_sound {cfg : Cfg} (hC : ∀ f ds r, cfg.C f ds = some r → SC P f ds r) (hmix : P.follows .mixedOrders = true) {α : Type} {nt : Nat} {r : α} {w0 : World} {U0 : Nat → Prop} : ∀ (n : Nat),
    (∀ (cur : Nat) (c : Code) (st : St) (k : Ex → St → Option α) (a : Act) (w : World), drawsOK cfg.draw c = true → exec cfg P nt n cur c st k = some r → SimS w0 U0 nt st a w → c.wp P (After w0 U0 nt k r) a w) ∧
    (∀ (cur : Nat) (c : Code) (st : St) (k : Ex → St → Option α) (a : Act) (w : World), drawsOK cfg.draw c = true → exec cfg P nt n cur (.loop c) st k = some r → SimS w0 U0 nt st a w → Code.rounds P c (After w0 U0 nt k r) n a w) := by
  intro n
  induction n with
  | zero => exact ⟨fun _ _ _ _ _ _ _ h => by simp [exec] at h, fun _ _ _ _ _ _ _ h => by simp [exec] at h⟩
  | succ n ih =>
    obtain ⟨ih1, ih2⟩ := ih
    have loops : ∀ (cur : Nat) (c : Code) (st : St) (k : Ex → St → Option α) (a : Act) (w : World), drawsOK cfg.draw c = true → exec cfg P nt (n + 1) cur (.loop c) st k = some r → SimS w0 U0 nt st a w → Code.rounds P c (After w0 U0 nt k r) (n + 1) a w := by
      intro cur c st k a w hd h hs
      simp only [exec] at h
      split at h
      · cases h
      · rename_i st0 hn
        rw [rounds_succ]
        refine wp_mono (ih1 cur c st0 _ a w hd h (sim_norm hn hs)) ?_
        rintro e a' w' ⟨x, st', rfl, hk, hs'⟩
        cases x with
        | normal => exact ih2 cur c st' k a' w' hd hk hs'
        | exit i => exact ⟨.exit i, st', rfl, hk, hs'⟩
        | ret => exact ⟨.ret, st', rfl, hk, hs'⟩
    refine ⟨?_, loops⟩
    intro cur c st k a w hd h hs
    cases c with
    | skip => simp only [exec] at h; exact wp_skip ⟨.normal, st, rfl, h, hs⟩
    | label l => simp only [exec] at h; exact wp_label ⟨.normal, st, rfl, h, hs⟩
    | ret => simp only [exec] at h; exact wp_ret ⟨.ret, st, rfl, h, hs⟩
    | exit id => simp only [exec] at h; exact wp_exit ⟨.exit id, st, rfl, h, hs⟩
    | region id ops draw =>
      cases draw with
      | false =>
        simp only [exec] at h
        exact wp_region_list (execOps_sound hC h hs fun st' a' w' hk hs' => ⟨.normal, st', rfl, hk, hs'⟩)
      | true =>
        simp only [drawsOK] at hd
        simp only [exec] at h
        refine wp_region_any hmix ?_
        split at h
        · rename_i hp
          rw [hp] at hd
          exact draw_sound0 hC hd h hs fun st' a' w' hk hs' => ⟨.normal, st', rfl, hk, hs'⟩
        · rename_i p ps hp
          rw [hp] at hd
          exact draw_sound hC hd h hs fun st' a' w' hk hs' => ⟨.normal, st', rfl, hk, hs'⟩
    | seq x y =>
      simp only [exec] at h
      simp only [drawsOK, Bool.and_eq_true] at hd
      refine wp_seq (wp_mono (ih1 cur x st _ a w hd.1 h hs) ?_)
      rintro e a' w' ⟨z, st', rfl, hk, hs'⟩
      cases z with
      | normal => exact ih1 cur y st' k a' w' hd.2 hk hs'
      | exit i => exact ⟨.exit i, st', rfl, hk, hs'⟩
      | ret => exact ⟨.ret, st', rfl, hk, hs'⟩
    | cond c x y =>
      simp only [exec] at h
      simp only [drawsOK, Bool.and_eq_true] at hd
      split at h
      · cases h
      · rename_i t rt hc
        obtain ⟨hs', he⟩ := sim_refine hc hs
        cases t with
        | true => rw [if_pos rfl] at h; exact wp_cond_true he (ih1 cur x _ k a w hd.1 h hs')
        | false => rw [if_neg (by simp)] at h; exact wp_cond_false he (ih1 cur y _ k a w hd.2 h hs')
    | block id c =>
      simp only [exec] at h
      simp only [drawsOK] at hd
      refine wp_block (wp_mono (ih1 id c st _ a w hd h hs) ?_)
      rintro e a' w' ⟨z, st', rfl, hk, hs'⟩
      cases z with
      | normal => exact ⟨.normal, st', rfl, hk, hs'⟩
      | ret => exact ⟨.ret, st', rfl, hk, hs'⟩
      | exit i =>
        simp only at hk
        simp only [exOf, Exit.inBlock]
        split at hk
        · rename_i hi
          rw [if_pos hi]
          split at hk
          · rename_i st'' hn
            exact ⟨.normal, st'', rfl, hk, sim_norm hn hs'⟩
          · cases hk
        · rename_i hi
          rw [if_neg hi]
          exact ⟨.exit i, st', rfl, hk, hs'⟩
    | loop c =>
      simp only [drawsOK] at hd
      exact wp_loop_rounds (n + 1) (loops cur c st k a w hd h hs)
    | rangeFunc _ _ _ _ => simp [exec] at h
    | scope _ => simp [exec] at h
    | goto _ => simp [exec] at h
    | refuse _ => simp [exec] at h

end Go.VE
/- A function's contract out of its statements. -/
namespace Go.VE
open Go.RowKit

variable {P : Program}

def vOf : VD → V
  | .one x => .one (.d x)
  | .agg xs => .agg (xs.map .d)
def envOf : List VD → Nat → List (Nat × V)
  | [], _ => []
  | x :: xs, i => (i, vOf x) :: envOf xs (i + 1)

def resV (P : Program) (env : Nat → V) : List ResultVar → Q (List V)
  | [] => .ret []
  | .tmp t :: r => (resV P env r).bind fun vs => .ret (env t :: vs)
  | .cell a T :: r => (Q.opt (aggC P T)).bind fun g => (Q.opt (sizeC P T)).bind fun s => (loadQ g s (env a)).bind fun p => (resV P env r).bind fun vs => .ret (p.1 :: vs)

def rvD : V → Q RV
  | .one l => (toD 4 l).bind fun d => .ret (.one (.d d))
  | .agg ls => (Q.mapM (toD 4) ls).bind fun ds => .ret (.agg (ds.map .d))
  | .tup _ => .fail
def rcO : L → Q (RC × List Nat)
  | .d x => .ret (.d x, [])
  | .slk k off n c => .get k fun
    | some (.arr rows size elem own) => Q.guard (decide (off = 0 ∧ n ≤ rows.length ∧ c = rows.length)) (.ret (if own = true then (.own (rows.take n) size elem, [k]) else (.d (.sl size (rows.take n)), [])))
    | _ => .fail
  | .mk k => .get k fun
    | some (.mp agg keys vals own) => .ret (if own = true then (.om agg keys vals, [k]) else (.d (.mp agg keys vals), []))
    | _ => .fail
  | _ => .fail
def rcOs : List L → Q (List RC × List Nat)
  | [] => .ret ([], [])
  | x :: xs => (rcO x).bind fun p => (rcOs xs).bind fun q => .ret (p.1 :: q.1, p.2 ++ q.2)
def rvO : V → Q (RV × List Nat)
  | .one l => (rcO l).bind fun p => .ret (.one p.1, p.2)
  | .agg ls => (rcOs ls).bind fun p => .ret (.agg p.1, p.2)
  | .tup _ => .fail
def rvOs : List V → Q (List RV × List Nat)
  | [] => .ret ([], [])
  | x :: xs => (rvO x).bind fun p => (rvOs xs).bind fun q => .ret (p.1 :: q.1, p.2 ++ q.2)
def pack : List RV → RV
  | [x] => x
  | xs => .tup xs
def resQ (own : Bool) (P : Program) (rs : List ResultVar) (env : Nat → V) : Q RV :=
  (resV P env rs).bind fun vs => match own with
    | true => (rvOs vs).bind fun p => Q.guard (decide p.2.Nodup) (.ret (pack p.1))
    | false => (Q.mapM rvD vs).bind fun xs => .ret (pack xs)
def fin (own : Bool) (P : Program) (rs : List ResultVar) : Ex → St → Option RV
  | .exit _, _ => none
  | _, st => (resQ own P rs (getE st.env)).run (getO st.ob)

def packV : List Value → Value
  | [x] => x
  | xs => .tuple xs.toArray

section
variable {w : World} {U : Nat → Prop} {ι : Pl} {ob : Ob}

theorem resV_ok (hm : Mem w U ι ob) {env : Nat → V} {tmps : Array Value} (hv : ∀ t, VR w U ι ob (env t) (tmps.getD t undef)) : ∀ {rs : List ResultVar} {vs : List V}, (resV P env rs).run ob = some vs →
    ∃ us, (rs.mapM (fun | .tmp t => pure (tmps.getD t undef) | .cell a t => do loadVar t (← asAddr (tmps.getD a undef)) : ResultVar → Sem Value)).run P w = .ok us w ∧ VF w U ι ob vs us
  | [], vs, h => by simp [resV, Q.run] at h; subst h; exact ⟨[], by simp, by simp [VF]⟩
  | .tmp t :: rs, vs, h => by
    simp only [resV] at h
    obtain ⟨vs', h1, h⟩ := bind_run h
    simp only [Q.run, Option.some.injEq] at h
    subst h
    obtain ⟨us, h2, h3⟩ := resV_ok hm hv h1
    refine ⟨tmps.getD t undef :: us, ?_, by simp only [VF]; exact ⟨_, us, rfl, hv t, h3⟩⟩
    rw [List.mapM_cons, Sem.run_bind, Sem.run_pure, Result.andThen_ok, Sem.run_bind, h2]
    rfl
  | .cell a T :: rs, vs, h => by
    simp only [resV] at h
    obtain ⟨g, hg, h⟩ := opt_bind_run h
    obtain ⟨s, hs, h⟩ := opt_bind_run h
    obtain ⟨p, hp, h⟩ := bind_run h
    obtain ⟨vs', h1, h⟩ := bind_run h
    simp only [Q.run, Option.some.injEq] at h
    subst h
    obtain ⟨us, h2, h3⟩ := resV_ok hm hv h1
    obtain ⟨ad, u, h4, h5, h6, _⟩ := load_ok (P := P) hm (hv a) hg hs hp
    refine ⟨u :: us, ?_, by simp only [VF]; exact ⟨_, us, rfl, h6, h3⟩⟩
    have h7 : (asAddr (.pointer (some ad)) : Sem Addr).run P w = .ok ad w := rfl
    rw [List.mapM_cons, Sem.run_bind, Sem.run_bind, h4, h7, Result.andThen_ok, h5, Result.andThen_ok, Sem.run_bind, h2]
    rfl

theorem results_ok {fn : Func} {tmps : Array Value} {us : List Value} (h : (fn.results.toList.mapM (fun | .tmp t => pure (tmps.getD t undef) | .cell a t => do loadVar t (← asAddr (tmps.getD a undef)) : ResultVar → Sem Value)).run P w = .ok us w) :
    (results fn tmps).run P w = .ok (packV us) w := by
  unfold results
  rw [Array.mapM_eq_mapM_toList, Sem.run_bind, Sem.run_map]
  erw [h]
  simp only [Result.andThen_ok, Sem.run_pure]
  congr 1
  match us with
  | [] => rfl
  | [x] => rfl
  | x :: y :: r => rfl

theorem rcO_ok (hm : Mem w U ι ob) {x : L} {v : Value} {c : RC} {ks : List Nat} (h : (rcO x).run ob = some (c, ks)) (hx : LR w U ι ob x v) : RcR w U c v (ks.map fun k => (ι k).1) ∧ ∀ k ∈ ks, ∃ o, ob k = some o ∧ o.owned = true := by
  cases x with
  | d x => simp only [rcO, Q.run, Option.some.injEq, Prod.mk.injEq] at h; obtain ⟨rfl, rfl⟩ := h; exact ⟨⟨rfl, by simpa only [LR] using hx⟩, by simp⟩
  | slk k off n c =>
    simp only [rcO, Q.run] at h
    split at h
    · rename_i rows size elem own hk
      obtain ⟨hg, h'⟩ := guard_run h
      clear h
      have h := h'
      simp only [decide_eq_true_eq] at hg
      obtain ⟨rfl, hle, rfl⟩ := hg
      clear h'
      simp only [Q.run, Option.some.injEq] at h
      have hx0 := hx
      simp only [LR] at hx
      obtain ⟨rows', size', elem', own', h1, h2, h3, _⟩ := hx
      rw [hk] at h1
      cases h1
      obtain ⟨_, rfl⟩ := h3 rfl
      cases own with
      | true =>
        simp only [if_true, Prod.mk.injEq] at h
        obtain ⟨rfl, rfl⟩ := h
        obtain ⟨cur, h5, h6, h7, h8, h9, h10⟩ := hm.obj k _ hk
        exact ⟨⟨(ι k).1, (ι k).2, cur, rfl, by simp [hle], h5, by rw [List.length_take]; omega, h7, h8, h9.take n⟩, by simp [hk, O.owned]⟩
      | false =>
        simp only [Bool.false_eq_true, if_false, Prod.mk.injEq] at h
        obtain ⟨rfl, rfl⟩ := h
        obtain ⟨cur, h5, h6, h7, h8, h9, h10⟩ := hm.obj k _ hk
        have := slk_D hm hx0 hk rfl (U' := U) (fun _ h => h) (by simpa using h10)
        simp only [List.drop_zero] at this
        exact ⟨⟨rfl, this⟩, by simp⟩
    · simp [Q.run] at h
  | mk k =>
    simp only [rcO, Q.run] at h
    split at h
    · rename_i agg keys vals own hk
      simp only [Q.run, Option.some.injEq] at h
      simp only [LR] at hx
      obtain ⟨_, _, _, _, h1, rfl⟩ := hx
      obtain ⟨es, clock, h3, h4, h5⟩ := hm.obj _ _ hk
      cases own with
      | true =>
        simp only [if_true, Prod.mk.injEq] at h
        obtain ⟨rfl, rfl⟩ := h
        exact ⟨⟨_, es, clock, rfl, rfl, h3, h4⟩, by simp [hk, O.owned]⟩
      | false =>
        simp only [Bool.false_eq_true, if_false, Prod.mk.injEq] at h
        obtain ⟨rfl, rfl⟩ := h
        refine ⟨⟨rfl, ?_⟩, by simp⟩
        simp only [DR]
        exact ⟨_, es, clock, rfl, by simpa using h5, h3, h4⟩
    · simp [Q.run] at h
  | pa => simp [rcO, Q.run] at h
  | ptr => simp [rcO, Q.run] at h
  | fn => simp [rcO, Q.run] at h
  | undef => simp [rcO, Q.run] at h

theorem rcOs_ok (hm : Mem w U ι ob) : ∀ {xs : List L} {vs : List Value} {cs : List RC} {ks : List Nat}, (rcOs xs).run ob = some (cs, ks) → LF w U ι ob xs vs → RcF w U cs vs (ks.map fun k => (ι k).1) ∧ ∀ k ∈ ks, ∃ o, ob k = some o ∧ o.owned = true
  | [], vs, cs, ks, h, hl => by
    simp only [rcOs, Q.run, Option.some.injEq, Prod.mk.injEq] at h
    obtain ⟨rfl, rfl⟩ := h
    exact ⟨⟨by simpa only [LF] using hl, rfl⟩, by simp⟩
  | x :: xs, vs, cs, ks, h, hl => by
    simp only [rcOs] at h
    obtain ⟨p, h1, h⟩ := bind_run h
    obtain ⟨q, h2, h⟩ := bind_run h
    simp only [Q.run, Option.some.injEq, Prod.mk.injEq] at h
    obtain ⟨rfl, rfl⟩ := h
    simp only [LF] at hl
    obtain ⟨v, vs', rfl, h3, h4⟩ := hl
    obtain ⟨a1, a2⟩ := rcO_ok hm h1 h3
    obtain ⟨b1, b2⟩ := rcOs_ok hm h2 h4
    refine ⟨⟨v, vs', _, _, rfl, by rw [List.map_append], a1, b1⟩, fun k hk => ?_⟩
    rcases List.mem_append.1 hk with h | h
    · exact a2 k h
    · exact b2 k h

theorem rvO_ok (hm : Mem w U ι ob) {x : V} {v : Value} {c : RV} {ks : List Nat} (h : (rvO x).run ob = some (c, ks)) (hx : VR w U ι ob x v) : RvR w U c v (ks.map fun k => (ι k).1) ∧ ∀ k ∈ ks, ∃ o, ob k = some o ∧ o.owned = true := by
  cases x with
  | one l =>
    simp only [rvO] at h
    obtain ⟨p, h1, h⟩ := bind_run h
    simp only [Q.run, Option.some.injEq, Prod.mk.injEq] at h
    obtain ⟨rfl, rfl⟩ := h
    simp only [VR] at hx
    obtain ⟨a1, a2⟩ := rcO_ok hm h1 hx
    exact ⟨by simpa only [RvR] using a1, a2⟩
  | agg ls =>
    simp only [rvO] at h
    obtain ⟨p, h1, h⟩ := bind_run h
    simp only [Q.run, Option.some.injEq, Prod.mk.injEq] at h
    obtain ⟨rfl, rfl⟩ := h
    simp only [VR] at hx
    obtain ⟨cs, rfl, hl⟩ := hx
    obtain ⟨a1, a2⟩ := rcOs_ok hm h1 hl
    exact ⟨by simp only [RvR]; exact ⟨cs, rfl, a1⟩, a2⟩
  | tup _ => simp [rvO, Q.run] at h

theorem rvOs_ok (hm : Mem w U ι ob) : ∀ {xs : List V} {vs : List Value} {cs : List RV} {ks : List Nat}, (rvOs xs).run ob = some (cs, ks) → VF w U ι ob xs vs → RvF w U cs vs (ks.map fun k => (ι k).1) ∧ ∀ k ∈ ks, ∃ o, ob k = some o ∧ o.owned = true
  | [], vs, cs, ks, h, hl => by
    simp only [rvOs, Q.run, Option.some.injEq, Prod.mk.injEq] at h
    obtain ⟨rfl, rfl⟩ := h
    exact ⟨by simp only [RvF]; exact ⟨by simpa only [VF] using hl, rfl⟩, by simp⟩
  | x :: xs, vs, cs, ks, h, hl => by
    simp only [rvOs] at h
    obtain ⟨p, h1, h⟩ := bind_run h
    obtain ⟨q, h2, h⟩ := bind_run h
    simp only [Q.run, Option.some.injEq, Prod.mk.injEq] at h
    obtain ⟨rfl, rfl⟩ := h
    simp only [VF] at hl
    obtain ⟨v, vs', rfl, h3, h4⟩ := hl
    obtain ⟨a1, a2⟩ := rvO_ok hm h1 h3
    obtain ⟨b1, b2⟩ := rvOs_ok hm h2 h4
    refine ⟨by simp only [RvF]; exact ⟨v, vs', _, _, rfl, by rw [List.map_append], a1, b1⟩, fun k hk => ?_⟩
    rcases List.mem_append.1 hk with h | h
    · exact a2 k h
    · exact b2 k h

theorem rvD_ok (hm : Mem w U ι ob) {Us : Nat → Prop} (hU : ∀ b, U b → Us b) (hO : ∀ k o, ob k = some o → Us (ι k).1) : ∀ {xs : List V} {vs : List Value} {cs : List RV}, (Q.mapM rvD xs).run ob = some cs → VF w U ι ob xs vs → RvF w Us cs vs []
  | [], vs, cs, h, hl => by
    simp only [Q.mapM, Q.run, Option.some.injEq] at h
    subst h
    simp only [VF] at hl; subst hl; simp only [RvF]; trivial
  | x :: xs, vs, cs, h, hl => by
    simp only [Q.mapM] at h
    obtain ⟨p, h1, h⟩ := bind_run h
    obtain ⟨q, h2, h⟩ := bind_run h
    simp only [Q.run, Option.some.injEq] at h
    subst h
    simp only [VF] at hl
    obtain ⟨v, vs', rfl, h3, h4⟩ := hl
    have b1 := rvD_ok hm hU hO h2 h4
    simp only [RvF]
    refine ⟨v, vs', [], [], rfl, by trivial, ?_, b1⟩
    cases x with
    | one l =>
      simp only [rvD] at h1
      obtain ⟨d, h5, h1⟩ := bind_run h1
      simp only [Q.run, Option.some.injEq] at h1
      subst h1
      simp only [VR] at h3
      simp only [RvR, RcR]
      exact ⟨by trivial, toD_ok hm hU hO _ _ _ _ h5 h3⟩
    | agg ls =>
      simp only [rvD] at h1
      obtain ⟨ds, h5, h1⟩ := bind_run h1
      simp only [Q.run, Option.some.injEq] at h1
      subst h1
      simp only [VR] at h3
      obtain ⟨us, rfl, hl⟩ := h3
      have hf := toDs_ok hm hU hO _ _ _ _ h5 hl
      simp only [RvR]
      refine ⟨us, rfl, ?_⟩
      have key : ∀ {ds : List D} {us : List Value}, FR w Us ds us → RcF w Us (ds.map .d) us [] := by
        intro ds
        induction ds with
        | nil => intro us h; exact ⟨by simpa only [FR] using h, rfl⟩
        | cons d ds ih => intro us h; simp only [FR] at h; obtain ⟨v, vs', rfl, h1, h2⟩ := h; exact ⟨v, vs', [], [], rfl, rfl, ⟨rfl, h1⟩, ih h2⟩
      exact key hf
    | tup _ => simp [rvD, Q.run] at h1

theorem pack_ok {xs : List RV} {us : List Value} {bs : List Nat} (h : RvF w U xs us bs) : RvR w U (pack xs) (packV us) bs := by
  match xs, h with
  | [], h => simp only [RvF] at h; obtain ⟨rfl, rfl⟩ := h; simp only [pack, packV, RvR, RvF]; exact ⟨_, rfl, by trivial⟩
  | [x], h =>
    simp only [RvF] at h
    obtain ⟨v, vs', b1, b2, rfl, rfl, h1, rfl, rfl⟩ := h
    simpa only [pack, packV, List.append_nil] using h1
  | x :: y :: r, h =>
    have h' := h
    simp only [RvF] at h
    obtain ⟨v, vs', b1, b2, rfl, rfl, h1, v2, vs2, b3, b4, rfl, rfl, _⟩ := h
    simp only [pack, packV, RvR]
    exact ⟨_, rfl, h'⟩
end

theorem envOf_VR {w : World} {U : Nat → Prop} {ι : Pl} {ob : Ob} : ∀ {ds : List VD} {vs : List Value} {i : Nat}, VDF w U ds vs → ∀ t, VR w U ι ob (getE (envOf ds i) t) (if t < i then undef else vs.getD (t - i) undef) ∨ getE (envOf ds i) t = .one .undef
  | [], vs, i, h, t => .inr rfl
  | x :: ds, vs, i, h, t => by
    simp only [VDF] at h
    obtain ⟨v, vs', rfl, h1, h2⟩ := h
    simp only [envOf, getE]
    by_cases ht : t = i
    · subst ht
      left
      simp only [if_true, Nat.lt_irrefl, if_false, Nat.sub_self, List.getD_cons_zero]
      cases x with
      | one x => simpa only [vOf, VR, LR, VDR] using h1
      | agg xs => obtain ⟨cs, rfl, hf⟩ := h1; simp only [vOf, VR]; exact ⟨cs, rfl, row_LF hf⟩
    · simp only [if_neg ht]
      rcases envOf_VR (ι := ι) (ob := ob) (i := i + 1) h2 t with h3 | h3
      · left
        by_cases hlt : t < i
        · rw [if_pos hlt]; rwa [if_pos (by omega)] at h3
        · rw [if_neg hlt]
          rw [if_neg (by omega)] at h3
          rw [show t - i = (t - (i + 1)) + 1 by omega, List.getD_cons_succ]
          exact h3
      · exact .inr h3

theorem VDF.len {w : World} {U : Nat → Prop} {ds : List VD} {vs : List Value} (h : VDF w U ds vs) : vs.length = ds.length := by
  induction ds generalizing vs with
  | nil => simp only [VDF] at h; simp [h]
  | cons x xs ih => simp only [VDF] at h; obtain ⟨v, vs', rfl, _, h2⟩ := h; simp [ih h2]

/-- **A CONTRACT OUT OF THE STATEMENTS.** -/
theorem sc_of_exec {f : Nat} {fn : Func} {c : Code} {args : List VD} {r : RV} (cfg : Cfg) (own : Bool) (n : Nat) (hcall : ∀ (as : Array Value) (w : World), (callFunc f as).run P w = .ok (.enter f as) w)
    (hf : P.funcs[f]? = some fn) (hb : fn.body = some c) (hC : ∀ f ds r, cfg.C f ds = some r → SC P f ds r) (hmix : P.follows .mixedOrders = true) (hd : drawsOK cfg.draw c = true) (hn : args.length ≤ fn.ntmps)
    (h : exec cfg P fn.ntmps n 0 c ⟨envOf args 0, []⟩ (fin own P fn.results.toList) = some r) : SC P f args r := by
  refine ⟨hcall, fun w U vs hU hv => ?_⟩
  have hlen := hv.len
  simp only [Array.length_toList] at hlen
  refine calls_of_wp hf hb ?_
  have hs : SimS w U fn.ntmps ⟨envOf args 0, []⟩ { tmps := vs ++ Array.replicate (fn.ntmps - vs.size) undef, defers := [] } w := by
    refine ⟨U, fun _ => (0, 0), fun _ => (0, 0), ⟨hU, by intro _ _ h; simp [getO] at h, by intro _ _ _ _ h; simp [getO] at h⟩, Evo.refl _ _ _ _, rfl, by simp; omega, fun t => ?_⟩
    rcases envOf_VR (ι := fun _ => (0, 0)) (ob := getO []) (i := 0) hv t with h3 | h3
    · simp only [Nat.not_lt_zero, if_false, Nat.sub_zero] at h3
      have : (vs ++ Array.replicate (fn.ntmps - vs.size) undef).getD t undef = vs.toList.getD t undef := by
        rw [Array.getD_eq_getD_getElem?, List.getD_eq_getElem?_getD, Array.getElem?_append]
        split
        · simp
        · rename_i hge
          rw [List.getElem?_eq_none (by simpa using hge)]
          simp only [Array.getElem?_replicate]
          split <;> rfl
      rw [this]
      exact h3
    · simp only [h3, VR, LR]
  refine wp_mono ((exec_sound hC hmix n).1 0 c _ _ _ w hd h hs) ?_
  rintro e a w' ⟨x, st, rfl, hk, U', ι0, ι, hm, he, hdf, hsz, hvr⟩
  have main : (resQ own P fn.results.toList (getE st.env)).run (getO st.ob) = some r → a.defers = [] ∧ ∃ v, (results fn a.tmps).run P w' = .ok v w' ∧ Post w U r (.returned v) w' := by
    intro hq
    unfold resQ at hq
    obtain ⟨rvs, h1, hq⟩ := bind_run hq
    obtain ⟨us, h2, h3⟩ := resV_ok (P := P) hm hvr h1
    have hbelow : Below w.heap.size w w' := ⟨he.os, he.tape, he.output, he.size, fun b hb => he.same b hb (by intro k o h; cases h)⟩
    have horig : ∀ b, U' b → U b ∨ w.heap.size ≤ b := fun b hb => by
      rcases he.orig b hb with h | h | ⟨k, o, h, _⟩
      · exact .inl h
      · exact .inr h
      · cases h
    have howned : ∀ k o, getO st.ob k = some o → o.owned = true → w.heap.size ≤ (ι k).1 := fun k o hk ho => by
      rcases he.ownd k o hk ho with h | ⟨k0, o0, h, _⟩
      · exact h
      · cases h
    refine ⟨hdf, packV us, results_ok h2, ?_⟩
    cases own with
    | true =>
      simp only at hq
      obtain ⟨p, h4, hq⟩ := bind_run hq
      obtain ⟨hnd, hq⟩ := guard_run hq
      simp only [decide_eq_true_eq] at hnd
      simp only [Q.run, Option.some.injEq] at hq
      subst hq
      obtain ⟨a1, a2⟩ := rvOs_ok hm h4 h3
      refine ⟨packV us, U', p.2.map fun k => (ι k).1, rfl, hbelow, he.sub, fun b hb => ⟨hm.lt b hb, horig b hb⟩, ?_, ?_, pack_ok a1⟩
      · have key : ∀ {ks : List Nat}, ks.Nodup → (∀ k ∈ ks, ∃ o, getO st.ob k = some o ∧ o.owned = true) → (ks.map fun k => (ι k).1).Nodup := by
          intro ks
          induction ks with
          | nil => intro _ _; simp
          | cons k ks ih =>
            intro hn ho
            simp only [List.nodup_cons] at hn
            simp only [List.map_cons, List.nodup_cons]
            refine ⟨?_, ih hn.2 fun k' hk' => ho k' (by simp [hk'])⟩
            intro hmem
            obtain ⟨k', hk', heq⟩ := List.mem_map.1 hmem
            obtain ⟨o, h5, h6⟩ := ho k (by simp)
            obtain ⟨o', h7, h8⟩ := ho k' (by simp [hk'])
            exact hm.inj k k' o o' h5 h7 h6 h8 (fun e => hn.1 (e ▸ hk')) heq.symm
        exact key hnd a2
      · intro b hb
        obtain ⟨k, hk, rfl⟩ := List.mem_map.1 hb
        obtain ⟨o, h5, h6⟩ := a2 k hk
        exact ⟨howned k o h5 h6, hm.block h5, hm.notU h5 h6⟩
    | false =>
      simp only at hq
      obtain ⟨xs, h4, hq⟩ := bind_run hq
      simp only [Q.run, Option.some.injEq] at hq
      subst hq
      have := rvD_ok hm (Us := fun b => U' b ∨ (w.heap.size ≤ b ∧ b < w'.heap.size)) (fun b hb => .inl hb) (fun k o hk => by
        cases ho : o.owned with
        | true => exact .inr ⟨howned k o hk ho, hm.block hk⟩
        | false =>
          have h0 := hm.obj k o hk
          left
          cases o with
          | box => simp [O.owned] at ho
          | arr rows size elem own => simp [O.owned] at ho; subst ho; obtain ⟨_, _, _, _, _, _, h6⟩ := h0; simpa using h6
          | mp agg keys vals own => simp [O.owned] at ho; subst ho; obtain ⟨_, _, _, _, h6⟩ := h0; simpa using h6) h4 h3
      refine ⟨packV us, fun b => U' b ∨ (w.heap.size ≤ b ∧ b < w'.heap.size), [], rfl, hbelow, fun b hb => .inl (he.sub b hb), ?_, by simp, by simp, pack_ok this⟩
      rintro b (hb | hb)
      · exact ⟨hm.lt b hb, horig b hb⟩
      · exact ⟨hb.2, .inr hb.1⟩
  cases x with
  | normal => exact main hk
  | ret => exact main hk
  | exit id => simp [fin] at hk

end Go.VE
