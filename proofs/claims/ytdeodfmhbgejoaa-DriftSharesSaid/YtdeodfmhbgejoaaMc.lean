/- The evaluator with functions run in place and ranges over functions. -/
import Derived.Test.YtdeodfmhbgejoaaMb
import Derived.RangeFuncRecord
import Derived.OrdersIn
import Derived.LoopNIn
import Derived.TacticsIn
import Derived.RangeFuncSeq
namespace Go.VE
open Go.RowKit

structure Bd where
  nt : Nat
  res : List ResultVar
  code : Code

structure S2 where
  env : List (Nat × V)
  ob : List (Nat × O)
  ys : List Nat
  pend : Option Ex

structure Cf where
  C : Cs
  inl : Nat → Option Bd
  live : Nat → Nat → Option (List Nat)
  draw : Nat → Nat → Array Oper → List (Nat × Nat)
  sum : Nat → Nat → Option (S2 → Option (Ex × S2))

/-- A frame: the function, its keys' base, its temporaries, whether it may range over functions, what is not dropped. -/
structure Fr where
  f : Nat
  b : Nat
  nt : Nat
  rng : Bool
  pr : List Nat
  top : Bool

abbrev Hd (α : Type) := List V → List (Nat × O) → (Option Ex → List (Nat × O) → Option α) → Option α
abbrev Rn (α : Type) := Nat → List V → Nat → List (Nat × O) → (V → List (Nat × O) → Option α) → Option α

def freeK (ob : List (Nat × O)) : Nat → Nat → Nat
  | 0, k => k
  | n + 1, k => if ob.all fun p => p.1 != k && (Nat.blt p.1 (1000 * (k + 1)) || Nat.ble (1000 * (k + 2)) p.1) then k else freeK ob n (k + 1000000000)
def kd (ob : List (Nat × O)) (b : Nat) (dst : Option Nat) : Option Nat := match dst with
  | some d => some (freeK ob 8 (b * 1000 + d))
  | none => none

def dedup (l acc : List Nat) : List Nat := match l with
  | [] => acc
  | x :: xs => if acc.contains x then dedup xs acc else dedup xs (x :: acc)
def objKeys (ob : List (Nat × O)) : List Nat → List Nat
  | [] => []
  | k :: ks => match getO ob k with
    | some o => o.keysOf ++ objKeys ob ks
    | none => objKeys ob ks
def reach (ob : List (Nat × O)) : Nat → List Nat → List Nat
  | 0, ks => ks
  | n + 1, ks => reach ob n (dedup (objKeys ob ks) ks)
/-- What is reached from some keys and values alone is kept. -/
def gcO (pr : List Nat) (vs : List V) (ob : List (Nat × O)) : Option (List (Nat × O)) :=
  let ks := reach ob 6 (dedup (V.keysF vs) pr)
  let ob' := keepO ob ks
  if (vs.all fun v => v.keysOf.all fun k => ks.contains k) && (ob'.all fun p => p.2.keysOf.all fun k => ks.contains k) then some ob' else none
def norm2 (fr : Fr) (lv : Option (List Nat)) (st : S2) : Option S2 := match lv with
  | none => some st
  | some ts => match gcO fr.pr ((keepE st.env ts).map (·.2)) st.ob with
    | some ob' => some ⟨keepE st.env ts, ob', st.ys.filter ts.contains, st.pend⟩
    | none => none

def packVs : List V → V
  | [x] => x
  | xs => .tup xs

def envV : List V → Nat → List (Nat × V)
  | [], _ => []
  | x :: xs, i => (i, x) :: envV xs (i + 1)

def setYs (ys : List Nat) : Option Nat → List Nat
  | some d => ys.filter (· != d)
  | none => ys
def put2 (dst : Option Nat) (v : V) (ob : List (Nat × O)) (st : S2) : S2 := ⟨match dst with | some d => (d, v) :: st.env | none => st.env, ob, setYs st.ys dst, st.pend⟩

inductive Kind where
  | copy (d : Nat)
  | yld (args : List Operand)
  | inl (f : Nat) (args : List V)
  | op

def yOf (ys : List Nat) : Operand → Bool
  | .tmp t => ys.contains t
  | _ => false
def kindOf (cfg : Cf) (ys : List Nat) (ρ : Operand → V) (o : Oper) : Kind := match o.op with
  | .move x => match yOf ys x, o.dst with
    | true, some d => .copy d
    | _, _ => .op
  | .assign x => match yOf ys x, o.dst with
    | true, some d => .copy d
    | _, _ => .op
  | op => match calleeOf op with
    | none => .op
    | some (fo, args) => if yOf ys fo = true then .yld args else match fnOf (ρ fo) with
      | some (f, caps) => match cfg.inl f with
        | some _ => .inl f (args.map ρ ++ caps.map .one)
        | none => .op
      | none => .op

def kYld {α : Type} (dst : Option Nat) (st : S2) (k : S2 → Option α) : Option Ex → List (Nat × O) → Option α := fun p ob => k { put2 dst (vlit (.bool p.isNone)) ob st with pend := p }
def kCall {α : Type} (dst : Option Nat) (st : S2) (k : S2 → Option α) : V → List (Nat × O) → Option α := fun v ob => k (put2 dst v ob st)
def run2 {α : Type} (cfg : Cf) (P : Program) (fr : Fr) (hd : Option (Hd α)) (rn : Rn α) (o : Oper) (st : S2) (k : S2 → Option α) : Option α :=
  if dstOK fr.nt o.dst = true then
    match kindOf cfg st.ys (ev (getE st.env)) o with
    | .copy d => k ⟨(d, .one .undef) :: st.env, st.ob, d :: st.ys, st.pend⟩
    | .yld args => match hd, st.pend with
      | some h, none => h (args.map (ev (getE st.env))) st.ob (kYld o.dst st k)
      | _, _ => none
    | .inl f args => match o.dst with
      | some d => rn f args (fr.b * 1000 + d + 1) st.ob (kCall o.dst st k)
      | none => none
    | .op => match (opQ cfg.C P (kd st.ob fr.b o.dst) (ev (getE st.env)) o.op).run (getO st.ob) with
      | none => none
      | some r => k (put2 o.dst r.1 (addO r.2 st.ob) st)
  else none

def kOps {α : Type} (f : S2 → (S2 → Option α) → Option α) (k : S2 → Option α) : S2 → Option α := fun st' => f st' k
def ops2 {α : Type} (cfg : Cf) (P : Program) (fr : Fr) (hd : Option (Hd α)) (rn : Rn α) (ops : Array Oper) : List Oper → S2 → (S2 → Option α) → Option α
  | [], st, k => k st
  | o :: rest, st, k => match o.guard with
    | none => run2 cfg P fr hd rn o st (kOps (ops2 cfg P fr hd rn ops rest) k)
    | some (j, want) => match gateTmp ops j with
      | none => none
      | some gt => match getE st.env gt with
        | .one (.d (.lit (.bool b))) => if b = want then run2 cfg P fr hd rn o ⟨(gt, vlit (.bool want)) :: st.env, st.ob, st.ys, st.pend⟩ (kOps (ops2 cfg P fr hd rn ops rest) k)
          else if dstOK fr.nt o.dst = true then ops2 cfg P fr hd rn ops rest (put2 o.dst (.tup []) st.ob ⟨(gt, vlit (.bool !want)) :: st.env, st.ob, st.ys, st.pend⟩) k else none
        | .tup [] => if dstOK fr.nt o.dst = true then ops2 cfg P fr hd rn ops rest (put2 o.dst (.tup []) st.ob st) k else none
        | _ => none

/-- A region that draws its order: what it does is opQ's alone. -/
def kDr {α : Type} (pend : Option Ex) (k : S2 → Option α) : St → Option α := fun s => k ⟨s.env, s.ob, [], pend⟩
def dr2 {α : Type} (cfg : Cf) (P : Program) (fr : Fr) (id : Nat) (ops : Array Oper) (st : S2) (k : S2 → Option α) : Option α :=
  if st.ys = [] then
    match cfg.draw fr.f id ops with
    | [] => execOps cfg.C P fr.nt ops ops.toList ⟨st.env, st.ob⟩ (kDr st.pend k)
    | p :: ps => execD cfg.C P fr.nt ops (p :: ps) ops.toList 0 [] ⟨st.env, st.ob⟩ (kDr st.pend k)
  else none

def keysO (ob : List (Nat × O)) : List Nat := ob.map (·.1)

abbrev Ev (α : Type) := Fr → Option (Hd α) → Nat → Code → S2 → (Ex → S2 → Option α) → Option α

def kSeq {α : Type} (ex : Ev α) (fr : Fr) (hd : Option (Hd α)) (cur : Nat) (b : Code) (k : Ex → S2 → Option α) : Ex → S2 → Option α
  | .normal, st => ex fr hd cur b st k
  | .exit i, st => k (.exit i) st
  | .ret, st => k .ret st
def kBlk {α : Type} (fr : Fr) (lv : Option (List Nat)) (id : Nat) (k : Ex → S2 → Option α) : Ex → S2 → Option α
  | .normal, st => k .normal st
  | .ret, st => k .ret st
  | .exit i, st => if i = id then (match norm2 fr lv st with
      | some st'' => k .normal st''
      | none => none) else k (.exit i) st
def inlEnd {α : Type} (P : Program) (bd : Bd) (ob : List (Nat × O)) (kk : V → List (Nat × O) → Option α) (st' : S2) : Option α := match (resV P (getE st'.env) bd.res).run (getO st'.ob) with
  | some vs => match gcO (keysO ob) vs st'.ob with
    | some ob' => kk (packVs vs) ob'
    | none => none
  | none => none
def kInl {α : Type} (P : Program) (bd : Bd) (ob : List (Nat × O)) (kk : V → List (Nat × O) → Option α) : Ex → S2 → Option α
  | .exit _, _ => none
  | .normal, st => inlEnd P bd ob kk st
  | .ret, st => inlEnd P bd ob kk st
def rnOf {α : Type} (cfg : Cf) (P : Program) (ex : Ev α) : Rn α := fun f args b ob kk => match cfg.inl f with
  | none => none
  | some bd => if args.length ≤ bd.nt then ex ⟨f, b, bd.nt, true, keysO ob, false⟩ none 0 bd.code ⟨envV args 0, ob, [], none⟩ (kInl P bd ob kk) else none
def kBdy {α : Type} (ob : List (Nat × O)) (kk : Option Ex → List (Nat × O) → Option α) : Ex → S2 → Option α := fun e2 st2 => match gcO (keysO ob) [] st2.ob with
  | some ob' => kk (match e2 with | .normal => none | e2 => some e2) ob'
  | none => none
def kAsg {α : Type} (ex : Ev α) (fr : Fr) (cur : Nat) (body : Code) (k : Ex → S2 → Option α) : Ex → S2 → Option α
  | .normal, st1 => ex ⟨fr.f, fr.b, fr.nt, false, keysO st1.ob, false⟩ none cur body st1 k
  | .exit _, _ => none
  | .ret, _ => none
def rngH {α : Type} (ex : Ev α) (fr : Fr) (cur : Nat) (ps : Array Tmp) (assign body : Code) (env : List (Nat × V)) : Hd α := fun vals ob kk => if vals.length = ps.size then
    ex ⟨fr.f, fr.b, fr.nt, false, keysO ob, false⟩ none cur assign ⟨((ps.toList.zip vals).reverse ++ env), ob, [], none⟩ (kAsg ex fr cur body (kBdy ob kk))
  else none
def itEnd {α : Type} (st : S2) (k : Ex → S2 → Option α) (st' : S2) : Option α := match gcO (keysO st.ob) [] st'.ob with
  | some ob' => k (st'.pend.getD .normal) ⟨st.env, ob', [], st.pend⟩
  | none => none
def kIt {α : Type} (st : S2) (k : Ex → S2 → Option α) : Ex → S2 → Option α
  | .exit _, _ => none
  | .normal, st' => itEnd st k st'
  | .ret, st' => itEnd st k st'
def sumOf {α : Type} (fr : Fr) (lv : Option (List Nat)) (g : S2 → Option (Ex × S2)) (st : S2) (k : Ex → S2 → Option α) : Option α := match norm2 fr lv st, st.pend with
  | some s, none => match g s with
    | some (e, ⟨env, ob, ys, none⟩) => k e ⟨env, ob, ys, none⟩
    | _ => none
  | _, _ => none
def sumAt (cfg : Cf) (fr : Fr) (id : Nat) : Option (S2 → Option (Ex × S2)) := match fr.top with
  | true => cfg.sum fr.f id
  | false => none

def exec2 {α : Type} (cfg : Cf) (P : Program) : Nat → Ev α
  | 0, _, _, _, _, _, _ => none
  | n + 1, fr, hd, cur, c, st, k => match c with
    | .skip => k .normal st
    | .label _ => k .normal st
    | .ret => k .ret st
    | .exit id => k (.exit id) st
    | .region id ops draw => match draw with
      | false => ops2 cfg P fr hd (rnOf cfg P (exec2 cfg P n)) ops ops.toList st (k .normal)
      | true => dr2 cfg P fr id ops st (k .normal)
    | .seq a b => exec2 cfg P n fr hd cur a st (kSeq (exec2 cfg P n) fr hd cur b k)
    | .cond c a b => match condE st.env c with
      | none => none
      | some (t, rt) => if t = true then exec2 cfg P n fr hd cur a ⟨(refine_ ⟨st.env, st.ob⟩ rt true).env, st.ob, st.ys, st.pend⟩ k else exec2 cfg P n fr hd cur b ⟨(refine_ ⟨st.env, st.ob⟩ rt false).env, st.ob, st.ys, st.pend⟩ k
    | .block id c => match sumAt cfg fr id with
      | none => exec2 cfg P n fr hd id c st (kBlk fr (cfg.live fr.f id) id k)
      | some g => sumOf fr (cfg.live fr.f id) g st k
    | .loop c => match norm2 fr (cfg.live fr.f cur) st with
      | none => none
      | some st0 => exec2 cfg P n fr hd cur c st0 (kSeq (exec2 cfg P n) fr hd cur (.loop c) k)
    | .rangeFunc g ps assign body => if fr.rng = true ∧ st.ys = [] then
        match fnOf (ev (getE st.env) g) with
        | none => none
        | some (f, caps) => match cfg.inl f with
          | none => none
          | some bd => if caps.length + 1 ≤ bd.nt ∧ bd.res = [] ∧ ps.toList.all (fun p => decide (p < fr.nt)) = true then
              exec2 cfg P n ⟨f, (fr.b + 1) * 1000, bd.nt, false, keysO st.ob, false⟩ (some (rngH (exec2 cfg P n) fr cur ps assign body st.env)) 0 bd.code ⟨envV (.one .undef :: caps.map .one) 0, st.ob, [0], none⟩ (kIt st k)
            else none
      else none
    | _ => none

/-! ### what the data leans on -/
structure Keep (w : World) (U : Nat → Prop) (ι : Pl) (ob : Ob) (w' : World) (U' : Nat → Prop) (ι' : Pl) (ob' : Ob) : Prop where
  kept : ∀ b, U b → w'.heap[b]? = w.heap[b]?
  sub : ∀ b, U b → U' b
  box : ∀ k cells elem, ob k = some (.box cells elem) → ∃ cells', ob' k = some (.box cells' elem) ∧ (ι' k).1 = (ι k).1
  arr : ∀ k rows size elem own, ob k = some (.arr rows size elem own) → ∃ rows' own', ob' k = some (.arr rows' size elem own') ∧ rows.length ≤ rows'.length ∧ (rows'.length = rows.length → ι' k = ι k)
  mp : ∀ k agg keys vals own, ob k = some (.mp agg keys vals own) → ∃ keys' vals' own', ob' k = some (.mp agg keys' vals' own') ∧ (ι' k).1 = (ι k).1

section
variable {w w' : World} {U U' : Nat → Prop} {ι ι' : Pl} {ob ob' : Ob}
theorem Evo.keep (h : Evo w U ι ob w' U' ι' ob') : Keep w U ι ob w' U' ι' ob' := ⟨h.kept, h.sub, h.box, h.arr, h.mp⟩
theorem Keep.trans {w'' : World} {U'' : Nat → Prop} {ι'' : Pl} {ob'' : Ob} (h : Keep w U ι ob w' U' ι' ob') (k : Keep w' U' ι' ob' w'' U'' ι'' ob'') : Keep w U ι ob w'' U'' ι'' ob'' := by
  refine ⟨fun b hb => (k.kept b (h.sub b hb)).trans (h.kept b hb), fun b hb => k.sub b (h.sub b hb), ?_, ?_, ?_⟩
  · intro q cells elem hq
    obtain ⟨c', h1, h2⟩ := h.box q cells elem hq
    obtain ⟨c'', h3, h4⟩ := k.box q c' elem h1
    exact ⟨c'', h3, h4.trans h2⟩
  · intro q rows size elem own hq
    obtain ⟨r', o', h1, h2, h3⟩ := h.arr q rows size elem own hq
    obtain ⟨r'', o'', h4, h5, h6⟩ := k.arr q r' size elem o' h1
    exact ⟨r'', o'', h4, Nat.le_trans h2 h5, fun e => (h6 (by omega)).trans (h3 (by omega))⟩
  · intro q agg keys vals own hq
    obtain ⟨k1, v1, o1, h1, h2⟩ := h.mp q agg keys vals own hq
    obtain ⟨k2, v2, o2, h3, h4⟩ := k.mp q agg k1 v1 o1 h1
    exact ⟨k2, v2, o2, h3, h4.trans h2⟩
end
mutual
theorem LR.keep {w w' : World} {U U' : Nat → Prop} {ι ι' : Pl} {ob ob' : Ob} (e : Keep w U ι ob w' U' ι' ob') : ∀ (x : L) (v : Value), LR w U ι ob x v → LR w' U' ι' ob' x v
  | .d x, v, h => by simp only [LR] at h ⊢; exact DR.mono e.kept e.sub x v h
  | .slk k off n c, v, h => by
    simp only [LR] at h ⊢
    obtain ⟨rows, size, elem, own, h1, h2, h3, h4⟩ := h
    obtain ⟨r', o', h5, h6, h7⟩ := e.arr k rows size elem own h1
    exact ⟨r', size, elem, o', h5, by omega, fun hc => by rw [h7 (by omega)]; exact h3 (by omega), h4⟩
  | .pa k i off c, v, h => by
    simp only [LR] at h ⊢
    obtain ⟨rows, size, elem, own, h1, h2, h3, h4⟩ := h
    obtain ⟨r', o', h5, h6, h7⟩ := e.arr k rows size elem own h1
    exact ⟨r', size, elem, o', h5, by omega, fun hc => by rw [h7 (by omega)]; exact h3 (by omega), h4⟩
  | .ptr k off, v, h => by
    simp only [LR] at h ⊢
    obtain ⟨cells, elem, h1, h2⟩ := h
    obtain ⟨c', h3, h4⟩ := e.box k cells elem h1
    exact ⟨c', elem, h3, by rw [h4]; exact h2⟩
  | .fn f caps, v, h => by
    simp only [LR] at h ⊢
    obtain ⟨cs, e1, hr⟩ := h
    exact ⟨cs, e1, LF.keep e caps cs.toList hr⟩
  | .mk k, v, h => by
    simp only [LR] at h ⊢
    obtain ⟨agg, keys, vals, own, h1, h2⟩ := h
    obtain ⟨k1, v1, o1, h3, h4⟩ := e.mp k agg keys vals own h1
    exact ⟨agg, k1, v1, o1, h3, by rw [h4]; exact h2⟩
  | .undef, v, h => by simp [LR]
theorem LF.keep {w w' : World} {U U' : Nat → Prop} {ι ι' : Pl} {ob ob' : Ob} (e : Keep w U ι ob w' U' ι' ob') : ∀ (xs : List L) (vs : List Value), LF w U ι ob xs vs → LF w' U' ι' ob' xs vs
  | [], vs, h => by simpa [LF] using h
  | x :: xs, vs, h => by
    simp only [LF] at h ⊢
    obtain ⟨v, vs', e1, h1, h2⟩ := h
    exact ⟨v, vs', e1, LR.keep e x v h1, LF.keep e xs vs' h2⟩
end
mutual
theorem VR.keep {w w' : World} {U U' : Nat → Prop} {ι ι' : Pl} {ob ob' : Ob} (e : Keep w U ι ob w' U' ι' ob') : ∀ (x : V) (v : Value), VR w U ι ob x v → VR w' U' ι' ob' x v
  | .one x, v, h => by simp only [VR] at h ⊢; exact LR.keep e x v h
  | .agg xs, v, h => by
    simp only [VR] at h ⊢
    obtain ⟨cs, e1, hr⟩ := h
    exact ⟨cs, e1, LF.keep e xs cs.toList hr⟩
  | .tup xs, v, h => by
    simp only [VR] at h ⊢
    obtain ⟨cs, e1, hr⟩ := h
    exact ⟨cs, e1, VF.keep e xs cs.toList hr⟩
theorem VF.keep {w w' : World} {U U' : Nat → Prop} {ι ι' : Pl} {ob ob' : Ob} (e : Keep w U ι ob w' U' ι' ob') : ∀ (xs : List V) (vs : List Value), VF w U ι ob xs vs → VF w' U' ι' ob' xs vs
  | [], vs, h => by simpa [VF] using h
  | x :: xs, vs, h => by
    simp only [VF] at h ⊢
    obtain ⟨v, vs', e1, h1, h2⟩ := h
    exact ⟨v, vs', e1, VR.keep e x v h1, VF.keep e xs vs' h2⟩
end
end Go.VE
/- What is kept beside the data: other blocks, marks; what is dropped. -/
namespace Go.VE
open Go.RowKit

variable {P : Program}

structure Base where
  w : World
  U : Nat → Prop
  ι : Pl
  ob : Ob

def Off (U : Nat → Prop) (ι : Pl) (ob : Ob) (z : Nat) : Prop := ¬ U z ∧ ∀ k o, ob k = some o → o.owned = true → (ι k).1 ≠ z
def Zs (w : World) (U : Nat → Prop) (ι : Pl) (ob : Ob) (zs : List (Nat × Obj)) : Prop := ∀ p ∈ zs, w.heap[p.1]? = some p.2 ∧ Off U ι ob p.1

section
variable {w w' : World} {U U' : Nat → Prop} {ι ι' : Pl} {ob ob' : Ob} {B : Base}

theorem Off.evo {z : Nat} (h : Off U ι ob z) (hz : z < w.heap.size) (e : Evo w U ι ob w' U' ι' ob') : Off U' ι' ob' z := by
  refine ⟨fun hU => ?_, fun k o hk ho heq => ?_⟩
  · rcases e.orig z hU with h1 | h1 | ⟨k, o, h1, h2, h3⟩
    · exact h.1 h1
    · omega
    · exact h.2 k o h1 h2 h3
  · rcases e.ownd k o hk ho with h1 | ⟨k0, o0, h1, h2, h3⟩
    · omega
    · exact h.2 k0 o0 h1 h2 (h3.symm.trans heq)

theorem lt_of_get {l : Nat} {o : Obj} (h : w.heap[l]? = some o) : l < w.heap.size := (Array.getElem?_eq_some_iff.1 h).1

theorem Zs.evo {zs : List (Nat × Obj)} (h : Zs w U ι ob zs) (e : Evo w U ι ob w' U' ι' ob') : Zs w' U' ι' ob' zs := fun p hp => by
  obtain ⟨h1, h2⟩ := h p hp
  exact ⟨(e.same p.1 (lt_of_get h1) fun k o hk ho => h2.2 k o hk ho).trans h1, h2.evo (lt_of_get h1) e⟩

/-- The world has turned at blocks that are nobody's, or grown. -/
structure Turn (w w' : World) (X : Nat → Prop) : Prop where
  os : w'.os = w.os
  tape : w'.tape = w.tape
  output : w'.output = w.output
  size : w.heap.size ≤ w'.heap.size
  same : ∀ b, b < w.heap.size → ¬ X b → w'.heap[b]? = w.heap[b]?

theorem Turn.refl (w : World) (X : Nat → Prop) : Turn w w X := ⟨rfl, rfl, rfl, Nat.le_refl _, fun _ _ _ => rfl⟩
theorem Turn.drawn (w : World) (n : Nat) (X : Nat → Prop) : Turn w { w with drawn := n } X := ⟨rfl, rfl, rfl, Nat.le_refl _, fun _ _ _ => rfl⟩
theorem Turn.put (w : World) (l : Nat) (o : Obj) : Turn w (w.putObj l o) (fun b => b = l) := ⟨rfl, rfl, rfl, by simp, fun b _ h => World.putObj_heap_other h⟩
theorem Turn.alloc (w : World) (o : Obj) (X : Nat → Prop) : Turn w (w.alloc o) X := ⟨rfl, rfl, rfl, by simp, fun b hb _ => Below.heap_alloc w o b hb⟩
theorem Turn.trans {w'' : World} {X : Nat → Prop} (h : Turn w w' X) (k : Turn w' w'' X) : Turn w w'' X :=
  ⟨k.os.trans h.os, k.tape.trans h.tape, k.output.trans h.output, Nat.le_trans h.size k.size, fun b hb hx => (k.same b (Nat.lt_of_lt_of_le hb h.size) hx).trans (h.same b hb hx)⟩

theorem Turn.keep {X : Nat → Prop} (t : Turn w w' X) (hm : Mem w U ι ob) (hX : ∀ b, X b → Off U ι ob b) : Keep w U ι ob w' U ι ob :=
  ⟨fun b hb => t.same b (hm.lt b hb) fun hx => (hX b hx).1 hb, fun _ h => h, fun _ cells _ h => ⟨cells, h, rfl⟩, fun _ rows _ _ own h => ⟨rows, own, h, Nat.le_refl _, fun _ => rfl⟩, fun _ _ keys vals own h => ⟨keys, vals, own, h, rfl⟩⟩

theorem OR.blk {k : Nat} {o : O} (h : OR w U ι ob k o) (ho : o.owned = false) : U (ι k).1 := by
  cases o with
  | box => simp [O.owned] at ho
  | arr rows size elem own => simp only [O.owned] at ho; subst ho; obtain ⟨_, _, _, _, _, _, h6⟩ := h; simpa using h6
  | mp agg keys vals own => simp only [O.owned] at ho; subst ho; obtain ⟨_, _, _, _, h6⟩ := h; simpa using h6

theorem Turn.mem {X : Nat → Prop} (t : Turn w w' X) (hm : Mem w U ι ob) (hX : ∀ b, X b → Off U ι ob b) : Mem w' U ι ob := by
  have hk := t.keep hm hX
  have hblk : ∀ k o, ob k = some o → w'.heap[(ι k).1]? = w.heap[(ι k).1]? := by
    intro k o hko
    refine t.same _ (hm.block hko) fun hx => ?_
    cases ho : o.owned with
    | true => exact (hX _ hx).2 k o hko ho rfl
    | false => exact (hX _ hx).1 ((hm.obj k o hko).blk ho)
  refine ⟨fun b hb => Nat.lt_of_lt_of_le (hm.lt b hb) t.size, fun k o hko => ?_, hm.inj⟩
  have h0 := hm.obj k o hko
  have hb := hblk k o hko
  cases o with
  | box cells elem =>
    obtain ⟨cur, a, b, c⟩ := h0
    exact ⟨cur, hb.trans a, LF.keep hk _ _ b, c⟩
  | arr rows size elem own =>
    obtain ⟨cur, a, b, c, d, e, f⟩ := h0
    exact ⟨cur, hb.trans a, b, c, d, RR.mono hk.kept (fun _ h => h) _ hb _ _ _ e, f⟩
  | mp agg keys vals own =>
    obtain ⟨es, clock, a, b, c⟩ := h0
    exact ⟨es, clock, hb.trans a, KR.mono hk.kept (fun _ h => h) _ _ _ _ b, c⟩

theorem Turn.evo {X : Nat → Prop} (t : Turn w w' X) (hm : Mem w U ι ob) (hX : ∀ b, X b → Off U ι ob b ∧ B.w.heap.size ≤ b) (e : Evo B.w B.U B.ι B.ob w U ι ob) : Evo B.w B.U B.ι B.ob w' U ι ob := by
  have hk := t.keep hm (fun b h => (hX b h).1)
  exact ⟨t.os.trans e.os, t.tape.trans e.tape, t.output.trans e.output, Nat.le_trans e.size t.size, fun b hb => (hk.kept b (e.sub b hb)).trans (e.kept b hb), e.sub, e.box, e.arr, e.mp,
    fun b hb hn => (t.same b (Nat.lt_of_lt_of_le hb e.size) fun hx => by have := (hX b hx).2; omega).trans (e.same b hb hn), e.ownd, e.orig⟩

theorem Turn.zs {X : Nat → Prop} {zs : List (Nat × Obj)} (t : Turn w w' X) (h : Zs w U ι ob zs) (hX : ∀ p ∈ zs, ¬ X p.1) : Zs w' U ι ob zs := fun p hp => by
  obtain ⟨h1, h2⟩ := h p hp
  exact ⟨(t.same _ (lt_of_get h1) (hX p hp)).trans h1, h2⟩

/-! ### dropping -/
theorem sub_up {ob ob' : Ob} (hs : ∀ k, ob' k = ob k ∨ ob' k = none) {k : Nat} {o : O} (h : ob' k = some o) : ob k = some o := by
  rcases hs k with h1 | h1
  · rw [h1] at h; exact h
  · rw [h1] at h; cases h

theorem Mem.sub (hm : Mem w U ι ob) (hs : ∀ k, ob' k = ob k ∨ ob' k = none) (hc : ∀ k o, ob' k = some o → ∀ j ∈ o.keysOf, ob' j = ob j) : Mem w U ι ob' := by
  have up : ∀ {k o}, ob' k = some o → ob k = some o := fun {k o} h => by exact sub_up hs h
  refine ⟨hm.lt, fun k o hk => ?_, fun k k' o o' hk hk' => hm.inj k k' o o' (up hk) (up hk')⟩
  have h0 := hm.obj k o (up hk)
  cases o with
  | box cells elem =>
    obtain ⟨cur, h1, h2, h3⟩ := h0
    exact ⟨cur, h1, LF.keys _ _ (fun j hj => hc k _ hk j (by simpa [O.keysOf] using hj)) h2, h3⟩
  | arr => exact h0
  | mp => exact h0

theorem Evo.subO (e : Evo B.w B.U B.ι B.ob w U ι ob) (hs : ∀ k, ob' k = ob k ∨ ob' k = none) (hb : ∀ k, B.ob k ≠ none → ob' k = ob k) : Evo B.w B.U B.ι B.ob w U ι ob' := by
  have up : ∀ {k o}, ob' k = some o → ob k = some o := fun {k o} h => by exact sub_up hs h
  refine ⟨e.os, e.tape, e.output, e.size, e.kept, e.sub, ?_, ?_, ?_, e.same, fun k o hk => e.ownd k o (up hk), e.orig⟩
  · intro k cells elem hk; rw [hb k (by rw [hk]; simp)]; exact e.box k cells elem hk
  · intro k rows size elem own hk; rw [hb k (by rw [hk]; simp)]; exact e.arr k rows size elem own hk
  · intro k agg keys vals own hk; rw [hb k (by rw [hk]; simp)]; exact e.mp k agg keys vals own hk

theorem Zs.sub {zs : List (Nat × Obj)} (h : Zs w U ι ob zs) (hs : ∀ k, ob' k = ob k ∨ ob' k = none) : Zs w U ι ob' zs := fun p hp => by
  obtain ⟨h1, h2, h3⟩ := h p hp
  refine ⟨h1, h2, fun k o hk => h3 k o ?_⟩
  exact sub_up hs hk
end

theorem dedup_acc : ∀ (l acc : List Nat) (k : Nat), k ∈ acc → k ∈ dedup l acc
  | [], acc, k, h => h
  | x :: xs, acc, k, h => by
    simp only [dedup]
    split
    · exact dedup_acc xs acc k h
    · exact dedup_acc xs _ k (List.mem_cons_of_mem _ h)
theorem reach_acc (ob : List (Nat × O)) : ∀ (n : Nat) (ks : List Nat) (k : Nat), k ∈ ks → k ∈ reach ob n ks
  | 0, ks, k, h => h
  | n + 1, ks, k, h => reach_acc ob n _ k (dedup_acc _ _ k h)

theorem gc_ok {pr : List Nat} {vs : List V} {ob ob' : List (Nat × O)} (h : gcO pr vs ob = some ob') :
    (∀ k, getO ob' k = getO ob k ∨ getO ob' k = none) ∧ (∀ k ∈ pr, getO ob' k = getO ob k) ∧ (∀ v ∈ vs, ∀ k ∈ v.keysOf, getO ob' k = getO ob k) ∧ ∀ k o, getO ob' k = some o → ∀ j ∈ o.keysOf, getO ob' j = getO ob j := by
  unfold gcO at h
  simp only at h
  split at h
  · rename_i hc
    cases h
    simp only [Bool.and_eq_true, List.all_eq_true, List.contains_iff_mem] at hc
    obtain ⟨h1, h2⟩ := hc
    have kp : ∀ k, k ∈ reach ob 6 (dedup (V.keysF vs) pr) → getO (keepO ob (reach ob 6 (dedup (V.keysF vs) pr))) k = getO ob k := fun k hk => by rw [getO_keepO, if_pos hk]
    refine ⟨fun k => ?_, fun k hk => kp k (reach_acc _ _ _ _ (dedup_acc _ _ _ hk)), fun v hv k hk => kp k (h1 v hv k hk), fun k o hk j hj => ?_⟩
    · rw [getO_keepO]; split <;> simp
    · rw [getO_keepO] at hk
      split at hk
      · rename_i hkk
        exact kp j (h2 (k, o) (mem_keepO hkk hk) j hj)
      · cases hk
  · cases h

theorem mem_keysO : ∀ {ob : List (Nat × O)} {k : Nat}, getO ob k ≠ none → k ∈ keysO ob
  | [], k, h => by simp [getO] at h
  | (j, o) :: r, k, h => by
    simp only [getO] at h
    simp only [keysO, List.map_cons, List.mem_cons]
    by_cases hk : k = j
    · exact .inl hk
    · rw [if_neg hk] at h; exact .inr (mem_keysO h)

/-! ### the frame's own account -/
def marks (ds : List Nat) : List Deferred := ds.map fun D => { target := .collected D, args := #[] }
def dzs (ds : List Nat) : List (Nat × Obj) := ds.map fun D => (D, .deferred (some []))

def Sim2 (B : Base) (zs : List (Nat × Obj)) (nt : Nat) (rng : Bool) (yv : Value) (env : Nat → V) (ob : Ob) (ys : List Nat) (a : Act) (w : World) : Prop :=
  ∃ (U : Nat → Prop) (ι : Pl) (ds : List Nat), Mem w U ι ob ∧ Evo B.w B.U B.ι B.ob w U ι ob ∧ Zs w U ι ob (dzs ds ++ zs) ∧ a.defers = marks ds ∧ ds.Nodup ∧ (∀ D ∈ ds, B.w.heap.size ≤ D) ∧ (rng = false → ds = []) ∧
    a.tmps.size = nt ∧ (∀ t, VR w U ι ob (env t) (a.tmps.getD t undef)) ∧ ∀ t ∈ ys, a.tmps.getD t undef = yv

theorem mem_setYs {ys : List Nat} {dst : Option Nat} {t : Nat} (h : t ∈ setYs ys dst) : t ∈ ys ∧ dst ≠ some t := by
  cases dst with
  | none => exact ⟨h, by simp⟩
  | some d =>
    simp only [setYs, List.mem_filter, bne_iff_ne] at h
    exact ⟨h.1, by simpa using Ne.symm h.2⟩

theorem sim2_put {B : Base} {zs : List (Nat × Obj)} {nt : Nat} {rng : Bool} {yv : Value} {w w' : World} {U U' : Nat → Prop} {ι ι' : Pl} {env : Nat → V} {ob ob' : Ob} {ys : List Nat} {ds : List Nat} {a : Act} {dst : Option Nat} {v : V} {u : Value}
    (he0 : Evo B.w B.U B.ι B.ob w U ι ob) (hz : Zs w U ι ob (dzs ds ++ zs)) (hdf : a.defers = marks ds) (hnd : ds.Nodup) (hds : ∀ D ∈ ds, B.w.heap.size ≤ D) (hrg : rng = false → ds = []) (hsz : a.tmps.size = nt) (hv : ∀ t, VR w U ι ob (env t) (a.tmps.getD t undef)) (hy : ∀ t ∈ ys, a.tmps.getD t undef = yv) (hd : dstOK nt dst = true)
    (hm : Mem w' U' ι' ob') (he : Evo w U ι ob w' U' ι' ob') (hu : VR w' U' ι' ob' v u) : Sim2 B zs nt rng yv (putF dst v env) ob' (setYs ys dst) (a.put dst u) w' := by
  have hlt : ∀ d, dst = some d → d < a.tmps.size := fun d hdd => by rw [hdd] at hd; rw [hsz]; simpa [dstOK] using hd
  refine ⟨U', ι', ds, hm, he0.trans he, hz.evo he, by rw [put_defers, hdf], hnd, hds, hrg, by rw [put_size, hsz], fun t => ?_, fun t ht => ?_⟩
  · rw [put_get a dst u t hlt]
    simp only [putF]
    split
    · exact hu
    · exact VR.evo he _ _ (hv t)
  · obtain ⟨h1, h2⟩ := mem_setYs ht
    rw [put_get a dst u t hlt, if_neg h2]
    exact hy t h1

theorem sim2_skip {B : Base} {zs : List (Nat × Obj)} {nt : Nat} {rng : Bool} {yv : Value} {w : World} {env : Nat → V} {ob : Ob} {ys : List Nat} {a : Act} (hs : Sim2 B zs nt rng yv env ob ys a w) {dst : Option Nat} (hd : dstOK nt dst = true) : Sim2 B zs nt rng yv (putF dst (.tup []) env) ob (setYs ys dst) (a.put dst undef) w := by
  obtain ⟨U, ι, ds, hm, he0, hz, hdf, hnd, hds, hrg, hsz, hv, hy⟩ := hs
  exact sim2_put he0 hz hdf hnd hds hrg hsz hv hy hd hm (Evo.refl _ _ _ _) (by simp only [VR, VF]; exact ⟨#[], rfl, rfl⟩)

/-- One turn of blocks that are nobody's. -/
theorem Sim2.turn {B : Base} {zs : List (Nat × Obj)} {nt : Nat} {rng : Bool} {yv : Value} {w : World} {env : Nat → V} {ob : Ob} {ys : List Nat} {a : Act} (hs : Sim2 B zs nt rng yv env ob ys a w) (n : Nat) : Sim2 B zs nt rng yv env ob ys a { w with drawn := n } := by
  obtain ⟨U, ι, ds, hm, he0, hz, hdf, hnd, hds, hrg, hsz, hv, hy⟩ := hs
  have t := Turn.drawn w n (fun _ => False)
  exact ⟨U, ι, ds, t.mem hm (fun _ h => h.elim), t.evo hm (fun _ h => h.elim) he0, t.zs hz (fun _ _ h => h), hdf, hnd, hds, hrg, hsz, fun x => VR.keep (t.keep hm (fun _ h => h.elim)) _ _ (hv x), hy⟩

theorem sim2_norm {B : Base} {zs : List (Nat × Obj)} {fr : Fr} {yv : Value} {w : World} {st st' : S2} {a : Act} {lv : Option (List Nat)} (hpr : ∀ k, B.ob k ≠ none → k ∈ fr.pr) (h : norm2 fr lv st = some st') (hs : Sim2 B zs fr.nt fr.rng yv (getE st.env) (getO st.ob) st.ys a w) :
    Sim2 B zs fr.nt fr.rng yv (getE st'.env) (getO st'.ob) st'.ys a w ∧ st'.pend = st.pend := by
  unfold norm2 at h
  split at h
  · cases h; exact ⟨hs, rfl⟩
  · rename_i ts
    split at h
    · rename_i ob' hg
      cases h
      obtain ⟨g1, g2, g3, g4⟩ := gc_ok hg
      obtain ⟨U, ι, ds, hm, he0, hz, hdf, hnd, hds, hrg, hsz, hv, hy⟩ := hs
      refine ⟨⟨U, ι, ds, hm.sub g1 g4, he0.subO g1 (fun k hk => g2 k (hpr k hk)), hz.sub g1, hdf, hnd, hds, hrg, hsz, fun t => ?_, fun t ht => hy t (List.mem_filter.1 ht).1⟩, rfl⟩
      simp only [getE_keepE]
      split
      · rename_i ht
        refine VR.keys _ _ (fun j hj => ?_) (hv t)
        exact g3 _ (List.mem_map.2 ⟨_, mem_keepE ht, rfl⟩) j hj
      · simp [VR, LR]
    · cases h

end Go.VE
/- The operations within a fence; regions that draw, within a fence. -/
namespace Go.VE
open Go.RowKit

variable {P : Program}

def FW (ro : Option Nat) : Fence := { Fence.wide with round := ro }
@[simp] theorem FW_round (ro : Option Nat) : (FW ro).round = ro := rfl
theorem FW_fn (ro : Option Nat) (f : Nat) : (FW ro).fn f := trivial
theorem FW_room (ro : Option Nat) (n : Nat) : (FW ro).room n := fun d h => by cases h
theorem callsIn_FW {ro : Option Nat} {n : Nat} {f : Nat} {as : Array Value} {w : World} {R : Ending → World → Prop} (h : Calls P f as w R) : CallsIn (FW ro) n P f as w R := callsIn_wide.2 h

theorem opQ_defer {C : Cs} {dst : Option Nat} {ρ : Operand → V} {op : Op} {ob : Ob} {r : Res} (h : (opQ C P dst ρ op).run ob = some r) : ∀ c, op ≠ .defer c := by
  rintro c rfl
  simp [opQ, calleeOf, aop, Q.run] at h

theorem opQ_wpIn {C : Cs} (hC : ∀ f ds r, C f ds = some r → SC P f ds r) {B : Base} {zs : List (Nat × Obj)} {nt : Nat} {rng : Bool} {yv : Value} {w : World} {env : Nat → V} {ob : Ob} {ys : List Nat} {a : Act} {o : Oper} {key : Option Nat} {r : Res} (hs : Sim2 B zs nt rng yv env ob ys a w)
    (h : (opQ C P key (ev env) o.op).run ob = some r) (hd : dstOK nt o.dst = true) {ro : Option Nat} {m : Nat} {K : Act → World → Prop} {R : Exit → Act → World → Prop} (hK : ∀ a' w', Sim2 B zs nt rng yv (putF o.dst r.1 env) (putO ob r.2) (setYs ys o.dst) a' w' → K a' w') : o.wpIn (FW ro) m P a w K R := by
  obtain ⟨U, ι, ds, hm, he0, hz, hdf, hnd, hds, hrg, hsz, hv, hy⟩ := hs
  have hρ := ev_VR hv
  have hsem : o.semAt (FW ro).round a.eval = execOp a.eval o := Oper.semAt_eq _ _ _ (opQ_defer h)
  unfold Oper.wpIn
  refine ⟨fun f _ => FW_fn ro f, ?_⟩
  rw [hsem]
  unfold opQ at h
  split at h
  · rename_i fo args hc
    obtain ⟨as, ts, hop, rfl⟩ := calleeOf_some hc
    split at h
    · rename_i f caps hf
      obtain ⟨d, op, ty, pos, after, guard⟩ := o
      simp only at hop h hd hK
      subst hop
      obtain ⟨vs, h1, h2⟩ := call_good hm hC hρ hf h d ty pos after guard
      rw [h1]
      refine ⟨fun hc => (by cases hc), CallsIn.mono (callsIn_FW h2) fun e w' ⟨v, U', ι', he, m1, m2, m3⟩ => ?_⟩
      subst he
      exact hK _ _ (sim2_put he0 hz hdf hnd hds hrg hsz hv hy hd m1 m2 m3)
    · simp [Q.run] at h
  · obtain ⟨nx, w', U', ι', h1, m1, m2, m3⟩ := aop_good (P := P) hm hρ { o with dst := key } h
    have h1' : (execOp a.eval o).run P w = .ok nx w' := h1
    rw [h1']
    rcases m3 with ⟨v, rfl, m3⟩ | ⟨rfl, m3⟩
    · exact hK _ _ (sim2_put he0 hz hdf hnd hds hrg hsz hv hy hd m1 m2 m3)
    · exact hK _ _ (sim2_put he0 hz hdf hnd hds hrg hsz hv hy hd m1 m2 (by rw [m3]; simp [VR, LR]))

abbrev SimE (B : Base) (zs : List (Nat × Obj)) (nt : Nat) (rng : Bool) (yv : Value) (env : Nat → V) (ob : Ob) (a : Act) (w : World) : Prop := Sim2 B zs nt rng yv env ob [] a w

theorem Sim2.skip0 {B : Base} {zs : List (Nat × Obj)} {nt : Nat} {rng : Bool} {yv : Value} {w : World} {env : Nat → V} {ob : Ob} {a : Act} (hs : Sim2 B zs nt rng yv env ob [] a w) (dst : Option Nat) : Sim2 B zs nt rng yv (putF dst (.tup []) env) ob [] (a.put dst undef) w := by
  obtain ⟨U, ι, ds, hm, he0, hz, hdf, hnd, hds, hrg, hsz, hv, hy⟩ := hs
  refine ⟨U, ι, ds, hm, he0, hz, by rw [put_defers, hdf], hnd, hds, hrg, by rw [put_size, hsz], fun t => ?_, fun t ht => by cases ht⟩
  have und : VR w U ι ob (.tup []) undef := by simp only [VR, VF]; exact ⟨#[], rfl, rfl⟩
  simp only [putF]
  cases dst with
  | none => simpa [Act.put] using hv t
  | some d =>
    simp only [Act.put, Option.some.injEq, Array.getD_eq_getD_getElem?, Array.getElem?_setIfInBounds]
    by_cases h : d = t
    · subst h
      simp only [if_true]
      split <;> exact und
    · have := hv t
      rw [Array.getD_eq_getD_getElem?] at this
      simpa [h] using this

def Dd (o : Nat → Oper) (j i : Nat) : Prop := ∃ e ∈ (o i).after.toList, Region.binds .any e = true ∧ e.on = j

/-- Which operations of a region come before an operation in every order. -/
def dirE (ops : Array Oper) (i : Nat) : List Nat := match ops[i]? with
  | some o => (o.after.toList.filter fun e => Region.binds .any e).map (·.on)
  | none => []
inductive Anc (ops : Array Oper) : Nat → Nat → Prop where
  | one {j i : Nat} : j ∈ dirE ops i → Anc ops j i
  | step {j m i : Nat} : m ∈ dirE ops i → Anc ops j m → Anc ops j i
/-- The rows of the first n operations, the last one first. -/
def ancs (ops : Array Oper) : Nat → List (List Nat)
  | 0 => []
  | n + 1 => dedup (dirE ops n ++ (dirE ops n).flatMap fun e => if e < n then (ancs ops n).getD (n - 1 - e) [] else []) [] :: ancs ops n

theorem dedup_mem : ∀ {l acc : List Nat} {k : Nat}, k ∈ dedup l acc → k ∈ l ∨ k ∈ acc
  | [], acc, k, h => .inr h
  | x :: xs, acc, k, h => by
    simp only [dedup] at h
    split at h
    · rcases dedup_mem h with h | h
      · exact .inl (List.mem_cons_of_mem _ h)
      · exact .inr h
    · rcases dedup_mem h with h | h
      · exact .inl (List.mem_cons_of_mem _ h)
      · rcases List.mem_cons.1 h with rfl | h
        · exact .inl (List.mem_cons_self ..)
        · exact .inr h

theorem ancs_ok {ops : Array Oper} : ∀ {n i j : Nat}, i < n → j ∈ (ancs ops n).getD (n - 1 - i) [] → Anc ops j i
  | n + 1, i, j, hi, h => by
    simp only [ancs] at h
    by_cases hin : i = n
    · subst hin
      rw [show i + 1 - 1 - i = 0 by omega, List.getD_cons_zero] at h
      rcases dedup_mem h with h | h
      · rcases List.mem_append.1 h with h | h
        · exact .one h
        · obtain ⟨e, he, h⟩ := List.mem_flatMap.1 h
          split at h
          · rename_i hlt; exact .step he (ancs_ok hlt h)
          · cases h
      · cases h
    · rw [show n + 1 - 1 - i = (n - 1 - i) + 1 by omega, List.getD_cons_succ] at h
      exact ancs_ok (by omega) h

def regOK2 (ops : Array Oper) (pairs : List (Nat × Nat)) : Bool :=
  (List.range ops.size).all fun i => match ops[i]? with
    | none => true
    | some oi => (oi.after.toList.all fun e => !Region.binds .any e || decide (e.on < i)) &&
      (List.range i).all fun j => match ops[j]? with
        | none => true
        | some oj => (((ancs ops ops.size).getD (ops.size - 1 - i) []).contains j) || (Oper.apart ops oj oi && (memFree oj.op oi.op || pairs.contains (j, i)))

def drawsOK2 (dr : Nat → Array Oper → List (Nat × Nat)) : Code → Bool
  | .region id ops true => regOK2 ops (dr id ops)
  | .seq a b => drawsOK2 dr a && drawsOK2 dr b
  | .cond _ a b => drawsOK2 dr a && drawsOK2 dr b
  | .block _ c => drawsOK2 dr c
  | .loop c => drawsOK2 dr c
  | .rangeFunc _ _ a b => drawsOK2 dr a && drawsOK2 dr b
  | _ => true

theorem setYs_nil (dst : Option Nat) : setYs [] dst = [] := by cases dst <;> rfl

theorem draw_mainIn {C : Cs} (hC : ∀ f ds r, C f ds = some r → SC P f ds r) {nt : Nat} {ops : Array Oper} {B : Base} {zs : List (Nat × Obj)} {rng : Bool} {yv : Value} {ro : Option Nat} {m : Nat} {R : Exit → Act → World → Prop} {o : Nat → Oper} {rc : Nat → Option Res} {RR : Nat → List Nat} {E : Nat → Nat → Prop} {x0 : X}
    (ho : ∀ i, i < ops.size → ops[i]? = some (o i)) (hp : Plan ops ops.size o rc RR E) (hD : ∀ i j, Dd o j i → E j i) (hE : ∀ i j, E j i → Dd o j i ∨ ∃ m, Dd o m i ∧ E j m)
    (hok : ∀ i, i < ops.size → OkAt C P nt ops (o i) (T o rc (fun _ => true) x0 i) (rc i) (RR i))
    (hR : ∀ a w, SimE B zs nt rng yv (T o rc (fun _ => true) x0 ops.size).1 (T o rc (fun _ => true) x0 ops.size).2 a w → R .normal a w) :
    ∀ (fuel : Nat) (L : Array Bool) (a : Act) (w : World), L.size = ops.size → cnt L ops.size ≤ fuel → (∀ j, j < ops.size → L.getD j true = true → ∀ e, E e j → L.getD e true = true) →
      SimE B zs nt rng yv (T o rc (fun i => L.getD i true) x0 ops.size).1 (T o rc (fun i => L.getD i true) x0 ops.size).2 a w → wpAnyIn (FW ro) m P .any ops R fuel L a w := by
  have nil : ∀ (L : Array Bool), L.size = ops.size → Region.ready .any ops L = [] → ∀ i, i < ops.size → L.getD i true = true := by
    intro L hL hr i
    induction i using Nat.strongRecOn with
    | ind i ih =>
      intro hi
      by_cases hl : L.getD i true = true
      · exact hl
      · exfalso
        have : i ∈ Region.ready .any ops L := by
          unfold Region.ready
          refine List.mem_filter.2 ⟨List.mem_range.2 hi, ?_⟩
          simp only [ho i hi, Option.map_some, Option.getD_some]
          simp only [Bool.not_eq_true] at hl
          rw [hl]
          simp only [Bool.not_false, Bool.true_and, Array.all_eq_true_iff_forall_mem, Bool.or_eq_true, Bool.not_eq_true']
          intro e he
          by_cases hb : Region.binds .any e = true
          · right
            have hEe : E e.on i := hD i e.on ⟨e, by simpa using he, hb, rfl⟩
            have hlt := hp.lt _ _ hEe
            have := ih e.on hlt (by omega)
            rw [Array.getD_eq_getD_getElem?, Array.getElem?_eq_getElem (by omega)] at this ⊢
            simpa using this
          · left; simpa using hb
        rw [hr] at this
        cases this
  have fin : ∀ (L : Array Bool), (∀ i, i < ops.size → L.getD i true = true) → ∀ m, m ≤ ops.size → T o rc (fun i => L.getD i true) x0 m = T o rc (fun _ => true) x0 m := by
    intro L h m
    induction m with
    | zero => intro _; rfl
    | succ m ih => intro hm; simp only [T]; rw [if_pos (h m (by omega)), if_pos True.intro, ih (by omega)]
  intro fuel
  induction fuel with
  | zero =>
    intro L a w hL hc hcl hs
    have all := cnt_zero (n := ops.size) (L := L) (by omega)
    refine ⟨?_, ?_⟩
    · unfold Region.ready
      refine List.filter_eq_nil_iff.2 fun i hi => ?_
      rw [all i (List.mem_range.1 hi)]
      simp
    · rw [fin L all _ (Nat.le_refl _)] at hs
      exact hR a w hs
  | succ fuel ih =>
    intro L a w hL hc hcl hs
    refine ⟨fun hr => ?_, fun i hi => ?_⟩
    · rw [fin L (nil L hL hr) _ (Nat.le_refl _)] at hs
      exact hR a w hs
    · unfold Region.ready at hi
      obtain ⟨hi1, hi2⟩ := List.mem_filter.1 hi
      have hin := List.mem_range.1 hi1
      rw [ho i hin] at hi2
      simp only [Option.map_some, Option.getD_some, Bool.and_eq_true, Bool.not_eq_true', Array.all_eq_true_iff_forall_mem, Bool.or_eq_true] at hi2
      obtain ⟨hli, hed⟩ := hi2
      have hdir : ∀ j, Dd o j i → L.getD j true = true := by
        rintro j ⟨e, he, hb, rfl⟩
        rcases hed e (by simpa using he) with h | h
        · rw [hb] at h; cases h
        · have hlt := hp.lt _ _ (hD i e.on ⟨e, he, hb, rfl⟩)
          rw [Array.getD_eq_getD_getElem?, Array.getElem?_eq_getElem (by omega)] at h ⊢
          simpa using h
      have hedges : ∀ j, E j i → L.getD j true = true := by
        intro j hj
        rcases hE i j hj with h | ⟨m, h1, h2⟩
        · exact hdir j h
        · exact hcl m (by have := hp.lt _ _ (hD i m h1); omega) (hdir m h1) j h2
      have hag := agree (x0 := x0) hp hin (L := fun i => L.getD i true) hli hedges hcl
      have hok' := (hok i hin).agree hag.1 hag.2
      have hL' : ∀ j, j < ops.size → (L.setIfInBounds i true).getD j true = (L.getD j true || j == i) := by
        intro j hj
        by_cases hji : j = i
        · subst hji; simp [Array.getD_eq_getD_getElem?, hL, hj]
        · simp [Array.getD_eq_getD_getElem?, Array.getElem?_setIfInBounds, hji, Ne.symm hji]
      have hcl' : ∀ j, j < ops.size → (L.setIfInBounds i true).getD j true = true → ∀ e, E e j → (L.setIfInBounds i true).getD e true = true := by
        intro j hj hlj e he
        have hej := hp.lt _ _ he
        rw [hL' e (by omega)]
        rw [hL' j hj] at hlj
        by_cases hji : j = i
        · subst hji; simp [hedges e he]
        · simp only [Bool.or_eq_true, beq_iff_eq, hji, or_false] at hlj
          simp [hcl j hj hlj e he]
      have hins : T o rc (fun j => (L.setIfInBounds i true).getD j true) x0 ops.size = app (o i) (rc i) (T o rc (fun i => L.getD i true) x0 ops.size) := by
        have h1 : ∀ m, m ≤ ops.size → T o rc (fun j => (L.setIfInBounds i true).getD j true) x0 m = T o rc (fun j => L.getD j true || j == i) x0 m := by
          intro m
          induction m with
          | zero => intro _; rfl
          | succ m ihm => intro hm; simp only [T]; simp only [hL' m (by omega), ihm (by omega)]
        rw [h1 _ (Nat.le_refl _), insert_last hp hin (L := fun i => L.getD i true) hli hcl (fun _ => rfl) _ (Nat.le_refl _), if_pos hin]
      have next : ∀ a' w', SimE B zs nt rng yv (app (o i) (rc i) (T o rc (fun i => L.getD i true) x0 ops.size)).1 (app (o i) (rc i) (T o rc (fun i => L.getD i true) x0 ops.size)).2 a' w' → wpAnyIn (FW ro) m P .any ops R fuel (L.setIfInBounds i true) a' w' := by
        intro a' w' hs'
        refine ih _ a' w' (by simpa using hL) ?_ hcl' (by rw [hins]; exact hs')
        have := cnt_set hli ops.size
        rw [if_pos hin] at this
        omega
      unfold wpOpIn
      simp only [ho i hin]
      cases hrc : rc i with
      | some q =>
        have hw : Region.wanted (o i) (yielded ops a.tmps) = true := by
          have hg := hok'.gate
          rw [hrc] at hg
          unfold gateSt at hg
          split at hg
          · rename_i hgd; simp [Region.wanted, hgd]
          · rename_i j want hgd
            obtain ⟨gt, h1, h2⟩ := hg
            obtain ⟨U, ι, ds, hm, he0, hz, hdf, hnd, hds, hrg, hsz, hv, hy⟩ := hs
            rcases h2 with ⟨b, h2, h3⟩ | ⟨_, h3⟩
            · have hb : b = want := by simpa using h3
              simp [Region.wanted, hgd, yielded_bool hv h1 h2, hb]
            · simp at h3
        rw [if_pos hw]
        obtain ⟨h1, _, h3⟩ := hok'.run q hrc
        refine opQ_wpIn hC hs h1 h3 fun a' w' hs' => next a' w' ?_
        rw [hrc]
        rw [setYs_nil] at hs'
        exact hs'
      | none =>
        have hw : Region.wanted (o i) (yielded ops a.tmps) = false := by
          have hg := hok'.gate
          rw [hrc] at hg
          unfold gateSt at hg
          split at hg
          · simp at hg
          · rename_i j want hgd
            obtain ⟨gt, h1, h2⟩ := hg
            obtain ⟨U, ι, ds, hm, he0, hz, hdf, hnd, hds, hrg, hsz, hv, hy⟩ := hs
            rcases h2 with ⟨b, h2, h3⟩ | ⟨h2, _⟩
            · have hb : b ≠ want := by simpa using h3
              simp [Region.wanted, hgd, yielded_bool hv h1 h2, hb]
            · simp [Region.wanted, hgd, yielded_none hv h1 h2]
        rw [if_neg (by rw [hw]; simp)]
        refine ⟨fun f _ => FW_fn ro f, next _ _ ?_⟩
        rw [hrc]
        exact Sim2.skip0 hs _


theorem draw_soundIn {C : Cs} (hC : ∀ f ds r, C f ds = some r → SC P f ds r) {α : Type} {nt : Nat} {ops : Array Oper} {pairs : List (Nat × Nat)} {r : α} {B : Base} {zs : List (Nat × Obj)} {rng : Bool} {yv : Value} {ro : Option Nat} {m : Nat} {R : Exit → Act → World → Prop} {st : St} {k : St → Option α} {a : Act} {w : World}
    (hok : regOK2 ops pairs = true) (h : execD C P nt ops pairs ops.toList 0 [] st k = some r) (hs : SimE B zs nt rng yv (getE st.env) (getO st.ob) a w) (hR : ∀ st' a' w', k st' = some r → SimE B zs nt rng yv (getE st'.env) (getO st'.ob) a' w' → R .normal a' w') : wpAnyIn (FW ro) m P .any ops R ops.size (Array.replicate ops.size false) a { w with drawn := w.drawn + 1 } := by
  obtain ⟨recs, st', g1, g2, g3⟩ := execD_good h
  let d : Oper := ⟨none, .move (.const undef), 0, default, #[], none⟩
  obtain ⟨hlen, hind, hfin⟩ := g1.index (d := d)
  have ho : ∀ i, i < ops.size → ops[i]? = some (ops.toList.getD i d) := by
    intro i hi
    rw [List.getD_eq_getElem?_getD, Array.getElem?_toList, Array.getElem?_eq_getElem hi]
    rfl
  have hlen' : recs.length = ops.size := by simpa using hlen
  let E : Nat → Nat → Prop := Anc ops
  have hreg : ∀ i, i < ops.size → (∀ e ∈ (ops.toList.getD i d).after.toList, Region.binds .any e = true → e.on < i) ∧ ∀ j, j < i → E j i ∨ (Oper.apart ops (ops.toList.getD j d) (ops.toList.getD i d) = true ∧ (memFree (ops.toList.getD j d).op (ops.toList.getD i d).op = true ∨ (j, i) ∈ pairs)) := by
    intro i hi
    unfold regOK2 at hok
    have h1 := List.all_eq_true.1 hok i (List.mem_range.2 hi)
    rw [ho i hi] at h1
    simp only [Bool.and_eq_true, List.all_eq_true] at h1
    refine ⟨fun e he hb => by have := h1.1 e he; simpa [hb] using this, fun j hj => ?_⟩
    have h2 := h1.2 j (List.mem_range.2 hj)
    rw [ho j (by omega)] at h2
    simp only [Bool.or_eq_true, Bool.and_eq_true, List.contains_iff_mem] at h2
    rcases h2 with h2 | ⟨h2, h3⟩
    · exact .inl (ancs_ok hi h2)
    · exact .inr ⟨h2, h3⟩
  have hdir : ∀ i j, j ∈ dirE ops i ↔ Dd (fun i => ops.toList.getD i d) j i := by
    intro i j
    unfold dirE Dd
    by_cases hi : i < ops.size
    · rw [ho i hi]
      simp only [List.mem_map, List.mem_filter]
      exact ⟨fun ⟨e, ⟨h1, h2⟩, h3⟩ => ⟨e, h1, h2, h3⟩, fun ⟨e, h1, h2, h3⟩ => ⟨e, ⟨h1, h2⟩, h3⟩⟩
    · have h1 : ops[i]? = none := by simp; omega
      have h2 : ops.toList.getD i d = d := by rw [List.getD_eq_getElem?_getD, List.getElem?_eq_none (by simpa using hi)]; rfl
      rw [h1]
      show j ∈ [] ↔ ∃ e ∈ (ops.toList.getD i d).after.toList, Region.binds .any e = true ∧ e.on = j
      rw [h2]
      simp [d]
  have hltE : ∀ j i, Anc ops j i → j < i := by
    intro j i h
    have one : ∀ j i, j ∈ dirE ops i → j < i := by
      intro j i h
      obtain ⟨e, he, hb, rfl⟩ := (hdir i j).1 h
      by_cases hi : i < ops.size
      · exact (hreg i hi).1 e he hb
      · have : ops.toList.getD i d = d := by rw [List.getD_eq_getElem?_getD, List.getElem?_eq_none (by simpa using hi)]; rfl
        simp only [this] at he
        cases he
    induction h with
    | one h => exact one _ _ h
    | step h _ ih => exact Nat.lt_trans ih (one _ _ h)
  have hplan : Plan ops ops.size (fun i => ops.toList.getD i d) (fun i => (recs.getD i (none, [])).1) (fun i => (recs.getD i (none, [])).2) E := by
    refine ⟨?_, ?_⟩
    · exact hltE
    · intro j i hj hi hE
      rcases (hreg i hi).2 j hj with h | ⟨hap, hm⟩
      · exact absurd h hE
      · obtain ⟨a1, a2, a3⟩ := Oper.apart_spec hap
        have hi' := hind i (by simpa using hi)
        have hj' := hind j (by simp; omega)
        have mem : (∀ k ∈ wr (recs.getD j (none, [])).1, k ∉ (recs.getD i (none, [])).2) ∧ (∀ k ∈ wr (recs.getD j (none, [])).1, k ∉ wr (recs.getD i (none, [])).1) ∧ ∀ k ∈ (recs.getD j (none, [])).2, k ∉ wr (recs.getD i (none, [])).1 := by
          rcases hm with hm | hm
          · exact memFree_ok hm hi' hj'
          · cases hri : (recs.getD i (none, [])).1 with
            | none => rw [hi'.skip hri]; simp [wr]
            | some q =>
              have e1 : recs[i]? = some (some q, (recs.getD i (none, [])).2) := by
                rw [List.getElem?_eq_getElem (by omega)]
                rw [List.getD_eq_getElem?_getD, List.getElem?_eq_getElem (by omega)] at hri ⊢
                simp only [Option.getD_some] at hri ⊢
                rw [← hri]
              obtain ⟨a, h1, h2, h3⟩ := g3 (j, i) hm i q _ e1 (by simp)
              simp only [List.nil_append, List.getElem?_map] at h1
              rw [List.getElem?_eq_getElem (by omega)] at h1
              simp only [Option.map_some, Option.some.injEq] at h1
              have e2 : recs.getD j (none, []) = recs[j]'(by omega) := by rw [List.getD_eq_getElem?_getD, List.getElem?_eq_getElem (by omega)]; rfl
              rw [e2]
              subst h1
              exact ⟨fun k hk => (h2 k hk).1, fun k hk => (h2 k hk).2, fun k hk => h3 k hk⟩
        exact ⟨a1, a2, a3, mem.1, mem.2.1, mem.2.2⟩
  refine draw_mainIn (B := B) (zs := zs) (rng := rng) (yv := yv) hC ho hplan (fun i j h => .one ((hdir i j).2 h)) (fun i j h => by cases h with | one h => exact .inl ((hdir i j).1 h) | step h1 h2 => exact .inr ⟨_, (hdir i _).1 h1, h2⟩) (x0 := (getE st.env, getO st.ob)) (fun i hi => hind i (by simpa using hi)) ?_ ops.size (Array.replicate ops.size false) a _ (by simp) (cnt_le _ _) ?_ ?_
  · intro a' w' hs'
    refine hR st' a' w' g2 ?_
    have e : ops.toList.length = ops.size := by simp
    rw [e] at hfin
    rw [← hfin] at hs'
    exact hs'
  · intro j hj hl
    simp [Array.getD_eq_getD_getElem?, hj] at hl
  · have : ∀ m, m ≤ ops.size → T (fun i => ops.toList.getD i d) (fun i => (recs.getD i (none, [])).1) (fun i => (Array.replicate ops.size false).getD i true) (getE st.env, getO st.ob) m = (getE st.env, getO st.ob) := by
      intro m
      induction m with
      | zero => intro _; rfl
      | succ m ih =>
        intro hm
        simp only [T]
        rw [if_neg, ih (by omega)]
        simp only [Array.getD_eq_getD_getElem?]
        rw [Array.getElem?_eq_getElem (by simp; omega)]
        simp
    rw [this _ (Nat.le_refl _)]
    exact Sim2.turn hs _

theorem draw_soundIn0 {C : Cs} (hC : ∀ f ds r, C f ds = some r → SC P f ds r) {α : Type} {nt : Nat} {ops : Array Oper} {r : α} {B : Base} {zs : List (Nat × Obj)} {rng : Bool} {yv : Value} {ro : Option Nat} {m : Nat} {R : Exit → Act → World → Prop} {st : St} {k : St → Option α} {a : Act} {w : World}
    (hok : regOK2 ops [] = true) (h : execOps C P nt ops ops.toList st k = some r) (hs : SimE B zs nt rng yv (getE st.env) (getO st.ob) a w) (hR : ∀ st' a' w', k st' = some r → SimE B zs nt rng yv (getE st'.env) (getO st'.ob) a' w' → R .normal a' w') : wpAnyIn (FW ro) m P .any ops R ops.size (Array.replicate ops.size false) a { w with drawn := w.drawn + 1 } :=
  draw_soundIn hC hok (execD_nil.trans h) hs hR

end Go.VE
/- The evaluator with functions run in place is followed by the machine. -/
namespace Go.VE
open Go.RowKit

variable {P : Program}

structure InlOK (P : Program) (cfg : Cf) (f : Nat) (bd : Bd) (fn : Func) : Prop where
  hfn : P.funcs[f]? = some fn
  body : fn.body = some bd.code
  nt : fn.ntmps = bd.nt
  res : fn.results.toList = bd.res
  call : ∀ (as : Array Value) (w : World), (callFunc f as).run P w = .ok (.enter f as) w
  draws : drawsOK2 (cfg.draw f) bd.code = true

def HdOK {α : Type} (P : Program) (hd : Option (Hd α)) (B : Base) (zsOf : Option Ex → List (Nat × Obj)) (yv : Value) (r : α) : Prop :=
  ∀ h, hd = some h → ∃ l, yv = .func (.yield l) #[] #[] ∧ ∀ (vals : List V) (ob : List (Nat × O)) (k : Option Ex → List (Nat × O) → Option α), h vals ob k = some r →
    ∀ (m : Nat) (w : World) (U : Nat → Prop) (ι : Pl) (as : Array Value), Mem w U ι (getO ob) → Evo B.w B.U B.ι B.ob w U ι (getO ob) → Zs w U ι (getO ob) (zsOf none) → VF w U ι (getO ob) vals as.toList →
      YieldAt (FW none) m P l as w fun e w' => ∃ p ob' U' ι', e = .returned (.bool p.isNone) ∧ k p ob' = some r ∧ Mem w' U' ι' (getO ob') ∧ Keep w U ι (getO ob) w' U' ι' (getO ob') ∧ Evo B.w B.U B.ι B.ob w' U' ι' (getO ob') ∧ Zs w' U' ι' (getO ob') (zsOf p)

def RnOK {α : Type} (P : Program) (cfg : Cf) (rn : Rn α) (r : α) : Prop :=
  ∀ (f : Nat) (args : List V) (b : Nat) (ob : List (Nat × O)) (kk : V → List (Nat × O) → Option α), rn f args b ob kk = some r →
    (∀ (as : Array Value) (w : World), (callFunc f as).run P w = .ok (.enter f as) w) ∧
    ∀ (m : Nat) (w : World) (U : Nat → Prop) (ι : Pl) (as : Array Value), Mem w U ι (getO ob) → VF w U ι (getO ob) args as.toList →
      CallsIn (FW none) m P f as w fun e w' => ∃ v vv ob' U' ι', e = .returned vv ∧ kk v ob' = some r ∧ Mem w' U' ι' (getO ob') ∧ Evo w U ι (getO ob) w' U' ι' (getO ob') ∧ VR w' U' ι' (getO ob') v vv

abbrev SimT (B : Base) (zsOf : Option Ex → List (Nat × Obj)) (fr : Fr) (yv : Value) (st : S2) (a : Act) (w : World) : Prop := Sim2 B (zsOf st.pend) fr.nt fr.rng yv (getE st.env) (getO st.ob) st.ys a w

theorem yOf_true {ys : List Nat} {x : Operand} (h : yOf ys x = true) : ∃ u, x = .tmp u ∧ u ∈ ys := by
  unfold yOf at h
  split at h
  · exact ⟨_, rfl, by simpa using h⟩
  · cases h

theorem kindOf_copy {cfg : Cf} {ys : List Nat} {ρ : Operand → V} {o : Oper} {d : Nat} (h : kindOf cfg ys ρ o = .copy d) : ∃ u, u ∈ ys ∧ o.dst = some d ∧ (o.op = .move (.tmp u) ∨ o.op = .assign (.tmp u)) := by
  unfold kindOf at h
  split at h
  · rename_i x hop
    split at h
    · rename_i hy hd
      cases h
      obtain ⟨u, rfl, hu⟩ := yOf_true hy
      exact ⟨u, hu, hd, .inl hop⟩
    · cases h
  · rename_i x hop
    split at h
    · rename_i hy hd
      cases h
      obtain ⟨u, rfl, hu⟩ := yOf_true hy
      exact ⟨u, hu, hd, .inr hop⟩
    · cases h
  · split at h
    · cases h
    · split at h
      · cases h
      · split at h
        · split at h <;> cases h
        · cases h

theorem kindOf_yld {cfg : Cf} {ys : List Nat} {ρ : Operand → V} {o : Oper} {args : List Operand} (h : kindOf cfg ys ρ o = .yld args) : ∃ u as ts, u ∈ ys ∧ o.op = .call ⟨.value (.tmp u), as, ts⟩ ∧ args = as.toList := by
  unfold kindOf at h
  split at h
  · split at h <;> cases h
  · split at h <;> cases h
  · split at h
    · cases h
    · rename_i fo args' hc
      split at h
      · rename_i hy
        cases h
        obtain ⟨u, rfl, hu⟩ := yOf_true hy
        obtain ⟨as, ts, hop, rfl⟩ := calleeOf_some hc
        exact ⟨u, as, ts, hu, hop, rfl⟩
      · split at h
        · split at h <;> cases h
        · cases h

theorem kindOf_inl {cfg : Cf} {ys : List Nat} {ρ : Operand → V} {o : Oper} {f : Nat} {args : List V} (h : kindOf cfg ys ρ o = .inl f args) : ∃ fo as ts caps, o.op = .call ⟨.value fo, as, ts⟩ ∧ fnOf (ρ fo) = some (f, caps) ∧ args = as.toList.map ρ ++ caps.map .one := by
  unfold kindOf at h
  split at h
  · split at h <;> cases h
  · split at h <;> cases h
  · split at h
    · cases h
    · rename_i fo args' hc
      split at h
      · cases h
      · split at h
        · rename_i f' caps hf
          split at h
          · cases h
            obtain ⟨as, ts, hop, rfl⟩ := calleeOf_some hc
            exact ⟨fo, as, ts, caps, hop, hf, rfl⟩
          · cases h
        · cases h

theorem LF_VF {w : World} {U : Nat → Prop} {ι : Pl} {ob : Ob} : ∀ {caps : List L} {vs : List Value}, LF w U ι ob caps vs → VF w U ι ob (caps.map .one) vs
  | [], vs, h => by simpa [VF, LF] using h
  | x :: xs, vs, h => by
    simp only [LF] at h
    obtain ⟨v, vs', rfl, h1, h2⟩ := h
    simp only [List.map_cons, VF]
    exact ⟨v, vs', rfl, by simpa only [VR] using h1, LF_VF h2⟩
theorem VF_append {w : World} {U : Nat → Prop} {ι : Pl} {ob : Ob} : ∀ {xs ys : List V} {us vs : List Value}, VF w U ι ob xs us → VF w U ι ob ys vs → VF w U ι ob (xs ++ ys) (us ++ vs)
  | [], ys, us, vs, h, k => by simp only [VF] at h; subst h; exact k
  | x :: xs, ys, us, vs, h, k => by
    simp only [VF] at h
    obtain ⟨v, vs', rfl, h1, h2⟩ := h
    simp only [List.cons_append, VF]
    exact ⟨v, vs' ++ vs, rfl, h1, VF_append h2 k⟩

theorem stX2 {st : S2} {dst : Option Nat} {v : V} {ob : List (Nat × O)} : getE (put2 dst v ob st).env = putF dst v (getE st.env) := by
  funext t
  cases dst with
  | none => simp [put2, putF]
  | some d =>
    simp only [put2, getE, putF, Option.some.injEq]
    by_cases h : t = d
    · simp [h]
    · simp [h, Ne.symm h]

theorem run2_sound {cfg : Cf} (hC : ∀ f ds r, cfg.C f ds = some r → SC P f ds r) {α : Type} {r : α} {fr : Fr} {hd : Option (Hd α)} {rn : Rn α} {B : Base} {zsOf : Option Ex → List (Nat × Obj)} {yv : Value} (hrn : RnOK P cfg rn r) (hhd : HdOK P hd B zsOf yv r) {ro : Option Nat} (hro : hd.isSome = true → fr.rng = false ∧ ro = none)
    {o : Oper} {st : S2} {k : S2 → Option α} {a : Act} {w : World} (h : run2 cfg P fr hd rn o st k = some r) (hs : SimT B zsOf fr yv st a w) {m : Nat} {K : Act → World → Prop} {R : Exit → Act → World → Prop}
    (hK : ∀ st' a' w', k st' = some r → SimT B zsOf fr yv st' a' w' → K a' w') : o.wpIn (FW ro) m P a w K R := by
  unfold run2 at h
  split at h
  case isFalse => cases h
  rename_i hd'
  split at h
  · rename_i d hk
    obtain ⟨u, hu, hdst, hop⟩ := kindOf_copy hk
    obtain ⟨U, ι, ds, hm, he0, hz, hdf, hnd, hds, hrg, hsz, hv, hy⟩ := hs
    have hnd' : ∀ c, o.op ≠ .defer c := by rintro c hc; rcases hop with e | e <;> rw [e] at hc <;> cases hc
    have hrun : (execOp a.eval o).run P w = .ok (.value yv) w := by
      have : a.eval (.tmp u) = yv := hy u hu
      rcases hop with e | e <;> (unfold execOp; rw [e]; simp only [this]; rfl)
    unfold Oper.wpIn
    refine ⟨fun f _ => FW_fn ro f, ?_⟩
    rw [Oper.semAt_eq _ _ _ hnd', hrun]
    refine hK _ _ _ h ?_
    rw [hdst] at hd'
    have hlt : ∀ d', some d = some d' → d' < a.tmps.size := fun d' e => by cases e; rw [hsz]; simpa [dstOK] using hd'
    rw [hdst]
    refine ⟨U, ι, ds, hm, he0, hz, by rw [put_defers, hdf], hnd, hds, hrg, by rw [put_size, hsz], fun t => ?_, fun t ht => ?_⟩
    · rw [put_get a (some d) yv t hlt]
      simp only [getE]
      by_cases ht : t = d
      · simp [ht, VR, LR]
      · rw [if_neg ht, if_neg (by simpa using Ne.symm ht)]; exact hv t
    · rw [put_get a (some d) yv t hlt]
      by_cases e : d = t
      · simp [e]
      · rw [if_neg (by simpa using e)]
        rcases List.mem_cons.1 ht with rfl | ht
        · exact absurd rfl e
        · exact hy t ht
  · rename_i args hk
    obtain ⟨u, as, ts, hu, hop, rfl⟩ := kindOf_yld hk
    split at h
    · rename_i hh hp
      obtain ⟨hrng, hro⟩ := hro rfl
      obtain ⟨l, hyv, hY⟩ := hhd hh rfl
      obtain ⟨U, ι, ds, hm, he0, hz, hdf, hnd, hds, hrg, hsz, hv, hy⟩ := hs
      have hds0 := hrg hrng
      subst hds0
      have hz' : Zs w U ι (getO st.ob) (zsOf none) := by rw [hp] at hz; exact hz
      have hvals : VF w U ι (getO st.ob) (as.toList.map (ev (getE st.env))) (as.map a.eval).toList := by rw [Array.toList_map]; exact map_VF (ev_VR hv) as.toList
      have hYw := hY _ _ _ h (m - 1) w U ι (as.map a.eval) hm he0 hz' hvals
      obtain ⟨fn, tmps, assign, body, h1, h2⟩ := hYw
      have hnd' : ∀ c, o.op ≠ .defer c := by rintro c hc; rw [hop] at hc; cases hc
      have hev : a.eval (.tmp u) = .func (.yield l) #[] #[] := (hy u hu).trans hyv
      have hrun : (execOp a.eval o).run P w = .ok (.round l fn tmps assign body) w := by
        unfold execOp; rw [hop]; simp [resolve, hev, Deferred.ofValue, invoke, h1]
      unfold Oper.wpIn
      refine ⟨fun f _ => FW_fn ro f, ?_⟩
      rw [Oper.semAt_eq _ _ _ hnd', hrun]
      subst hro
      refine ⟨fun hc => (by cases hc), RoundIn.mono h2 fun e w' ⟨p, ob', U', ι', h3, h4, h5, h6, h7, h8⟩ => ?_⟩
      subst h3
      refine hK _ _ _ h4 ?_
      have hlt : ∀ d, o.dst = some d → d < a.tmps.size := fun d hdd => by rw [hdd] at hd'; rw [hsz]; simpa [dstOK] using hd'
      refine ⟨U', ι', [], h5, h7, h8, by rw [put_defers, hdf], hnd, hds, hrg, by rw [put_size, hsz], fun t => ?_, fun t ht => ?_⟩
      · show VR w' U' ι' (getO ob') (getE (put2 o.dst (vlit (.bool p.isNone)) ob' st).env t) _
        rw [put_get a o.dst _ t hlt, stX2]
        simp only [putF]
        split
        · exact vlit_VR rfl
        · exact VR.keep h6 _ _ (hv t)
      · obtain ⟨h9, h10⟩ := mem_setYs ht
        rw [put_get a o.dst _ t hlt, if_neg h10]
        exact hy t h9
    · cases h
  · rename_i f args hk
    obtain ⟨fo, as, ts, caps, hop, hf, rfl⟩ := kindOf_inl hk
    split at h
    · rename_i d hdst
      obtain ⟨hcall, hrun⟩ := hrn f _ _ _ _ h
      obtain ⟨U, ι, ds, hm, he0, hz, hdf, hnd, hds, hrg, hsz, hv, hy⟩ := hs
      obtain ⟨cs, hcv, hcl⟩ := fnOf_ok (ev_VR hv fo) hf
      have hnd' : ∀ c, o.op ≠ .defer c := by rintro c hc; rw [hop] at hc; cases hc
      have hex : (execOp a.eval o).run P w = .ok (.enter f (as.map a.eval ++ cs)) w := by
        unfold execOp; rw [hop]; simp [resolve, hcv, Deferred.ofValue, invoke, hcall]
      have hvals : VF w U ι (getO st.ob) (as.toList.map (ev (getE st.env)) ++ caps.map .one) (as.map a.eval ++ cs).toList := by
        rw [Array.toList_append, Array.toList_map]
        exact VF_append (map_VF (ev_VR hv) as.toList) (LF_VF hcl)
      unfold Oper.wpIn
      refine ⟨fun f _ => FW_fn ro f, ?_⟩
      rw [Oper.semAt_eq _ _ _ hnd', hex]
      refine ⟨fun hc => (by cases hc), CallsIn.mono (hrun (m - 1) w U ι _ hm hvals : CallsIn (FW ro) (m - 1) P f _ w _) fun e w' ⟨v, vv, ob', U', ι', h1, h2, h3, h4, h5⟩ => ?_⟩
      subst h1
      refine hK _ _ _ h2 ?_
      have := sim2_put (yv := yv) he0 hz hdf hnd hds hrg hsz hv hy hd' h3 h4 h5
      show Sim2 B (zsOf st.pend) fr.nt fr.rng yv (getE (put2 o.dst v ob' st).env) (getO ob') (setYs st.ys o.dst) _ w'
      rw [stX2]
      exact this
    · cases h
  · split at h
    · cases h
    · rename_i res hres
      refine opQ_wpIn hC hs hres hd' fun a' w' hs' => hK _ _ _ h ?_
      show Sim2 B (zsOf st.pend) fr.nt fr.rng yv (getE (put2 o.dst res.1 (addO res.2 st.ob) st).env) (getO (addO res.2 st.ob)) (setYs st.ys o.dst) _ w'
      rw [stX2, getO_addO]
      exact hs'

theorem ops2_sound {cfg : Cf} (hC : ∀ f ds r, cfg.C f ds = some r → SC P f ds r) {α : Type} {r : α} {fr : Fr} {hd : Option (Hd α)} {rn : Rn α} {B : Base} {zsOf : Option Ex → List (Nat × Obj)} {yv : Value} (hrn : RnOK P cfg rn r) (hhd : HdOK P hd B zsOf yv r) {ro : Option Nat} (hro : hd.isSome = true → fr.rng = false ∧ ro = none) {ops : Array Oper} {m : Nat} {Q : Exit → Act → World → Prop} : ∀ {rest : List Oper} {st : S2} {k : S2 → Option α} {a : Act} {w : World},
    ops2 cfg P fr hd rn ops rest st k = some r → SimT B zsOf fr yv st a w → (∀ st' a' w', k st' = some r → SimT B zsOf fr yv st' a' w' → Q .normal a' w') → wpListIn (FW ro) m P ops Q rest a w
  | [], st, k, a, w, h, hs, hQ => hQ st a w h hs
  | o :: rest, st, k, a, w, h, hs, hQ => by
    have skip : ∀ (st0 : S2), SimT B zsOf fr yv st0 a w → (if dstOK fr.nt o.dst = true then ops2 cfg P fr hd rn ops rest (put2 o.dst (.tup []) st0.ob st0) k else none) = some r → wpListIn (FW ro) m P ops Q rest (a.put o.dst undef) w := by
      intro st0 hs h
      split at h
      · rename_i hd'
        refine ops2_sound hC hrn hhd hro h ?_ hQ
        show Sim2 B (zsOf st0.pend) fr.nt fr.rng yv (getE (put2 o.dst (.tup []) st0.ob st0).env) (getO st0.ob) (setYs st0.ys o.dst) _ w
        rw [stX2]
        exact sim2_skip hs hd'
      · cases h
    unfold ops2 at h
    unfold wpListIn
    cases hg : o.guard with
    | none =>
      rw [hg] at h
      rw [if_pos (by simp [Region.wanted, hg])]
      exact run2_sound hC hrn hhd hro h hs fun st' a' w' hk hs' => ops2_sound hC hrn hhd hro hk hs' hQ
    | some jw =>
      obtain ⟨j, want⟩ := jw
      rw [hg] at h
      simp only at h
      split at h
      · cases h
      · rename_i gt hgt
        split at h
        · rename_i b he
          have hy : yielded ops a.tmps j = some b := by
            obtain ⟨U, ι, ds, hm, he0, hz, hdf, hnd, hds, hrg, hsz, hv, hy⟩ := hs
            exact yielded_bool hv hgt he
          by_cases hb : b = want
          · rw [if_pos hb] at h
            rw [if_pos (by simp [Region.wanted, hg, hy, hb])]
            refine run2_sound hC hrn hhd hro h ?_ fun st' a' w' hk hs' => ops2_sound hC hrn hhd hro hk hs' hQ
            show Sim2 B (zsOf st.pend) fr.nt fr.rng yv (getE ((gt, vlit (.bool want)) :: st.env)) (getO st.ob) st.ys a w
            rw [getE_same he hb]
            exact hs
          · rw [if_neg hb] at h
            rw [if_neg (by simp [Region.wanted, hg, hy, hb])]
            refine ⟨fun f _ => FW_fn ro f, skip { st with env := (gt, vlit (.bool !want)) :: st.env } ?_ h⟩
            show Sim2 B (zsOf st.pend) fr.nt fr.rng yv (getE ((gt, vlit (.bool !want)) :: st.env)) (getO st.ob) st.ys a w
            rw [getE_same he (by revert hb; cases b <;> cases want <;> simp)]
            exact hs
        · rename_i he
          have hy : yielded ops a.tmps j = none := by
            obtain ⟨U, ι, ds, hm, he0, hz, hdf, hnd, hds, hrg, hsz, hv, hy⟩ := hs
            exact yielded_none hv hgt he
          rw [if_neg (by simp [Region.wanted, hg, hy])]
          exact ⟨fun f _ => FW_fn ro f, skip st hs h⟩
        · cases h

end Go.VE
/- Whole functions, functions run in place, ranges over functions. -/
namespace Go.VE
open Go.RowKit

variable {P : Program}

def After2 {α : Type} (B : Base) (zsOf : Option Ex → List (Nat × Obj)) (fr : Fr) (yv : Value) (k : Ex → S2 → Option α) (r : α) (e : Exit) (a : Act) (w : World) : Prop := ∃ x st, e = exOf x ∧ k x st = some r ∧ SimT B zsOf fr yv st a w

def codeOf : Ex → Code
  | .normal => .skip
  | .ret => .ret
  | .exit id => .exit id

/-- Marks are shut one by one; then the function leaves. -/
theorem leaves_marks {fn : Func} {tmps : Array Value} {R : Ending → World → Prop} {B : Base} {U : Nat → Prop} {ι : Pl} {ob : Ob} {ro : Option Nat} {m : Nat} : ∀ (ds : List Nat) (w : World), Mem w U ι ob → Evo B.w B.U B.ι B.ob w U ι ob → Zs w U ι ob (dzs ds) → ds.Nodup → (∀ D ∈ ds, B.w.heap.size ≤ D) →
    (∀ w', Mem w' U ι ob → Evo B.w B.U B.ι B.ob w' U ι ob → Keep w U ι ob w' U ι ob → ∃ v, (results fn tmps).run P w' = .ok v w' ∧ R (.returned v) w') → LeavesInM (FW ro) m P fn tmps R (marks ds) .returning w
  | [], w, hm, he, hz, hn, hb, h => h w hm he (Evo.refl _ _ _ _).keep
  | D :: ds, w, hm, he, hz, hn, hb, h => by
    obtain ⟨hc, hoff⟩ := hz (D, .deferred (some [])) (by simp [dzs])
    refine ⟨by simp, .inl ⟨D, _, rfl, run_takeDeferred hc, ?_⟩⟩
    have t := Turn.put w D (.deferred none)
    have hX : ∀ b, b = D → Off U ι ob b := fun b e => e ▸ hoff
    have hk := t.keep hm hX
    rw [List.nodup_cons] at hn
    refine leaves_marks ds _ (t.mem hm hX) (t.evo hm (fun b e => ⟨hX b e, e ▸ hb D (by simp)⟩) he) (t.zs (fun p hp => hz p (by simp only [dzs, List.map_cons, List.mem_cons]; exact .inr hp)) ?_) hn.2 (fun D' h' => hb D' (by simp [h'])) fun w' h1 h2 h3 => h w' h1 h2 (hk.trans h3)
    intro p hp e
    simp only [dzs, List.mem_map] at hp
    obtain ⟨D', hD', rfl⟩ := hp
    exact hn.1 (by simp only at e; rwa [← e])

theorem bodyM_of {α : Type} {fn : Func} {R : Ending → World → Prop} {B : Base} {fr : Fr} {yv : Value} {ro : Option Nat} {m : Nat} {r : α} {rs : List ResultVar} {G : Ex → S2 → Option α} {kk : List V → S2 → Option α} (hres : fn.results.toList = rs)
    (hG : ∀ x st, G x st = some r → ∃ vs, (resV P (getE st.env) rs).run (getO st.ob) = some vs ∧ kk vs st = some r ∧ ∀ id, x ≠ .exit id)
    (hR : ∀ vs st us U ι w', kk vs st = some r → Mem w' U ι (getO st.ob) → Evo B.w B.U B.ι B.ob w' U ι (getO st.ob) → VF w' U ι (getO st.ob) vs us → R (.returned (packV us)) w') :
    ∀ e a w, After2 B (fun _ => []) fr yv G r e a w → bodyPostM (FW ro) m P fn R e a w := by
  rintro e a w ⟨x, st, rfl, hk, U, ι, ds, hm, he0, hz, hdf, hnd, hds, hrg, hsz, hv, hy⟩
  obtain ⟨vs, h1, h2, h3⟩ := hG x st hk
  have main : LeavesInM (FW ro) m P fn a.tmps R a.defers .returning w := by
    rw [hdf]
    refine leaves_marks ds w hm he0 (fun p hp => hz p (by simp [hp])) hnd hds fun w' g1 g2 g3 => ?_
    obtain ⟨us, h4, h5⟩ := resV_ok (P := P) g1 (fun t => VR.keep g3 _ _ (hv t)) h1
    exact ⟨packV us, results_ok (by rw [hres]; exact h4), hR vs st us U ι w' h2 g1 g2 h5⟩
  cases x with
  | normal => exact main
  | ret => exact main
  | exit id => exact absurd rfl (h3 id)

theorem envV_VR {w : World} {U : Nat → Prop} {ι : Pl} {ob : Ob} : ∀ {xs : List V} {vs : List Value} {i : Nat}, VF w U ι ob xs vs → ∀ t, VR w U ι ob (getE (envV xs i) t) (if t < i then undef else vs.getD (t - i) undef) ∨ getE (envV xs i) t = .one .undef
  | [], vs, i, h, t => .inr rfl
  | x :: xs, vs, i, h, t => by
    simp only [VF] at h
    obtain ⟨v, vs', rfl, h1, h2⟩ := h
    simp only [envV, getE]
    by_cases ht : t = i
    · subst ht
      left
      simp only [if_true, Nat.lt_irrefl, if_false, Nat.sub_self, List.getD_cons_zero]
      exact h1
    · simp only [if_neg ht]
      rcases envV_VR (i := i + 1) h2 t with h3 | h3
      · left
        by_cases hlt : t < i
        · rw [if_pos hlt]; rwa [if_pos (by omega)] at h3
        · rw [if_neg hlt]
          rw [if_neg (by omega)] at h3
          rw [show t - i = (t - (i + 1)) + 1 by omega, List.getD_cons_succ]
          exact h3
      · exact .inr h3

theorem VF.len {w : World} {U : Nat → Prop} {ι : Pl} {ob : Ob} : ∀ {xs : List V} {vs : List Value}, VF w U ι ob xs vs → vs.length = xs.length
  | [], vs, h => by simp only [VF] at h; simp [h]
  | x :: xs, vs, h => by simp only [VF] at h; obtain ⟨v, vs', rfl, _, h2⟩ := h; simp [h2.len]

theorem tmps_get {as : Array Value} {n t : Nat} : (as ++ Array.replicate n undef).getD t undef = as.toList.getD t undef := by
  rw [Array.getD_eq_getD_getElem?, List.getD_eq_getElem?_getD, Array.getElem?_append]
  split
  · simp
  · rename_i hge
    rw [List.getElem?_eq_none (by simpa using hge)]
    simp only [Array.getElem?_replicate]
    split <;> rfl

theorem frame_VR {w : World} {U : Nat → Prop} {ι : Pl} {ob : Ob} {xs : List V} {as : Array Value} {n : Nat} (h : VF w U ι ob xs as.toList) (t : Nat) : VR w U ι ob (getE (envV xs 0) t) ((as ++ Array.replicate n undef).getD t undef) := by
  rw [tmps_get]
  rcases envV_VR (i := 0) h t with h3 | h3
  · simpa using h3
  · rw [h3]; simp [VR, LR]

theorem start_sim {w : World} {U : Nat → Prop} {ι : Pl} {ob : Ob} {xs : List V} {as : Array Value} {nt : Nat} {rng : Bool} {yv : Value} {zs : List (Nat × Obj)} (hm : Mem w U ι ob) (h : VF w U ι ob xs as.toList) (hn : xs.length ≤ nt) (hz : Zs w U ι ob zs) (ys : List Nat) (hy : ∀ t ∈ ys, as.toList.getD t undef = yv) {B : Base} (he : Evo B.w B.U B.ι B.ob w U ι ob) :
    Sim2 B zs nt rng yv (getE (envV xs 0)) ob ys { tmps := as ++ Array.replicate (nt - as.size) undef, defers := [] } w := by
  have hl := h.len
  simp only [Array.length_toList] at hl
  exact ⟨U, ι, [], hm, he, by simpa [dzs] using hz, rfl, by simp, by simp, fun _ => rfl, by simp; omega, frame_VR h, fun t ht => by rw [tmps_get]; exact hy t ht⟩

theorem par_size : ∀ (ps : List Nat) (as : List Value) (tmps : Array Value), ((ps.zip as).foldl (fun t (p, v) => t.setIfInBounds p v) tmps).size = tmps.size
  | [], as, tmps => by simp
  | p :: ps, [], tmps => by simp
  | p :: ps, v :: as, tmps => by simp only [List.zip_cons_cons, List.foldl_cons]; rw [par_size ps as]; simp

theorem par_VR {w : World} {U : Nat → Prop} {ι : Pl} {ob : Ob} : ∀ {ps : List Nat} {vals : List V} {as : List Value} {tmps : Array Value} {env : List (Nat × V)}, VF w U ι ob vals as → (∀ p ∈ ps, p < tmps.size) → (∀ t, VR w U ι ob (getE env t) (tmps.getD t undef)) →
    ∀ t, VR w U ι ob (getE ((ps.zip vals).reverse ++ env) t) (((ps.zip as).foldl (fun t (p, v) => t.setIfInBounds p v) tmps).getD t undef)
  | [], vals, as, tmps, env, h, hp, hv, t => by simpa using hv t
  | p :: ps, [], as, tmps, env, h, hp, hv, t => by simp only [VF] at h; subst h; simpa using hv t
  | p :: ps, x :: vals, as, tmps, env, h, hp, hv, t => by
    simp only [VF] at h
    obtain ⟨v, as', rfl, h1, h2⟩ := h
    simp only [List.zip_cons_cons, List.reverse_cons, List.append_assoc, List.singleton_append, List.foldl_cons]
    refine par_VR (env := (p, x) :: env) h2 (fun q hq => by rw [Array.size_setIfInBounds]; exact hp q (List.mem_cons_of_mem _ hq)) (fun u => ?_) t
    simp only [getE, Array.getD_eq_getD_getElem?, Array.getElem?_setIfInBounds]
    have hlt := hp p (by simp)
    by_cases hu : u = p
    · subst hu; simpa [hlt] using h1
    · have := hv u
      rw [Array.getD_eq_getD_getElem?] at this
      rw [if_neg hu, if_neg (Ne.symm hu)]
      exact this

theorem keysO_evo {B : Base} {w : World} {U : Nat → Prop} {ι : Pl} {ob : List (Nat × O)} (e : Evo B.w B.U B.ι B.ob w U ι (getO ob)) {k : Nat} (h : B.ob k ≠ none) : k ∈ keysO ob := by
  cases ho : B.ob k with
  | none => exact absurd ho h
  | some o =>
    cases o with
    | box cells elem => obtain ⟨_, h1, _⟩ := e.box k cells elem ho; exact mem_keysO (by rw [h1]; simp)
    | arr rows size elem own => obtain ⟨_, _, h1, _⟩ := e.arr k rows size elem own ho; exact mem_keysO (by rw [h1]; simp)
    | mp agg keys vals own => obtain ⟨_, _, _, h1, _⟩ := e.mp k agg keys vals own ho; exact mem_keysO (by rw [h1]; simp)

theorem Keep.subO {w w' : World} {U U' : Nat → Prop} {ι ι' : Pl} {ob ob' ob'' : Ob} (e : Keep w U ι ob w' U' ι' ob') (hb : ∀ k, ob k ≠ none → ob'' k = ob' k) : Keep w U ι ob w' U' ι' ob'' := by
  refine ⟨e.kept, e.sub, ?_, ?_, ?_⟩
  · intro k cells elem hk; rw [hb k (by rw [hk]; simp)]; exact e.box k cells elem hk
  · intro k rows size elem own hk; rw [hb k (by rw [hk]; simp)]; exact e.arr k rows size elem own hk
  · intro k agg keys vals own hk; rw [hb k (by rw [hk]; simp)]; exact e.mp k agg keys vals own hk

theorem packVs_VR {w : World} {U : Nat → Prop} {ι : Pl} {ob : Ob} {vs : List V} {us : List Value} (h : VF w U ι ob vs us) : VR w U ι ob (packVs vs) (packV us) := by
  match vs, h with
  | [], h => simp only [VF] at h; subst h; simp only [packVs, packV, VR, VF]; exact ⟨#[], rfl, rfl⟩
  | [x], h =>
    simp only [VF] at h
    obtain ⟨v, vs', rfl, h1, rfl⟩ := h
    exact h1
  | x :: y :: r, h =>
    have h' := h
    simp only [VF] at h
    obtain ⟨v, vs', rfl, h1, v2, vs2, rfl, _⟩ := h
    simp only [packVs, packV, VR]
    exact ⟨_, rfl, h'⟩

theorem VF.keysO {w : World} {U : Nat → Prop} {ι : Pl} {ob ob' : Ob} : ∀ {xs : List V} {vs : List Value}, (∀ x ∈ xs, ∀ k ∈ x.keysOf, ob' k = ob k) → VF w U ι ob xs vs → VF w U ι ob' xs vs
  | [], vs, hk, h => by simpa [VF] using h
  | x :: xs, vs, hk, h => by
    simp only [VF] at h ⊢
    obtain ⟨v, vs', e1, h1, h2⟩ := h
    exact ⟨v, vs', e1, VR.keys x v (hk x (by simp)) h1, VF.keysO (fun y hy => hk y (by simp [hy])) h2⟩

end Go.VE
/- The main theorem. -/
namespace Go.VE
open Go.RowKit

variable {P : Program}

/-- What is said of a block is so. -/
def BlkOK (P : Program) (nt : Nat) (c : Code) (s : S2) (e : Ex) (s' : S2) : Prop :=
  ∀ (B : Base) (zs : List (Nat × Obj)) (yv : Value) (m : Nat) (a : Act) (w : World), (∀ k, B.ob k = none) → Sim2 B zs nt true yv (getE s.env) (getO s.ob) s.ys a w →
    c.wpIn (FW none) m P (fun e1 a1 w1 => e1 = exOf e ∧ Sim2 B zs nt true yv (getE s'.env) (getO s'.ob) s'.ys a1 w1) a w
def SumOK (P : Program) (cfg : Cf) (f nt : Nat) : Code → Prop
  | .block id c => (∀ g, cfg.sum f id = some g → ∀ s e s', s.pend = none → g s = some (e, s') → BlkOK P nt (.block id c) s e s') ∧ SumOK P cfg f nt c
  | .seq a b => SumOK P cfg f nt a ∧ SumOK P cfg f nt b
  | .cond _ a b => SumOK P cfg f nt a ∧ SumOK P cfg f nt b
  | .loop c => SumOK P cfg f nt c
  | _ => True
def TopOK (P : Program) (cfg : Cf) (fr : Fr) (c : Code) (B : Base) : Prop := fr.top = true → SumOK P cfg fr.f fr.nt c ∧ fr.rng = true ∧ ∀ k, B.ob k = none

def Snd (P : Program) (cfg : Cf) {α : Type} (r : α) (n : Nat) : Prop :=
  ∀ (fr : Fr) (hd : Option (Hd α)) (cur : Nat) (c : Code) (st : S2) (k : Ex → S2 → Option α) (a : Act) (w : World) (B : Base) (zsOf : Option Ex → List (Nat × Obj)) (yv : Value) (ro : Option Nat) (m : Nat),
    drawsOK2 (cfg.draw fr.f) c = true → (∀ k, B.ob k ≠ none → k ∈ fr.pr) → (fr.rng = true → ro = none) → HdOK P hd B zsOf yv r → (hd.isSome = true → fr.rng = false ∧ ro = none) → TopOK P cfg fr c B →
    exec2 cfg P n fr hd cur c st k = some r → SimT B zsOf fr yv st a w → c.wpIn (FW ro) m P (After2 B zsOf fr yv k r) a w
def SndL (P : Program) (cfg : Cf) {α : Type} (r : α) (n : Nat) : Prop :=
  ∀ (fr : Fr) (hd : Option (Hd α)) (cur : Nat) (c : Code) (st : S2) (k : Ex → S2 → Option α) (a : Act) (w : World) (B : Base) (zsOf : Option Ex → List (Nat × Obj)) (yv : Value) (ro : Option Nat) (m : Nat),
    drawsOK2 (cfg.draw fr.f) c = true → (∀ k, B.ob k ≠ none → k ∈ fr.pr) → (fr.rng = true → ro = none) → HdOK P hd B zsOf yv r → (hd.isSome = true → fr.rng = false ∧ ro = none) → TopOK P cfg fr c B →
    exec2 cfg P n fr hd cur (.loop c) st k = some r → SimT B zsOf fr yv st a w → Code.roundsIn (FW ro) m P c (After2 B zsOf fr yv k r) n a w

theorem HdOK.none' {α : Type} {B : Base} {zsOf : Option Ex → List (Nat × Obj)} {yv : Value} {r : α} : HdOK P (none : Option (Hd α)) B zsOf yv r := fun h hh => by cases hh

/-- Functions run in place. -/
theorem rn_ok {cfg : Cf} (hI : ∀ f bd, cfg.inl f = some bd → ∃ fn, InlOK P cfg f bd fn) {α : Type} {r : α} {n : Nat} (ih : Snd P cfg r n) : RnOK P cfg (rnOf cfg P (exec2 cfg P n)) r := by
  intro f args b ob kk h
  unfold rnOf at h
  split at h
  · cases h
  · rename_i bd hbd
    obtain ⟨fn, hin⟩ := hI f bd hbd
    split at h
    · rename_i hlen
      refine ⟨hin.call, fun m w U ι as hm hv => ?_⟩
      refine callsIn_of_wp_marks hin.hfn hin.body trivial (wpIn_mono (ih ⟨f, b, bd.nt, true, keysO ob, false⟩ none 0 bd.code _ _ _ w ⟨w, U, ι, getO ob⟩ (fun _ => []) undef none m hin.draws (fun k hk => mem_keysO hk) (fun _ => rfl) HdOK.none' (fun h => by cases h) (fun h => by cases h) h ?_) ?_)
      · show Sim2 ⟨w, U, ι, getO ob⟩ [] bd.nt true undef (getE (envV args 0)) (getO ob) [] { tmps := as ++ Array.replicate (fn.ntmps - as.size) undef, defers := [] } w
        rw [hin.nt]
        exact start_sim hm hv hlen (fun p hp => by cases hp) [] (fun t ht => by cases ht) (Evo.refl _ _ _ _)
      · refine bodyM_of (kk := fun vs st => match gcO (keysO ob) vs st.ob with | some ob' => kk (packVs vs) ob' | none => none) hin.res ?_ ?_
        · intro x st hx
          have key : inlEnd P bd ob kk st = some r → (∀ id, x ≠ .exit id) → ∃ vs, (resV P (getE st.env) bd.res).run (getO st.ob) = some vs ∧ (match gcO (keysO ob) vs st.ob with | some ob' => kk (packVs vs) ob' | none => none) = some r ∧ ∀ id, x ≠ .exit id := by
            intro hx hne
            unfold inlEnd at hx
            split at hx
            · rename_i vs hvs; exact ⟨vs, hvs, hx, hne⟩
            · cases hx
          cases x with
          | exit id => cases hx
          | normal => exact key hx (by simp)
          | ret => exact key hx (by simp)
        · intro vs st us U' ι' w' hk h1 h2 h3
          split at hk
          · rename_i ob' hg
            obtain ⟨g1, g2, g3, g4⟩ := gc_ok hg
            exact ⟨packVs vs, packV us, ob', U', ι', rfl, hk, h1.sub g1 g4, Evo.subO (B := ⟨w, U, ι, getO ob⟩) h2 g1 (fun k hk => g2 k (mem_keysO hk)), packVs_VR (VF.keysO g3 h3)⟩
          · cases hk
    · cases h

theorem range_ok {cfg : Cf} (hI : ∀ f bd, cfg.inl f = some bd → ∃ fn, InlOK P cfg f bd fn) {α : Type} {r : α} {n : Nat} (ih : Snd P cfg r n) {fr : Fr} {hd : Option (Hd α)} {cur : Nat} {g : Operand} {ps : Array Tmp} {assign body : Code} {st : S2} {k : Ex → S2 → Option α} {a : Act} {w : World} {B : Base} {zsOf : Option Ex → List (Nat × Obj)} {yv : Value} {ro : Option Nat} {m : Nat}
    (hdr : drawsOK2 (cfg.draw fr.f) (.rangeFunc g ps assign body) = true) (hpr : ∀ k, B.ob k ≠ none → k ∈ fr.pr) (hrg : fr.rng = true → ro = none)
    (h : exec2 cfg P (n + 1) fr hd cur (.rangeFunc g ps assign body) st k = some r) (hs : SimT B zsOf fr yv st a w) : (Code.rangeFunc g ps assign body).wpIn (FW ro) m P (After2 B zsOf fr yv k r) a w := by
  simp only [exec2] at h
  split at h
  case isFalse => cases h
  rename_i hcond
  obtain ⟨hrng, hys⟩ := hcond
  have hro := hrg hrng
  subst hro
  split at h
  · cases h
  rename_i f caps hf
  split at h
  · cases h
  rename_i bd hbd
  split at h
  case isFalse => cases h
  rename_i hc
  obtain ⟨hcap, hres, hps⟩ := hc
  obtain ⟨fn, hin⟩ := hI f bd hbd
  simp only [drawsOK2, Bool.and_eq_true] at hdr
  obtain ⟨U, ι, ds, hm, he0, hz, hdf, hnd, hds, _, hsz, hv, hy⟩ := hs
  obtain ⟨cs, hcv, hcl⟩ := fnOf_ok (ev_VR hv g) hf
  refine wpIn_rangeFunc ?_
  intro gfn _
  obtain ⟨rec, hrec⟩ : ∃ rec : LoopState → Option Code → Loop, rec = fun s pe => { state := s, pending := pe, fn := gfn, tmps := a.tmps, params := ps, assign, body, defers := w.heap.size } := ⟨_, rfl⟩
  let l := w.heap.size + 1
  obtain ⟨W1, hW1⟩ : ∃ W1, (w.alloc (.deferred (some []))).alloc (.loop (rec .ready none)) = W1 := ⟨_, rfl⟩
  have hsz1 : W1.heap.size = w.heap.size + 2 := by rw [← hW1]; simp
  have hL1 : W1.heap[l]? = some (.loop (rec .ready none)) := by
    rw [← hW1]; have := World.alloc_heap_new (w.alloc (.deferred (some []))) (.loop (rec .ready none)); rwa [World.size_alloc] at this
  have hD1 : W1.heap[w.heap.size]? = some (.deferred (some [])) := by
    rw [← hW1]; exact (Below.heap_alloc _ _ _ (by simp)).trans (World.alloc_heap_new w _)
  have t1 : Turn w W1 (fun _ => False) := by rw [← hW1]; exact (Turn.alloc w _ _).trans (Turn.alloc _ _ _)
  have nX : ∀ {U : Nat → Prop} {ι : Pl} {ob : Ob} b, (fun _ : Nat => False) b → Off U ι ob b := fun b h => h.elim
  have hoff : ∀ z, w.heap.size ≤ z → Off U ι (getO st.ob) z := fun z hz => ⟨fun hU => by have := hm.lt z hU; omega, fun k o hk _ e => by have := hm.block hk; omega⟩
  let B' : Base := ⟨w, U, ι, getO st.ob⟩
  have he1 : Evo B'.w B'.U B'.ι B'.ob W1 U ι (getO st.ob) := t1.evo (B := B') hm (fun b h => h.elim) (Evo.refl _ _ _ _)
  have hm1 : Mem W1 U ι (getO st.ob) := t1.mem hm nX
  let recO : Option Ex → Obj := fun p => .loop (match p with | none => rec .ready none | some x => rec .done (some (codeOf x)))
  let zs' : Option Ex → List (Nat × Obj) := fun p => [(l, recO p), (w.heap.size, .deferred (some []))]
  have hzs1 : Zs W1 U ι (getO st.ob) (zs' none) := by
    intro p hp
    simp only [zs', List.mem_cons, List.not_mem_nil, or_false] at hp
    rcases hp with rfl | rfl
    · exact ⟨hL1, hoff _ (by simp only [l]; omega)⟩
    · exact ⟨hD1, hoff _ (Nat.le_refl _)⟩
  refine ⟨l, [{ target := .collected w.heap.size, args := #[] }], W1, { target := .fn (.func f) cs, args := #[.func (.yield l) #[] #[]] }, W1, f, #[.func (.yield l) #[] #[]] ++ cs, W1, ?_, ?_, fun f' _ => trivial, ?_, fun hc => (by cases hc), ?_⟩
  · rw [← hW1, hrec]; exact run_enterLoop_outer _ _ _ _ _
  · simp only [resolve, hcv]
    simp [go_sem]
  · simp [invoke, hin.call]
  -- the iterator, run in place
  have hcapV : VF W1 U ι (getO st.ob) (.one .undef :: caps.map .one) ((#[.func (.yield l) #[] #[]] ++ cs : Array Value)).toList := by
    rw [Array.toList_append]
    show VF W1 U ι (getO st.ob) (.one .undef :: caps.map .one) (.func (.yield l) #[] #[] :: cs.toList)
    simp only [VF]
    exact ⟨_, _, rfl, by simp [VR, LR], VF.keep (t1.keep hm nX) _ _ (LF_VF hcl)⟩
  refine callsIn_of_wp hin.hfn hin.body trivial (wpIn_mono (ih ⟨f, (fr.b + 1) * 1000, bd.nt, false, keysO st.ob, false⟩ (some _) 0 bd.code _ _ _ W1 B' zs' (.func (.yield l) #[] #[]) none (m - 1) hin.draws (fun k hk => mem_keysO hk) (fun h => by cases h) ?_ (fun _ => ⟨rfl, rfl⟩) (fun h => by cases h) h ?_) ?_)
  · -- a round
    intro hh hhh
    cases hhh
    refine ⟨l, rfl, fun vals ob kk hk m' Wy Uy ιy as hmy hey hzy hvy => ?_⟩
    unfold rngH at hk
    split at hk
    case isFalse => cases hk
    rename_i hvl
    obtain ⟨hly, hloff⟩ := hzy (l, recO none) (by simp [zs'])
    obtain ⟨hDy, hDoff⟩ := hzy (w.heap.size, .deferred (some [])) (by simp [zs'])
    have hly' : Wy.heap[l]? = some (.loop (rec .ready none)) := hly
    have hasz : as.size = ps.size := by have := hvy.len; simp only [Array.length_toList] at this; omega
    have hyr := run_yield (P := P) (args := as) hly' (by rw [hrec]; exact hasz)
    rw [hrec] at hyr
    refine ⟨gfn, _, assign, body, hyr, roundIn_of_wpIn trivial ?_⟩
    let B2 : Base := ⟨Wy, Uy, ιy, getO ob⟩
    have hpsz : ∀ p ∈ ps.toList, p < a.tmps.size := fun p hp => by rw [hsz]; simpa using List.all_eq_true.1 hps p hp
    have hfold : ((ps.zip as).foldl (fun tmps (t, a) => tmps.setIfInBounds t a) a.tmps) = ((ps.toList.zip as.toList).foldl (fun t (p, v) => t.setIfInBounds p v) a.tmps) := by
      rw [← Array.foldl_toList, Array.toList_zip]
    refine wpIn_mono (F := FW (some l)) (ih ⟨fr.f, fr.b, fr.nt, false, keysO ob, false⟩ none cur assign _ _ _ Wy B2 (fun _ => []) undef (some l) m' hdr.1 (fun k hk => mem_keysO hk) (fun h => by cases h) HdOK.none' (fun h => by cases h) (fun h => by cases h) hk ?_) ?_
    · refine ⟨Uy, ιy, [], hmy, Evo.refl _ _ _ _, fun p hp => (by simp [dzs] at hp), rfl, by simp, by simp, fun _ => rfl, ?_, ?_, fun t ht => by cases ht⟩
      · rw [hfold, par_size]; exact hsz
      · intro t
        rw [hfold]
        exact par_VR hvy hpsz (fun t => VR.keep hey.keep _ _ (hv t)) t
    · rintro e1 a1 w1 ⟨x1, st1, rfl, hk1, U1, ι1, ds1, hm1', he1', _, hdf1, _, _, hrg1, hsz1', hv1, hy1⟩
      cases x1 with
      | exit id => cases hk1
      | ret => cases hk1
      | normal =>
        simp only [kAsg] at hk1
        have hlt : l < Wy.heap.size := lt_of_get hly'
        have hoff1 : Off U1 ι1 (getO st1.ob) l := hloff.evo hlt he1'
        have hl1 : w1.heap[l]? = some (.loop (rec .ready none)) := (he1'.same l hlt fun k o hk ho => hloff.2 k o hk ho).trans hly'
        refine ⟨_, run_beginRound hl1 (by rw [hrec]), ?_⟩
        -- the body
        have t2 := Turn.put w1 l (.loop { rec .ready none with state := .busy })
        have hX2 : ∀ b, b = l → Off U1 ι1 (getO st1.ob) b := fun b e => e ▸ hoff1
        have hm2 := t2.mem hm1' hX2
        have hk2 := t2.keep hm1' hX2
        let B3 : Base := ⟨w1.putObj l (.loop { rec .ready none with state := .busy }), U1, ι1, getO st1.ob⟩
        have hds1 : ds1 = [] := hrg1 rfl
        subst hds1
        have hevY2 : Evo B'.w B'.U B'.ι B'.ob (w1.putObj l (.loop { rec .ready none with state := .busy })) U1 ι1 (getO st1.ob) :=
          t2.evo (B := B') hm1' (fun b e => ⟨hX2 b e, by subst e; show w.heap.size ≤ l; simp only [l]; omega⟩) (hey.trans he1')
        have hl2 : (w1.putObj l (.loop { rec .ready none with state := .busy })).heap[l]? = some (.loop { rec .ready none with state := .busy }) := World.putObj_heap_same (lt_of_get hl1)
        refine wpIn_mono (F := FW (some l)) (ih ⟨fr.f, fr.b, fr.nt, false, keysO st1.ob, false⟩ none cur body st1 _ a1 _ B3 (fun _ => []) undef (some l) m' hdr.2 (fun k hk => mem_keysO hk) (fun h => by cases h) HdOK.none' (fun h => by cases h) (fun h => by cases h) hk1 ?_) ?_
        · exact ⟨U1, ι1, [], hm2, Evo.refl _ _ _ _, fun p hp => (by simp [dzs] at hp), hdf1, by simp, by simp, fun _ => rfl, hsz1', fun t => VR.keep hk2 _ _ (hv1 t), hy1⟩
        · rintro e3 a3 w3 ⟨x3, st3, rfl, hk3, U3, ι3, ds3, hm3, he3, _, hdf3, _, _, hrg3, hsz3, hv3, _⟩
          unfold kBdy at hk3
          split at hk3
          case h_2 => cases hk3
          rename_i ob' hg
          obtain ⟨g1, g2, g3, g4⟩ := gc_ok hg
          have hoff3 : Off U3 ι3 (getO st3.ob) l := hoff1.evo (by have := lt_of_get hl2; exact this) he3
          have hl3 : w3.heap[l]? = some (.loop { rec .ready none with state := .busy }) := (he3.same l (lt_of_get hl2) fun k o hk ho => hoff1.2 k o hk ho).trans hl2
          have hDlt : w.heap.size < Wy.heap.size := lt_of_get hDy
          have hDoff1 : Off U1 ι1 (getO st1.ob) w.heap.size := hDoff.evo hDlt he1'
          have hDoff3 : Off U3 ι3 (getO st3.ob) w.heap.size := hDoff1.evo (by show _ < (w1.putObj l _).heap.size; simp; exact Nat.lt_of_lt_of_le hDlt he1'.size) he3
          have hD1' : w1.heap[w.heap.size]? = some (.deferred (some [])) := (he1'.same _ hDlt fun k o hk ho => hDoff.2 k o hk ho).trans hDy
          have hD2' : (w1.putObj l (.loop { rec .ready none with state := .busy })).heap[w.heap.size]? = some (.deferred (some [])) := (World.putObj_heap_other (by simp only [l]; omega)).trans hD1'
          have hD3 : w3.heap[w.heap.size]? = some (.deferred (some [])) := (he3.same _ (lt_of_get hD2') fun k o hk ho => hDoff1.2 k o hk ho).trans hD2'
          -- the record is told
          have fin : ∀ (p : Option Ex) (jump : Option Code), jump = p.map codeOf → kk p ob' = some r → ∃ v w', (Instr.endRound l jump).run P w3 = .ok v w' ∧
              ∃ p ob' U' ι', Ending.returned v = .returned (.bool p.isNone) ∧ kk p ob' = some r ∧ Mem w' U' ι' (getO ob') ∧ Keep Wy Uy ιy (getO ob) w' U' ι' (getO ob') ∧ Evo B'.w B'.U B'.ι B'.ob w' U' ι' (getO ob') ∧ Zs w' U' ι' (getO ob') (zs' p) := by
            intro p jump hj hkk
            subst hj
            have t4 := Turn.put w3 l (.loop { { rec .ready none with state := .busy } with state := if (p.map codeOf).isNone then .ready else .done, pending := p.map codeOf })
            have hX4 : ∀ b, b = l → Off U3 ι3 (getO st3.ob) b := fun b e => e ▸ hoff3
            have hm4 := t4.mem hm3 hX4
            have hk4 := t4.keep hm3 hX4
            have he4 : Evo B'.w B'.U B'.ι B'.ob _ U3 ι3 (getO st3.ob) := t4.evo (B := B') hm3 (fun b e => ⟨hX4 b e, by subst e; show w.heap.size ≤ l; simp only [l]; omega⟩) (hevY2.trans he3)
            have hkk4 : Keep Wy Uy ιy (getO ob) _ U3 ι3 (getO st3.ob) := ((he1'.keep.trans hk2).trans he3.keep).trans hk4
            refine ⟨_, _, run_endRound (P := P) (p.map codeOf) hl3, p, ob', U3, ι3, by cases p <;> rfl, hkk, hm4.sub g1 g4, hkk4.subO (fun k hk => g2 k (mem_keysO hk)), he4.subO g1 (fun k hk => g2 k (keysO_evo hey hk)), ?_⟩
            refine Zs.sub (ob := getO st3.ob) ?_ g1
            intro q hq
            simp only [zs', List.mem_cons, List.not_mem_nil, or_false] at hq
            rcases hq with rfl | rfl
            · refine ⟨?_, hoff3⟩
              rw [World.putObj_heap_same (lt_of_get hl3)]
              simp only [recO, hrec]
              cases p <;> rfl
            · exact ⟨(World.putObj_heap_other (by simp only [l]; omega)).trans hD3, hDoff3⟩
          cases x3 with
          | normal => exact fin none none rfl hk3
          | ret => exact fin (some .ret) (some .ret) rfl hk3
          | exit id => exact fin (some (.exit id)) (some (.exit id)) rfl hk3
  · -- the iterator's frame at its start
    show Sim2 B' (zs' none) bd.nt false (.func (.yield l) #[] #[]) (getE (envV (.one .undef :: caps.map .one) 0)) (getO st.ob) [0] { tmps := (#[Value.func (.yield l) #[] #[]] ++ cs) ++ Array.replicate (fn.ntmps - (#[Value.func (.yield l) #[] #[]] ++ cs).size) undef, defers := [] } W1
    rw [hin.nt]
    refine start_sim hm1 hcapV (by simpa using hcap) hzs1 [0] (fun t ht => ?_) he1
    simp only [List.mem_cons, List.not_mem_nil, or_false] at ht
    subst ht
    simp
  · -- behind the iterator
    rintro e2 a2 w2 ⟨x2, st2, rfl, hk2, U2, ι2, ds2, hm2, he2, hz2, hdf2, _, _, hrg2, _, _, _⟩
    have hds2 : ds2 = [] := hrg2 rfl
    subst hds2
    have hres0 : (results fn a2.tmps).run P w2 = .ok (packV []) w2 := results_ok (by rw [hin.res, hres]; simp)
    have main : ∀ ob', gcO (keysO st.ob) [] st2.ob = some ob' → k (st2.pend.getD .normal) ⟨st.env, ob', [], st.pend⟩ = some r → a2.defers = [] ∧ ∃ v, (results fn a2.tmps).run P w2 = .ok v w2 ∧ rangePost (FW none) m P l (After2 B zsOf fr yv k r) { a with defers := [{ target := .collected w.heap.size, args := #[] }] ++ a.defers } (.returned v) w2 := by
      intro ob' hg hk2
      refine ⟨hdf2, _, hres0, ?_⟩
      obtain ⟨g1, g2, g3, g4⟩ := gc_ok hg
      obtain ⟨hl2, hloff2⟩ := hz2 (l, recO st2.pend) (by simp [zs', dzs])
      obtain ⟨hD2, hDoff2⟩ := hz2 (w.heap.size, .deferred (some [])) (by simp [zs', dzs])
      have hl2' : ∃ rc, w2.heap[l]? = some (.loop rc) ∧ rc.state ≠ .busy ∧ rc.pending = st2.pend.map codeOf := by
        cases hp : st2.pend with
        | none => rw [hp] at hl2; exact ⟨_, hl2, by rw [hrec]; simp, by rw [hrec]; rfl⟩
        | some x => rw [hp] at hl2; exact ⟨_, hl2, by rw [hrec]; simp, by rw [hrec]; rfl⟩
      obtain ⟨rc, hl2', hbusy, hpend⟩ := hl2'
      have t5 := Turn.put w2 l (.loop { rc with state := .exhausted })
      have hX5 : ∀ b, b = l → Off U2 ι2 (getO st2.ob) b := fun b e => e ▸ hloff2
      have hm5 := t5.mem hm2 hX5
      have hk5 := t5.keep hm2 hX5
      have hoffD : ∀ D ∈ ds, D < w.heap.size := fun D hD => lt_of_get (hz (D, .deferred (some [])) (by simp only [dzs, List.mem_append, List.mem_map]; exact .inl ⟨D, hD, rfl⟩)).1
      have done : ∀ x, k x ⟨st.env, ob', [], st.pend⟩ = some r → After2 B zsOf fr yv k r (exOf x) { a with defers := [{ target := .collected w.heap.size, args := #[] }] ++ a.defers } (w2.putObj l (.loop { rc with state := .exhausted })) := by
        intro x hx
        refine ⟨x, _, rfl, hx, U2, ι2, w.heap.size :: ds, hm5.sub g1 g4, ?_, ?_, by rw [hdf]; rfl, ?_, ?_, ?_, hsz, ?_, fun t ht => by cases ht⟩
        · refine Evo.subO (ob := getO st2.ob) ?_ g1 (fun k hk => g2 k (keysO_evo he0 hk))
          exact t5.evo hm2 (fun b e => ⟨hX5 b e, by subst e; have := he0.size; simp only [l]; omega⟩) (he0.trans he2)
        · refine Zs.sub (ob := getO st2.ob) ?_ g1
          refine t5.zs ?_ ?_
          · intro p hp
            simp only [dzs, List.map_cons, List.cons_append, List.mem_cons] at hp
            rcases hp with rfl | hp
            · exact ⟨hD2, hDoff2⟩
            · exact (hz.evo he2) p hp
          · intro p hp e
            simp only [dzs, List.map_cons, List.cons_append, List.mem_cons] at hp
            rcases hp with rfl | hp
            · simp only [l] at e; omega
            · have := lt_of_get (hz p hp).1
              simp only [l] at e; omega
        · rw [List.nodup_cons]; exact ⟨fun h => by have := hoffD _ h; omega, hnd⟩
        · intro D hD
          rcases List.mem_cons.1 hD with rfl | hD
          · exact he0.size
          · exact hds D hD
        · intro hh; rw [hrng] at hh; cases hh
        · intro t
          refine VR.keep (Keep.subO (ob' := getO st2.ob) (he2.keep.trans hk5) fun k hk => g2 k (mem_keysO hk)) _ _ (hv t)
      obtain ⟨jp, hjp⟩ : ∃ jp, jp = rc.pending := ⟨_, rfl⟩
      refine ⟨jp, _, by rw [hjp]; exact run_endLoop hl2' hbusy, ?_⟩
      rw [hpend] at hjp
      cases hp : st2.pend with
      | none =>
        rw [hp] at hk2 hjp
        simp only [Option.map_none] at hjp
        rw [hjp]
        exact done .normal hk2
      | some x =>
        rw [hp] at hk2 hjp
        simp only [Option.map_some] at hjp
        rw [hjp]
        have := done x hk2
        cases x with
        | normal => exact wpIn_skip this
        | ret => exact wpIn_ret this
        | exit id => exact wpIn_exit this
    cases x2 with
    | exit id => cases hk2
    | normal =>
      simp only [kIt] at hk2
      unfold itEnd at hk2
      split at hk2
      · rename_i ob' hg; exact main ob' hg hk2
      · cases hk2
    | ret =>
      simp only [kIt] at hk2
      unfold itEnd at hk2
      split at hk2
      · rename_i ob' hg; exact main ob' hg hk2
      · cases hk2

end Go.VE
/- All statements; a function's contract. -/
namespace Go.VE
open Go.RowKit

variable {P : Program}

theorem condE_ok {B : Base} {zs : List (Nat × Obj)} {nt : Nat} {rng : Bool} {yv : Value} {env : List (Nat × V)} {ob : List (Nat × O)} {ys : List Nat} {a : Act} {w : World} {c : Operand} {b : Bool} {rt : Option Nat} (h : condE env c = some (b, rt)) (hs : Sim2 B zs nt rng yv (getE env) (getO ob) ys a w) :
    Sim2 B zs nt rng yv (getE (refine_ ⟨env, ob⟩ rt b).env) (getO ob) ys a w ∧ a.eval c = .bool b := by
  unfold condE at h
  split at h
  · rename_i t
    split at h
    · rename_i b' he
      cases h
      refine ⟨?_, ?_⟩
      · simp only [refine_]
        rw [getE_same he rfl]
        exact hs
      · obtain ⟨U, ι, ds, hm, he0, hz, hdf, hnd, hds, hrg, hsz, hv, hy⟩ := hs
        have := hv t
        rw [he] at this
        simp only [VR, LR, DR] at this
        exact this.1
    · cases h
  · cases h
    exact ⟨hs, rfl⟩
  · cases h

theorem exec2_sound {cfg : Cf} (hC : ∀ f ds r, cfg.C f ds = some r → SC P f ds r) (hI : ∀ f bd, cfg.inl f = some bd → ∃ fn, InlOK P cfg f bd fn) (hmix : P.follows .mixedOrders = true) {α : Type} {r : α} : ∀ n, Snd P cfg r n ∧ SndL P cfg r n := by
  intro n
  induction n with
  | zero => exact ⟨fun fr hd cur c st k a w B zsOf yv ro m _ _ _ _ _ _ h => by simp [exec2] at h, fun fr hd cur c st k a w B zsOf yv ro m _ _ _ _ _ _ h => by simp [exec2] at h⟩
  | succ n ih =>
    obtain ⟨ih1, ih2⟩ := ih
    have loops : SndL P cfg r (n + 1) := by
      intro fr hd cur c st k a w B zsOf yv ro m hdr hpr hrg hhd hro htp h hs
      simp only [exec2] at h
      split at h
      · cases h
      · rename_i st0 hn
        rw [roundsIn_succ]
        obtain ⟨hs0, hp0⟩ := sim2_norm hpr hn hs
        have hs0' : SimT B zsOf fr yv st0 a w := by show Sim2 _ (zsOf st0.pend) _ _ _ _ _ _ _ _; rw [hp0]; exact hs0
        refine wpIn_mono (ih1 fr hd cur c st0 _ a w B zsOf yv ro m hdr hpr hrg hhd hro htp h hs0') ?_
        rintro e a' w' ⟨x, st', rfl, hk, hs'⟩
        cases x with
        | normal => exact ih2 fr hd cur c st' k a' w' B zsOf yv ro m hdr hpr hrg hhd hro htp hk hs'
        | exit i => exact ⟨.exit i, st', rfl, hk, hs'⟩
        | ret => exact ⟨.ret, st', rfl, hk, hs'⟩
    refine ⟨?_, loops⟩
    intro fr hd cur c st k a w B zsOf yv ro m hdr hpr hrg hhd hro htp h hs
    cases c with
    | skip => simp only [exec2] at h; exact wpIn_skip ⟨.normal, st, rfl, h, hs⟩
    | label l => simp only [exec2] at h; exact wpIn_label ⟨.normal, st, rfl, h, hs⟩
    | ret => simp only [exec2] at h; exact wpIn_ret ⟨.ret, st, rfl, h, hs⟩
    | exit id => simp only [exec2] at h; exact wpIn_exit ⟨.exit id, st, rfl, h, hs⟩
    | region id ops draw =>
      cases draw with
      | false =>
        simp only [exec2] at h
        exact wpIn_region_list (ops2_sound hC (rn_ok hI ih1) hhd hro h hs fun st' a' w' hk hs' => ⟨.normal, st', rfl, hk, hs'⟩)
      | true =>
        simp only [drawsOK2] at hdr
        simp only [exec2] at h
        refine wpIn_region_any hmix ?_
        unfold dr2 at h
        split at h
        · rename_i hys
          have hs' : SimE B (zsOf st.pend) fr.nt fr.rng yv (getE st.env) (getO st.ob) a w := by have := hs; unfold SimT at this; rw [hys] at this; exact this
          split at h
          · rename_i hp
            rw [hp] at hdr
            exact draw_soundIn0 (st := ⟨st.env, st.ob⟩) hC hdr h hs' fun st' a' w' hk hs' => ⟨.normal, _, rfl, hk, hs'⟩
          · rename_i p ps hp
            rw [hp] at hdr
            exact draw_soundIn (st := ⟨st.env, st.ob⟩) hC hdr h hs' fun st' a' w' hk hs' => ⟨.normal, _, rfl, hk, hs'⟩
        · cases h
    | seq x y =>
      simp only [exec2] at h
      simp only [drawsOK2, Bool.and_eq_true] at hdr
      refine wpIn_seq (wpIn_mono (ih1 fr hd cur x st _ a w B zsOf yv ro m hdr.1 hpr hrg hhd hro (fun e => ⟨(htp e).1.1, (htp e).2⟩) h hs) ?_)
      rintro e a' w' ⟨z, st', rfl, hk, hs'⟩
      cases z with
      | normal => exact ih1 fr hd cur y st' k a' w' B zsOf yv ro m hdr.2 hpr hrg hhd hro (fun e => ⟨(htp e).1.2, (htp e).2⟩) hk hs'
      | exit i => exact ⟨.exit i, st', rfl, hk, hs'⟩
      | ret => exact ⟨.ret, st', rfl, hk, hs'⟩
    | cond c x y =>
      simp only [exec2] at h
      simp only [drawsOK2, Bool.and_eq_true] at hdr
      split at h
      · cases h
      · rename_i t rt hc
        obtain ⟨hs', he⟩ := condE_ok (ob := st.ob) hc hs
        cases t with
        | true => rw [if_pos rfl] at h; exact wpIn_cond_true he (ih1 fr hd cur x _ k a w B zsOf yv ro m hdr.1 hpr hrg hhd hro (fun e => ⟨(htp e).1.1, (htp e).2⟩) h hs')
        | false => rw [if_neg (by simp)] at h; exact wpIn_cond_false he (ih1 fr hd cur y _ k a w B zsOf yv ro m hdr.2 hpr hrg hhd hro (fun e => ⟨(htp e).1.2, (htp e).2⟩) h hs')
    | block id c =>
      simp only [drawsOK2] at hdr
      simp only [exec2] at h
      split at h
      · refine wpIn_block (wpIn_mono (ih1 fr hd id c st _ a w B zsOf yv ro m hdr hpr hrg hhd hro (fun e => ⟨(htp e).1.2, (htp e).2⟩) h hs) ?_)
        rintro e a' w' ⟨z, st', rfl, hk, hs'⟩
        cases z with
        | normal => exact ⟨.normal, st', rfl, hk, hs'⟩
        | ret => exact ⟨.ret, st', rfl, hk, hs'⟩
        | exit i =>
          simp only [kBlk] at hk
          simp only [exOf, Exit.inBlock]
          split at hk
          · rename_i hi
            rw [if_pos hi]
            split at hk
            · rename_i st'' hn
              obtain ⟨hs0, hp0⟩ := sim2_norm hpr hn hs'
              exact ⟨.normal, st'', rfl, hk, by show Sim2 _ (zsOf st''.pend) _ _ _ _ _ _ _ _; rw [hp0]; exact hs0⟩
            · cases hk
          · rename_i hi
            rw [if_neg hi]
            exact ⟨.exit i, st', rfl, hk, hs'⟩
      · rename_i g hg
        unfold sumAt at hg
        split at hg
        · rename_i htop
          obtain ⟨⟨hsum, _⟩, hrng, hB⟩ := htp htop
          have hro' := hrg hrng
          subst hro'
          unfold sumOf at h
          split at h
          · rename_i s hn hp
            split at h
            · rename_i e env ob ys hgs
              obtain ⟨hs0, hp0⟩ := sim2_norm hpr hn hs
              rw [hrng] at hs0
              refine wpIn_mono (hsum g hg s e _ (hp0.trans hp) hgs B (zsOf st.pend) yv m a w hB hs0) ?_
              rintro e1 a1 w1 ⟨rfl, hs1⟩
              refine ⟨e, _, rfl, h, ?_⟩
              show Sim2 B (zsOf none) fr.nt fr.rng yv _ _ _ a1 w1
              rw [hrng, ← hp]
              exact hs1
            · cases h
          · cases h
        · cases hg
    | loop c =>
      simp only [drawsOK2] at hdr
      exact wpIn_loop_rounds (n + 1) (loops fr hd cur c st k a w B zsOf yv ro m hdr hpr hrg hhd hro htp h hs)
    | rangeFunc g ps assign body => exact range_ok hI ih1 hdr hpr hrg h hs
    | scope _ => simp [exec2] at h
    | goto _ => simp [exec2] at h
    | refuse _ => simp [exec2] at h

/-! ### a function's contract -/
def fin2 (P : Program) (rs : List ResultVar) : Ex → S2 → Option RV
  | .exit _, _ => none
  | _, st => match (resQ true P rs (getE st.env)).run (getO st.ob) with
    | some r => some r
    | none => (resQ false P rs (getE st.env)).run (getO st.ob)

theorem sc_of_exec2 {f : Nat} {fn : Func} {bd : Bd} {args : List VD} {r : RV} (cfg : Cf) (n : Nat) (hin : InlOK P cfg f bd fn)
    (hC : ∀ f ds r, cfg.C f ds = some r → SC P f ds r) (hI : ∀ f bd, cfg.inl f = some bd → ∃ fn, InlOK P cfg f bd fn) (hmix : P.follows .mixedOrders = true) (hn : args.length ≤ bd.nt) (hS : SumOK P cfg f bd.nt bd.code)
    (h : exec2 cfg P n ⟨f, 0, bd.nt, true, [], true⟩ none 0 bd.code ⟨envOf args 0, [], [], none⟩ (fin2 P bd.res) = some r) : SC P f args r := by
  refine ⟨hin.call, fun w U vs hU hv => ?_⟩
  have hlen := hv.len
  simp only [Array.length_toList] at hlen
  have hm0 : Mem w U (fun _ => (0, 0)) (getO []) := ⟨hU, by intro _ _ h; simp [getO] at h, by intro _ _ _ _ h; simp [getO] at h⟩
  have hs : SimT ⟨w, U, fun _ => (0, 0), getO []⟩ (fun _ => []) ⟨f, 0, bd.nt, true, [], true⟩ undef ⟨envOf args 0, [], [], none⟩ { tmps := vs ++ Array.replicate (fn.ntmps - vs.size) undef, defers := [] } w := by
    refine ⟨U, fun _ => (0, 0), [], hm0, Evo.refl _ _ _ _, fun p hp => (by simp [dzs] at hp), rfl, by simp, by simp, fun _ => rfl, by rw [hin.nt]; simp; omega, fun t => ?_, fun t ht => by cases ht⟩
    rw [tmps_get]
    rcases envOf_VR (ι := fun _ => (0, 0)) (ob := getO []) (i := 0) hv t with h3 | h3
    · simpa using h3
    · rw [h3]; simp only [VR, LR]
  have hwp := (exec2_sound hC hI hmix n).1 ⟨f, 0, bd.nt, true, [], true⟩ none 0 bd.code _ _ _ w ⟨w, U, fun _ => (0, 0), getO []⟩ (fun _ => []) undef none 0 hin.draws (fun k hk => (hk rfl).elim) (fun _ => rfl) HdOK.none' (fun h => by cases h) (fun _ => ⟨hS, rfl, fun _ => rfl⟩) h hs
  refine callsIn_wide.1 (show CallsIn (FW none) 0 P f vs w _ from ?_)
  refine callsIn_of_wp_marks hin.hfn hin.body trivial (wpIn_mono hwp ?_)
  rintro e a w' ⟨x, st, rfl, hk, U', ι, ds, hm, he, hz, hdf, hnd, hds, hrg, hsz, hvr, _⟩
  have main : ∀ own, (resQ own P bd.res (getE st.env)).run (getO st.ob) = some r → LeavesInM (FW none) 0 P fn a.tmps (Post w U r) a.defers .returning w' := by
    intro own hq
    rw [hdf]
    refine leaves_marks ds w' hm he (fun p hp => hz p (by simp [hp])) hnd hds fun w'' hm he g3 => ?_
    have hvr : ∀ t, VR w'' U' ι (getO st.ob) (getE st.env t) (a.tmps.getD t undef) := fun t => VR.keep g3 _ _ (hvr t)
    unfold resQ at hq
    obtain ⟨rvs, h1, hq⟩ := bind_run hq
    obtain ⟨us, h2, h3⟩ := resV_ok (P := P) hm hvr h1
    have hbelow : Below w.heap.size w w'' := ⟨he.os, he.tape, he.output, he.size, fun b hb => he.same b hb (by intro k o h; cases h)⟩
    have horig : ∀ b, U' b → U b ∨ w.heap.size ≤ b := fun b hb => by
      rcases he.orig b hb with h | h | ⟨k, o, h, _⟩
      · exact .inl h
      · exact .inr h
      · cases h
    have howned : ∀ k o, getO st.ob k = some o → o.owned = true → w.heap.size ≤ (ι k).1 := fun k o hk ho => by
      rcases he.ownd k o hk ho with h | ⟨k0, o0, h, _⟩
      · exact h
      · cases h
    refine ⟨packV us, results_ok (by rw [hin.res]; exact h2), ?_⟩
    cases own with
    | true =>
      simp only at hq
      obtain ⟨p, h4, hq⟩ := bind_run hq
      obtain ⟨hnd, hq⟩ := guard_run hq
      simp only [decide_eq_true_eq] at hnd
      simp only [Q.run, Option.some.injEq] at hq
      subst hq
      obtain ⟨a1, a2⟩ := rvOs_ok hm h4 h3
      refine ⟨packV us, U', p.2.map fun k => (ι k).1, rfl, hbelow, he.sub, fun b hb => ⟨hm.lt b hb, horig b hb⟩, ?_, ?_, pack_ok a1⟩
      · have key : ∀ {ks : List Nat}, ks.Nodup → (∀ k ∈ ks, ∃ o, getO st.ob k = some o ∧ o.owned = true) → (ks.map fun k => (ι k).1).Nodup := by
          intro ks
          induction ks with
          | nil => intro _ _; simp
          | cons k ks ih =>
            intro hn ho
            simp only [List.nodup_cons] at hn
            simp only [List.map_cons, List.nodup_cons]
            refine ⟨?_, ih hn.2 fun k' hk' => ho k' (by simp [hk'])⟩
            intro hmem
            obtain ⟨k', hk', heq⟩ := List.mem_map.1 hmem
            obtain ⟨o, h5, h6⟩ := ho k (by simp)
            obtain ⟨o', h7, h8⟩ := ho k' (by simp [hk'])
            exact hm.inj k k' o o' h5 h7 h6 h8 (fun e => hn.1 (e ▸ hk')) heq.symm
        exact key hnd a2
      · intro b hb
        obtain ⟨k, hk, rfl⟩ := List.mem_map.1 hb
        obtain ⟨o, h5, h6⟩ := a2 k hk
        exact ⟨howned k o h5 h6, hm.block h5, hm.notU h5 h6⟩
    | false =>
      simp only at hq
      obtain ⟨xs, h4, hq⟩ := bind_run hq
      simp only [Q.run, Option.some.injEq] at hq
      subst hq
      have := rvD_ok hm (Us := fun b => U' b ∨ (w.heap.size ≤ b ∧ b < w''.heap.size)) (fun b hb => .inl hb) (fun k o hk => by
        cases ho : o.owned with
        | true => exact .inr ⟨howned k o hk ho, hm.block hk⟩
        | false => exact .inl ((hm.obj k o hk).blk ho)) h4 h3
      refine ⟨packV us, fun b => U' b ∨ (w.heap.size ≤ b ∧ b < w''.heap.size), [], rfl, hbelow, fun b hb => .inl (he.sub b hb), ?_, by simp, by simp, pack_ok this⟩
      rintro b (hb | hb)
      · exact ⟨hm.lt b hb, horig b hb⟩
      · exact ⟨hb.2, .inr hb.1⟩
  have both : (match (resQ true P bd.res (getE st.env)).run (getO st.ob) with | some r => some r | none => (resQ false P bd.res (getE st.env)).run (getO st.ob)) = some r → LeavesInM (FW none) 0 P fn a.tmps (Post w U r) a.defers .returning w' := by
    intro hq
    split at hq
    · rename_i r' h1; cases hq; exact main true h1
    · exact main false hq
  cases x with
  | normal => exact both hk
  | ret => exact both hk
  | exit id => simp [fin2] at hk

/-! ### all functions at once -/
structure Tab where
  inl : Nat → Bool
  live : Nat → Nat → Option (List Nat)

/-- The pairs of a region that draws that must be held apart. -/
def autoPairs (_ : Nat) (ops : Array Oper) : List (Nat × Nat) :=
  (List.range ops.size).flatMap fun i => match ops[i]? with
    | none => []
    | some oi => (List.range i).filterMap fun j => match ops[j]? with
      | none => none
      | some oj => if (((ancs ops ops.size).getD (ops.size - 1 - i) []).contains j) || memFree oj.op oi.op then none else some (j, i)

def bdOf (P : Program) (f : Nat) : Option Bd := match P.funcs[f]? with
  | some fn => if fn.name == "runtime.NumGoroutine" then none else match fn.body with
    | some c => if drawsOK2 autoPairs c then some ⟨fn.ntmps, fn.results.toList, c⟩ else none
    | none => none
  | none => none
def inlT (T : Tab) (P : Program) (f : Nat) : Option Bd := if T.inl f = true then bdOf P f else none
abbrev Sums := Nat → Nat → Option (S2 → Option (Ex × S2))
def cfT (T : Tab) (P : Program) (C : Cs) (S : Sums := fun _ _ => none) : Cf := ⟨C, inlT T P, T.live, fun _ => autoPairs, S⟩

theorem bdOf_ok {P : Program} {f : Nat} {bd : Bd} (h : bdOf P f = some bd) (T : Tab) (C : Cs) (S : Sums) : ∃ fn, InlOK P (cfT T P C S) f bd fn := by
  unfold bdOf at h
  split at h
  · rename_i fn hfn
    split at h
    · cases h
    · rename_i hnm
      split at h
      · rename_i c hc
        split at h
        · rename_i hd
          cases h
          refine ⟨fn, hfn, hc, rfl, rfl, fun as w => ?_, hd⟩
          simp only [Bool.not_eq_true] at hnm
          have hne : ¬ fn.name = "runtime.NumGoroutine" := fun e => by rw [e] at hnm; simp at hnm
          simp [callFunc, hfn, hne, hc]
        · cases h
      · cases h
  · cases h

theorem inlT_ok {P : Program} {T : Tab} {C : Cs} {S : Sums} : ∀ f bd, (cfT T P C S).inl f = some bd → ∃ fn, InlOK P (cfT T P C S) f bd fn := by
  intro f bd h
  simp only [cfT, inlT] at h
  split at h
  · exact bdOf_ok h T C S
  · cases h

theorem sumOK_none {cfg : Cf} (h : ∀ f id, cfg.sum f id = none) {f nt : Nat} : ∀ c, SumOK P cfg f nt c
  | .block id c => ⟨fun g hg => (by rw [h] at hg; cases hg), sumOK_none h c⟩
  | .seq a b => ⟨sumOK_none h a, sumOK_none h b⟩
  | .cond _ a b => ⟨sumOK_none h a, sumOK_none h b⟩
  | .loop c => sumOK_none h c
  | .skip | .label _ | .ret | .exit _ | .region .. | .rangeFunc .. | .scope _ | .goto _ | .refuse _ => trivial

/-- What a function hands back, its callees by contract, its loops by what is said of them. -/
def evG (T : Tab) (P : Program) (C : Cs) (S : Sums) (fuel f : Nat) (args : List VD) : Option RV := match bdOf P f with
  | none => none
  | some bd => if args.length ≤ bd.nt then exec2 (cfT T P C S) P fuel ⟨f, 0, bd.nt, true, [], true⟩ none 0 bd.code ⟨envOf args 0, [], [], none⟩ (fin2 P bd.res) else none
abbrev evF (T : Tab) (P : Program) (C : Cs) (fuel f : Nat) (args : List VD) : Option RV := evG T P C (fun _ _ => none) fuel f args

theorem evG_sc {T : Tab} {C : Cs} {S : Sums} (hC : ∀ f ds r, C f ds = some r → SC P f ds r) (hmix : P.follows .mixedOrders = true) {fuel f : Nat} {args : List VD} {r : RV} (hS : ∀ bd, bdOf P f = some bd → SumOK P (cfT T P C S) f bd.nt bd.code)
    (h : evG T P C S fuel f args = some r) : SC P f args r := by
  unfold evG at h
  split at h
  · cases h
  · rename_i bd hbd
    split at h
    · rename_i hlen
      obtain ⟨fn, hin⟩ := bdOf_ok hbd T C S
      exact sc_of_exec2 (cfT T P C S) fuel hin hC inlT_ok hmix hlen (hS bd hbd) h
    · cases h

theorem evF_sc {T : Tab} {C : Cs} (hC : ∀ f ds r, C f ds = some r → SC P f ds r) (hmix : P.follows .mixedOrders = true) {fuel f : Nat} {args : List VD} {r : RV} (h : evF T P C fuel f args = some r) : SC P f args r :=
  evG_sc hC hmix (fun bd _ => sumOK_none (fun _ _ => rfl) _) h

def evalF (T : Tab) (P : Program) (fuel : Nat) : Nat → Cs
  | 0 => fun _ _ => none
  | n + 1 => fun f args => evF T P (evalF T P fuel n) fuel f args

theorem evalF_sc {T : Tab} (hmix : P.follows .mixedOrders = true) {fuel : Nat} : ∀ (n f : Nat) (args : List VD) (r : RV), evalF T P fuel n f args = some r → SC P f args r
  | 0, f, args, r, h => by cases h
  | n + 1, f, args, r, h => evF_sc (evalF_sc hmix n) hmix h

/-! ### loops -/
def stp {α : Type} (fr : Fr) (lv : Option (List Nat)) (id : Nat) (J : S2 → Option α) (k : Ex → S2 → Option α) : Ex → S2 → Option α
  | .normal, st => match norm2 fr lv st with
    | none => none
    | some s => J s
  | .exit i, st => if i = id then (match norm2 fr lv st with
      | some s => k .normal s
      | none => none) else k (.exit i) st
  | .ret, st => k .ret st

/-- Rounds of a loop, from the state at its head. -/
def rnd {α : Type} (cfg : Cf) (P : Program) (fr : Fr) (id : Nat) (c : Code) (k : Ex → S2 → Option α) : Nat → S2 → Option α
  | 0, _ => none
  | m + 1, s => exec2 cfg P (m + 1) fr none id c s (stp fr (cfg.live fr.f id) id (rnd cfg P fr id c k m) k)

theorem loop_rnd {α : Type} {cfg : Cf} {fr : Fr} {id : Nat} {c : Code} {k : Ex → S2 → Option α} : ∀ (m : Nat) (st : S2), exec2 cfg P (m + 1) fr none id (.loop c) st (kBlk fr (cfg.live fr.f id) id k) = match norm2 fr (cfg.live fr.f id) st with
      | none => none
      | some s => rnd cfg P fr id c k m s
  | 0, st => by
    rw [exec2]
    cases norm2 fr (cfg.live fr.f id) st <;> rfl
  | m + 1, st => by
    rw [exec2]
    cases norm2 fr (cfg.live fr.f id) st with
    | none => rfl
    | some s =>
      simp only [rnd]
      congr 1
      funext e st'
      cases e with
      | normal => simp only [stp, kSeq]; exact loop_rnd m st'
      | exit i => rfl
      | ret => rfl

theorem blk_rnd {α : Type} {cfg : Cf} {fr : Fr} {cur id : Nat} {c : Code} {k : Ex → S2 → Option α} (hs : cfg.sum fr.f id = none) (m : Nat) (st : S2) : exec2 cfg P (m + 2) fr none cur (.block id (.loop c)) st k = match norm2 fr (cfg.live fr.f id) st with
      | none => none
      | some s => rnd cfg P fr id c k m s := by
  rw [← loop_rnd (P := P) (cfg := cfg) (fr := fr) (id := id) (c := c) (k := k) m st]
  rw [exec2]
  have : sumAt cfg fr id = none := by unfold sumAt; split <;> first | exact hs | rfl
  simp only [this]

/-- How a block is left, the state at a return by what the results need. -/
def kOut (fr : Fr) (rt : List Nat) : Ex → S2 → Option (Ex × S2) := fun e st => match e with
  | .ret => (norm2 fr (some rt) st).map fun s => (.ret, s)
  | e => some (e, st)

theorem blk_of_exec {cfg : Cf} (hC : ∀ f ds r, cfg.C f ds = some r → SC P f ds r) (hI : ∀ f bd, cfg.inl f = some bd → ∃ fn, InlOK P cfg f bd fn) (hmix : P.follows .mixedOrders = true) {f nt : Nat} {c : Code} {s s' : S2} {e : Ex} {N : Nat} {rt : List Nat}
    (hdr : drawsOK2 (cfg.draw f) c = true) (hS : SumOK P cfg f nt c) (h : exec2 cfg P N ⟨f, 0, nt, true, [], true⟩ none 0 c s (kOut ⟨f, 0, nt, true, [], true⟩ rt) = some (e, s')) (hp : s.pend = none) (hp' : s'.pend = none) : BlkOK P nt c s e s' := by
  intro B zs yv m a w hB hs
  refine wpIn_mono ((exec2_sound hC hI hmix N).1 ⟨f, 0, nt, true, [], true⟩ none 0 c s _ a w B (fun _ => zs) yv none m hdr (fun k hk => absurd (hB k) hk) (fun _ => rfl) HdOK.none' (fun h => by cases h) (fun _ => ⟨hS, rfl, hB⟩) h hs) ?_
  rintro e1 a1 w1 ⟨x, st, rfl, hk, hs1⟩
  have hs1 : Sim2 B zs nt true yv (getE st.env) (getO st.ob) st.ys a1 w1 := hs1
  cases x with
  | normal => simp only [kOut, Option.some.injEq, Prod.mk.injEq] at hk; obtain ⟨rfl, rfl⟩ := hk; exact ⟨rfl, hs1⟩
  | exit i => simp only [kOut, Option.some.injEq, Prod.mk.injEq] at hk; obtain ⟨rfl, rfl⟩ := hk; exact ⟨rfl, hs1⟩
  | ret =>
    simp only [kOut, Option.map_eq_some_iff, Prod.mk.injEq] at hk
    obtain ⟨s1, hn, rfl, rfl⟩ := hk
    exact ⟨rfl, (sim2_norm (fr := ⟨f, 0, nt, true, [], true⟩) (fun k hk => absurd (hB k) hk) hn hs1).1⟩

end Go.VE
