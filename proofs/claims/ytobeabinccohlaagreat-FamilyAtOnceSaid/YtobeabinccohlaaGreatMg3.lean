/- Family: families (program): the rounds of its loop. (Made by fa37.py.) -/
import Derived.Test.YtobeabinccohlaaGreatMg2
set_option maxRecDepth 20000
namespace Go.VE
open Go.RowKit Go.Proofs
section
attribute [local simp] q1I q1H
theorem ql2 (n:Nat) (L:List Int) (hL:L.length≤1000000) (hne:L≠[]) (q:Mr) (x3 x4 x5 x6 x8 x9 x10 x11 x12 x13 x14 x15 x16 x17:D) :
  q0o [qlW (RP (n+4)),qjz (RP (n+4))] M0 0 [.d (dI (some L)),.d (il L.length),.d (il 0),.d x3,.d x4,.d x5,.d x6,.m q,.d x8,.d x9,.d x10,.d x11,.d x12,.d x13,.d x14,.d x15,.d x16,.d x17] =
   some (1,[.r ((q0u [] L).map rI),.d x3,.d x4,.d x5,.d x6,.m q,.d x8,.d x9,.d x10,.d x11,.n (q0u [] L).length,.n (q0u [] L).length,.d x12,.d x13,.d x14,.d x15,.d x16,.d x17]):=by
 refine q9F L hL hne _ _ (fun i=>[.d (dI (some L)),.d (il L.length),.d (il (i:Nat)),.d x3,.d x4,.d x5,.d x6,.m q,.d x8,.d x9,.d x10,.d x11,.d x12,.d x13,.d x14,.d x15,.d x16,.d x17])
  (fun i acc=>[.d (dI (some L)),.d (il L.length),.d (il (i:Nat)),.r (acc.map rI),.d x3,.d x4,.d x5,.d x6,.m q,.d x8,.d x9,.d x10,.d x11,.n acc.length,.n acc.length,.d x12,.d x13,.d x14,.d x15,.d x16,.d x17])
  (fun acc=>some (1,[.r (acc.map rI),.d x3,.d x4,.d x5,.d x6,.m q,.d x8,.d x9,.d x10,.d x11,.n acc.length,.n acc.length,.d x12,.d x13,.d x14,.d x15,.d x16,.d x17])) ?_ ?_ ?_
 ·intro acc k;simp [qjz]
 ·intro c k hi hlt
  have h0:=q76 (Fn:=FN (n+4)) (FnD:=q1Z Tryz.prog (cf3 tb Tryz.prog) (FN (n+4))) (m:=M0) (o:=some L) (i:=0) (c:=c) hi
  simp only [qlW,q02,q06,q0A,q00,Int.natCast_zero,hlt,decide_true,if_true]
  rw [show ((il 0):D)=il ((0:Nat):Int) from rfl,h0]
  simp only [rI,q0b,q08,q2h,qiI,q01,q02,q06,q00,Bool.false_eq_true,if_false]
  rw [put0]
  simp only [q04,q0s,q1o,q0C,q0B,q0J,List.length_cons,List.length_nil,List.take_succ_cons,List.take_zero,Int.natCast_zero]
  rw [show IntKind.i64.wrap (0+1)=((1:Nat):Int) from rfl]
  rfl
 ·intro i c acc k hi hlt hw hu hl
  have hi':((some L).getD [])[i]?=some c:=hi
  have hput:=q1A n acc c (by omega) hu
  simp only [qjz,q02,q06,q0Q,q0P,q0G,q0Z,q0A,q00,hlt,decide_true,if_true,q76 hi',rI,q0b,q0B,q0K,List.length_map,q1n,q08]
  simp only [hput,q01,q02,q1f,q04,q0s,hw,List.length_map,q0R,q0S]
theorem li82_2 (n:Nat) (L:List Int) (hL:L.length≤1000000) (q:Mr) (x4 x5 x6 x7 x9 x10 x11 x12 x15 x16 x17 x18 x19 x20:D) (acc:List Int) (hu:Up acc) (ha:acc.length≤1000) :
  q0o [qjy (RP (n+4))] M0 0 [.d (dI (some L)),.d (il L.length),.d (il 0),.r (acc.map rI),.d x4,.d x5,.d x6,.d x7,.m q,.d x9,.d x10,.d x11,.d x12,.n acc.length,.n acc.length,.d x15,.d x16,.d x17,.d x18,.d x19,.d x20] =
   some (0,[.r ((q0u acc L).map rI),.d x4,.d x5,.d x6,.d x7,.m q,.d x9,.d x10,.d x11,.d x12,.n (q0u acc L).length,.n (q0u acc L).length,.d x15,.d x16,.d x17,.d x18,.d x19,.d x20]):=by
 refine q7Z L hL _ (fun i acc=>[.d (dI (some L)),.d (il L.length),.d (il (i:Nat)),.r (acc.map rI),.d x4,.d x5,.d x6,.d x7,.m q,.d x9,.d x10,.d x11,.d x12,.n acc.length,.n acc.length,.d x15,.d x16,.d x17,.d x18,.d x19,.d x20])
  (fun acc=>some (0,[.r (acc.map rI),.d x4,.d x5,.d x6,.d x7,.m q,.d x9,.d x10,.d x11,.d x12,.n acc.length,.n acc.length,.d x15,.d x16,.d x17,.d x18,.d x19,.d x20])) 1000 ?_ ?_ acc hu ha
 ·intro acc k;simp [qjy]
 ·intro i c acc k hi hlt hw hu hl
  have hi':((some L).getD [])[i]?=some c:=hi
  have hput:=q1A n acc c (by omega) hu
  simp only [qjy,q02,q06,q0Q,q0P,q0G,q0Z,q0A,q00,hlt,decide_true,if_true,q76 hi',rI,q0b,q0B,q0K,List.length_map,q1n,q08]
  simp only [hput,q01,q02,q1f,q04,q0s,hw,List.length_map,q0R,q0S]
theorem qk4 (n:Nat) (L:List Int) (hL:L.length≤1000000) (q:Mr) (x4 x5 x6 x7 x9 x10 x11 x12 x15 x16 x17 x18 x19 x20:D) (acc:List Int) (hu:Up acc) (ha:acc.length≤1000) :
  q0o [qjx (RP (n+4))] M0 0 [.d (dI (some L)),.d (il L.length),.d (il 0),.r (acc.map rI),.d x4,.d x5,.d x6,.d x7,.m q,.d x9,.d x10,.d x11,.d x12,.n acc.length,.n acc.length,.d x15,.d x16,.d x17,.d x18,.d x19,.d x20] =
   some (0,[.r ((q0u acc L).map rI),.d x4,.d x5,.d x6,.d x7,.m q,.d x9,.d x10,.d x11,.d x12,.n (q0u acc L).length,.n (q0u acc L).length,.d x15,.d x16,.d x17,.d x18,.d x19,.d x20]):=by
 refine q7Z L hL _ (fun i acc=>[.d (dI (some L)),.d (il L.length),.d (il (i:Nat)),.r (acc.map rI),.d x4,.d x5,.d x6,.d x7,.m q,.d x9,.d x10,.d x11,.d x12,.n acc.length,.n acc.length,.d x15,.d x16,.d x17,.d x18,.d x19,.d x20])
  (fun acc=>some (0,[.r (acc.map rI),.d x4,.d x5,.d x6,.d x7,.m q,.d x9,.d x10,.d x11,.d x12,.n acc.length,.n acc.length,.d x15,.d x16,.d x17,.d x18,.d x19,.d x20])) 1000 ?_ ?_ acc hu ha
 ·intro acc k;simp [qjx]
 ·intro i c acc k hi hlt hw hu hl
  have hi':((some L).getD [])[i]?=some c:=hi
  have hput:=q1A n acc c (by omega) hu
  simp only [qjx,q02,q06,q0Q,q0P,q0G,q0Z,q0A,q00,hlt,decide_true,if_true,q76 hi',rI,q0b,q0B,q0K,List.length_map,q1n,q08]
  simp only [hput,q01,q02,q1f,q04,q0s,hw,List.length_map,q0R,q0S]
theorem qk3 (n:Nat) (L:List Int) (hL:L.length≤1000000) (q:Mr) (x3 x4 x5 x6 x8 x9 x10 x11 x15 x16 x17 x18 x19 x20:D) (acc:List Int) (hu:Up acc) (ha:acc.length≤1000) :
  q0o [qjw (RP (n+4))] M0 0 [.d (dI (some L)),.d (il L.length),.d (il 0),.d x3,.d x4,.d x5,.d x6,.m q,.d x8,.d x9,.d x10,.d x11,.n acc.length,.n acc.length,.r (acc.map rI),.d x15,.d x16,.d x17,.d x18,.d x19,.d x20] =
   some (0,[.d x3,.d x4,.d x5,.d x6,.m q,.d x8,.d x9,.d x10,.d x11,.n (q0u acc L).length,.n (q0u acc L).length,.r ((q0u acc L).map rI),.d x15,.d x16,.d x17,.d x18,.d x19,.d x20]):=by
 refine q7Z L hL _ (fun i acc=>[.d (dI (some L)),.d (il L.length),.d (il (i:Nat)),.d x3,.d x4,.d x5,.d x6,.m q,.d x8,.d x9,.d x10,.d x11,.n acc.length,.n acc.length,.r (acc.map rI),.d x15,.d x16,.d x17,.d x18,.d x19,.d x20])
  (fun acc=>some (0,[.d x3,.d x4,.d x5,.d x6,.m q,.d x8,.d x9,.d x10,.d x11,.n acc.length,.n acc.length,.r (acc.map rI),.d x15,.d x16,.d x17,.d x18,.d x19,.d x20])) 1000 ?_ ?_ acc hu ha
 ·intro acc k;simp [qjw]
 ·intro i c acc k hi hlt hw hu hl
  have hi':((some L).getD [])[i]?=some c:=hi
  have hput:=q1A n acc c (by omega) hu
  simp only [qjw,q02,q06,q0Q,q0P,q0G,q0Z,q0A,q00,hlt,decide_true,if_true,q76 hi',rI,q0b,q0B,q0K,List.length_map,q1n,q08]
  simp only [hput,q01,q02,q1f,q04,q0s,hw,List.length_map,q0R,q0S]
def qeb (d who:Int) (kin:D) (no yes:Bool) (acc:List Int) (q:Mr):List Yr:=[.r (acc.map rI),.n acc.length,.n acc.length,.d (bl no),.d (bl yes),.d kin,.d (il d),.m q,.d kin,.d (il d),.d kin,.d (il who)]
def qec (d who:Int) (kin:D) (no yes:Bool) (m:Nat) (acc:List Int) (q:Mr):List Yr:=.d (il d)::.d (il ((m:Int) - 1))::qeb d who kin no yes acc q
def tz82 (d who:Int) (kin:D) (no yes:Bool) (q:Mr):List Yr:=[.d (bl no),.d (bl yes),.d kin,.d (il d),.m q,.d kin,.d (il d),.d kin,.d (il who)]
def qjM (d who:Int) (kin:D) (no yes:Bool) (m:Nat) (q:Mr):List Yr:=.d (il d)::.d (il ((m:Int) - 1))::tz82 d who kin no yes q
theorem rd82_5 (n:Nat) (a b c:Option (List E9)) (o:Option (List E5)) (d who:Int) (no yes:Bool) (m:Nat) (e:E9) (he:(a.getD [])[m]?=some e) (hb0:¬ e.b=0) (hw:IntKind.i64.wrap (((m:Nat):Int) - 1)=((m:Nat):Int) - 1)
  (_:q07 d (b.getD []) e.b≠[]) (hlen:(q07 d (b.getD []) e.b).length≤1000000)
  (hcall:∀ q:Mr,q2H d (b.getD []) q→∃ q':Mr,q2H d (b.getD []) q'∧FN (n+4) 1000161 [q0e a b c o,il d,.mp false q.1 q.2,il e.b,q0e a b c o,il d]=some (0,[.d (dI (some (q07 d (b.getD []) e.b))),.d (q0e a b c o),.d (il d),.d (.mp false q'.1 q'.2)]))
  (acc:List Int) (q:Mr) (hu:Up acc) (ha:acc.length≤900) (hq:q2H d (b.getD []) q) (k:Nat→List Yr→Out):∃ q':Mr,q2H d (b.getD []) q'∧qaV (RP (n+4)) k (qec d who (q0e a b c o) no yes (m+1) acc q) =
   if e.a=who∧q1J e.f1 e.t2 d=true then (if q1h e.f2 e.t1 d=true then some (2,qeb d who (q0e a b c o) no yes (q0I (q07 d (b.getD [])) yes no (some e.b) acc) q') else k 1 (qec d who (q0e a b c o) no yes m (q0I (q07 d (b.getD [])) yes no (some e.b) acc) q')) else k 1 (qec d who (q0e a b c o) no yes m acc q'):=by
 have hm:(((m+1:Nat):Int) - 1)=((m:Nat):Int):=by omega
 have h157:=qjP (n+3) a b c o m e who he
 have hput:=q1A n acc 0 (by omega) hu
 simp only [qec,qeb,hm,qaV,q02,q06,q0Q,q0P,q0G,q0Z,q0S,q0R,q04,q23,q00]
 rw [if_pos (by simp)]
 simp only [q08,h157,q01,q02,q06,q0z,q00,q1p,hw]
 by_cases h1:e.a=who
 ·rw [if_neg (by simp [h1])]
  simp only [q9X,q01,q02,q0z,q00]
  by_cases h2:q1J e.f1 e.t2 d=true
  ·rw [if_neg (by simp [h2])]
   simp only [if_pos (⟨h1,h2⟩:e.a=who∧q1J e.f1 e.t2 d=true)]
   simp only [q1a,hb0,decide_false,q00,Bool.false_eq_true,if_false]
   cases no with
   | false =>
    have hfs:q0I (q07 d (b.getD [])) yes false (some e.b) acc=if yes=true then q0u acc (q07 d (b.getD []) e.b) else acc:=by cases yes<;>simp [q0I,f0,hb0]
    simp only [Bool.false_eq_true,if_false,q01,q02,q06,q0Q,q0P,q0G,q0Z,q0S,q0R,q1a,hb0,decide_false,q00,q0c]
    cases yes with
    | false =>
     refine ⟨q,hq,?_⟩
     simp only [q0z,Bool.not_false,q00,if_true,q4C,q01,q02,hfs]
     rfl
    | true =>
     obtain ⟨q',hq',hc⟩:=hcall q hq
     refine ⟨q',hq',?_⟩
     simp only [q0z,Bool.not_true,q00,Bool.false_eq_true,if_false,q1H,hc,q01,q02,q06,q1I,q6o,Option.getD_some,q0r]
     rw [qk4 n _ hlen _ _ _ _ _ _ _ _ _ _ _ _ _ _ _ acc hu (by omega)]
     simp only [q01,q4C,q02,q06,q0Q,q0P,q0G,q0S,q0R,q00,hfs]
     rfl
   | true =>
    have hu0:=q5h 0 hu
    have hl0:=q5C 0 acc
    have hfs:q0I (q07 d (b.getD [])) yes true (some e.b) acc=if yes=true then q0u (ins 0 acc) (q07 d (b.getD []) e.b) else ins 0 acc:=by cases yes<;>simp [q0I,f0,hb0]
    simp only [if_true,q0B,List.length_map,q0K,q1n,hput,q1f,q01,q02,q06,q0Q,q0P,q0G,q0Z,q0S,q0R,q1a,hb0,decide_false,q00,Bool.false_eq_true,if_false,q0c]
    cases yes with
    | false =>
     refine ⟨q,hq,?_⟩
     simp only [q0z,Bool.not_false,q00,if_true,q4C,q01,q02,hfs]
     rfl
    | true =>
     obtain ⟨q',hq',hc⟩:=hcall q hq
     refine ⟨q',hq',?_⟩
     simp only [q0z,Bool.not_true,q00,Bool.false_eq_true,if_false,q1H,hc,q01,q02,q06,q1I,q6o,Option.getD_some,q0r]
     rw [qk4 n _ hlen _ _ _ _ _ _ _ _ _ _ _ _ _ _ _ (ins 0 acc) hu0 (by omega)]
     simp only [q01,q4C,q02,q06,q0Q,q0P,q0G,q0S,q0R,q00,hfs]
     rfl
  ·rw [if_pos (by simp [h2])]
   simp only [if_neg (fun h=>h2 h.2:¬ (e.a=who∧q1J e.f1 e.t2 d=true))]
   exact ⟨q,hq,rfl⟩
 ·rw [if_pos (by simp [h1])]
  simp only [if_neg (fun h=>h1 h.1:¬ (e.a=who∧q1J e.f1 e.t2 d=true))]
  exact ⟨q,hq,rfl⟩
theorem rd82_7 (n:Nat) (a b c:Option (List E9)) (o:Option (List E5)) (d who:Int) (no yes:Bool) (m:Nat) (e:E9) (he:(a.getD [])[m]?=some e) (hb0:¬ e.b=0) (hw:IntKind.i64.wrap (((m:Nat):Int) - 1)=((m:Nat):Int) - 1)
  (_:q07 d (b.getD []) e.b≠[]) (hlen:(q07 d (b.getD []) e.b).length≤1000000)
  (hcall:∀ q:Mr,q2H d (b.getD []) q→∃ q':Mr,q2H d (b.getD []) q'∧FN (n+4) 1000161 [q0e a b c o,il d,.mp false q.1 q.2,il e.b,q0e a b c o,il d]=some (0,[.d (dI (some (q07 d (b.getD []) e.b))),.d (q0e a b c o),.d (il d),.d (.mp false q'.1 q'.2)]))
  (acc:List Int) (q:Mr) (hu:Up acc) (ha:acc.length≤900) (hq:q2H d (b.getD []) q) (k:Nat→List Yr→Out):∃ q':Mr,q2H d (b.getD []) q'∧qaU (RP (n+4)) k (qec d who (q0e a b c o) no yes (m+1) acc q) =
   if e.a=who∧q1J e.f1 e.t2 d=true then (if q1h e.f2 e.t1 d=true then some (4,qeb d who (q0e a b c o) no yes (q0I (q07 d (b.getD [])) yes no (some e.b) acc) q') else k 2 (qec d who (q0e a b c o) no yes m (q0I (q07 d (b.getD [])) yes no (some e.b) acc) q')) else k 2 (qec d who (q0e a b c o) no yes m acc q'):=by
 have hm:(((m+1:Nat):Int) - 1)=((m:Nat):Int):=by omega
 have h157:=qjP (n+3) a b c o m e who he
 have hput:=q1A n acc 0 (by omega) hu
 simp only [qec,qeb,hm,qaU,q02,q06,q0Q,q0P,q0G,q0Z,q0S,q0R,q04,q23,q00]
 rw [if_pos (by simp)]
 simp only [q08,h157,q01,q02,q06,q0z,q00,q1p,hw]
 by_cases h1:e.a=who
 ·rw [if_neg (by simp [h1])]
  simp only [q9X,q01,q02,q0z,q00]
  by_cases h2:q1J e.f1 e.t2 d=true
  ·rw [if_neg (by simp [h2])]
   simp only [if_pos (⟨h1,h2⟩:e.a=who∧q1J e.f1 e.t2 d=true)]
   simp only [q1a,hb0,decide_false,q00,Bool.false_eq_true,if_false]
   cases no with
   | false =>
    have hfs:q0I (q07 d (b.getD [])) yes false (some e.b) acc=if yes=true then q0u acc (q07 d (b.getD []) e.b) else acc:=by cases yes<;>simp [q0I,f0,hb0]
    simp only [Bool.false_eq_true,if_false,q01,q02,q06,q0Q,q0P,q0G,q0Z,q0S,q0R,q1a,hb0,decide_false,q00,q0c]
    cases yes with
    | false =>
     refine ⟨q,hq,?_⟩
     simp only [q0z,Bool.not_false,q00,if_true,q4C,q01,q02,hfs]
     rfl
    | true =>
     obtain ⟨q',hq',hc⟩:=hcall q hq
     refine ⟨q',hq',?_⟩
     simp only [q0z,Bool.not_true,q00,Bool.false_eq_true,if_false,q1H,hc,q01,q02,q06,q1I,q6o,Option.getD_some,q0r]
     rw [qk3 n _ hlen _ _ _ _ _ _ _ _ _ _ _ _ _ _ _ acc hu (by omega)]
     simp only [q01,q4C,q02,q06,q0Q,q0P,q0G,q0Z,q0S,q0R,q00,hfs]
     rfl
   | true =>
    have hu0:=q5h 0 hu
    have hl0:=q5C 0 acc
    have hfs:q0I (q07 d (b.getD [])) yes true (some e.b) acc=if yes=true then q0u (ins 0 acc) (q07 d (b.getD []) e.b) else ins 0 acc:=by cases yes<;>simp [q0I,f0,hb0]
    simp only [if_true,q0B,List.length_map,q0K,q1n,hput,q1f,q01,q02,q06,q0Q,q0P,q0G,q0Z,q0S,q0R,q1a,hb0,decide_false,q00,Bool.false_eq_true,if_false,q0c]
    cases yes with
    | false =>
     refine ⟨q,hq,?_⟩
     simp only [q0z,Bool.not_false,q00,if_true,q4C,q01,q02,hfs]
     rfl
    | true =>
     obtain ⟨q',hq',hc⟩:=hcall q hq
     refine ⟨q',hq',?_⟩
     simp only [q0z,Bool.not_true,q00,Bool.false_eq_true,if_false,q1H,hc,q01,q02,q06,q1I,q6o,Option.getD_some,q0r]
     rw [qk3 n _ hlen _ _ _ _ _ _ _ _ _ _ _ _ _ _ _ (ins 0 acc) hu0 (by omega)]
     simp only [q01,q4C,q02,q06,q0Q,q0P,q0G,q0Z,q0S,q0R,q00,hfs]
     rfl
  ·rw [if_pos (by simp [h2])]
   simp only [if_neg (fun h=>h2 h.2:¬ (e.a=who∧q1J e.f1 e.t2 d=true))]
   exact ⟨q,hq,rfl⟩
 ·rw [if_pos (by simp [h1])]
  simp only [if_neg (fun h=>h1 h.1:¬ (e.a=who∧q1J e.f1 e.t2 d=true))]
  exact ⟨q,hq,rfl⟩
theorem rd82_3 (n:Nat) (a b c:Option (List E9)) (o:Option (List E5)) (d who:Int) (no yes:Bool) (m:Nat) (e:E9) (he:(a.getD [])[m]?=some e) (hb0:¬ e.b=0) (hw:IntKind.i64.wrap (((m:Nat):Int) - 1)=((m:Nat):Int) - 1)
  (hne:q07 d (b.getD []) e.b≠[]) (hlen:(q07 d (b.getD []) e.b).length≤1000000)
  (hcall:∀ q:Mr,q2H d (b.getD []) q→∃ q':Mr,q2H d (b.getD []) q'∧FN (n+4) 1000161 [q0e a b c o,il d,.mp false q.1 q.2,il e.b,q0e a b c o,il d]=some (0,[.d (dI (some (q07 d (b.getD []) e.b))),.d (q0e a b c o),.d (il d),.d (.mp false q'.1 q'.2)]))
  (hyn:yes=false→no=true) (q:Mr) (hq:q2H d (b.getD []) q) (k:Nat→List Yr→Out):∃ q':Mr,q2H d (b.getD []) q'∧qaW (RP (n+4)) k (qjM d who (q0e a b c o) no yes (m+1) q) =
   if e.a=who∧q1J e.f1 e.t2 d=true then (if q1h e.f2 e.t1 d=true then some (if no=true then 2 else 4,qeb d who (q0e a b c o) no yes (q0I (q07 d (b.getD [])) yes no (some e.b) []) q') else k (if no=true then 1 else 2) (qec d who (q0e a b c o) no yes m (q0I (q07 d (b.getD [])) yes no (some e.b) []) q')) else k 0 (qjM d who (q0e a b c o) no yes m q'):=by
 have hm:(((m+1:Nat):Int) - 1)=((m:Nat):Int):=by omega
 have h157:=qjP (n+3) a b c o m e who he
 simp only [qjM,tz82,hm,qaW,q02,q06,q0S,q0R,q04,q23,q00]
 rw [if_pos (by simp)]
 simp only [q08,h157,q01,q02,q06,q0z,q00,q1p,hw]
 by_cases h1:e.a=who
 ·rw [if_neg (by simp [h1])]
  simp only [q9X,q01,q02,q0z,q00]
  by_cases h2:q1J e.f1 e.t2 d=true
  ·rw [if_neg (by simp [h2])]
   simp only [if_pos (⟨h1,h2⟩:e.a=who∧q1J e.f1 e.t2 d=true)]
   simp only [q1a,hb0,decide_false,q00,Bool.false_eq_true,if_false]
   cases no with
   | false =>
    cases yes with
    | false=>exact absurd (hyn rfl) (by simp)
    | true =>
     have hfs:q0I (q07 d (b.getD [])) true false (some e.b) []=q0u [] (q07 d (b.getD []) e.b):=by simp [q0I,f0,hb0]
     obtain ⟨q',hq',hc⟩:=hcall q hq
     refine ⟨q',hq',?_⟩
     simp only [Bool.false_eq_true,if_false,q01,q02,q06,q0S,q0R,q1a,hb0,decide_false,q00,q0c,q0z,Bool.not_true,q1H,hc,q1I,q6o,Option.getD_some,q0r]
     rw [ql2 n _ hlen hne]
     simp only [q2N,q01,q4C,q02,q06,q0Q,q0P,q0G,q0S,q0R,q00,hfs]
     rfl
   | true =>
    have hfs:q0I (q07 d (b.getD [])) yes true (some e.b) []=if yes=true then q0u [0] (q07 d (b.getD []) e.b) else [0]:=by cases yes<;>simp [q0I,f0,hb0,ins]
    simp only [if_true,q2h,qiI,q01,q02,q06,q00,Bool.false_eq_true,if_false]
    rw [put0]
    simp only [q1o,q0C,q0B,q0J,List.length_cons,List.length_nil,List.take_succ_cons,List.take_zero,q0c,q2N,q01,q02,q06,q0Q,q0P,q0G,q0S,q0R,q1a,hb0,decide_false,q00,Bool.false_eq_true,if_false]
    cases yes with
    | false =>
     refine ⟨q,hq,?_⟩
     simp only [q0z,Bool.not_false,q00,if_true,q4C,q01,q02,hfs]
     rfl
    | true =>
     obtain ⟨q',hq',hc⟩:=hcall q hq
     refine ⟨q',hq',?_⟩
     simp only [q0z,Bool.not_true,q00,Bool.false_eq_true,if_false,q1H,hc,q01,q02,q06,q1I,q6o,Option.getD_some,q0r]
     rw [show ([0].map rI)=[0].map rI from rfl,show (0+1:Nat)=[(0:Int)].length from rfl,li82_2 n _ hlen _ _ _ _ _ _ _ _ _ _ _ _ _ _ _ [0] (by simp) (by simp)]
     simp only [q01,q4C,q02,q06,q0Q,q0P,q0G,q0S,q0R,q00,hfs]
     rfl
  ·rw [if_pos (by simp [h2])]
   simp only [if_neg (fun h=>h2 h.2:¬ (e.a=who∧q1J e.f1 e.t2 d=true))]
   exact ⟨q,hq,rfl⟩
 ·rw [if_pos (by simp [h1])]
  simp only [if_neg (fun h=>h1 h.1:¬ (e.a=who∧q1J e.f1 e.t2 d=true))]
  exact ⟨q,hq,rfl⟩
end
section
theorem q6m {acc:List Int} (hu:Up acc) (h:∀ z∈acc,0≤z∧z≤99):acc.length≤100:=by
 have:=qcw acc 0 99 hu h
 omega
def en82 (d who:Int) (kin:D) (no yes:Bool) (s:Nat×Bool×List Int×Mr):Nat×List Yr:=match s.2.2.1 with
 | []=>(0,qjM d who kin no yes s.1 s.2.2.2)
 | y::r=>(if s.2.1=true then 1 else 2,qec d who kin no yes s.1 (y::r) s.2.2.2)
theorem qdq (d who:Int) (kin:D) (no yes:Bool) (m:Nat) (j:Bool) (q:Mr):en82 d who kin no yes (m,j,[],q)=(0,qjM d who kin no yes m q):=rfl
theorem q8a (d who:Int) (kin:D) (no yes:Bool) (m:Nat) (j:Bool) {acc:List Int} (q:Mr) (h:acc≠[]):en82 d who kin no yes (m,j,acc,q)=(if j=true then 1 else 2,qec d who kin no yes m acc q):=by
 cases acc with
 | nil=>exact absurd rfl h
 | cons _ _=>rfl
def Q82 (d who:Int) (kin:D) (no yes:Bool) (T:List Int) (r:Out):Prop:=∃ (acc:List Int) (q:Mr),Up acc∧acc.length≤900 ∧
 ((acc≠[]∧∃ j:Nat,(((j=2∨j=4)∧acc=T)∨((j=3∨j=5)∧ins 0 acc=T))∧r=some (j,qeb d who kin no yes acc q))∨(r=some (0,tz82 d who kin no yes q)∧acc=[]∧ins 0 []=T))
theorem qeE {L:Int→List Int} {yes no:Bool} (hyn:yes=false→no=true) {w:Int} (hw:¬ w=0) (hL:L w≠[]) (acc:List Int):q0I L yes no (some w) acc≠[]:=by
 unfold q0I
 have:¬ f0 (some w)=0:=hw
 cases yes with
 | false=>have:=hyn rfl;subst this;simp;exact qdd _ _
 | true=>simp only [this,false_or,Bool.true_eq_false,if_false];exact q4M _ hL
theorem l82 (n:Nat) (a b c:Option (List E9)) (o:Option (List E5)) (d who:Int) (no yes:Bool) (hyn:yes=false→no=true) (ha:qcl (a.getD [])) (hla:(a.getD []).length≤1000000) (hb:q5a (b.getD []))
  (hrec:∀ (w:Int) (q:Mr),1≤w→w≤99→q2H d (b.getD []) q→∃ q':Mr,q2H d (b.getD []) q'∧FN (n+4) 1000161 [q0e a b c o,il d,.mp false q.1 q.2,il w,q0e a b c o,il d]=some (0,[.d (dI (some (q07 d (b.getD []) w))),.d (q0e a b c o),.d (il d),.d (.mp false q'.1 q'.2)])) :
  Q82 d who (q0e a b c o) no yes (qbN (q07 d (b.getD [])) yes no (q0O d who (below (a.getD []) (a.getD []).length)) []) (q0o [qaW (RP (n+4)),qaV (RP (n+4)),qaU (RP (n+4))] M0 0 (qjM d who (q0e a b c o) no yes (a.getD []).length ([],[]))):=by
 generalize hT:qbN (q07 d (b.getD [])) yes no (q0O d who (below (a.getD []) (a.getD []).length)) []=T
 refine q4K (σ:=Nat×Bool×List Int×Mr) [qaW (RP (n+4)),qaV (RP (n+4)),qaU (RP (n+4))] (en82 d who (q0e a b c o) no yes) (fun s=>s.1)
  (fun s=>s.1≤(a.getD []).length∧Up s.2.2.1∧(∀ z∈s.2.2.1,0≤z∧z≤99)∧q2H d (b.getD []) s.2.2.2∧qbN (q07 d (b.getD [])) yes no (q0O d who (below (a.getD []) s.1)) s.2.2.1=T)
  (Q82 d who (q0e a b c o) no yes T) ?_ M0 ((a.getD []).length,true,[],([],[])) ⟨Nat.le_refl _,by simp,by simp,q64 _ _,hT⟩ (by unfold M0;simp only;omega)
 clear hT
 rintro ⟨m,j,acc,q⟩ k ⟨g1,g2,g3,g4,g5⟩ ih
 simp only at g1 g2 g3 g4 g5 ih
 have gl:=q6m g2 g3
 cases m with
 | zero =>
  rw [q6P] at g5
  have g6:ins 0 acc=T:=by rw [←g5];simp [q0O,qbN,q0I,f0]
  cases acc with
  | nil =>
   refine ⟨qaW (RP (n+4)),rfl,[],q,g2,by simp,.inr ⟨?_,rfl,g6⟩⟩
   simp [qdq,qjM,tz82,qaW]
  | cons y r =>
   cases j with
   | true =>
    refine ⟨qaV (RP (n+4)),rfl,y::r,q,g2,by omega,.inl ⟨by simp,3,.inr ⟨.inl rfl,g6⟩,?_⟩⟩
    simp [en82,qec,qeb,qaV]
   | false =>
    refine ⟨qaU (RP (n+4)),rfl,y::r,q,g2,by omega,.inl ⟨by simp,5,.inr ⟨.inr rfl,g6⟩,?_⟩⟩
    simp [en82,qec,qeb,qaU]
 | succ m =>
  obtain ⟨e,he⟩:∃ e,(a.getD [])[m]?=some e:=⟨_,List.getElem?_eq_getElem (by omega)⟩
  rw [q59 he,q0O] at g5
  have hw:IntKind.i64.wrap (((m:Nat):Int) - 1)=((m:Nat):Int) - 1:=q0m (by omega) (by omega)
  have hbe:=ha e (List.mem_of_getElem? he)
  have hb0:¬ e.b=0:=by omega
  have hne:q07 d (b.getD []) e.b≠[]:=fun h=>by
   obtain ⟨z,hz⟩:=q3h hb (d:=d) _ e.b (Nat.le_refl _) hbe.1
   rw [h] at hz;simp at hz
  have hlen:=q6A (d:=d) hb hbe.1
  have hcall:=fun q hq=>hrec e.b q hbe.1 hbe.2 hq
  have hfne:=qeE (L:=q07 d (b.getD [])) hyn hb0 hne acc
  have hfu:=q8I (q07 d (b.getD [])) yes no (some e.b) g2
  have hfr:∀ z∈q0I (q07 d (b.getD [])) yes no (some e.b) acc,0≤z∧z≤99:=fun z hz=>by
   rcases (q7P _ _ _ _ _ _).1 hz with h | ⟨rfl,_⟩ | ⟨_,_,h⟩
   ·exact g3 z h
   ·omega
   ·have:=q1d hb _ e.b z (Nat.le_refl _) hbe.1 h;omega
  have hfl:=q6m hfu hfr
  cases acc with
  | nil =>
   obtain ⟨q',hq',hr⟩:=rd82_3 n a b c o d who no yes m e he hb0 hw hne (by omega) hcall hyn q g4 k
   refine ⟨qaW (RP (n+4)),rfl,?_⟩
   rw [qdq]
   simp only
   rw [hr]
   by_cases hc:e.a=who∧q1J e.f1 e.t2 d=true
   ·rw [if_pos hc] at g5 ⊢
    rw [qbN] at g5
    by_cases h3:q1h e.f2 e.t1 d=true
    ·rw [if_pos h3] at g5 ⊢
     refine ⟨q0I (q07 d (b.getD [])) yes no (some e.b) [],q',hfu,by omega,.inl ⟨hfne,_,.inl ⟨?_,g5⟩,rfl⟩⟩
     cases no<;>simp
    ·rw [if_neg h3] at g5 ⊢
     have:=ih (m,no,q0I (q07 d (b.getD [])) yes no (some e.b) [],q') ⟨by simp only;omega,hfu,hfr,hq',g5⟩ (by simp only;omega)
     rw [q8a _ _ _ _ _ _ _ _ hfne] at this
     exact this
   ·rw [if_neg hc] at g5 ⊢
    exact ih (m,true,[],q') ⟨by simp only;omega,g2,g3,hq',g5⟩ (by simp only;omega)
  | cons y r =>
   cases j with
   | true =>
    obtain ⟨q',hq',hr⟩:=rd82_5 n a b c o d who no yes m e he hb0 hw hne (by omega) hcall (y::r) q g2 (by omega) g4 k
    refine ⟨qaV (RP (n+4)),rfl,?_⟩
    rw [q8a _ _ _ _ _ _ _ _ (by simp)]
    simp only
    rw [hr]
    by_cases hc:e.a=who∧q1J e.f1 e.t2 d=true
    ·rw [if_pos hc] at g5 ⊢
     rw [qbN] at g5
     by_cases h3:q1h e.f2 e.t1 d=true
     ·rw [if_pos h3] at g5 ⊢
      exact ⟨q0I (q07 d (b.getD [])) yes no (some e.b) (y::r),q',hfu,by omega,.inl ⟨hfne,_,.inl ⟨.inl rfl,g5⟩,rfl⟩⟩
     ·rw [if_neg h3] at g5 ⊢
      have:=ih (m,true,q0I (q07 d (b.getD [])) yes no (some e.b) (y::r),q') ⟨by simp only;omega,hfu,hfr,hq',g5⟩ (by simp only;omega)
      rw [q8a _ _ _ _ _ _ _ _ hfne] at this
      exact this
    ·rw [if_neg hc] at g5 ⊢
     exact ih (m,true,y::r,q') ⟨by simp only;omega,g2,g3,hq',g5⟩ (by simp only;omega)
   | false =>
    obtain ⟨q',hq',hr⟩:=rd82_7 n a b c o d who no yes m e he hb0 hw hne (by omega) hcall (y::r) q g2 (by omega) g4 k
    refine ⟨qaU (RP (n+4)),rfl,?_⟩
    rw [q8a _ _ _ _ _ _ _ _ (by simp)]
    simp only
    rw [hr]
    by_cases hc:e.a=who∧q1J e.f1 e.t2 d=true
    ·rw [if_pos hc] at g5 ⊢
     rw [qbN] at g5
     by_cases h3:q1h e.f2 e.t1 d=true
     ·rw [if_pos h3] at g5 ⊢
      exact ⟨q0I (q07 d (b.getD [])) yes no (some e.b) (y::r),q',hfu,by omega,.inl ⟨hfne,_,.inl ⟨.inr rfl,g5⟩,rfl⟩⟩
     ·rw [if_neg h3] at g5 ⊢
      have:=ih (m,false,q0I (q07 d (b.getD [])) yes no (some e.b) (y::r),q') ⟨by simp only;omega,hfu,hfr,hq',g5⟩ (by simp only;omega)
      rw [q8a _ _ _ _ _ _ _ _ hfne] at this
      exact this
    ·rw [if_neg hc] at g5 ⊢
     exact ih (m,false,y::r,q') ⟨by simp only;omega,g2,g3,hq',g5⟩ (by simp only;omega)
theorem s82 (n:Nat) (a b c:Option (List E9)) (o:Option (List E5)) (d who:Int) (hd:0≤d∧d≤4166) (ha:qcl (a.getD [])) (hb:q5a (b.getD [])) (hla:(a.getD []).length≤1000000) (hlb:(b.getD []).length≤1000000) (hlc:(c.getD []).length≤1000000) (hlo:(o.getD []).length≤1000000) :
  FN (n+105) 82 [d9 a,d9 b,d9 c,d5 o,il who,il d]=some (0,[.d (dI (some (q2n (a.getD []) (b.getD []) (c.getD []) (o.getD []) d who)))]):=by
 rw [FS,G82_eq]
 have hloop:=l82 (n+100) a b c o d who (goP (a.getD []) (c.getD []) (o.getD []) d who).2 (goP (a.getD []) (c.getD []) (o.getD []) d who).1 (qke _ _ _ _ _) ha hla hb
  (fun w q hw1 hw2 hq=>s161 a b c o d hb hlb 99 n w q hw1 (by omega) hw2 hq)
 rw [show n+100+4=n+104 from rfl] at hloop
 have hp:∀ k:List D→Out,(RP (n+104)).ptrW 4 (.dp [d9 a,d9 b,d9 c,d5 o] 0) k=k [d9 a,d9 b,d9 c,d5 o]:=fun k=>q1e _ 4 k rfl
 have w2:IntKind.i64.wrap (((a.getD []).length:Int) - 1)=((a.getD []).length:Int) - 1:=q0m (by omega) (by omega)
 simp only [G82,q08,s163 (n+97) a b c o d who hd hla hlc hlo,q01,q02,q06,q5t,q1R,hp,q0b,q5A,q04,q1p,w2,q0r,qek]
 simp only [qjM,tz82,q0e] at hloop
 rw [show q2n (a.getD []) (b.getD []) (c.getD []) (o.getD []) d who=qbN (q07 d (b.getD [])) (goP (a.getD []) (c.getD []) (o.getD []) d who).1 (goP (a.getD []) (c.getD []) (o.getD []) d who).2 (q0O d who (below (a.getD []) (a.getD []).length)) [] from rfl]
 generalize qbN (q07 d (b.getD [])) (goP (a.getD []) (c.getD []) (o.getD []) d who).1 (goP (a.getD []) (c.getD []) (o.getD []) d who).2 (q0O d who (below (a.getD []) (a.getD []).length)) []=T at hloop ⊢
 obtain ⟨acc,q,hu,hl,⟨hne,j,hj,hr⟩ | ⟨hr,_,hT⟩⟩:=hloop
 ·rw [hr]
  have hput:=q1A (n+100) acc 0 (by omega) hu
  rw [show n+100+4=n+104 from rfl] at hput
  rcases hj with ⟨rfl | rfl,rfl⟩ | ⟨rfl | rfl,rfl⟩
  ·simp [qeb,q8c]
  ·simp [qeb,q8c]
  ·simp [qeb,hput,q8c]
  ·simp [qeb,hput,q8c]
 ·rw [hr,← hT]
  simp only [tz82,q01,q1a,decide_true,q00,if_true,q2h,qiI,q02,q06,Bool.false_eq_true,if_false]
  rw [put0]
  simp [dI,dSl,ins,rI]
end
section
attribute [local simp] q1I q1H
theorem q5z {a b c:List E9} {o:List E5} (h:q0H a b c o=true):(∀ e∈a,q2w e)∧(∀ e∈b,q2x e)∧(∀ e∈c,q2y e)∧(∀ e∈o,q4x e):=by
 unfold q0H at h
 simp only [Bool.and_eq_true] at h
 obtain ⟨⟨⟨⟨_,h1⟩,h2⟩,h3⟩,h4⟩:=h
 exact ⟨fun e he=>of_decide_eq_true (q7K h1 e he),fun e he=>of_decide_eq_true (q7K h2 e he),fun e he=>of_decide_eq_true (q7K h3 e he),fun e he=>of_decide_eq_true (q7K h4 e he)⟩
theorem q4i {k:Int} {l:List E9} {e:E9} (h:e∈q0w k l):e∈l:=(List.mem_filter.1 h).1
structure GoodK (a b c:List E9) (o:List E5):Prop where
 fam:qcl a
 less:q5a b
 by0:By0 c
 la:a.length≤60
 lb:b.length≤60
 lc:c.length≤60
 lo:o.length≤60
theorem q4O {a b c:List E9} {o:List E5} (h:q0H a b c o=true):GoodK a b c o:=by
 obtain ⟨p1,p2,p3,_⟩:=q5z h
 obtain ⟨l1,l2,l3,l4⟩:=q4I h
 exact ⟨fun e he=>(p1 e he).2.2.1,fun e he=>⟨(p2 e he).2.2.1.1,by have:=(p2 e he).2.2.1.2;omega,(p2 e he).2.1.2⟩,fun e he=>(p3 e he).2.2.1.1,l1,l2,l3,l4⟩
theorem q2M (k:Int) (l:List E9):(q0w k l).length≤l.length:=List.length_filter_le _ _
theorem qiP (k:Int) (l:List E5):(q5O k l).length≤l.length:=List.length_filter_le _ _
theorem GoodK.cnt {a b c:List E9} {o:List E5} (h:GoodK a b c o) (k:Int):GoodK (q0w k a) (q0w k b) (q0w k c) (q5O k o) :=
 ⟨fun e he=>h.fam e (q4i he),fun e he=>h.less e (q4i he),fun e he=>h.by0 e (q4i he),Nat.le_trans (q2M ..) h.la,Nat.le_trans (q2M ..) h.lb,Nat.le_trans (q2M ..) h.lc,Nat.le_trans (qiP ..) h.lo⟩
theorem s199 (n:Nat) (o:Option (List Int)) (x:Int) (hl:(o.getD []).length≤4611686018427387904):FN (n+1) 199 [dI o,il x]=some (0,[.d (il (q73 (fun y=>decide (x=y)) (o.getD [])))]):=by
 rw [FS,qma]
 simp only [G199,q6o,q04,q0r]
 have:=q0T (β:=Unit) (o.getD []) hl (qdG (RP n)) (fun i _=>[.d (dI o),.d (il x),.d (il (o.getD []).length),.d (il i)]) (fun _ _=>True)
  (fun i r _=>match fnd (fun y=>decide (x=y)) r with
   | some j=>some (0,[.d (il ((i+j:Nat):Int))])
   | none=>some (1,[]))
  (fun _ k _=>by simp [qdG,fnd]) ?_ M0 () trivial (q2A hl)
 ·simp only [Int.natCast_zero,Nat.zero_add] at this
  rw [this]
  unfold q73
  cases fnd (fun y=>decide (x=y)) (o.getD [])<;>simp
 ·intro i e r _ k hi hd hlt hw _ ih
  have ih':=ih () trivial
  have hlt':(i:Int) < ((o.getD []).length:Int):=by omega
  simp only [qdG,q02,q06,q0A,q00,hlt',decide_true,if_true,q76 hi,rI,q0b,q1a,q04,q0s,hw,q0c,decide_eq_true_eq]
  by_cases h:x=e
  ·subst h;simp [fnd]
  ·rw [if_neg h]
   have h':fnd (fun y=>decide (x=y)) (e::r)=(fnd (fun y=>decide (x=y)) r).map (·+1):=by simp [fnd,h]
   rw [h']
   refine Eq.trans ih' ?_
   cases fnd (fun y=>decide (x=y)) r with
   | none=>rfl
   | some j=>simp [Nat.add_assoc,Nat.add_comm 1 j]
theorem s149 (n:Nat) (o:Option (List Int)) (x:Int) (hl:(o.getD []).length≤4611686018427387904):FN (n+2) 149 [dI o,il x]=some (0,[.d (bl (decide (x∈o.getD [])))]):=by
 rw [FS,qmE]
 simp only [G149,q08,s199 n o x hl,q01,q02,q04,q23,q0c,q6F]
 have:((o.getD []).any fun y=>decide (x=y))=decide (x∈o.getD []):=by
  rw [Bool.eq_iff_iff,q1N,decide_eq_true_iff]
  constructor
  ·rintro ⟨y,hy,h⟩;have:=of_decide_eq_true h;subst this;exact hy
  ·intro h;exact ⟨x,h,by simp⟩
 rw [this]
def q42 (k:Int) (a b c:Option (List E9)) (o:Option (List E5)) (d p:Int):List Int:=q2n (q0w k (a.getD [])) (q0w k (b.getD [])) (q0w k (c.getD [])) (q5O k (o.getD [])) d p
section
variable {a b c:Option (List E9)} {o:Option (List E5)}
theorem k82 (n:Nat) (d who:Int) (hd:0≤d∧d≤4166) (g:GoodK (a.getD []) (b.getD []) (c.getD []) (o.getD [])) :
  FN (n+105) 82 [d9 a,d9 b,d9 c,d5 o,il who,il d]=some (0,[.d (dI (some (q2n (a.getD []) (b.getD []) (c.getD []) (o.getD []) d who)))]) :=
 s82 n a b c o d who hd g.fam g.less (by have:=g.la;omega) (by have:=g.lb;omega) (by have:=g.lc;omega) (by have:=g.lo;omega)
theorem qg9 (d p:Int) (g:GoodK (a.getD []) (b.getD []) (c.getD []) (o.getD [])):(q2n (a.getD []) (b.getD []) (c.getD []) (o.getD []) d p).length≤100 :=
 q6m (q4c ..) fun _ hz=>q41 g.fam g.less hz
theorem k86 (n:Nat) (d who f:Int) (hd:0≤d∧d≤4166) (g:GoodK (a.getD []) (b.getD []) (c.getD []) (o.getD [])) :
  FN (n+106) 86 [d9 a,d9 b,d9 c,d5 o,il who,il f,il d]=some (0,[.d (il (q4t (q2n (a.getD []) (b.getD []) (c.getD []) (o.getD []) d who) f))]):=by
 rw [FS,G86_eq]
 have hlen:=qg9 d who g
 obtain ⟨x,r,hx,_⟩:=qbi (q4c (a.getD []) (b.getD []) (c.getD []) (o.getD []) d who) (fun z hz=>(q41 g.fam g.less hz).1) (q8Z g.fam g.less)
 simp only [G86,q08,k82 n d who hd g,q01,q02]
 rw [←forP _ f x r hx]
 have h149:=s149 (n+103) (some (q2n (a.getD []) (b.getD []) (c.getD []) (o.getD []) d who)) f (by simp only [Option.getD_some];omega)
 have hrow:∀ q:List D→Out,(RP (n+105)).rowD 1 (dI (some (q2n (a.getD []) (b.getD []) (c.getD []) (o.getD []) d who))) (il 0) q=q (rI x):=fun q=>q76 (i:=0) (by rw [hx];rfl) q
 simp only [Option.getD_some] at h149
 simp only [h149,q01,q02,q6o,Option.getD_some,q04,q2r,q00,q0D,s84,q0c,decide_eq_true_eq,hrow,rI,q0b,q0Y]
 generalize q2n (a.getD []) (b.getD []) (c.getD []) (o.getD []) d who=l at hx ⊢
 by_cases h:1 < l.length
 ·rw [if_pos (by omega)];simp [h]
 ·rw [if_neg (by omega)];simp [h]
end
theorem q3j {a b c:Option (List E9)} {o:Option (List E5)} {ps fs:Bool} {p f:Int} {ds:List Int} (k:Int) (h:q1Q (q0H (a.getD []) (b.getD []) (c.getD []) (o.getD [])) ps fs p f ds=0):GoodK ((kn9 k a).getD []) ((kn9 k b).getD []) ((kn9 k c).getD []) ((kn5 k o).getD []):=by
 rw [q0d,q0d,q0d,q1v]
 exact (q4O (q1U h)).cnt k
section
variable (n:Nat) (p f d k:Int) (a b c:Option (List E9)) (o:Option (List E5)) (ha:(a.getD []).length*72≤140737488351232) (hb:(b.getD []).length*72≤140737488351232) (hc:(c.getD []).length*72≤140737488351232) (ho:(o.getD []).length*40≤140737488351232)
include ha hb hc ho
theorem q7e (ps fs:Bool):FN (n+10) 73 [il p,il f,bl ps,bl fs,d9 a,d9 b,d9 c,d5 o,.sl 1 [[il d],[il k]]]=q4o (q1Q (q0H (a.getD []) (b.getD []) (c.getD []) (o.getD [])) ps fs p f [d,k]) (q0e (kn9 k a) (kn9 k b) (kn9 k c) (kn5 k o)):=by
 have h73:=s73 n p f ps fs a b c o [d] k (by simp) ha hb hc ho
 rw [show dI (some ([d]++[k]))=.sl 1 [[il d],[il k]] from rfl] at h73
 exact h73
theorem s14:FN (n+105) 14 [d9 a,d9 b,d9 c,d5 o,il f,il d,il k]=if q1Q (q0H (a.getD []) (b.getD []) (c.getD []) (o.getD [])) false true 0 f [d,k]=0 then some (0,[.d (dI (some (q07 d (q0w k (b.getD [])) f))),.d (il 0)]) else some (0,[.d (dI none),.d (il (q1Q (q0H (a.getD []) (b.getD []) (c.getD []) (o.getD [])) false true 0 f [d,k]))]):=by
 rw [FS,G14_eq]
 simp only [G14,q08,s79,q01,q02,q06,q0C,q1n,q7e (n+94) 0 f d k a b c o ha hb hc ho false true]
 by_cases he:q1Q (q0H (a.getD []) (b.getD []) (c.getD []) (o.getD [])) false true 0 f [d,k]=0
 ·have g:=q3j k he
  have hf:1≤f∧f≤99:=by
   unfold q1Q at he
   split at he
   ·simp at he
   ·split at he
    ·simp at he
    ·split at he
     ·simp at he
     ·rename_i h2;simpa using h2
  have hlb:=g.lb
  obtain ⟨q',_,h161⟩:=s161 (kn9 k a) (kn9 k b) (kn9 k c) (kn5 k o) d g.less (by omega) 99 n f ([],[]) hf.1 (by omega) hf.2 (q64 _ _)
  rw [if_pos he]
  simp only [q4o,he,if_true,q01,q02,q06,q04,q0Y,ne_eq,not_true_eq_false,decide_false,q00,Bool.false_eq_true,if_false,qek,q1H,h161,q1I,q0c]
  rw [q0d]
 ·rw [if_neg he]
  simp only [q4o,if_neg he,q01,q02,q06,q04,q0Y,q00]
  rw [if_pos (by simpa using he)]
  simp [dI,dSl]
theorem s16:FN (n+106) 16 [d9 a,d9 b,d9 c,d5 o,il p,il d,il k]=if q1Q (q0H (a.getD []) (b.getD []) (c.getD []) (o.getD [])) true false p 0 [d,k]=0 then some (0,[.d (dI (some (q42 k a b c o d p))),.d (il 0)]) else some (0,[.d (dI none),.d (il (q1Q (q0H (a.getD []) (b.getD []) (c.getD []) (o.getD [])) true false p 0 [d,k]))]):=by
 rw [FS,G16_eq]
 simp only [G16,q08,s72,q01,q02,q06,q0C,q1n,q7e (n+95) p 0 d k a b c o ha hb hc ho true false]
 by_cases he:q1Q (q0H (a.getD []) (b.getD []) (c.getD []) (o.getD [])) true false p 0 [d,k]=0
 ·have g:=q3j k he
  rw [if_pos he]
  have hp:∀ q:List D→Out,(RP (n+105)).ptrW 4 (q0e (kn9 k a) (kn9 k b) (kn9 k c) (kn5 k o)) q=q [d9 (kn9 k a),d9 (kn9 k b),d9 (kn9 k c),d5 (kn5 k o)]:=fun q=>q1e _ 4 q rfl
  simp only [q4o,he,if_true,q01,q02,q06,q04,q0Y,ne_eq,not_true_eq_false,decide_false,q00,Bool.false_eq_true,if_false,hp,q0b,q0j,k82 n d p (q1V he).1 g,q0c]
  rw [q0d,q0d,q0d,q1v];rfl
 ·rw [if_neg he]
  simp only [q4o,if_neg he,q01,q02,q06,q04,q0Y,q00]
  rw [if_pos (by simpa using he)]
  simp [dI,dSl]
theorem s18:FN (n+107) 18 [d9 a,d9 b,d9 c,d5 o,il p,il d,il k]=if q1Q (q0H (a.getD []) (b.getD []) (c.getD []) (o.getD [])) true false p 0 [d,k]=0 then some (0,[.d (il (q6I (q0w k (a.getD [])) (q0w k (c.getD [])) (q5O k (o.getD [])) d p)),.d (il 0)]) else some (0,[.d (il 0),.d (il (q1Q (q0H (a.getD []) (b.getD []) (c.getD []) (o.getD [])) true false p 0 [d,k]))]):=by
 rw [FS,G18_eq]
 simp only [G18,q08,s16 n p d k a b c o ha hb hc ho]
 by_cases he:q1Q (q0H (a.getD []) (b.getD []) (c.getD []) (o.getD [])) true false p 0 [d,k]=0
 ·have g:=(q4O (q1U he)).cnt k
  rw [if_pos he,if_pos he]
  have hr:∀ z∈q42 k a b c o d p,0≤z:=fun z hz=>(q41 g.fam g.less hz).1
  obtain ⟨x,r,hx,_⟩:=qbi (q4c _ _ _ _ d p) hr (q8Z g.fam g.less)
  have hlen:(q42 k a b c o d p).length≤100:=q6m (q4c ..) fun z hz=>q41 g.fam g.less hz
  have hpos:0 < (q42 k a b c o d p).length:=by rw [show q42 k a b c o d p=x::r from hx];simp
  obtain ⟨y,hy⟩:∃ y,(q42 k a b c o d p)[(q42 k a b c o d p).length - 1]?=some y:=⟨_,List.getElem?_eq_getElem (by omega)⟩
  have hgl:=qln g.fam g.less g.by0 hx hy
  have hw:IntKind.i64.wrap (((q42 k a b c o d p).length:Int) - 1)=(((q42 k a b c o d p).length - 1:Nat):Int):=by rw [q0m (by omega) (by omega)];omega
  have h0:∀ q:List D→Out,(RP (n+106)).rowD 1 (dI (some (q42 k a b c o d p))) (il 0) q=q (rI x):=fun q=>q76 (i:=0) (by rw [show q42 k a b c o d p=x::r from hx];rfl) q
  have h1:∀ q:List D→Out,(RP (n+106)).rowD 1 (dI (some (q42 k a b c o d p))) (il (((q42 k a b c o d p).length - 1:Nat):Int)) q=q (rI y):=fun q=>q76 (o:=some (q42 k a b c o d p)) hy q
  simp only [q01,q02,q06,q04,q0Y,ne_eq,not_true_eq_false,decide_false,q00,Bool.false_eq_true,if_false,q6o,Option.getD_some,q1p,hw,h0,h1,rI,q0b,q1a,s84,q0c]
  rw [←hgl]
 ·rw [if_neg he,if_neg he]
  simp only [q01,q02,q06,q04,q0Y,q00]
  rw [if_pos (by simpa using he)]
  simp
theorem s20:FN (n+107) 20 [d9 a,d9 b,d9 c,d5 o,il p,il f,il d,il k]=if q1Q (q0H (a.getD []) (b.getD []) (c.getD []) (o.getD [])) true true p f [d,k]=0 then some (0,[.d (il (q4t (q42 k a b c o d p) f)),.d (il 0)]) else some (0,[.d (il 0),.d (il (q1Q (q0H (a.getD []) (b.getD []) (c.getD []) (o.getD [])) true true p f [d,k]))]):=by
 rw [FS,G20_eq]
 simp only [G20,q08,q0D,q0C,q1n,q7e (n+96) p f d k a b c o ha hb hc ho true true]
 by_cases he:q1Q (q0H (a.getD []) (b.getD []) (c.getD []) (o.getD [])) true true p f [d,k]=0
 ·have g:=q3j k he
  rw [if_pos he]
  have hp:∀ q:List D→Out,(RP (n+106)).ptrW 4 (q0e (kn9 k a) (kn9 k b) (kn9 k c) (kn5 k o)) q=q [d9 (kn9 k a),d9 (kn9 k b),d9 (kn9 k c),d5 (kn5 k o)]:=fun q=>q1e _ 4 q rfl
  simp only [q4o,he,if_true,q01,q02,q06,q04,q0Y,ne_eq,not_true_eq_false,decide_false,q00,Bool.false_eq_true,if_false,hp,q0b,q0j,k86 n d p f (q1V he).1 g,q0c]
  rw [q0d,q0d,q0d,q1v];rfl
 ·rw [if_neg he]
  simp only [q4o,if_neg he,q01,q02,q06,q04,q0Y,q00]
  rw [if_pos (by simpa using he)]
  simp
end
end
section
theorem qjZ {l:List Int} (h:l≠[]):nzO l=some l:=by
 cases l with
 | nil=>exact absurd rfl h
 | cons _ _=>rfl
section
variable (n:Nat) (p f d k:Int) (a b c:Option (List E9)) (o:Option (List E5)) (ha:(a.getD []).length*72≤140737488351232) (hb:(b.getD []).length*72≤140737488351232) (hc:(c.getD []).length*72≤140737488351232) (ho:(o.getD []).length*40≤140737488351232)
include ha hb hc ho
end
end
section
def q2s (l:List E9):List Int:=q0u [] (l.map (·.a))
theorem qid (l:List E9):Up (q2s l):=q3O _ (by simp)
theorem qas (l:List E9) (p:Int):p∈q2s l↔∃ e∈l,e.a=p:=by
 unfold q2s;rw [q1X];simp
theorem q3X (l:List E9):(q2s l).length≤l.length:=by
 have:=q6B (l.map (·.a)) []
 simpa [q2s] using this
theorem qiD {l:List E9} (h:l≠[]):q2s l≠[]:=q4M [] (by simpa using h)
theorem s111 (n:Nat) (a:Option (List E9)) (b c o:D) (hl:(a.getD []).length≤1000000):FN (n+5) 111 [d9 a,b,c,o]=match q2s (a.getD []) with
  | []=>some (1,[.d (dI none)])
  | y::r=>some (0,[.r ((y::r).map rI)]):=by
 rw [FS,qn2]
 simp only [G111,q5A,q04,q0r]
 by_cases hne:a.getD []=[]
 ·rw [hne]
  have h0:q0o [q9e (RP (n+4)),q9d (RP (n+4))] M0 0 [.d (d9 a),.d (il (([]:List E9).length:Int)),.d (il 0)]=some (0,[]) :=
   q3g (σ:=Unit) [q9e (RP (n+4)),q9d (RP (n+4))] (fun _=>(0,[.d (d9 a),.d (il (([]:List E9).length:Int)),.d (il 0)])) (fun _=>0) (fun _=>True) (fun _=>some (0,[])) (fun s k _ _=>⟨_,rfl,by simp [q9e]⟩) M0 () trivial (by unfold M0;omega)
  rw [h0]
  rfl
 ·have hL:((a.getD []).map (·.a)).length=(a.getD []).length:=by simp
  have:=q9F ((a.getD []).map (·.a)) (by simpa using hl) (by simpa using hne) (q9e (RP (n+4))) (q9d (RP (n+4))) (fun i=>[.d (d9 a),.d (il (a.getD []).length),.d (il (i:Nat))])
   (fun i acc=>[.n acc.length,.n acc.length,.d (d9 a),.d (il (a.getD []).length),.d (il (i:Nat)),.r (acc.map rI)]) (fun acc=>some (1,[.n acc.length,.n acc.length,.r (acc.map rI)])) ?_ ?_ ?_
  ·rw [show il 0=il ((0:Nat):Int) from rfl,this]
   rw [show q0u [] ((a.getD []).map (·.a))=q2s (a.getD []) from rfl]
   have hp:=qiD hne
   cases hq:q2s (a.getD []) with
   | nil=>exact absurd hq hp
   | cons y r=>simp;exact qcB r
  ·intro acc k
   rw [hL]
   simp [q9d]
  ·intro x k hi hlt
   rw [hL] at hlt
   obtain ⟨e,he,rfl⟩:∃ e,(a.getD [])[0]?=some e∧e.a=x:=by
    rw [List.getElem?_map] at hi
    cases h0:(a.getD [])[0]? with
    | none=>rw [h0] at hi;simp at hi
    | some e=>rw [h0] at hi;exact ⟨e,rfl,by simpa using hi⟩
   have h9:=q5N (Fn:=FN (n+4)) (FnD:=q1Z Tryz.prog (cf3 tb Tryz.prog) (FN (n+4))) (m:=M0) he
   simp only [q9e,q02,q06,q0A,q00,Int.natCast_zero,hlt,decide_true,if_true]
   rw [show ((il 0):D)=il ((0:Nat):Int) from rfl,h9]
   simp only [r9,q0b,q0j,q08,q2h,qiI,q01,q02,q06,q00,Bool.false_eq_true,if_false]
   rw [put0]
   simp only [q04,q0s,q1o,q0C,q0B,q0J,List.length_cons,List.length_nil,List.take_succ_cons,List.take_zero,Int.natCast_zero]
   rw [show IntKind.i64.wrap (0+1)=((1:Nat):Int) from rfl]
  ·intro i x acc k hi hlt hw hu hal
   rw [hL] at hlt
   obtain ⟨e,he,rfl⟩:∃ e,(a.getD [])[i]?=some e∧e.a=x:=by
    rw [List.getElem?_map] at hi
    cases h0:(a.getD [])[i]? with
    | none=>rw [h0] at hi;simp at hi
    | some e=>rw [h0] at hi;exact ⟨e,rfl,by simpa using hi⟩
   have hput:=q1A n acc e.a (by omega) hu
   simp only [q9d,q02,q06,q0Q,q0P,q0G,q0Z,q0A,q00,hlt,decide_true,if_true,q5N he,r9,q0b,q0j,q0B,q0K,List.length_map,q1n,q08]
   simp only [hput,q01,q02,q1f,q04,q0s,hw,List.length_map]
theorem s90 (n:Nat) (z:Int):FN (n+1) 90 [il z]=some (0,[.d (bl (decide (z=1)))]):=by rw [FS,G90_eq];simp [G90]
theorem s91 (n:Nat) (z:Int):FN (n+1) 91 [il z]=some (0,[.d (bl (decide (z≠0)))]):=by rw [FS,G91_eq];simp only [G91,q04,q0Y,q0c]
theorem d90 (n:Nat) (z:Int):FD (n+1) (.fn 90 []) [.one] (rI z)=some (0,[.d (bl (decide (z=1)))]) :=
 q4p [.one] [.one (il z)] (by decide) rfl (by kernel_rfl) rfl (by kernel_rfl) (s90 n z)
theorem d91 (n:Nat) (z:Int):FD (n+1) (.fn 91 []) [.one] (rI z)=some (0,[.d (bl (decide (z≠0)))]) :=
 q4p [.one] [.one (il z)] (by decide) rfl (by kernel_rfl) rfl (by kernel_rfl) (s91 n z)
section
variable {a b c:Option (List E9)} {o:Option (List E5)}
theorem s169 (n:Nat) (d f p:Int) (is:D) (q:Int→Bool) (hq:∀ z,FD (n+106) is [.one] (rI z)=some (0,[.d (bl (q z))])) (hd:0≤d∧d≤4166) (g:GoodK (a.getD []) (b.getD []) (c.getD []) (o.getD [])) :
  FN (n+107) 169 [il p,is,q0e a b c o,il f,il d]=some (0,[.d (bl (!q (q4t (q2n (a.getD []) (b.getD []) (c.getD []) (o.getD []) d p) f)))]):=by
 rw [FS,qmx]
 have hp:∀ k:List D→Out,(RP (n+106)).ptrW 4 (q0e a b c o) k=k [d9 a,d9 b,d9 c,d5 o]:=fun k=>q1e _ 4 k rfl
 have hz:∀ z,q1Z Tryz.prog (cf3 tb Tryz.prog) (FN (n+106)) is [.one] [il z]=some (0,[.d (bl (q z))]):=hq
 simp only [G169,hp,q0b,q0j,q08,k86 n d p f hd g,q01,q02,q4e,hz,q0z,q0c]
theorem d169 (n:Nat) (d f p:Int) (is:D) (q:Int→Bool) (hq:∀ z,FD (n+106) is [.one] (rI z)=some (0,[.d (bl (q z))])) (hd:0≤d∧d≤4166) (g:GoodK (a.getD []) (b.getD []) (c.getD []) (o.getD [])) :
  FD (n+107) (.fn 169 [.dp [is] 0,.dp [q0e a b c o] 0,.dp [il f] 0,.dp [il d] 0]) [.one] (rI p)=some (0,[.d (bl (!q (q4t (q2n (a.getD []) (b.getD []) (c.getD []) (o.getD []) d p) f)))]) :=
 q4p [.one,.ptr 1,.ptr 1,.ptr 1,.ptr 1] [.one (il p)] (by decide) rfl (by kernel_rfl) rfl (by kernel_rfl) (s169 n d f p is q hq hd g)
end
end
section
theorem qd6 {l:List Int} {p:Int→Bool}:((nzO l).map (List.filter p)).getD []=l.filter p:=by cases l<;>rfl
theorem qnb {Fn:Nat→List D→Out} {f:Nat} (sh':List Sh) {vs:List VD} {xs:List D} {z:D} (hlt:f < 1000000) (hash:tb.ash f=some sh') (hx:q29 sh' vs=some xs)
  (hr:tb.rsk f=[[(false,[.d])]]) (hf:Fn f xs=some (0,[.d z])):FnV (cf3 tb Tryz.prog) Fn f vs=some (0,[.d z]):=by
 have h1:(cf3 tb Tryz.prog).ash f=some sh':=by simp only [cf3,if_pos hlt,hash]
 have h2:qdb ((cf3 tb Tryz.prog).rsk f)=true:=by simp only [cf3,hr];rfl
 simp only [FnV,h1,hx,h2,if_true,hf]
theorem qfP (y:Int) (r:List Int):(.sl 1 (((y::r).map rI).take ((y::r).map rI).length):D)=dI (some (y::r)):=by rw [List.take_length];rfl
section
variable {a b c:Option (List E9)} {o:Option (List E5)}
theorem l89 (n:Nat) (d f:Int) (is:D) (q:Int→Bool) (hq:∀ z,FD (n+107) is [.one] (rI z)=some (0,[.d (bl (q z))])) (hd:0≤d∧d≤4166) (g:GoodK (a.getD []) (b.getD []) (c.getD []) (o.getD []))
  (l:List Int) (hl:l.length≤4611686018427387904) (i0:Nat) (h0:i0 < l.length) (h1:(l.take (i0+1)).filter (fun p=>!(!q (q4t (q2n (a.getD []) (b.getD []) (c.getD []) (o.getD []) d p) f)))=l.take i0) :
  ∃ (i:Nat) (ks:List Int),q0o [qhd (RP (n+108))] M0 0 [.n l.length,.n l.length,.d is,.d (q0e a b c o),.d (il f),.d (il d),.d (il i0),.d (il ((i0+1:Nat):Int)),.r (l.map rI)]=some (0,[.n l.length,.n l.length,.d (il (i:Int)),.r (ks.map rI)])∧i < l.length∧ks.length=l.length∧ks.take i=l.filter (fun p=>!(!q (q4t (q2n (a.getD []) (b.getD []) (c.getD []) (o.getD []) d p) f))):=by
 refine q6e l hl (fun p=>!q (q4t (q2n (a.getD []) (b.getD []) (c.getD []) (o.getD []) d p) f)) (qhd (RP (n+108))) (fun i j ks=>[.n l.length,.n l.length,.d is,.d (q0e a b c o),.d (il f),.d (il d),.d (il (i:Nat)),.d (il (j:Nat)),.r (ks.map rI)])
  (fun i ks=>some (0,[.n l.length,.n l.length,.d (il ((i:Nat):Int)),.r (ks.map rI)])) ?_ ?_ i0 h0 h1
 ·intro i ks k hk
  simp [qhd]
 ·intro i j ks e e2 k _ hj hi hij hjl hil hks hwj hwi
  have hkr:(ks.map rI)[j]?=some (rI e):=by rw [List.getElem?_map,hj];rfl
  have hkr2:(ks.map rI)[i]?=some (rI e2):=by rw [List.getElem?_map,hi];rfl
  have h169:=s169 (n+1) d f e is q hq hd g
  simp only [qhd,q02,q06,q0Q,q0P,q0G,q0Z,q7C,q0A,q00,hjl,decide_true,if_true,q0B,List.length_map,q0K,hks]
  rw [q7D _ _ _ ⟨by omega,hjl⟩,Int.toNat_natCast,q3a 1 _ _ _ _ hkr rfl]
  simp only [rI,q0b,q08,h169,q01,q02,q0z,q00,q04,q0s,hwj,hwi]
  cases hqv:q (q4t (q2n (a.getD []) (b.getD []) (c.getD []) (o.getD []) d e) f) with
  | true =>
   simp only [Bool.not_true,Bool.not_false,if_true,Bool.false_eq_true,if_false]
   rw [q7D _ _ _ ⟨by omega,hil⟩,Int.toNat_natCast,q3a 1 _ _ _ _ hkr2 rfl]
   simp only [q3S,List.map_set,rI]
  | false =>
   simp only [Bool.not_true,Bool.not_false,if_true,Bool.false_eq_true,if_false]
theorem k89 (n:Nat) (d f:Int) (is:D) (q:Int→Bool) (hq0:∀ z,FD (n+106) is [.one] (rI z)=some (0,[.d (bl (q z))])) (hq:∀ z,FD (n+107) is [.one] (rI z)=some (0,[.d (bl (q z))])) (hd:0≤d∧d≤4166) (g:GoodK (a.getD []) (b.getD []) (c.getD []) (o.getD [])) :
  FN (n+109) 89 [d9 a,d9 b,d9 c,d5 o,il f,il d,is]=some (0,[.d (dI ((nzO (q2s (a.getD []))).map (List.filter fun p=>q (q4t (q2n (a.getD []) (b.getD []) (c.getD []) (o.getD []) d p) f))))]):=by
 rw [FS,G89_eq]
 have hla:=g.la
 have hlp:=q3X (a.getD [])
 have hp:∀ k:List D→Out,(RP (n+108)).ptrW 4 (.dp [d9 a,d9 b,d9 c,d5 o] 0) k=k [d9 a,d9 b,d9 c,d5 o]:=fun k=>q1e _ 4 k rfl
 have h111:=s111 (n+103) a (d9 b) (d9 c) (d5 o) (by omega)
 have hdk:(.dp [d9 a,d9 b,d9 c,d5 o] 0:D)=q0e a b c o:=rfl
 simp only [G89,q5t,q1R,hp,q0b,q0j,q08,h111]
 have hi:=fun l hl=>s186 (n+107) l hl (.fn 169 [.dp [is] 0,.dp [q0e a b c o] 0,.dp [il f] 0,.dp [il d] 0]) (fun p=>!q (q4t (q2n (a.getD []) (b.getD []) (c.getD []) (o.getD []) d p) f)) (fun e _=>d169 n d f e is q hq0 hd g)
 generalize hl:q2s (a.getD [])=l at hlp ⊢
 cases l with
 | nil =>
  have:=hi none (by simp)
  simp only [q2N,q01,q02,q4E,hdk,this,q73,fnd,q04,q1a,q00,Option.getD_none]
  simp [nzO,dI,dSl]
 | cons y r =>
  have h2:=hi (some (y::r)) (by simp only [Option.getD_some];omega)
  simp only [Option.getD_some] at h2
  have el:((y::r).map rI).take ((y::r).map rI).length=(y::r).map rI:=List.take_length
  simp only [q01,q0G,q0B,q0K,if_true,q0J,q1n,q4E,hdk,qfP,h2,q02,q2D,List.all_cons,List.all_nil,qhH,Bool.and_true,q04,q1a,q00,decide_eq_true_eq,q0c]
  have hres:dI ((nzO (y::r)).map (List.filter fun p=>q (q4t (q2n (a.getD []) (b.getD []) (c.getD []) (o.getD []) d p) f)))=dI (some ((y::r).filter fun p=>q (q4t (q2n (a.getD []) (b.getD []) (c.getD []) (o.getD []) d p) f))):=rfl
  rw [hres]
  generalize hy:(y::r)=l at *
  unfold q73
  cases hf:fnd (fun p=>!q (q4t (q2n (a.getD []) (b.getD []) (c.getD []) (o.getD []) d p) f)) l with
  | none =>
   simp only [if_true]
   have:=q3G hf
   simp only [Bool.not_not] at this
   rw [this]
  | some i0 =>
   obtain ⟨h0,h1⟩:=q3F hf
   simp only
   rw [if_neg (by omega),q0s,q0m (by omega) (by omega),q0r,List.length_map]
   obtain ⟨i,ks,e1,e2,e3,e4⟩:=l89 n d f is q hq hd g l (by omega) i0 h0 h1
   rw [show ((i0:Nat):Int)+1=((i0+1:Nat):Int) by simp,e1]
   have ek:(ks.map rI).length=l.length:=by simp [e3]
   simp only [q01,q02,q06,q0Q,q0P,q0G,q0Z,ek,if_true]
   rw [q5u _ _ _ _ e2]
   have ea:i+(l.length - i)=l.length:=by omega
   have et:((ks.map rI).take i++List.replicate (l.length - i) [il 0]).length=l.length:=by
    simp [e3];omega
   simp only [q2c,ea,q4f,q6Y,et,if_true]
   rw [q5v _ _ _ _ (by omega)]
   simp only [Bool.not_not] at e4
   have er:((ks.map rI).take i++List.replicate (l.length - i) [il 0]).take i=(l.filter fun p=>q (q4t (q2n (a.getD []) (b.getD []) (c.getD []) (o.getD []) d p) f)).map rI:=by
    rw [List.take_append_of_le_length (by simp [e3];omega),List.take_take,Nat.min_self,← List.map_take,e4]
   rw [er]
   rfl
theorem d82 (n:Nat) (d p:Int) (hd:0≤d∧d≤4166) (g:GoodK (a.getD []) (b.getD []) (c.getD []) (o.getD [])) :
  FD (n+105) (.fn 2000082 [q0e a b c o]) [.one,.one] [il p,il d]=some (0,[.d (dI (some (q2n (a.getD []) (b.getD []) (c.getD []) (o.getD []) d p)))]):=by
 have h:FnV (cf3 tb Tryz.prog) (FN (n+105)) 82 [.one (q0e a b c o),.one (il p),.one (il d)]=some (0,[.d (dI (some (q2n (a.getD []) (b.getD []) (c.getD []) (o.getD []) d p)))]) :=
  qnb [.ptr 4,.one,.one] (by decide) rfl (by kernel_rfl) (by kernel_rfl) (k82 n d p hd g)
 have h2:q1Z Tryz.prog (cf3 tb Tryz.prog) (FN (n+105)) (.fn 2000082 [q0e a b c o]) [.one,.one] [il p,il d]=if 2000082 < 2000000 then FnV (cf3 tb Tryz.prog) (FN (n+105)) 2000082 ([.one (il p),.one (il d)]++[.one (q0e a b c o)]) else FnV (cf3 tb Tryz.prog) (FN (n+105)) 82 [.one (q0e a b c o),.one (il p),.one (il d)]:=by kernel_rfl
 show q1Z Tryz.prog (cf3 tb Tryz.prog) (FN (n+105)) (.fn 2000082 [q0e a b c o]) [.one,.one] [il p,il d]=_
 rw [h2,if_neg (by decide),h]
end
theorem s171 (n:Nat) (a b:List Int) (ha:a.length≤4611686018427387904):FN (n+1) 171 [dI (some a),dI (some b)]=some (0,[.d (bl (decide (a=b)))]):=by
 rw [FS,qmv]
 simp only [G171,q6o,Option.getD_some,q0Y,q00,decide_eq_true_eq,q0D,q0c,q04,q0r]
 by_cases hlen:a.length=b.length
 ·rw [if_neg (by simp [hlen])]
  have:=q0T (β:=Unit) a ha (qdK (RP n)) (fun i _=>[.d (dI (some a)),.d (dI (some b)),.d (il a.length),.d (il i)]) (fun _ _=>True)
   (fun i r _=>if r=b.drop i then some (1,[]) else some (0,[.d (bl false)]))
   (fun _ k _=>by rw [hlen,List.drop_length];simp [qdK]) ?_ M0 () trivial (q2A ha)
  ·simp only [Int.natCast_zero,List.drop_zero] at this
   rw [this]
   by_cases h:a=b<;>simp [h]
  ·intro i e r _ k hi hd hlt hw _ ih
   have ih':=ih () trivial
   have hlt':(i:Int) < (a.length:Int):=by omega
   have hlb:i < b.length:=by omega
   have hb:b[i]?=some (b[i]'hlb):=List.getElem?_eq_getElem hlb
   have hdb:b.drop i=b[i]'hlb::b.drop (i+1):=List.drop_eq_getElem_cons hlb
   have hi1:((some a).getD [])[i]?=some e:=hi
   have hi2:((some b).getD [])[i]?=some (b[i]'hlb):=hb
   simp only [qdK,q02,q06,q0A,q00,hlt',decide_true,if_true,q76 hi1,q76 hi2,rI,q0b,q0Y,q04,q0s,hw,q0D,q0c,decide_eq_true_eq]
   rw [hdb]
   generalize b[i]'hlb=f
   generalize b.drop (i+1)=t at ih' ⊢
   by_cases h:e=f
   ·subst h
    rw [if_neg (by simp)]
    refine Eq.trans ih' ?_
    simp
   ·rw [if_pos h,if_neg (by simp [h])]
 ·rw [if_pos (by omega)]
  have:¬ a=b:=fun e=>hlen (by rw [e])
  simp [this]
end
section
def q9N (x y:Int→List Int) (p:Int):Bool:=!decide (x p=y p)
section
variable {a b c:Option (List E9)} {o:Option (List E5)} {a' b' c':Option (List E9)} {o':Option (List E5)}
abbrev fo (a b c:Option (List E9)) (o:Option (List E5)) (d:Int):Int→List Int:=q2n (a.getD []) (b.getD []) (c.getD []) (o.getD []) d
theorem s170 (n:Nat) (d p:Int) (hd:0≤d∧d≤4166) (g:GoodK (a.getD []) (b.getD []) (c.getD []) (o.getD [])) (g':GoodK (a'.getD []) (b'.getD []) (c'.getD []) (o'.getD [])) :
  FN (n+106) 170 [il p,.fn 2000082 [q0e a b c o],il d,q0e a' b' c' o']=some (0,[.d (bl (!q9N (fo a b c o d) (fo a' b' c' o' d) p))]):=by
 rw [FS,qmw]
 have hp:∀ k:List D→Out,(RP (n+105)).ptrW 4 (q0e a' b' c' o') k=k [d9 a',d9 b',d9 c',d5 o']:=fun k=>q1e _ 4 k rfl
 have hz:q1Z Tryz.prog (cf3 tb Tryz.prog) (FN (n+105)) (.fn 2000082 [q0e a b c o]) [.one,.one] [il p,il d]=_:=d82 n d p hd g
 have hlen:=qg9 d p g
 simp only [G170,q4e,hz,q01,hp,q0b,q0j,q08,k82 n d p hd g',q02,s171 (n+104) _ _ (by omega:(q2n (a.getD []) (b.getD []) (c.getD []) (o.getD []) d p).length≤4611686018427387904),q0c]
 simp [q9N]
theorem d170 (n:Nat) (d p:Int) (hd:0≤d∧d≤4166) (g:GoodK (a.getD []) (b.getD []) (c.getD []) (o.getD [])) (g':GoodK (a'.getD []) (b'.getD []) (c'.getD []) (o'.getD [])) :
  FD (n+106) (.fn 170 [.dp [.fn 2000082 [q0e a b c o]] 0,.dp [il d] 0,.dp [q0e a' b' c' o'] 0]) [.one] (rI p)=some (0,[.d (bl (!q9N (fo a b c o d) (fo a' b' c' o' d) p))]) :=
 q4p [.one,.ptr 1,.ptr 1,.ptr 1] [.one (il p)] (by decide) rfl (by kernel_rfl) rfl (by kernel_rfl) (s170 n d p hd g g')
theorem l93 (n:Nat) (d:Int) (hd:0≤d∧d≤4166) (g:GoodK (a.getD []) (b.getD []) (c.getD []) (o.getD [])) (g':GoodK (a'.getD []) (b'.getD []) (c'.getD []) (o'.getD []))
  (l:List Int) (hl:l.length≤4611686018427387904) (i0:Nat) (h0:i0 < l.length) (h1:(l.take (i0+1)).filter (fun p=>!(!q9N (fo a b c o d) (fo a' b' c' o' d) p))=l.take i0) :
  ∃ (i:Nat) (ks:List Int),q0o [qhc (RP (n+107))] M0 0 [.n l.length,.n l.length,.d (il d),.d (q0e a' b' c' o'),.d (il i0),.d (il ((i0+1:Nat):Int)),.d (d9 a),.d (d9 b),.d (d9 c),.d (d5 o),.r (l.map rI)]=some (0,[.n l.length,.n l.length,.d (il (i:Int)),.d (d9 a),.d (d9 b),.d (d9 c),.d (d5 o),.r (ks.map rI)])∧i < l.length∧ks.length=l.length∧ks.take i=l.filter (fun p=>!(!q9N (fo a b c o d) (fo a' b' c' o' d) p)):=by
 refine q6e l hl (fun p=>!q9N (fo a b c o d) (fo a' b' c' o' d) p) (qhc (RP (n+107))) (fun i j ks=>[.n l.length,.n l.length,.d (il d),.d (q0e a' b' c' o'),.d (il (i:Nat)),.d (il (j:Nat)),.d (d9 a),.d (d9 b),.d (d9 c),.d (d5 o),.r (ks.map rI)])
  (fun i ks=>some (0,[.n l.length,.n l.length,.d (il ((i:Nat):Int)),.d (d9 a),.d (d9 b),.d (d9 c),.d (d5 o),.r (ks.map rI)])) ?_ ?_ i0 h0 h1
 ·intro i ks k hk
  simp [qhc]
 ·intro i j ks e e2 k _ hj hi hij hjl hil hks hwj hwi
  have hkr:(ks.map rI)[j]?=some (rI e):=by rw [List.getElem?_map,hj];rfl
  have hkr2:(ks.map rI)[i]?=some (rI e2):=by rw [List.getElem?_map,hi];rfl
  have h170:=s170 (n+1) d e hd g g'
  simp only [q0e] at h170
  simp only [qhc,q02,q06,q0Q,q0P,q0G,q0Z,q7C,q0A,q00,hjl,decide_true,if_true,q0B,List.length_map,q0K,hks,q4E,q5t,q0e]
  rw [q7D _ _ _ ⟨by omega,hjl⟩,Int.toNat_natCast,q3a 1 _ _ _ _ hkr rfl]
  simp only [rI,q0b,q08,h170,q01,q02,q2D,List.all_cons,List.all_nil,yl_b,Bool.and_true,if_true,q0z,q00,q04,q0s,hwj,hwi]
  cases hqv:q9N (fo a b c o d) (fo a' b' c' o' d) e with
  | true =>
   simp only [Bool.not_true,Bool.not_false,if_true,Bool.false_eq_true,if_false]
   rw [q7D _ _ _ ⟨by omega,hil⟩,Int.toNat_natCast,q3a 1 _ _ _ _ hkr2 rfl]
   simp only [q3S,List.map_set,rI]
  | false =>
   simp only [Bool.not_true,Bool.not_false,if_true,Bool.false_eq_true,if_false]
theorem k93 (n:Nat) (z:Option (List E9)) (x1 x2 x3:D) (d:Int) (hz:(z.getD []).length≤1000000) (hd:0≤d∧d≤4166) (g:GoodK (a.getD []) (b.getD []) (c.getD []) (o.getD [])) (g':GoodK (a'.getD []) (b'.getD []) (c'.getD []) (o'.getD [])) :
  FN (n+108) 93 [d9 z,x1,x2,x3,d9 a,d9 b,d9 c,d5 o,d9 a',d9 b',d9 c',d5 o',il d]=some (0,[.d (dI ((nzO (q2s (z.getD []))).map (List.filter (q9N (fo a b c o d) (fo a' b' c' o' d)))))]):=by
 rw [FS,G93_eq]
 have hlp:=q3X (z.getD [])
 have h111:=s111 (n+102) z x1 x2 x3 hz
 simp only [G93,q08,h111]
 have hi:=fun l hl=>s186 (n+106) l hl (.fn 170 [.dp [.fn 2000082 [q0e a b c o]] 0,.dp [il d] 0,.dp [q0e a' b' c' o'] 0]) (fun p=>!q9N (fo a b c o d) (fo a' b' c' o' d) p) (fun e _=>d170 n d e hd g g')
 have hdk:(.dp [d9 a,d9 b,d9 c,d5 o] 0:D)=q0e a b c o:=rfl
 have hdk':(.dp [d9 a',d9 b',d9 c',d5 o'] 0:D)=q0e a' b' c' o':=rfl
 generalize hl:q2s (z.getD [])=l at hlp ⊢
 cases l with
 | nil =>
  have:=hi none (by simp)
  simp only [q2N,q01,q02,q4E,q5t,hdk,hdk',this,q73,fnd,q2D,List.all_cons,List.all_nil,qhH,Bool.and_true,if_true,q04,q1a,q00,Option.getD_none]
  simp [nzO,dI,dSl]
 | cons y r =>
  have h2:=hi (some (y::r)) (by simp only [Option.getD_some];omega)
  simp only [Option.getD_some] at h2
  simp only [q01,q0G,q0B,q0K,if_true,q0J,q1n,q4E,q5t,hdk,hdk',qfP,h2,q02,q2D,List.all_cons,List.all_nil,qhH,Bool.and_true,q04,q1a,q00,decide_eq_true_eq,q0c]
  have hres:dI ((nzO (y::r)).map (List.filter (q9N (fo a b c o d) (fo a' b' c' o' d))))=dI (some ((y::r).filter (q9N (fo a b c o d) (fo a' b' c' o' d)))):=rfl
  rw [hres]
  generalize hy:(y::r)=l at *
  unfold q73
  cases hf:fnd (fun p=>!q9N (fo a b c o d) (fo a' b' c' o' d) p) l with
  | none =>
   simp only [if_true]
   have:=q3G hf
   simp only [Bool.not_not] at this
   rw [show (l.filter (q9N (fo a b c o d) (fo a' b' c' o' d)))=l.filter (fun p=>q9N (fo a b c o d) (fo a' b' c' o' d) p) from rfl,this]
  | some i0 =>
   obtain ⟨h0,h1⟩:=q3F hf
   simp only
   rw [if_neg (by omega),q0s,q0m (by omega) (by omega),q0r,List.length_map]
   obtain ⟨i,ks,e1,e2,e3,e4⟩:=l93 n d hd g g' l (by omega) i0 h0 h1
   rw [show ((i0:Nat):Int)+1=((i0+1:Nat):Int) by simp,e1]
   have ek:(ks.map rI).length=l.length:=by simp [e3]
   simp only [q01,q02,q06,q0Q,q0P,q0G,q0Z,ek,if_true]
   rw [q5u _ _ _ _ e2]
   have ea:i+(l.length - i)=l.length:=by omega
   have et:((ks.map rI).take i++List.replicate (l.length - i) [il 0]).length=l.length:=by
    simp [e3];omega
   simp only [q2c,ea,q4f,q6Y,et,if_true]
   rw [q5v _ _ _ _ (by omega)]
   simp only [Bool.not_not] at e4
   have er:((ks.map rI).take i++List.replicate (l.length - i) [il 0]).take i=(l.filter (q9N (fo a b c o d) (fo a' b' c' o' d))).map rI:=by
    rw [List.take_append_of_le_length (by simp [e3];omega),List.take_take,Nat.min_self,← List.map_take,e4]
   rw [er]
   rfl
end
theorem askE_3 {ok ps fs:Bool} {p f d k l:Int} (h:q1Q ok ps fs p f [d,k,l]=0):(0≤d∧d≤4166)∧(0≤k∧k≤4166)∧0≤l∧l≤4166:=by
 unfold q1Q at h
 split at h
 ·simp at h
 ·split at h
  ·simp at h
  ·split at h
   ·simp at h
   ·split at h
    ·simp at h
    ·rename_i hh
     simp only [List.any_cons,List.any_nil,Bool.or_false,Bool.or_eq_true,Bool.not_eq_true',decide_eq_false_iff_not,not_or,Decidable.not_not] at hh
     exact hh
def fk (k:Int) (a b c:Option (List E9)) (o:Option (List E5)) (d:Int):Int→List Int:=q42 k a b c o d
theorem fo_kn (k:Int) (a b c:Option (List E9)) (o:Option (List E5)) (d:Int):fo (kn9 k a) (kn9 k b) (kn9 k c) (kn5 k o) d=fk k a b c o d:=by
 funext p;unfold fo fk q42;rw [q0d,q0d,q0d,q1v]
section
variable (n:Nat) (p f d k l:Int) (a b c:Option (List E9)) (o:Option (List E5)) (ha:(a.getD []).length*72≤140737488351232) (hb:(b.getD []).length*72≤140737488351232) (hc:(c.getD []).length*72≤140737488351232) (ho:(o.getD []).length*40≤140737488351232)
include ha hb hc ho
theorem s37:FN (n+109) 37 [d9 a,d9 b,d9 c,d5 o,il d,il k,il l]=if q1Q (q0H (a.getD []) (b.getD []) (c.getD []) (o.getD [])) false false 0 0 [d,k,l]=0 then some (0,[.d (dI ((nzO (q2s (a.getD []))).map (List.filter (q9N (fk k a b c o d) (fk l a b c o d))))),.d (il 0)]) else some (0,[.d (dI none),.d (il (q1Q (q0H (a.getD []) (b.getD []) (c.getD []) (o.getD [])) false false 0 0 [d,k,l]))]):=by
 rw [FS,G37_eq]
 have h73:=s73 (n+98) 0 0 false false a b c o [d,k] l (by simp) ha hb hc ho
 rw [show dI (some ([d,k]++[l]))=.sl 1 [[il d],[il k],[il l]] from rfl,show [d,k]++[l]=[d,k,l] from rfl] at h73
 have h94:=s94 (n+103) k a b c o ha hb hc ho
 simp only [G37,q08,q04,q0D,q0C,q1n,h73]
 by_cases he:q1Q (q0H (a.getD []) (b.getD []) (c.getD []) (o.getD [])) false false 0 0 [d,k,l]=0
 ·have g:=q3j k he
  have g':=q3j l he
  have hl:=(q4I (q1U he)).1
  rw [if_pos he]
  have hp:∀ (k:Int) (q:List D→Out),(RP (n+108)).ptrW 4 (q0e (kn9 k a) (kn9 k b) (kn9 k c) (kn5 k o)) q=q [d9 (kn9 k a),d9 (kn9 k b),d9 (kn9 k c),d5 (kn5 k o)]:=fun k q=>q1e _ 4 q rfl
  simp only [q4o,he,if_true,q01,q02,q06,q0Y,ne_eq,not_true_eq_false,decide_false,q00,Bool.false_eq_true,if_false,h94,hp,q0b,q0j,k93 n a (d9 b) (d9 c) (d5 o) d (by omega) (askE_3 he).1 g g',q0c,fo_kn]
 ·rw [if_neg he]
  simp only [q4o,if_neg he,q01,q02,q06,q0Y,q00]
  rw [if_pos (by simpa using he)]
  simp [dI,dSl]
def q5T (k:Int) (a b c:Option (List E9)) (o:Option (List E5)) (d f:Int):Option (List Int):=(nzO (q2s (q0w k (a.getD [])))).map (List.filter fun p=>decide (q4t (q42 k a b c o d p) f=1))
def qeo (k:Int) (a b c:Option (List E9)) (o:Option (List E5)) (d f:Int):Option (List Int):=(nzO (q2s (q0w k (a.getD [])))).map (List.filter fun p=>decide (q4t (q42 k a b c o d p) f≠0))
omit ha hb hc ho in
theorem k89s (he:q1Q (q0H (a.getD []) (b.getD []) (c.getD []) (o.getD [])) false true 0 f [d,k]=0):FN (n+109) 89 [d9 (kn9 k a),d9 (kn9 k b),d9 (kn9 k c),d5 (kn5 k o),il f,il d,.fn 90 []]=some (0,[.d (dI (q5T k a b c o d f))]):=by
 rw [k89 n d f (.fn 90 []) (fun z=>decide (z=1)) (fun z=>d90 (n+105) z) (fun z=>d90 (n+106) z) (q1V he).1 (q3j k he)]
 unfold q5T q42
 rw [q0d,q0d,q0d,q1v]
omit ha hb hc ho in
theorem k89m (he:q1Q (q0H (a.getD []) (b.getD []) (c.getD []) (o.getD [])) false true 0 f [d,k]=0):FN (n+109) 89 [d9 (kn9 k a),d9 (kn9 k b),d9 (kn9 k c),d5 (kn5 k o),il f,il d,.fn 91 []]=some (0,[.d (dI (qeo k a b c o d f))]):=by
 rw [k89 n d f (.fn 91 []) (fun z=>decide (z≠0)) (fun z=>d91 (n+105) z) (fun z=>d91 (n+106) z) (q1V he).1 (q3j k he)]
 unfold qeo q42
 rw [q0d,q0d,q0d,q1v]
theorem s32:FN (n+110) 32 [d9 a,d9 b,d9 c,d5 o,il f,il d,il k]=if q1Q (q0H (a.getD []) (b.getD []) (c.getD []) (o.getD [])) false true 0 f [d,k]=0 then some (0,[.d (dI (q5T k a b c o d f)),.d (il 0)]) else some (0,[.d (dI none),.d (il (q1Q (q0H (a.getD []) (b.getD []) (c.getD []) (o.getD [])) false true 0 f [d,k]))]):=by
 rw [FS,G32_eq]
 simp only [G32,q08,s79,q01,q02,q06,q0C,q1n,q7e (n+99) 0 f d k a b c o ha hb hc ho false true]
 by_cases he:q1Q (q0H (a.getD []) (b.getD []) (c.getD []) (o.getD [])) false true 0 f [d,k]=0
 ·rw [if_pos he]
  have hp:∀ q:List D→Out,(RP (n+109)).ptrW 4 (q0e (kn9 k a) (kn9 k b) (kn9 k c) (kn5 k o)) q=q [d9 (kn9 k a),d9 (kn9 k b),d9 (kn9 k c),d5 (kn5 k o)]:=fun q=>q1e _ 4 q rfl
  simp only [q4o,he,if_true,q01,q02,q06,q04,q0Y,ne_eq,not_true_eq_false,decide_false,q00,Bool.false_eq_true,if_false,hp,q0b,q0j,q4E,k89s n f d k a b c o he,q0c]
 ·rw [if_neg he]
  simp only [q4o,if_neg he,q01,q02,q06,q04,q0Y,q00]
  rw [if_pos (by simpa using he)]
  simp [dI,dSl]
theorem s34:FN (n+110) 34 [d9 a,d9 b,d9 c,d5 o,il f,il d,il k]=if q1Q (q0H (a.getD []) (b.getD []) (c.getD []) (o.getD [])) false true 0 f [d,k]=0 then some (0,[.d (dI (qeo k a b c o d f)),.d (il 0)]) else some (0,[.d (dI none),.d (il (q1Q (q0H (a.getD []) (b.getD []) (c.getD []) (o.getD [])) false true 0 f [d,k]))]):=by
 rw [FS,G34_eq]
 simp only [G34,q08,s79,q01,q02,q06,q0C,q1n,q7e (n+99) 0 f d k a b c o ha hb hc ho false true]
 by_cases he:q1Q (q0H (a.getD []) (b.getD []) (c.getD []) (o.getD [])) false true 0 f [d,k]=0
 ·rw [if_pos he]
  have hp:∀ q:List D→Out,(RP (n+109)).ptrW 4 (q0e (kn9 k a) (kn9 k b) (kn9 k c) (kn5 k o)) q=q [d9 (kn9 k a),d9 (kn9 k b),d9 (kn9 k c),d5 (kn5 k o)]:=fun q=>q1e _ 4 q rfl
  simp only [q4o,he,if_true,q01,q02,q06,q04,q0Y,ne_eq,not_true_eq_false,decide_false,q00,Bool.false_eq_true,if_false,hp,q0b,q0j,q4E,k89m n f d k a b c o he,q0c]
 ·rw [if_neg he]
  simp only [q4o,if_neg he,q01,q02,q06,q04,q0Y,q00]
  rw [if_pos (by simpa using he)]
  simp [dI,dSl]
theorem s29:FN (n+110) 29 [d9 a,d9 b,d9 c,d5 o,il f,il d,il k]=if q1Q (q0H (a.getD []) (b.getD []) (c.getD []) (o.getD [])) false true 0 f [d,k]=0 then some (0,[.d (il (((q5T k a b c o d f).getD []).length:Int)),.d (il (((qeo k a b c o d f).getD []).length:Int)),.d (il 0)]) else some (0,[.d (il 0),.d (il 0),.d (il (q1Q (q0H (a.getD []) (b.getD []) (c.getD []) (o.getD [])) false true 0 f [d,k]))]):=by
 rw [FS,G29_eq]
 simp only [G29,q08,s79,q01,q02,q06,q0C,q1n,q7e (n+99) 0 f d k a b c o ha hb hc ho false true]
 by_cases he:q1Q (q0H (a.getD []) (b.getD []) (c.getD []) (o.getD [])) false true 0 f [d,k]=0
 ·rw [if_pos he]
  have hp:∀ q:List D→Out,(RP (n+109)).ptrW 4 (q0e (kn9 k a) (kn9 k b) (kn9 k c) (kn5 k o)) q=q [d9 (kn9 k a),d9 (kn9 k b),d9 (kn9 k c),d5 (kn5 k o)]:=fun q=>q1e _ 4 q rfl
  simp only [q4o,he,if_true,q01,q02,q06,q04,q0Y,ne_eq,not_true_eq_false,decide_false,q00,Bool.false_eq_true,if_false,hp,q0b,q0j,q4E,k89s n f d k a b c o he,k89m n f d k a b c o he,q6o,q0c]
 ·rw [if_neg he]
  simp only [q4o,if_neg he,q01,q02,q06,q04,q0Y,q00]
  rw [if_pos (by simpa using he)]
  simp
end
end
end Go.VE
