/- Family: families (program): the rounds of its loop. (Made by fa37.py.) -/
import Derived.Test.YtobeabinccohlaaGreatMg2
namespace Go.VE
open Go.RowKit Go.Proofs
attribute [local simp] q5U q6u
set_option maxRecDepth 20000 in
theorem qjl (n:Nat) (L:List Int) (hL:L.length≤1000000) (hne:L≠[]) (q:Mr) (x3 x4 x5 x6 x8 x9 x10 x11 x12 x13 x14 x15 x16 x17:D) :
  q0l [L82_0 (RP (n+4)),L82_1 (RP (n+4))] M0 0 [.d (dI (some L)),.d (il L.length),.d (il 0),.d x3,.d x4,.d x5,.d x6,.m q,.d x8,.d x9,.d x10,.d x11,.d x12,.d x13,.d x14,.d x15,.d x16,.d x17] =
   some (1,[.r ((q0b [] L).map rI),.d x3,.d x4,.d x5,.d x6,.m q,.d x8,.d x9,.d x10,.d x11,.n (q0b [] L).length,.n (q0b [] L).length,.d x12,.d x13,.d x14,.d x15,.d x16,.d x17]):=by
 refine q7Z L hL hne _ _ (fun i=>[.d (dI (some L)),.d (il L.length),.d (il (i:Nat)),.d x3,.d x4,.d x5,.d x6,.m q,.d x8,.d x9,.d x10,.d x11,.d x12,.d x13,.d x14,.d x15,.d x16,.d x17])
  (fun i acc=>[.d (dI (some L)),.d (il L.length),.d (il (i:Nat)),.r (acc.map rI),.d x3,.d x4,.d x5,.d x6,.m q,.d x8,.d x9,.d x10,.d x11,.n acc.length,.n acc.length,.d x12,.d x13,.d x14,.d x15,.d x16,.d x17])
  (fun acc=>some (1,[.r (acc.map rI),.d x3,.d x4,.d x5,.d x6,.m q,.d x8,.d x9,.d x10,.d x11,.n acc.length,.n acc.length,.d x12,.d x13,.d x14,.d x15,.d x16,.d x17])) ?_ ?_ ?_
 ·intro acc k;simp [L82_1]
 ·intro c k hi hlt
  have h0:=q2R (Fn:=FN (n+4)) (FnD:=q1z Tryz.prog (cf3 tb Tryz.prog) (FN (n+4))) (m:=M0) (o:=some L) (i:=0) (c:=c) hi
  simp only [L82_0,q02,q04,q0n,q01,Int.natCast_zero,hlt,decide_true,if_true]
  rw [show ((il 0):D)=il ((0:Nat):Int) from rfl,h0]
  simp only [rI,q07,q06,q0Z,qh2,q00,q02,q04,q01,Bool.false_eq_true,if_false]
  rw [put0]
  simp only [q03,q0i,q0G,q0u,q0A,q0q,List.length_cons,List.length_nil,List.take_succ_cons,List.take_zero,Int.natCast_zero]
  rw [show IntKind.i64.wrap (0+1)=((1:Nat):Int) from rfl]
  rfl
 ·intro i c acc k hi hlt hw hu hl
  have hi':((some L).getD [])[i]?=some c:=hi
  have hput:=q1n n acc c (by omega) hu
  simp only [L82_1,q02,q04,q0E,q0D,q0x,q0F,q0n,q01,hlt,decide_true,if_true,q2R hi',rI,q07,q0A,q0B,List.length_map,q1e,q06]
  simp only [hput,q00,q02,q12,q03,q0i,hw,List.length_map,q27,q28]
set_option maxRecDepth 20000 in
theorem li82_2 (n:Nat) (L:List Int) (hL:L.length≤1000000) (q:Mr) (x4 x5 x6 x7 x9 x10 x11 x12 x15 x16 x17 x18 x19 x20:D) (acc:List Int) (hu:Up acc) (ha:acc.length≤1000) :
  q0l [L82_2 (RP (n+4))] M0 0 [.d (dI (some L)),.d (il L.length),.d (il 0),.r (acc.map rI),.d x4,.d x5,.d x6,.d x7,.m q,.d x9,.d x10,.d x11,.d x12,.n acc.length,.n acc.length,.d x15,.d x16,.d x17,.d x18,.d x19,.d x20] =
   some (0,[.r ((q0b acc L).map rI),.d x4,.d x5,.d x6,.d x7,.m q,.d x9,.d x10,.d x11,.d x12,.n (q0b acc L).length,.n (q0b acc L).length,.d x15,.d x16,.d x17,.d x18,.d x19,.d x20]):=by
 refine q6G L hL _ (fun i acc=>[.d (dI (some L)),.d (il L.length),.d (il (i:Nat)),.r (acc.map rI),.d x4,.d x5,.d x6,.d x7,.m q,.d x9,.d x10,.d x11,.d x12,.n acc.length,.n acc.length,.d x15,.d x16,.d x17,.d x18,.d x19,.d x20])
  (fun acc=>some (0,[.r (acc.map rI),.d x4,.d x5,.d x6,.d x7,.m q,.d x9,.d x10,.d x11,.d x12,.n acc.length,.n acc.length,.d x15,.d x16,.d x17,.d x18,.d x19,.d x20])) 1000 ?_ ?_ acc hu ha
 ·intro acc k;simp [L82_2]
 ·intro i c acc k hi hlt hw hu hl
  have hi':((some L).getD [])[i]?=some c:=hi
  have hput:=q1n n acc c (by omega) hu
  simp only [L82_2,q02,q04,q0E,q0D,q0x,q0F,q0n,q01,hlt,decide_true,if_true,q2R hi',rI,q07,q0A,q0B,List.length_map,q1e,q06]
  simp only [hput,q00,q02,q12,q03,q0i,hw,List.length_map,q27,q28]
set_option maxRecDepth 20000 in
theorem qit (n:Nat) (L:List Int) (hL:L.length≤1000000) (q:Mr) (x4 x5 x6 x7 x9 x10 x11 x12 x15 x16 x17 x18 x19 x20:D) (acc:List Int) (hu:Up acc) (ha:acc.length≤1000) :
  q0l [L82_4 (RP (n+4))] M0 0 [.d (dI (some L)),.d (il L.length),.d (il 0),.r (acc.map rI),.d x4,.d x5,.d x6,.d x7,.m q,.d x9,.d x10,.d x11,.d x12,.n acc.length,.n acc.length,.d x15,.d x16,.d x17,.d x18,.d x19,.d x20] =
   some (0,[.r ((q0b acc L).map rI),.d x4,.d x5,.d x6,.d x7,.m q,.d x9,.d x10,.d x11,.d x12,.n (q0b acc L).length,.n (q0b acc L).length,.d x15,.d x16,.d x17,.d x18,.d x19,.d x20]):=by
 refine q6G L hL _ (fun i acc=>[.d (dI (some L)),.d (il L.length),.d (il (i:Nat)),.r (acc.map rI),.d x4,.d x5,.d x6,.d x7,.m q,.d x9,.d x10,.d x11,.d x12,.n acc.length,.n acc.length,.d x15,.d x16,.d x17,.d x18,.d x19,.d x20])
  (fun acc=>some (0,[.r (acc.map rI),.d x4,.d x5,.d x6,.d x7,.m q,.d x9,.d x10,.d x11,.d x12,.n acc.length,.n acc.length,.d x15,.d x16,.d x17,.d x18,.d x19,.d x20])) 1000 ?_ ?_ acc hu ha
 ·intro acc k;simp [L82_4]
 ·intro i c acc k hi hlt hw hu hl
  have hi':((some L).getD [])[i]?=some c:=hi
  have hput:=q1n n acc c (by omega) hu
  simp only [L82_4,q02,q04,q0E,q0D,q0x,q0F,q0n,q01,hlt,decide_true,if_true,q2R hi',rI,q07,q0A,q0B,List.length_map,q1e,q06]
  simp only [hput,q00,q02,q12,q03,q0i,hw,List.length_map,q27,q28]
set_option maxRecDepth 20000 in
theorem qis (n:Nat) (L:List Int) (hL:L.length≤1000000) (q:Mr) (x3 x4 x5 x6 x8 x9 x10 x11 x15 x16 x17 x18 x19 x20:D) (acc:List Int) (hu:Up acc) (ha:acc.length≤1000) :
  q0l [L82_6 (RP (n+4))] M0 0 [.d (dI (some L)),.d (il L.length),.d (il 0),.d x3,.d x4,.d x5,.d x6,.m q,.d x8,.d x9,.d x10,.d x11,.n acc.length,.n acc.length,.r (acc.map rI),.d x15,.d x16,.d x17,.d x18,.d x19,.d x20] =
   some (0,[.d x3,.d x4,.d x5,.d x6,.m q,.d x8,.d x9,.d x10,.d x11,.n (q0b acc L).length,.n (q0b acc L).length,.r ((q0b acc L).map rI),.d x15,.d x16,.d x17,.d x18,.d x19,.d x20]):=by
 refine q6G L hL _ (fun i acc=>[.d (dI (some L)),.d (il L.length),.d (il (i:Nat)),.d x3,.d x4,.d x5,.d x6,.m q,.d x8,.d x9,.d x10,.d x11,.n acc.length,.n acc.length,.r (acc.map rI),.d x15,.d x16,.d x17,.d x18,.d x19,.d x20])
  (fun acc=>some (0,[.d x3,.d x4,.d x5,.d x6,.m q,.d x8,.d x9,.d x10,.d x11,.n acc.length,.n acc.length,.r (acc.map rI),.d x15,.d x16,.d x17,.d x18,.d x19,.d x20])) 1000 ?_ ?_ acc hu ha
 ·intro acc k;simp [L82_6]
 ·intro i c acc k hi hlt hw hu hl
  have hi':((some L).getD [])[i]?=some c:=hi
  have hput:=q1n n acc c (by omega) hu
  simp only [L82_6,q02,q04,q0E,q0D,q0x,q0F,q0n,q01,hlt,decide_true,if_true,q2R hi',rI,q07,q0A,q0B,List.length_map,q1e,q06]
  simp only [hput,q00,q02,q12,q03,q0i,hw,List.length_map,q27,q28]
def qdc (d who:Int) (kin:D) (no yes:Bool) (acc:List Int) (q:Mr):List Yr:=[.r (acc.map rI),.n acc.length,.n acc.length,.d (bl no),.d (bl yes),.d kin,.d (il d),.m q,.d kin,.d (il d),.d kin,.d (il who)]
def qde (d who:Int) (kin:D) (no yes:Bool) (m:Nat) (acc:List Int) (q:Mr):List Yr:=.d (il d)::.d (il ((m:Int) - 1))::qdc d who kin no yes acc q
def tz82 (d who:Int) (kin:D) (no yes:Bool) (q:Mr):List Yr:=[.d (bl no),.d (bl yes),.d kin,.d (il d),.m q,.d kin,.d (il d),.d kin,.d (il who)]
def qi5 (d who:Int) (kin:D) (no yes:Bool) (m:Nat) (q:Mr):List Yr:=.d (il d)::.d (il ((m:Int) - 1))::tz82 d who kin no yes q
set_option maxRecDepth 20000 in
theorem rd82_5 (n:Nat) (a b c:Option (List E9)) (o:Option (List E5)) (d who:Int) (no yes:Bool) (m:Nat) (e:E9) (he:(a.getD [])[m]?=some e) (hb0:¬ e.b=0) (hw:IntKind.i64.wrap (((m:Nat):Int) - 1)=((m:Nat):Int) - 1)
  (_:q0e d (b.getD []) e.b≠[]) (hlen:(q0e d (b.getD []) e.b).length≤1000000)
  (hcall:∀ q:Mr,q6p d (b.getD []) q→∃ q':Mr,q6p d (b.getD []) q'∧FN (n+4) 1000161 [q0U a b c o,il d,.mp false q.1 q.2,il e.b,q0U a b c o,il d]=some (0,[.d (dI (some (q0e d (b.getD []) e.b))),.d (q0U a b c o),.d (il d),.d (.mp false q'.1 q'.2)]))
  (acc:List Int) (q:Mr) (hu:Up acc) (ha:acc.length≤900) (hq:q6p d (b.getD []) q) (k:Nat→List Yr→Out):∃ q':Mr,q6p d (b.getD []) q'∧L82_5 (RP (n+4)) k (qde d who (q0U a b c o) no yes (m+1) acc q) =
   if e.a=who∧q1Z e.f1 e.t2 d=true then (if q1C e.f2 e.t1 d=true then some (2,qdc d who (q0U a b c o) no yes (q0O (q0e d (b.getD [])) yes no (some e.b) acc) q') else k 1 (qde d who (q0U a b c o) no yes m (q0O (q0e d (b.getD [])) yes no (some e.b) acc) q')) else k 1 (qde d who (q0U a b c o) no yes m acc q'):=by
 have hm:(((m+1:Nat):Int) - 1)=((m:Nat):Int):=by omega
 have h157:=s157 (n+3) a b c o m e who he
 have hput:=q1n n acc 0 (by omega) hu
 simp only [qde,qdc,hm,L82_5,q02,q04,q0E,q0D,q0x,q0F,q28,q27,q03,q1S,q01]
 rw [if_pos (by simp)]
 simp only [q06,h157,q00,q02,q04,q0J,q01,q1o,hw]
 by_cases h1:e.a=who
 ·rw [if_neg (by simp [h1])]
  simp only [qgi,q00,q02,q0J,q01]
  by_cases h2:q1Z e.f1 e.t2 d=true
  ·rw [if_neg (by simp [h2])]
   simp only [if_pos (⟨h1,h2⟩:e.a=who∧q1Z e.f1 e.t2 d=true)]
   simp only [q0M,hb0,decide_false,q01,Bool.false_eq_true,if_false]
   cases no with
   | false =>
    have hfs:q0O (q0e d (b.getD [])) yes false (some e.b) acc=if yes=true then q0b acc (q0e d (b.getD []) e.b) else acc:=by cases yes<;>simp [q0O,f0,hb0]
    simp only [Bool.false_eq_true,if_false,q00,q02,q04,q0E,q0D,q0x,q0F,q28,q27,q0M,hb0,decide_false,q01,q0d]
    cases yes with
    | false =>
     refine ⟨q,hq,?_⟩
     simp only [q0J,Bool.not_false,q01,if_true,qa5,q00,q02,hfs]
     rfl
    | true =>
     obtain ⟨q',hq',hc⟩:=hcall q hq
     refine ⟨q',hq',?_⟩
     simp only [q0J,Bool.not_true,q01,Bool.false_eq_true,if_false,q6u,hc,q00,q02,q04,q5U,q2I,Option.getD_some,q0r]
     rw [qit n _ hlen _ _ _ _ _ _ _ _ _ _ _ _ _ _ _ acc hu (by omega)]
     simp only [q00,qa5,q02,q04,q0E,q0D,q0x,q28,q27,q01,hfs]
     rfl
   | true =>
    have hu0:=q3J 0 hu
    have hl0:=q2Z 0 acc
    have hfs:q0O (q0e d (b.getD [])) yes true (some e.b) acc=if yes=true then q0b (ins 0 acc) (q0e d (b.getD []) e.b) else ins 0 acc:=by cases yes<;>simp [q0O,f0,hb0]
    simp only [if_true,q0A,List.length_map,q0B,q1e,hput,q12,q00,q02,q04,q0E,q0D,q0x,q0F,q28,q27,q0M,hb0,decide_false,q01,Bool.false_eq_true,if_false,q0d]
    cases yes with
    | false =>
     refine ⟨q,hq,?_⟩
     simp only [q0J,Bool.not_false,q01,if_true,qa5,q00,q02,hfs]
     rfl
    | true =>
     obtain ⟨q',hq',hc⟩:=hcall q hq
     refine ⟨q',hq',?_⟩
     simp only [q0J,Bool.not_true,q01,Bool.false_eq_true,if_false,q6u,hc,q00,q02,q04,q5U,q2I,Option.getD_some,q0r]
     rw [qit n _ hlen _ _ _ _ _ _ _ _ _ _ _ _ _ _ _ (ins 0 acc) hu0 (by omega)]
     simp only [q00,qa5,q02,q04,q0E,q0D,q0x,q28,q27,q01,hfs]
     rfl
  ·rw [if_pos (by simp [h2])]
   simp only [if_neg (fun h=>h2 h.2:¬ (e.a=who∧q1Z e.f1 e.t2 d=true))]
   exact ⟨q,hq,rfl⟩
 ·rw [if_pos (by simp [h1])]
  simp only [if_neg (fun h=>h1 h.1:¬ (e.a=who∧q1Z e.f1 e.t2 d=true))]
  exact ⟨q,hq,rfl⟩
set_option maxRecDepth 20000 in
theorem rd82_7 (n:Nat) (a b c:Option (List E9)) (o:Option (List E5)) (d who:Int) (no yes:Bool) (m:Nat) (e:E9) (he:(a.getD [])[m]?=some e) (hb0:¬ e.b=0) (hw:IntKind.i64.wrap (((m:Nat):Int) - 1)=((m:Nat):Int) - 1)
  (_:q0e d (b.getD []) e.b≠[]) (hlen:(q0e d (b.getD []) e.b).length≤1000000)
  (hcall:∀ q:Mr,q6p d (b.getD []) q→∃ q':Mr,q6p d (b.getD []) q'∧FN (n+4) 1000161 [q0U a b c o,il d,.mp false q.1 q.2,il e.b,q0U a b c o,il d]=some (0,[.d (dI (some (q0e d (b.getD []) e.b))),.d (q0U a b c o),.d (il d),.d (.mp false q'.1 q'.2)]))
  (acc:List Int) (q:Mr) (hu:Up acc) (ha:acc.length≤900) (hq:q6p d (b.getD []) q) (k:Nat→List Yr→Out):∃ q':Mr,q6p d (b.getD []) q'∧L82_7 (RP (n+4)) k (qde d who (q0U a b c o) no yes (m+1) acc q) =
   if e.a=who∧q1Z e.f1 e.t2 d=true then (if q1C e.f2 e.t1 d=true then some (4,qdc d who (q0U a b c o) no yes (q0O (q0e d (b.getD [])) yes no (some e.b) acc) q') else k 2 (qde d who (q0U a b c o) no yes m (q0O (q0e d (b.getD [])) yes no (some e.b) acc) q')) else k 2 (qde d who (q0U a b c o) no yes m acc q'):=by
 have hm:(((m+1:Nat):Int) - 1)=((m:Nat):Int):=by omega
 have h157:=s157 (n+3) a b c o m e who he
 have hput:=q1n n acc 0 (by omega) hu
 simp only [qde,qdc,hm,L82_7,q02,q04,q0E,q0D,q0x,q0F,q28,q27,q03,q1S,q01]
 rw [if_pos (by simp)]
 simp only [q06,h157,q00,q02,q04,q0J,q01,q1o,hw]
 by_cases h1:e.a=who
 ·rw [if_neg (by simp [h1])]
  simp only [qgi,q00,q02,q0J,q01]
  by_cases h2:q1Z e.f1 e.t2 d=true
  ·rw [if_neg (by simp [h2])]
   simp only [if_pos (⟨h1,h2⟩:e.a=who∧q1Z e.f1 e.t2 d=true)]
   simp only [q0M,hb0,decide_false,q01,Bool.false_eq_true,if_false]
   cases no with
   | false =>
    have hfs:q0O (q0e d (b.getD [])) yes false (some e.b) acc=if yes=true then q0b acc (q0e d (b.getD []) e.b) else acc:=by cases yes<;>simp [q0O,f0,hb0]
    simp only [Bool.false_eq_true,if_false,q00,q02,q04,q0E,q0D,q0x,q0F,q28,q27,q0M,hb0,decide_false,q01,q0d]
    cases yes with
    | false =>
     refine ⟨q,hq,?_⟩
     simp only [q0J,Bool.not_false,q01,if_true,qa5,q00,q02,hfs]
     rfl
    | true =>
     obtain ⟨q',hq',hc⟩:=hcall q hq
     refine ⟨q',hq',?_⟩
     simp only [q0J,Bool.not_true,q01,Bool.false_eq_true,if_false,q6u,hc,q00,q02,q04,q5U,q2I,Option.getD_some,q0r]
     rw [qis n _ hlen _ _ _ _ _ _ _ _ _ _ _ _ _ _ _ acc hu (by omega)]
     simp only [q00,qa5,q02,q04,q0E,q0D,q0x,q0F,q28,q27,q01,hfs]
     rfl
   | true =>
    have hu0:=q3J 0 hu
    have hl0:=q2Z 0 acc
    have hfs:q0O (q0e d (b.getD [])) yes true (some e.b) acc=if yes=true then q0b (ins 0 acc) (q0e d (b.getD []) e.b) else ins 0 acc:=by cases yes<;>simp [q0O,f0,hb0]
    simp only [if_true,q0A,List.length_map,q0B,q1e,hput,q12,q00,q02,q04,q0E,q0D,q0x,q0F,q28,q27,q0M,hb0,decide_false,q01,Bool.false_eq_true,if_false,q0d]
    cases yes with
    | false =>
     refine ⟨q,hq,?_⟩
     simp only [q0J,Bool.not_false,q01,if_true,qa5,q00,q02,hfs]
     rfl
    | true =>
     obtain ⟨q',hq',hc⟩:=hcall q hq
     refine ⟨q',hq',?_⟩
     simp only [q0J,Bool.not_true,q01,Bool.false_eq_true,if_false,q6u,hc,q00,q02,q04,q5U,q2I,Option.getD_some,q0r]
     rw [qis n _ hlen _ _ _ _ _ _ _ _ _ _ _ _ _ _ _ (ins 0 acc) hu0 (by omega)]
     simp only [q00,qa5,q02,q04,q0E,q0D,q0x,q0F,q28,q27,q01,hfs]
     rfl
  ·rw [if_pos (by simp [h2])]
   simp only [if_neg (fun h=>h2 h.2:¬ (e.a=who∧q1Z e.f1 e.t2 d=true))]
   exact ⟨q,hq,rfl⟩
 ·rw [if_pos (by simp [h1])]
  simp only [if_neg (fun h=>h1 h.1:¬ (e.a=who∧q1Z e.f1 e.t2 d=true))]
  exact ⟨q,hq,rfl⟩
set_option maxRecDepth 20000 in
theorem rd82_3 (n:Nat) (a b c:Option (List E9)) (o:Option (List E5)) (d who:Int) (no yes:Bool) (m:Nat) (e:E9) (he:(a.getD [])[m]?=some e) (hb0:¬ e.b=0) (hw:IntKind.i64.wrap (((m:Nat):Int) - 1)=((m:Nat):Int) - 1)
  (hne:q0e d (b.getD []) e.b≠[]) (hlen:(q0e d (b.getD []) e.b).length≤1000000)
  (hcall:∀ q:Mr,q6p d (b.getD []) q→∃ q':Mr,q6p d (b.getD []) q'∧FN (n+4) 1000161 [q0U a b c o,il d,.mp false q.1 q.2,il e.b,q0U a b c o,il d]=some (0,[.d (dI (some (q0e d (b.getD []) e.b))),.d (q0U a b c o),.d (il d),.d (.mp false q'.1 q'.2)]))
  (hyn:yes=false→no=true) (q:Mr) (hq:q6p d (b.getD []) q) (k:Nat→List Yr→Out):∃ q':Mr,q6p d (b.getD []) q'∧L82_3 (RP (n+4)) k (qi5 d who (q0U a b c o) no yes (m+1) q) =
   if e.a=who∧q1Z e.f1 e.t2 d=true then (if q1C e.f2 e.t1 d=true then some (if no=true then 2 else 4,qdc d who (q0U a b c o) no yes (q0O (q0e d (b.getD [])) yes no (some e.b) []) q') else k (if no=true then 1 else 2) (qde d who (q0U a b c o) no yes m (q0O (q0e d (b.getD [])) yes no (some e.b) []) q')) else k 0 (qi5 d who (q0U a b c o) no yes m q'):=by
 have hm:(((m+1:Nat):Int) - 1)=((m:Nat):Int):=by omega
 have h157:=s157 (n+3) a b c o m e who he
 simp only [qi5,tz82,hm,L82_3,q02,q04,q28,q27,q03,q1S,q01]
 rw [if_pos (by simp)]
 simp only [q06,h157,q00,q02,q04,q0J,q01,q1o,hw]
 by_cases h1:e.a=who
 ·rw [if_neg (by simp [h1])]
  simp only [qgi,q00,q02,q0J,q01]
  by_cases h2:q1Z e.f1 e.t2 d=true
  ·rw [if_neg (by simp [h2])]
   simp only [if_pos (⟨h1,h2⟩:e.a=who∧q1Z e.f1 e.t2 d=true)]
   simp only [q0M,hb0,decide_false,q01,Bool.false_eq_true,if_false]
   cases no with
   | false =>
    cases yes with
    | false=>exact absurd (hyn rfl) (by simp)
    | true =>
     have hfs:q0O (q0e d (b.getD [])) true false (some e.b) []=q0b [] (q0e d (b.getD []) e.b):=by simp [q0O,f0,hb0]
     obtain ⟨q',hq',hc⟩:=hcall q hq
     refine ⟨q',hq',?_⟩
     simp only [Bool.false_eq_true,if_false,q00,q02,q04,q28,q27,q0M,hb0,decide_false,q01,q0d,q0J,Bool.not_true,q6u,hc,q5U,q2I,Option.getD_some,q0r]
     rw [qjl n _ hlen hne]
     simp only [q1E,q00,qa5,q02,q04,q0E,q0D,q0x,q28,q27,q01,hfs]
     rfl
   | true =>
    have hfs:q0O (q0e d (b.getD [])) yes true (some e.b) []=if yes=true then q0b [0] (q0e d (b.getD []) e.b) else [0]:=by cases yes<;>simp [q0O,f0,hb0,ins]
    simp only [if_true,q0Z,qh2,q00,q02,q04,q01,Bool.false_eq_true,if_false]
    rw [put0]
    simp only [q0G,q0u,q0A,q0q,List.length_cons,List.length_nil,List.take_succ_cons,List.take_zero,q0d,q1E,q00,q02,q04,q0E,q0D,q0x,q28,q27,q0M,hb0,decide_false,q01,Bool.false_eq_true,if_false]
    cases yes with
    | false =>
     refine ⟨q,hq,?_⟩
     simp only [q0J,Bool.not_false,q01,if_true,qa5,q00,q02,hfs]
     rfl
    | true =>
     obtain ⟨q',hq',hc⟩:=hcall q hq
     refine ⟨q',hq',?_⟩
     simp only [q0J,Bool.not_true,q01,Bool.false_eq_true,if_false,q6u,hc,q00,q02,q04,q5U,q2I,Option.getD_some,q0r]
     rw [show ([0].map rI)=[0].map rI from rfl,show (0+1:Nat)=[(0:Int)].length from rfl,li82_2 n _ hlen _ _ _ _ _ _ _ _ _ _ _ _ _ _ _ [0] (by simp) (by simp)]
     simp only [q00,qa5,q02,q04,q0E,q0D,q0x,q28,q27,q01,hfs]
     rfl
  ·rw [if_pos (by simp [h2])]
   simp only [if_neg (fun h=>h2 h.2:¬ (e.a=who∧q1Z e.f1 e.t2 d=true))]
   exact ⟨q,hq,rfl⟩
 ·rw [if_pos (by simp [h1])]
  simp only [if_neg (fun h=>h1 h.1:¬ (e.a=who∧q1Z e.f1 e.t2 d=true))]
  exact ⟨q,hq,rfl⟩
end Go.VE
namespace Go.VE
open Go.RowKit Go.Proofs
theorem q1t {acc:List Int} (hu:Up acc) (h:∀ z∈acc,0≤z∧z≤99):acc.length≤100:=by
 have:=qa8 acc 0 99 hu h
 omega
def en82 (d who:Int) (kin:D) (no yes:Bool) (s:Nat×Bool×List Int×Mr):Nat×List Yr:=match s.2.2.1 with
 | []=>(0,qi5 d who kin no yes s.1 s.2.2.2)
 | y::r=>(if s.2.1=true then 1 else 2,qde d who kin no yes s.1 (y::r) s.2.2.2)
theorem qcX (d who:Int) (kin:D) (no yes:Bool) (m:Nat) (j:Bool) (q:Mr):en82 d who kin no yes (m,j,[],q)=(0,qi5 d who kin no yes m q):=rfl
theorem q8i (d who:Int) (kin:D) (no yes:Bool) (m:Nat) (j:Bool) {acc:List Int} (q:Mr) (h:acc≠[]):en82 d who kin no yes (m,j,acc,q)=(if j=true then 1 else 2,qde d who kin no yes m acc q):=by
 cases acc with
 | nil=>exact absurd rfl h
 | cons _ _=>rfl
def Q82 (d who:Int) (kin:D) (no yes:Bool) (T:List Int) (r:Out):Prop:=∃ (acc:List Int) (q:Mr),Up acc∧acc.length≤900 ∧
 ((acc≠[]∧∃ j:Nat,(((j=2∨j=4)∧acc=T)∨((j=3∨j=5)∧ins 0 acc=T))∧r=some (j,qdc d who kin no yes acc q))∨(r=some (0,tz82 d who kin no yes q)∧acc=[]∧ins 0 []=T))
theorem qdL {L:Int→List Int} {yes no:Bool} (hyn:yes=false→no=true) {w:Int} (hw:¬ w=0) (hL:L w≠[]) (acc:List Int):q0O L yes no (some w) acc≠[]:=by
 unfold q0O
 have:¬ f0 (some w)=0:=hw
 cases yes with
 | false=>have:=hyn rfl;subst this;simp;exact q80 _ _
 | true=>simp only [this,false_or,Bool.true_eq_false,if_false];exact q3t _ hL
set_option maxRecDepth 20000 in
theorem l82 (n:Nat) (a b c:Option (List E9)) (o:Option (List E5)) (d who:Int) (no yes:Bool) (hyn:yes=false→no=true) (ha:qe7 (a.getD [])) (hla:(a.getD []).length≤1000000) (hb:q5q (b.getD []))
  (hrec:∀ (w:Int) (q:Mr),1≤w→w≤99→q6p d (b.getD []) q→∃ q':Mr,q6p d (b.getD []) q'∧FN (n+4) 1000161 [q0U a b c o,il d,.mp false q.1 q.2,il w,q0U a b c o,il d]=some (0,[.d (dI (some (q0e d (b.getD []) w))),.d (q0U a b c o),.d (il d),.d (.mp false q'.1 q'.2)])) :
  Q82 d who (q0U a b c o) no yes (qbb (q0e d (b.getD [])) yes no (q11 d who (below (a.getD []) (a.getD []).length)) []) (q0l [L82_3 (RP (n+4)),L82_5 (RP (n+4)),L82_7 (RP (n+4))] M0 0 (qi5 d who (q0U a b c o) no yes (a.getD []).length ([],[]))):=by
 generalize hT:qbb (q0e d (b.getD [])) yes no (q11 d who (below (a.getD []) (a.getD []).length)) []=T
 refine q4P (σ:=Nat×Bool×List Int×Mr) [L82_3 (RP (n+4)),L82_5 (RP (n+4)),L82_7 (RP (n+4))] (en82 d who (q0U a b c o) no yes) (fun s=>s.1)
  (fun s=>s.1≤(a.getD []).length∧Up s.2.2.1∧(∀ z∈s.2.2.1,0≤z∧z≤99)∧q6p d (b.getD []) s.2.2.2∧qbb (q0e d (b.getD [])) yes no (q11 d who (below (a.getD []) s.1)) s.2.2.1=T)
  (Q82 d who (q0U a b c o) no yes T) ?_ M0 ((a.getD []).length,true,[],([],[])) ⟨Nat.le_refl _,by simp,by simp,qcB _ _,hT⟩ (by unfold M0;simp only;omega)
 clear hT
 rintro ⟨m,j,acc,q⟩ k ⟨g1,g2,g3,g4,g5⟩ ih
 simp only at g1 g2 g3 g4 g5 ih
 have gl:=q1t g2 g3
 cases m with
 | zero =>
  rw [q4l] at g5
  have g6:ins 0 acc=T:=by rw [←g5];simp [q11,qbb,q0O,f0]
  cases acc with
  | nil =>
   refine ⟨L82_3 (RP (n+4)),rfl,[],q,g2,by simp,.inr ⟨?_,rfl,g6⟩⟩
   simp [qcX,qi5,tz82,L82_3]
  | cons y r =>
   cases j with
   | true =>
    refine ⟨L82_5 (RP (n+4)),rfl,y::r,q,g2,by omega,.inl ⟨by simp,3,.inr ⟨.inl rfl,g6⟩,?_⟩⟩
    simp [en82,qde,qdc,L82_5]
   | false =>
    refine ⟨L82_7 (RP (n+4)),rfl,y::r,q,g2,by omega,.inl ⟨by simp,5,.inr ⟨.inr rfl,g6⟩,?_⟩⟩
    simp [en82,qde,qdc,L82_7]
 | succ m =>
  obtain ⟨e,he⟩:∃ e,(a.getD [])[m]?=some e:=⟨_,List.getElem?_eq_getElem (by omega)⟩
  rw [q3m he,q11] at g5
  have hw:IntKind.i64.wrap (((m:Nat):Int) - 1)=((m:Nat):Int) - 1:=q0f (by omega) (by omega)
  have hbe:=ha e (List.mem_of_getElem? he)
  have hb0:¬ e.b=0:=by omega
  have hne:q0e d (b.getD []) e.b≠[]:=fun h=>by
   obtain ⟨z,hz⟩:=q4T hb (d:=d) _ e.b (Nat.le_refl _) hbe.1
   rw [h] at hz;simp at hz
  have hlen:=q3i (d:=d) hb hbe.1
  have hcall:=fun q hq=>hrec e.b q hbe.1 hbe.2 hq
  have hfne:=qdL (L:=q0e d (b.getD [])) hyn hb0 hne acc
  have hfu:=q8P (q0e d (b.getD [])) yes no (some e.b) g2
  have hfr:∀ z∈q0O (q0e d (b.getD [])) yes no (some e.b) acc,0≤z∧z≤99:=fun z hz=>by
   rcases (q7K _ _ _ _ _ _).1 hz with h | ⟨rfl,_⟩ | ⟨_,_,h⟩
   ·exact g3 z h
   ·omega
   ·have:=q1c hb _ e.b z (Nat.le_refl _) hbe.1 h;omega
  have hfl:=q1t hfu hfr
  cases acc with
  | nil =>
   obtain ⟨q',hq',hr⟩:=rd82_3 n a b c o d who no yes m e he hb0 hw hne (by omega) hcall hyn q g4 k
   refine ⟨L82_3 (RP (n+4)),rfl,?_⟩
   rw [qcX]
   simp only
   rw [hr]
   by_cases hc:e.a=who∧q1Z e.f1 e.t2 d=true
   ·rw [if_pos hc] at g5 ⊢
    rw [qbb] at g5
    by_cases h3:q1C e.f2 e.t1 d=true
    ·rw [if_pos h3] at g5 ⊢
     refine ⟨q0O (q0e d (b.getD [])) yes no (some e.b) [],q',hfu,by omega,.inl ⟨hfne,_,.inl ⟨?_,g5⟩,rfl⟩⟩
     cases no<;>simp
    ·rw [if_neg h3] at g5 ⊢
     have:=ih (m,no,q0O (q0e d (b.getD [])) yes no (some e.b) [],q') ⟨by simp only;omega,hfu,hfr,hq',g5⟩ (by simp only;omega)
     rw [q8i _ _ _ _ _ _ _ _ hfne] at this
     exact this
   ·rw [if_neg hc] at g5 ⊢
    exact ih (m,true,[],q') ⟨by simp only;omega,g2,g3,hq',g5⟩ (by simp only;omega)
  | cons y r =>
   cases j with
   | true =>
    obtain ⟨q',hq',hr⟩:=rd82_5 n a b c o d who no yes m e he hb0 hw hne (by omega) hcall (y::r) q g2 (by omega) g4 k
    refine ⟨L82_5 (RP (n+4)),rfl,?_⟩
    rw [q8i _ _ _ _ _ _ _ _ (by simp)]
    simp only
    rw [hr]
    by_cases hc:e.a=who∧q1Z e.f1 e.t2 d=true
    ·rw [if_pos hc] at g5 ⊢
     rw [qbb] at g5
     by_cases h3:q1C e.f2 e.t1 d=true
     ·rw [if_pos h3] at g5 ⊢
      exact ⟨q0O (q0e d (b.getD [])) yes no (some e.b) (y::r),q',hfu,by omega,.inl ⟨hfne,_,.inl ⟨.inl rfl,g5⟩,rfl⟩⟩
     ·rw [if_neg h3] at g5 ⊢
      have:=ih (m,true,q0O (q0e d (b.getD [])) yes no (some e.b) (y::r),q') ⟨by simp only;omega,hfu,hfr,hq',g5⟩ (by simp only;omega)
      rw [q8i _ _ _ _ _ _ _ _ hfne] at this
      exact this
    ·rw [if_neg hc] at g5 ⊢
     exact ih (m,true,y::r,q') ⟨by simp only;omega,g2,g3,hq',g5⟩ (by simp only;omega)
   | false =>
    obtain ⟨q',hq',hr⟩:=rd82_7 n a b c o d who no yes m e he hb0 hw hne (by omega) hcall (y::r) q g2 (by omega) g4 k
    refine ⟨L82_7 (RP (n+4)),rfl,?_⟩
    rw [q8i _ _ _ _ _ _ _ _ (by simp)]
    simp only
    rw [hr]
    by_cases hc:e.a=who∧q1Z e.f1 e.t2 d=true
    ·rw [if_pos hc] at g5 ⊢
     rw [qbb] at g5
     by_cases h3:q1C e.f2 e.t1 d=true
     ·rw [if_pos h3] at g5 ⊢
      exact ⟨q0O (q0e d (b.getD [])) yes no (some e.b) (y::r),q',hfu,by omega,.inl ⟨hfne,_,.inl ⟨.inr rfl,g5⟩,rfl⟩⟩
     ·rw [if_neg h3] at g5 ⊢
      have:=ih (m,false,q0O (q0e d (b.getD [])) yes no (some e.b) (y::r),q') ⟨by simp only;omega,hfu,hfr,hq',g5⟩ (by simp only;omega)
      rw [q8i _ _ _ _ _ _ _ _ hfne] at this
      exact this
    ·rw [if_neg hc] at g5 ⊢
     exact ih (m,false,y::r,q') ⟨by simp only;omega,g2,g3,hq',g5⟩ (by simp only;omega)
set_option maxRecDepth 20000 in
theorem s82 (n:Nat) (a b c:Option (List E9)) (o:Option (List E5)) (d who:Int) (hd:0≤d∧d≤4166) (ha:qe7 (a.getD [])) (hb:q5q (b.getD [])) (hla:(a.getD []).length≤1000000) (hlb:(b.getD []).length≤1000000) (hlc:(c.getD []).length≤1000000) (hlo:(o.getD []).length≤1000000) :
  FN (n+105) 82 [d9 a,d9 b,d9 c,d5 o,il who,il d]=some (0,[.d (dI (some (q1j (a.getD []) (b.getD []) (c.getD []) (o.getD []) d who)))]):=by
 rw [F82]
 have hloop:=l82 (n+100) a b c o d who (goP (a.getD []) (c.getD []) (o.getD []) d who).2 (goP (a.getD []) (c.getD []) (o.getD []) d who).1 (qfs _ _ _ _ _) ha hla hb
  (fun w q hw1 hw2 hq=>s161 a b c o d hb hlb 99 n w q hw1 (by omega) hw2 hq)
 rw [show n+100+4=n+104 from rfl] at hloop
 have hp:∀ k:List D→Out,(RP (n+104)).ptrW 4 (.dp [d9 a,d9 b,d9 c,d5 o] 0) k=k [d9 a,d9 b,d9 c,d5 o]:=fun k=>q1O _ 4 k rfl
 have w2:IntKind.i64.wrap (((a.getD []).length:Int) - 1)=((a.getD []).length:Int) - 1:=q0f (by omega) (by omega)
 simp only [G82,q06,s163 (n+97) a b c o d who hd hla hlc hlo,q00,q02,q04,q5u,q3Z,hp,q07,q4R,q03,q1o,w2,q0r,qja]
 simp only [qi5,tz82,q0U] at hloop
 rw [show q1j (a.getD []) (b.getD []) (c.getD []) (o.getD []) d who=qbb (q0e d (b.getD [])) (goP (a.getD []) (c.getD []) (o.getD []) d who).1 (goP (a.getD []) (c.getD []) (o.getD []) d who).2 (q11 d who (below (a.getD []) (a.getD []).length)) [] from rfl]
 generalize qbb (q0e d (b.getD [])) (goP (a.getD []) (c.getD []) (o.getD []) d who).1 (goP (a.getD []) (c.getD []) (o.getD []) d who).2 (q11 d who (below (a.getD []) (a.getD []).length)) []=T at hloop ⊢
 obtain ⟨acc,q,hu,hl,⟨hne,j,hj,hr⟩ | ⟨hr,_,hT⟩⟩:=hloop
 ·rw [hr]
  have hput:=q1n (n+100) acc 0 (by omega) hu
  rw [show n+100+4=n+104 from rfl] at hput
  rcases hj with ⟨rfl | rfl,rfl⟩ | ⟨rfl | rfl,rfl⟩
  ·simp [qdc,q51]
  ·simp [qdc,q51]
  ·simp [qdc,hput,q51]
  ·simp [qdc,hput,q51]
 ·rw [hr,← hT]
  simp only [tz82,q00,q0M,decide_true,q01,if_true,q0Z,qh2,q02,q04,Bool.false_eq_true,if_false]
  rw [put0]
  simp [dI,dSl,ins,rI]
end Go.VE
namespace Go.VE
open Go.RowKit Go.Proofs
attribute [local simp] q5U q6u
theorem q1H {a b c:List E9} {o:List E5} (h:q0k a b c o=true):(∀ e∈a,q2n e)∧(∀ e∈b,q2o e)∧(∀ e∈c,q2p e)∧(∀ e∈o,q4F e):=by
 unfold q0k at h
 simp only [Bool.and_eq_true] at h
 obtain ⟨⟨⟨⟨_,h1⟩,h2⟩,h3⟩,h4⟩:=h
 exact ⟨fun e he=>of_decide_eq_true (q7E h1 e he),fun e he=>of_decide_eq_true (q7E h2 e he),fun e he=>of_decide_eq_true (q7E h3 e he),fun e he=>of_decide_eq_true (q7E h4 e he)⟩
theorem q4t {k:Int} {l:List E9} {e:E9} (h:e∈q0p k l):e∈l:=(List.mem_filter.1 h).1
structure GoodK (a b c:List E9) (o:List E5):Prop where
 fam:qe7 a
 less:q5q b
 by0:By0 c
 la:a.length≤60
 lb:b.length≤60
 lc:c.length≤60
 lo:o.length≤60
theorem q1f {a b c:List E9} {o:List E5} (h:q0k a b c o=true):GoodK a b c o:=by
 obtain ⟨p1,p2,p3,_⟩:=q1H h
 obtain ⟨l1,l2,l3,l4⟩:=q0Y h
 exact ⟨fun e he=>(p1 e he).2.2.1,fun e he=>⟨(p2 e he).2.2.1.1,by have:=(p2 e he).2.2.1.2;omega,(p2 e he).2.1.2⟩,fun e he=>(p3 e he).2.2.1.1,l1,l2,l3,l4⟩
theorem q24 (k:Int) (l:List E9):(q0p k l).length≤l.length:=List.length_filter_le _ _
theorem qha (k:Int) (l:List E5):(q2Q k l).length≤l.length:=List.length_filter_le _ _
theorem GoodK.cnt {a b c:List E9} {o:List E5} (h:GoodK a b c o) (k:Int):GoodK (q0p k a) (q0p k b) (q0p k c) (q2Q k o) :=
 ⟨fun e he=>h.fam e (q4t he),fun e he=>h.less e (q4t he),fun e he=>h.by0 e (q4t he),Nat.le_trans (q24 ..) h.la,Nat.le_trans (q24 ..) h.lb,Nat.le_trans (q24 ..) h.lc,Nat.le_trans (qha ..) h.lo⟩
theorem s199 (n:Nat) (o:Option (List Int)) (x:Int) (hl:(o.getD []).length≤4611686018427387904):FN (n+1) 199 [dI o,il x]=some (0,[.d (il (q77 (fun y=>decide (x=y)) (o.getD [])))]):=by
 rw [F199]
 simp only [G199,q2I,q03,q0r]
 have:=q0C (β:=Unit) (o.getD []) hl (L199_0 (RP n)) (fun i _=>[.d (dI o),.d (il x),.d (il (o.getD []).length),.d (il i)]) (fun _ _=>True)
  (fun i r _=>match fnd (fun y=>decide (x=y)) r with
   | some j=>some (0,[.d (il ((i+j:Nat):Int))])
   | none=>some (1,[]))
  (fun _ k _=>by simp [L199_0,fnd]) ?_ M0 () trivial (q1X hl)
 ·simp only [Int.natCast_zero,Nat.zero_add] at this
  rw [this]
  unfold q77
  cases fnd (fun y=>decide (x=y)) (o.getD [])<;>simp
 ·intro i e r _ k hi hd hlt hw _ ih
  have ih':=ih () trivial
  have hlt':(i:Int) < ((o.getD []).length:Int):=by omega
  simp only [L199_0,q02,q04,q0n,q01,hlt',decide_true,if_true,q2R hi,rI,q07,q0M,q03,q0i,hw,q0d,decide_eq_true_eq]
  by_cases h:x=e
  ·subst h;simp [fnd]
  ·rw [if_neg h]
   have h':fnd (fun y=>decide (x=y)) (e::r)=(fnd (fun y=>decide (x=y)) r).map (·+1):=by simp [fnd,h]
   rw [h']
   refine Eq.trans ih' ?_
   cases fnd (fun y=>decide (x=y)) r with
   | none=>rfl
   | some j=>simp [Nat.add_assoc,Nat.add_comm 1 j]
theorem s149 (n:Nat) (o:Option (List Int)) (x:Int) (hl:(o.getD []).length≤4611686018427387904):FN (n+2) 149 [dI o,il x]=some (0,[.d (bl (decide (x∈o.getD [])))]):=by
 rw [F149]
 simp only [G149,q06,s199 n o x hl,q00,q02,q03,q1S,q0d,q6H]
 have:((o.getD []).any fun y=>decide (x=y))=decide (x∈o.getD []):=by
  rw [Bool.eq_iff_iff,q31,decide_eq_true_iff]
  constructor
  ·rintro ⟨y,hy,h⟩;have:=of_decide_eq_true h;subst this;exact hy
  ·intro h;exact ⟨x,h,by simp⟩
 rw [this]
def q1Q (k:Int) (a b c:Option (List E9)) (o:Option (List E5)) (d p:Int):List Int:=q1j (q0p k (a.getD [])) (q0p k (b.getD [])) (q0p k (c.getD [])) (q2Q k (o.getD [])) d p
section
variable {a b c:Option (List E9)} {o:Option (List E5)}
theorem k82 (n:Nat) (d who:Int) (hd:0≤d∧d≤4166) (g:GoodK (a.getD []) (b.getD []) (c.getD []) (o.getD [])) :
  FN (n+105) 82 [d9 a,d9 b,d9 c,d5 o,il who,il d]=some (0,[.d (dI (some (q1j (a.getD []) (b.getD []) (c.getD []) (o.getD []) d who)))]) :=
 s82 n a b c o d who hd g.fam g.less (by have:=g.la;omega) (by have:=g.lb;omega) (by have:=g.lc;omega) (by have:=g.lo;omega)
theorem qf8 (d p:Int) (g:GoodK (a.getD []) (b.getD []) (c.getD []) (o.getD [])):(q1j (a.getD []) (b.getD []) (c.getD []) (o.getD []) d p).length≤100 :=
 q1t (q1v ..) fun _ hz=>q1d g.fam g.less hz
theorem k86 (n:Nat) (d who f:Int) (hd:0≤d∧d≤4166) (g:GoodK (a.getD []) (b.getD []) (c.getD []) (o.getD [])) :
  FN (n+106) 86 [d9 a,d9 b,d9 c,d5 o,il who,il f,il d]=some (0,[.d (il (q3b (q1j (a.getD []) (b.getD []) (c.getD []) (o.getD []) d who) f))]):=by
 rw [F86]
 have hlen:=qf8 d who g
 obtain ⟨x,r,hx,_⟩:=qbc (q1v (a.getD []) (b.getD []) (c.getD []) (o.getD []) d who) (fun z hz=>(q1d g.fam g.less hz).1) (q78 g.fam g.less)
 simp only [G86,q06,k82 n d who hd g,q00,q02]
 rw [←forP _ f x r hx]
 have h149:=s149 (n+103) (some (q1j (a.getD []) (b.getD []) (c.getD []) (o.getD []) d who)) f (by simp only [Option.getD_some];omega)
 have hrow:∀ q:List D→Out,(RP (n+105)).rowD 1 (dI (some (q1j (a.getD []) (b.getD []) (c.getD []) (o.getD []) d who))) (il 0) q=q (rI x):=fun q=>q2R (i:=0) (by rw [hx];rfl) q
 simp only [Option.getD_some] at h149
 simp only [h149,q00,q02,q2I,Option.getD_some,q03,q38,q01,q0K,s84,q0d,decide_eq_true_eq,hrow,rI,q07,q0y]
 generalize q1j (a.getD []) (b.getD []) (c.getD []) (o.getD []) d who=l at hx ⊢
 by_cases h:1 < l.length
 ·rw [if_pos (by omega)];simp [h]
 ·rw [if_neg (by omega)];simp [h]
end
theorem q4V {a b c:Option (List E9)} {o:Option (List E5)} {ps fs:Bool} {p f:Int} {ds:List Int} (k:Int) (h:q0R (q0k (a.getD []) (b.getD []) (c.getD []) (o.getD [])) ps fs p f ds=0):GoodK ((kn9 k a).getD []) ((kn9 k b).getD []) ((kn9 k c).getD []) ((kn5 k o).getD []):=by
 rw [q0m,q0m,q0m,q2w]
 exact (q1f (q15 h)).cnt k
section
variable (n:Nat) (p f d k:Int) (a b c:Option (List E9)) (o:Option (List E5)) (ha:(a.getD []).length*72≤140737488351232) (hb:(b.getD []).length*72≤140737488351232) (hc:(c.getD []).length*72≤140737488351232) (ho:(o.getD []).length*40≤140737488351232)
include ha hb hc ho
theorem q9Y (ps fs:Bool):FN (n+10) 73 [il p,il f,bl ps,bl fs,d9 a,d9 b,d9 c,d5 o,.sl 1 [[il d],[il k]]]=q4C (q0R (q0k (a.getD []) (b.getD []) (c.getD []) (o.getD [])) ps fs p f [d,k]) (q0U (kn9 k a) (kn9 k b) (kn9 k c) (kn5 k o)):=by
 have h73:=s73 n p f ps fs a b c o [d] k (by simp) ha hb hc ho
 rw [show dI (some ([d]++[k]))=.sl 1 [[il d],[il k]] from rfl] at h73
 exact h73
set_option maxRecDepth 20000 in
theorem s14:FN (n+105) 14 [d9 a,d9 b,d9 c,d5 o,il f,il d,il k]=if q0R (q0k (a.getD []) (b.getD []) (c.getD []) (o.getD [])) false true 0 f [d,k]=0 then some (0,[.d (dI (some (q0e d (q0p k (b.getD [])) f))),.d (il 0)]) else some (0,[.d (dI none),.d (il (q0R (q0k (a.getD []) (b.getD []) (c.getD []) (o.getD [])) false true 0 f [d,k]))]):=by
 rw [F14]
 simp only [G14,q06,s79,q00,q02,q04,q0u,q1e,q9Y (n+94) 0 f d k a b c o ha hb hc ho false true]
 by_cases he:q0R (q0k (a.getD []) (b.getD []) (c.getD []) (o.getD [])) false true 0 f [d,k]=0
 ·have g:=q4V k he
  have hf:1≤f∧f≤99:=by
   unfold q0R at he
   split at he
   ·simp at he
   ·split at he
    ·simp at he
    ·split at he
     ·simp at he
     ·rename_i h2;simpa using h2
  have hlb:=g.lb
  obtain ⟨q',_,h161⟩:=s161 (kn9 k a) (kn9 k b) (kn9 k c) (kn5 k o) d g.less (by omega) 99 n f ([],[]) hf.1 (by omega) hf.2 (qcB _ _)
  rw [if_pos he]
  simp only [q4C,he,if_true,q00,q02,q04,q03,q0y,ne_eq,not_true_eq_false,decide_false,q01,Bool.false_eq_true,if_false,qja,q6u,h161,q5U,q0d]
  rw [q0m]
 ·rw [if_neg he]
  simp only [q4C,if_neg he,q00,q02,q04,q03,q0y,q01]
  rw [if_pos (by simpa using he)]
  simp [dI,dSl]
set_option maxRecDepth 20000 in
theorem s16:FN (n+106) 16 [d9 a,d9 b,d9 c,d5 o,il p,il d,il k]=if q0R (q0k (a.getD []) (b.getD []) (c.getD []) (o.getD [])) true false p 0 [d,k]=0 then some (0,[.d (dI (some (q1Q k a b c o d p))),.d (il 0)]) else some (0,[.d (dI none),.d (il (q0R (q0k (a.getD []) (b.getD []) (c.getD []) (o.getD [])) true false p 0 [d,k]))]):=by
 rw [F16]
 simp only [G16,q06,s72,q00,q02,q04,q0u,q1e,q9Y (n+95) p 0 d k a b c o ha hb hc ho true false]
 by_cases he:q0R (q0k (a.getD []) (b.getD []) (c.getD []) (o.getD [])) true false p 0 [d,k]=0
 ·have g:=q4V k he
  rw [if_pos he]
  have hp:∀ q:List D→Out,(RP (n+105)).ptrW 4 (q0U (kn9 k a) (kn9 k b) (kn9 k c) (kn5 k o)) q=q [d9 (kn9 k a),d9 (kn9 k b),d9 (kn9 k c),d5 (kn5 k o)]:=fun q=>q1O _ 4 q rfl
  simp only [q4C,he,if_true,q00,q02,q04,q03,q0y,ne_eq,not_true_eq_false,decide_false,q01,Bool.false_eq_true,if_false,hp,q07,q0g,k82 n d p (q1s he).1 g,q0d]
  rw [q0m,q0m,q0m,q2w];rfl
 ·rw [if_neg he]
  simp only [q4C,if_neg he,q00,q02,q04,q03,q0y,q01]
  rw [if_pos (by simpa using he)]
  simp [dI,dSl]
set_option maxRecDepth 20000 in
theorem s18:FN (n+107) 18 [d9 a,d9 b,d9 c,d5 o,il p,il d,il k]=if q0R (q0k (a.getD []) (b.getD []) (c.getD []) (o.getD [])) true false p 0 [d,k]=0 then some (0,[.d (il (q1g (q0p k (a.getD [])) (q0p k (c.getD [])) (q2Q k (o.getD [])) d p)),.d (il 0)]) else some (0,[.d (il 0),.d (il (q0R (q0k (a.getD []) (b.getD []) (c.getD []) (o.getD [])) true false p 0 [d,k]))]):=by
 rw [F18]
 simp only [G18,q06,s16 n p d k a b c o ha hb hc ho]
 by_cases he:q0R (q0k (a.getD []) (b.getD []) (c.getD []) (o.getD [])) true false p 0 [d,k]=0
 ·have g:=(q1f (q15 he)).cnt k
  rw [if_pos he,if_pos he]
  have hr:∀ z∈q1Q k a b c o d p,0≤z:=fun z hz=>(q1d g.fam g.less hz).1
  obtain ⟨x,r,hx,_⟩:=qbc (q1v _ _ _ _ d p) hr (q78 g.fam g.less)
  have hlen:(q1Q k a b c o d p).length≤100:=q1t (q1v ..) fun z hz=>q1d g.fam g.less hz
  have hpos:0 < (q1Q k a b c o d p).length:=by rw [show q1Q k a b c o d p=x::r from hx];simp
  obtain ⟨y,hy⟩:∃ y,(q1Q k a b c o d p)[(q1Q k a b c o d p).length - 1]?=some y:=⟨_,List.getElem?_eq_getElem (by omega)⟩
  have hgl:=qjD g.fam g.less g.by0 hx hy
  have hw:IntKind.i64.wrap (((q1Q k a b c o d p).length:Int) - 1)=(((q1Q k a b c o d p).length - 1:Nat):Int):=by rw [q0f (by omega) (by omega)];omega
  have h0:∀ q:List D→Out,(RP (n+106)).rowD 1 (dI (some (q1Q k a b c o d p))) (il 0) q=q (rI x):=fun q=>q2R (i:=0) (by rw [show q1Q k a b c o d p=x::r from hx];rfl) q
  have h1:∀ q:List D→Out,(RP (n+106)).rowD 1 (dI (some (q1Q k a b c o d p))) (il (((q1Q k a b c o d p).length - 1:Nat):Int)) q=q (rI y):=fun q=>q2R (o:=some (q1Q k a b c o d p)) hy q
  simp only [q00,q02,q04,q03,q0y,ne_eq,not_true_eq_false,decide_false,q01,Bool.false_eq_true,if_false,q2I,Option.getD_some,q1o,hw,h0,h1,rI,q07,q0M,s84,q0d]
  rw [←hgl]
 ·rw [if_neg he,if_neg he]
  simp only [q00,q02,q04,q03,q0y,q01]
  rw [if_pos (by simpa using he)]
  simp
set_option maxRecDepth 20000 in
theorem s20:FN (n+107) 20 [d9 a,d9 b,d9 c,d5 o,il p,il f,il d,il k]=if q0R (q0k (a.getD []) (b.getD []) (c.getD []) (o.getD [])) true true p f [d,k]=0 then some (0,[.d (il (q3b (q1Q k a b c o d p) f)),.d (il 0)]) else some (0,[.d (il 0),.d (il (q0R (q0k (a.getD []) (b.getD []) (c.getD []) (o.getD [])) true true p f [d,k]))]):=by
 rw [F20]
 simp only [G20,q06,q0K,q0u,q1e,q9Y (n+96) p f d k a b c o ha hb hc ho true true]
 by_cases he:q0R (q0k (a.getD []) (b.getD []) (c.getD []) (o.getD [])) true true p f [d,k]=0
 ·have g:=q4V k he
  rw [if_pos he]
  have hp:∀ q:List D→Out,(RP (n+106)).ptrW 4 (q0U (kn9 k a) (kn9 k b) (kn9 k c) (kn5 k o)) q=q [d9 (kn9 k a),d9 (kn9 k b),d9 (kn9 k c),d5 (kn5 k o)]:=fun q=>q1O _ 4 q rfl
  simp only [q4C,he,if_true,q00,q02,q04,q03,q0y,ne_eq,not_true_eq_false,decide_false,q01,Bool.false_eq_true,if_false,hp,q07,q0g,k86 n d p f (q1s he).1 g,q0d]
  rw [q0m,q0m,q0m,q2w];rfl
 ·rw [if_neg he]
  simp only [q4C,if_neg he,q00,q02,q04,q03,q0y,q01]
  rw [if_pos (by simpa using he)]
  simp
end
end Go.VE
namespace Go.VE
open Go.RowKit Go.Proofs
theorem qeU {l:List Int} (h:l≠[]):nzO l=some l:=by
 cases l with
 | nil=>exact absurd rfl h
 | cons _ _=>rfl
section
variable (n:Nat) (p f d k:Int) (a b c:Option (List E9)) (o:Option (List E5)) (ha:(a.getD []).length*72≤140737488351232) (hb:(b.getD []).length*72≤140737488351232) (hc:(c.getD []).length*72≤140737488351232) (ho:(o.getD []).length*40≤140737488351232)
include ha hb hc ho
end
end Go.VE
namespace Go.VE
open Go.RowKit Go.Proofs
def q0H (l:List E9):List Int:=q0b [] (l.map (·.a))
theorem q63 (l:List E9) (p:Int):p∈q0H l↔∃ e∈l,e.a=p:=by
 unfold q0H;rw [q19];simp
theorem q1l (l:List E9):(q0H l).length≤l.length:=by
 have:=q4c (l.map (·.a)) []
 simpa [q0H] using this
theorem qcy {l:List E9} (h:l≠[]):q0H l≠[]:=q3t [] (by simpa using h)
set_option maxRecDepth 20000 in
theorem s111 (n:Nat) (a:Option (List E9)) (b c o:D) (hl:(a.getD []).length≤1000000):FN (n+5) 111 [d9 a,b,c,o]=match q0H (a.getD []) with
  | []=>some (1,[.d (dI none)])
  | y::r=>some (0,[.r ((y::r).map rI)]):=by
 rw [F111]
 simp only [G111,q4R,q03,q0r]
 by_cases hne:a.getD []=[]
 ·rw [hne]
  have h0:q0l [L111_0 (RP (n+4)),L111_1 (RP (n+4))] M0 0 [.d (d9 a),.d (il (([]:List E9).length:Int)),.d (il 0)]=some (0,[]) :=
   q1Y (σ:=Unit) [L111_0 (RP (n+4)),L111_1 (RP (n+4))] (fun _=>(0,[.d (d9 a),.d (il (([]:List E9).length:Int)),.d (il 0)])) (fun _=>0) (fun _=>True) (fun _=>some (0,[])) (fun s k _ _=>⟨_,rfl,by simp [L111_0]⟩) M0 () trivial (by unfold M0;omega)
  rw [h0]
  rfl
 ·have hL:((a.getD []).map (·.a)).length=(a.getD []).length:=by simp
  have:=q7Z ((a.getD []).map (·.a)) (by simpa using hl) (by simpa using hne) (L111_0 (RP (n+4))) (L111_1 (RP (n+4))) (fun i=>[.d (d9 a),.d (il (a.getD []).length),.d (il (i:Nat))])
   (fun i acc=>[.n acc.length,.n acc.length,.d (d9 a),.d (il (a.getD []).length),.d (il (i:Nat)),.r (acc.map rI)]) (fun acc=>some (1,[.n acc.length,.n acc.length,.r (acc.map rI)])) ?_ ?_ ?_
  ·rw [show il 0=il ((0:Nat):Int) from rfl,this]
   rw [show q0b [] ((a.getD []).map (·.a))=q0H (a.getD []) from rfl]
   have hp:=qcy hne
   cases hq:q0H (a.getD []) with
   | nil=>exact absurd hq hp
   | cons y r=>simp;exact qi8 r
  ·intro acc k
   rw [hL]
   simp [L111_1]
  ·intro x k hi hlt
   rw [hL] at hlt
   obtain ⟨e,he,rfl⟩:∃ e,(a.getD [])[0]?=some e∧e.a=x:=by
    rw [List.getElem?_map] at hi
    cases h0:(a.getD [])[0]? with
    | none=>rw [h0] at hi;simp at hi
    | some e=>rw [h0] at hi;exact ⟨e,rfl,by simpa using hi⟩
   have h9:=q37 (Fn:=FN (n+4)) (FnD:=q1z Tryz.prog (cf3 tb Tryz.prog) (FN (n+4))) (m:=M0) he
   simp only [L111_0,q02,q04,q0n,q01,Int.natCast_zero,hlt,decide_true,if_true]
   rw [show ((il 0):D)=il ((0:Nat):Int) from rfl,h9]
   simp only [r9,q07,q0g,q06,q0Z,qh2,q00,q02,q04,q01,Bool.false_eq_true,if_false]
   rw [put0]
   simp only [q03,q0i,q0G,q0u,q0A,q0q,List.length_cons,List.length_nil,List.take_succ_cons,List.take_zero,Int.natCast_zero]
   rw [show IntKind.i64.wrap (0+1)=((1:Nat):Int) from rfl]
  ·intro i x acc k hi hlt hw hu hal
   rw [hL] at hlt
   obtain ⟨e,he,rfl⟩:∃ e,(a.getD [])[i]?=some e∧e.a=x:=by
    rw [List.getElem?_map] at hi
    cases h0:(a.getD [])[i]? with
    | none=>rw [h0] at hi;simp at hi
    | some e=>rw [h0] at hi;exact ⟨e,rfl,by simpa using hi⟩
   have hput:=q1n n acc e.a (by omega) hu
   simp only [L111_1,q02,q04,q0E,q0D,q0x,q0F,q0n,q01,hlt,decide_true,if_true,q37 he,r9,q07,q0g,q0A,q0B,List.length_map,q1e,q06]
   simp only [hput,q00,q02,q12,q03,q0i,hw,List.length_map]
theorem s90 (n:Nat) (z:Int):FN (n+1) 90 [il z]=some (0,[.d (bl (decide (z=1)))]):=by rw [F90];simp [G90]
theorem s91 (n:Nat) (z:Int):FN (n+1) 91 [il z]=some (0,[.d (bl (decide (z≠0)))]):=by rw [F91];simp only [G91,q03,q0y,q0d]
theorem d90 (n:Nat) (z:Int):FD (n+1) (.fn 90 []) [.one] (rI z)=some (0,[.d (bl (decide (z=1)))]) :=
 q4A [.one] [.one (il z)] (by decide) rfl (by kernel_rfl) rfl (by kernel_rfl) (s90 n z)
theorem d91 (n:Nat) (z:Int):FD (n+1) (.fn 91 []) [.one] (rI z)=some (0,[.d (bl (decide (z≠0)))]) :=
 q4A [.one] [.one (il z)] (by decide) rfl (by kernel_rfl) rfl (by kernel_rfl) (s91 n z)
section
variable {a b c:Option (List E9)} {o:Option (List E5)}
theorem s169 (n:Nat) (d f p:Int) (is:D) (q:Int→Bool) (hq:∀ z,FD (n+106) is [.one] (rI z)=some (0,[.d (bl (q z))])) (hd:0≤d∧d≤4166) (g:GoodK (a.getD []) (b.getD []) (c.getD []) (o.getD [])) :
  FN (n+107) 169 [il p,is,q0U a b c o,il f,il d]=some (0,[.d (bl (!q (q3b (q1j (a.getD []) (b.getD []) (c.getD []) (o.getD []) d p) f)))]):=by
 rw [F169]
 have hp:∀ k:List D→Out,(RP (n+106)).ptrW 4 (q0U a b c o) k=k [d9 a,d9 b,d9 c,d5 o]:=fun k=>q1O _ 4 k rfl
 have hz:∀ z,q1z Tryz.prog (cf3 tb Tryz.prog) (FN (n+106)) is [.one] [il z]=some (0,[.d (bl (q z))]):=hq
 simp only [G169,hp,q07,q0g,q06,k86 n d p f hd g,q00,q02,q2Y,hz,q0J,q0d]
theorem d169 (n:Nat) (d f p:Int) (is:D) (q:Int→Bool) (hq:∀ z,FD (n+106) is [.one] (rI z)=some (0,[.d (bl (q z))])) (hd:0≤d∧d≤4166) (g:GoodK (a.getD []) (b.getD []) (c.getD []) (o.getD [])) :
  FD (n+107) (.fn 169 [.dp [is] 0,.dp [q0U a b c o] 0,.dp [il f] 0,.dp [il d] 0]) [.one] (rI p)=some (0,[.d (bl (!q (q3b (q1j (a.getD []) (b.getD []) (c.getD []) (o.getD []) d p) f)))]) :=
 q4A [.one,.ptr 1,.ptr 1,.ptr 1,.ptr 1] [.one (il p)] (by decide) rfl (by kernel_rfl) rfl (by kernel_rfl) (s169 n d f p is q hq hd g)
end
end Go.VE
namespace Go.VE
open Go.RowKit Go.Proofs
theorem q1I {l:List Int} {p:Int→Bool}:((nzO l).map (List.filter p)).getD []=l.filter p:=by cases l<;>rfl
theorem qkg {Fn:Nat→List D→Out} {f:Nat} (sh':List Sh) {vs:List VD} {xs:List D} {z:D} (hlt:f < 1000000) (hash:tb.ash f=some sh') (hx:q21 sh' vs=some xs)
  (hr:tb.rsk f=[[(false,[.d])]]) (hf:Fn f xs=some (0,[.d z])):FnV (cf3 tb Tryz.prog) Fn f vs=some (0,[.d z]):=by
 have h1:(cf3 tb Tryz.prog).ash f=some sh':=by simp only [cf3,if_pos hlt,hash]
 have h2:qcL ((cf3 tb Tryz.prog).rsk f)=true:=by simp only [cf3,hr];rfl
 simp only [FnV,h1,hx,h2,if_true,hf]
theorem qeK (y:Int) (r:List Int):(.sl 1 (((y::r).map rI).take ((y::r).map rI).length):D)=dI (some (y::r)):=by rw [List.take_length];rfl
section
variable {a b c:Option (List E9)} {o:Option (List E5)}
set_option maxRecDepth 20000 in
theorem l89 (n:Nat) (d f:Int) (is:D) (q:Int→Bool) (hq:∀ z,FD (n+107) is [.one] (rI z)=some (0,[.d (bl (q z))])) (hd:0≤d∧d≤4166) (g:GoodK (a.getD []) (b.getD []) (c.getD []) (o.getD []))
  (l:List Int) (hl:l.length≤4611686018427387904) (i0:Nat) (h0:i0 < l.length) (h1:(l.take (i0+1)).filter (fun p=>!(!q (q3b (q1j (a.getD []) (b.getD []) (c.getD []) (o.getD []) d p) f)))=l.take i0) :
  ∃ (i:Nat) (ks:List Int),q0l [L89_0 (RP (n+108))] M0 0 [.n l.length,.n l.length,.d is,.d (q0U a b c o),.d (il f),.d (il d),.d (il i0),.d (il ((i0+1:Nat):Int)),.r (l.map rI)]=some (0,[.n l.length,.n l.length,.d (il (i:Int)),.r (ks.map rI)])∧i < l.length∧ks.length=l.length∧ks.take i=l.filter (fun p=>!(!q (q3b (q1j (a.getD []) (b.getD []) (c.getD []) (o.getD []) d p) f))):=by
 refine q6i l hl (fun p=>!q (q3b (q1j (a.getD []) (b.getD []) (c.getD []) (o.getD []) d p) f)) (L89_0 (RP (n+108))) (fun i j ks=>[.n l.length,.n l.length,.d is,.d (q0U a b c o),.d (il f),.d (il d),.d (il (i:Nat)),.d (il (j:Nat)),.r (ks.map rI)])
  (fun i ks=>some (0,[.n l.length,.n l.length,.d (il ((i:Nat):Int)),.r (ks.map rI)])) ?_ ?_ i0 h0 h1
 ·intro i ks k hk
  simp [L89_0]
 ·intro i j ks e e2 k _ hj hi hij hjl hil hks hwj hwi
  have hkr:(ks.map rI)[j]?=some (rI e):=by rw [List.getElem?_map,hj];rfl
  have hkr2:(ks.map rI)[i]?=some (rI e2):=by rw [List.getElem?_map,hi];rfl
  have h169:=s169 (n+1) d f e is q hq hd g
  simp only [L89_0,q02,q04,q0E,q0D,q0x,q0F,q5h,q0n,q01,hjl,decide_true,if_true,q0A,List.length_map,q0B,hks]
  rw [q8A _ _ _ ⟨by omega,hjl⟩,Int.toNat_natCast,q3p 1 _ _ _ _ hkr rfl]
  simp only [rI,q07,q06,h169,q00,q02,q0J,q01,q03,q0i,hwj,hwi]
  cases hqv:q (q3b (q1j (a.getD []) (b.getD []) (c.getD []) (o.getD []) d e) f) with
  | true =>
   simp only [Bool.not_true,Bool.not_false,if_true,Bool.false_eq_true,if_false]
   rw [q8A _ _ _ ⟨by omega,hil⟩,Int.toNat_natCast,q3p 1 _ _ _ _ hkr2 rfl]
   simp only [q32,List.map_set,rI]
  | false =>
   simp only [Bool.not_true,Bool.not_false,if_true,Bool.false_eq_true,if_false]
set_option maxRecDepth 20000 in
theorem k89 (n:Nat) (d f:Int) (is:D) (q:Int→Bool) (hq0:∀ z,FD (n+106) is [.one] (rI z)=some (0,[.d (bl (q z))])) (hq:∀ z,FD (n+107) is [.one] (rI z)=some (0,[.d (bl (q z))])) (hd:0≤d∧d≤4166) (g:GoodK (a.getD []) (b.getD []) (c.getD []) (o.getD [])) :
  FN (n+109) 89 [d9 a,d9 b,d9 c,d5 o,il f,il d,is]=some (0,[.d (dI ((nzO (q0H (a.getD []))).map (List.filter fun p=>q (q3b (q1j (a.getD []) (b.getD []) (c.getD []) (o.getD []) d p) f))))]):=by
 rw [F89]
 have hla:=g.la
 have hlp:=q1l (a.getD [])
 have hp:∀ k:List D→Out,(RP (n+108)).ptrW 4 (.dp [d9 a,d9 b,d9 c,d5 o] 0) k=k [d9 a,d9 b,d9 c,d5 o]:=fun k=>q1O _ 4 k rfl
 have h111:=s111 (n+103) a (d9 b) (d9 c) (d5 o) (by omega)
 have hdk:(.dp [d9 a,d9 b,d9 c,d5 o] 0:D)=q0U a b c o:=rfl
 simp only [G89,q5u,q3Z,hp,q07,q0g,q06,h111]
 have hi:=fun l hl=>s186 (n+107) l hl (.fn 169 [.dp [is] 0,.dp [q0U a b c o] 0,.dp [il f] 0,.dp [il d] 0]) (fun p=>!q (q3b (q1j (a.getD []) (b.getD []) (c.getD []) (o.getD []) d p) f)) (fun e _=>d169 n d f e is q hq0 hd g)
 generalize hl:q0H (a.getD [])=l at hlp ⊢
 cases l with
 | nil =>
  have:=hi none (by simp)
  simp only [q1E,q00,q02,q4L,hdk,this,q77,fnd,q03,q0M,q01,Option.getD_none]
  simp [nzO,dI,dSl]
 | cons y r =>
  have h2:=hi (some (y::r)) (by simp only [Option.getD_some];omega)
  simp only [Option.getD_some] at h2
  have el:((y::r).map rI).take ((y::r).map rI).length=(y::r).map rI:=List.take_length
  simp only [q00,q0x,q0A,q0B,if_true,q0q,q1e,q4L,hdk,qeK,h2,q02,q29,List.all_cons,List.all_nil,qgh,Bool.and_true,q03,q0M,q01,decide_eq_true_eq,q0d]
  have hres:dI ((nzO (y::r)).map (List.filter fun p=>q (q3b (q1j (a.getD []) (b.getD []) (c.getD []) (o.getD []) d p) f)))=dI (some ((y::r).filter fun p=>q (q3b (q1j (a.getD []) (b.getD []) (c.getD []) (o.getD []) d p) f))):=rfl
  rw [hres]
  generalize hy:(y::r)=l at *
  unfold q77
  cases hf:fnd (fun p=>!q (q3b (q1j (a.getD []) (b.getD []) (c.getD []) (o.getD []) d p) f)) l with
  | none =>
   simp only [if_true]
   have:=q3V hf
   simp only [Bool.not_not] at this
   rw [this]
  | some i0 =>
   obtain ⟨h0,h1⟩:=q3U hf
   simp only
   rw [if_neg (by omega),q0i,q0f (by omega) (by omega),q0r,List.length_map]
   obtain ⟨i,ks,e1,e2,e3,e4⟩:=l89 n d f is q hq hd g l (by omega) i0 h0 h1
   rw [show ((i0:Nat):Int)+1=((i0+1:Nat):Int) by simp,e1]
   have ek:(ks.map rI).length=l.length:=by simp [e3]
   simp only [q00,q02,q04,q0E,q0D,q0x,q0F,ek,if_true]
   rw [q5v _ _ _ _ e2]
   have ea:i+(l.length - i)=l.length:=by omega
   have et:((ks.map rI).take i++List.replicate (l.length - i) [il 0]).length=l.length:=by
    simp [e3];omega
   simp only [q16,ea,q1R,q73,et,if_true]
   rw [q5w _ _ _ _ (by omega)]
   simp only [Bool.not_not] at e4
   have er:((ks.map rI).take i++List.replicate (l.length - i) [il 0]).take i=(l.filter fun p=>q (q3b (q1j (a.getD []) (b.getD []) (c.getD []) (o.getD []) d p) f)).map rI:=by
    rw [List.take_append_of_le_length (by simp [e3];omega),List.take_take,Nat.min_self,← List.map_take,e4]
   rw [er]
   rfl
theorem d82 (n:Nat) (d p:Int) (hd:0≤d∧d≤4166) (g:GoodK (a.getD []) (b.getD []) (c.getD []) (o.getD [])) :
  FD (n+105) (.fn 2000082 [q0U a b c o]) [.one,.one] [il p,il d]=some (0,[.d (dI (some (q1j (a.getD []) (b.getD []) (c.getD []) (o.getD []) d p)))]):=by
 have h:FnV (cf3 tb Tryz.prog) (FN (n+105)) 82 [.one (q0U a b c o),.one (il p),.one (il d)]=some (0,[.d (dI (some (q1j (a.getD []) (b.getD []) (c.getD []) (o.getD []) d p)))]) :=
  qkg [.ptr 4,.one,.one] (by decide) rfl (by kernel_rfl) (by kernel_rfl) (k82 n d p hd g)
 have h2:q1z Tryz.prog (cf3 tb Tryz.prog) (FN (n+105)) (.fn 2000082 [q0U a b c o]) [.one,.one] [il p,il d]=if 2000082 < 2000000 then FnV (cf3 tb Tryz.prog) (FN (n+105)) 2000082 ([.one (il p),.one (il d)]++[.one (q0U a b c o)]) else FnV (cf3 tb Tryz.prog) (FN (n+105)) 82 [.one (q0U a b c o),.one (il p),.one (il d)]:=by kernel_rfl
 show q1z Tryz.prog (cf3 tb Tryz.prog) (FN (n+105)) (.fn 2000082 [q0U a b c o]) [.one,.one] [il p,il d]=_
 rw [h2,if_neg (by decide),h]
end
set_option maxRecDepth 20000 in
theorem s171 (n:Nat) (a b:List Int) (ha:a.length≤4611686018427387904):FN (n+1) 171 [dI (some a),dI (some b)]=some (0,[.d (bl (decide (a=b)))]):=by
 rw [F171]
 simp only [G171,q2I,Option.getD_some,q0y,q01,decide_eq_true_eq,q0K,q0d,q03,q0r]
 by_cases hlen:a.length=b.length
 ·rw [if_neg (by simp [hlen])]
  have:=q0C (β:=Unit) a ha (L171_0 (RP n)) (fun i _=>[.d (dI (some a)),.d (dI (some b)),.d (il a.length),.d (il i)]) (fun _ _=>True)
   (fun i r _=>if r=b.drop i then some (1,[]) else some (0,[.d (bl false)]))
   (fun _ k _=>by rw [hlen,List.drop_length];simp [L171_0]) ?_ M0 () trivial (q1X ha)
  ·simp only [Int.natCast_zero,List.drop_zero] at this
   rw [this]
   by_cases h:a=b<;>simp [h]
  ·intro i e r _ k hi hd hlt hw _ ih
   have ih':=ih () trivial
   have hlt':(i:Int) < (a.length:Int):=by omega
   have hlb:i < b.length:=by omega
   have hb:b[i]?=some (b[i]'hlb):=List.getElem?_eq_getElem hlb
   have hdb:b.drop i=b[i]'hlb::b.drop (i+1):=List.drop_eq_getElem_cons hlb
   have hi1:((some a).getD [])[i]?=some e:=hi
   have hi2:((some b).getD [])[i]?=some (b[i]'hlb):=hb
   simp only [L171_0,q02,q04,q0n,q01,hlt',decide_true,if_true,q2R hi1,q2R hi2,rI,q07,q0y,q03,q0i,hw,q0K,q0d,decide_eq_true_eq]
   rw [hdb]
   generalize b[i]'hlb=f
   generalize b.drop (i+1)=t at ih' ⊢
   by_cases h:e=f
   ·subst h
    rw [if_neg (by simp)]
    refine Eq.trans ih' ?_
    simp
   ·rw [if_pos h,if_neg (by simp [h])]
 ·rw [if_pos (by omega)]
  have:¬ a=b:=fun e=>hlen (by rw [e])
  simp [this]
end Go.VE
namespace Go.VE
open Go.RowKit Go.Proofs
def q6h (x y:Int→List Int) (p:Int):Bool:=!decide (x p=y p)
section
variable {a b c:Option (List E9)} {o:Option (List E5)} {a' b' c':Option (List E9)} {o':Option (List E5)}
abbrev fo (a b c:Option (List E9)) (o:Option (List E5)) (d:Int):Int→List Int:=q1j (a.getD []) (b.getD []) (c.getD []) (o.getD []) d
theorem s170 (n:Nat) (d p:Int) (hd:0≤d∧d≤4166) (g:GoodK (a.getD []) (b.getD []) (c.getD []) (o.getD [])) (g':GoodK (a'.getD []) (b'.getD []) (c'.getD []) (o'.getD [])) :
  FN (n+106) 170 [il p,.fn 2000082 [q0U a b c o],il d,q0U a' b' c' o']=some (0,[.d (bl (!q6h (fo a b c o d) (fo a' b' c' o' d) p))]):=by
 rw [F170]
 have hp:∀ k:List D→Out,(RP (n+105)).ptrW 4 (q0U a' b' c' o') k=k [d9 a',d9 b',d9 c',d5 o']:=fun k=>q1O _ 4 k rfl
 have hz:q1z Tryz.prog (cf3 tb Tryz.prog) (FN (n+105)) (.fn 2000082 [q0U a b c o]) [.one,.one] [il p,il d]=_:=d82 n d p hd g
 have hlen:=qf8 d p g
 simp only [G170,q2Y,hz,q00,hp,q07,q0g,q06,k82 n d p hd g',q02,s171 (n+104) _ _ (by omega:(q1j (a.getD []) (b.getD []) (c.getD []) (o.getD []) d p).length≤4611686018427387904),q0d]
 simp [q6h]
theorem d170 (n:Nat) (d p:Int) (hd:0≤d∧d≤4166) (g:GoodK (a.getD []) (b.getD []) (c.getD []) (o.getD [])) (g':GoodK (a'.getD []) (b'.getD []) (c'.getD []) (o'.getD [])) :
  FD (n+106) (.fn 170 [.dp [.fn 2000082 [q0U a b c o]] 0,.dp [il d] 0,.dp [q0U a' b' c' o'] 0]) [.one] (rI p)=some (0,[.d (bl (!q6h (fo a b c o d) (fo a' b' c' o' d) p))]) :=
 q4A [.one,.ptr 1,.ptr 1,.ptr 1] [.one (il p)] (by decide) rfl (by kernel_rfl) rfl (by kernel_rfl) (s170 n d p hd g g')
set_option maxRecDepth 20000 in
theorem l93 (n:Nat) (d:Int) (hd:0≤d∧d≤4166) (g:GoodK (a.getD []) (b.getD []) (c.getD []) (o.getD [])) (g':GoodK (a'.getD []) (b'.getD []) (c'.getD []) (o'.getD []))
  (l:List Int) (hl:l.length≤4611686018427387904) (i0:Nat) (h0:i0 < l.length) (h1:(l.take (i0+1)).filter (fun p=>!(!q6h (fo a b c o d) (fo a' b' c' o' d) p))=l.take i0) :
  ∃ (i:Nat) (ks:List Int),q0l [L93_0 (RP (n+107))] M0 0 [.n l.length,.n l.length,.d (il d),.d (q0U a' b' c' o'),.d (il i0),.d (il ((i0+1:Nat):Int)),.d (d9 a),.d (d9 b),.d (d9 c),.d (d5 o),.r (l.map rI)]=some (0,[.n l.length,.n l.length,.d (il (i:Int)),.d (d9 a),.d (d9 b),.d (d9 c),.d (d5 o),.r (ks.map rI)])∧i < l.length∧ks.length=l.length∧ks.take i=l.filter (fun p=>!(!q6h (fo a b c o d) (fo a' b' c' o' d) p)):=by
 refine q6i l hl (fun p=>!q6h (fo a b c o d) (fo a' b' c' o' d) p) (L93_0 (RP (n+107))) (fun i j ks=>[.n l.length,.n l.length,.d (il d),.d (q0U a' b' c' o'),.d (il (i:Nat)),.d (il (j:Nat)),.d (d9 a),.d (d9 b),.d (d9 c),.d (d5 o),.r (ks.map rI)])
  (fun i ks=>some (0,[.n l.length,.n l.length,.d (il ((i:Nat):Int)),.d (d9 a),.d (d9 b),.d (d9 c),.d (d5 o),.r (ks.map rI)])) ?_ ?_ i0 h0 h1
 ·intro i ks k hk
  simp [L93_0]
 ·intro i j ks e e2 k _ hj hi hij hjl hil hks hwj hwi
  have hkr:(ks.map rI)[j]?=some (rI e):=by rw [List.getElem?_map,hj];rfl
  have hkr2:(ks.map rI)[i]?=some (rI e2):=by rw [List.getElem?_map,hi];rfl
  have h170:=s170 (n+1) d e hd g g'
  simp only [q0U] at h170
  simp only [L93_0,q02,q04,q0E,q0D,q0x,q0F,q5h,q0n,q01,hjl,decide_true,if_true,q0A,List.length_map,q0B,hks,q4L,q5u,q0U]
  rw [q8A _ _ _ ⟨by omega,hjl⟩,Int.toNat_natCast,q3p 1 _ _ _ _ hkr rfl]
  simp only [rI,q07,q06,h170,q00,q02,q29,List.all_cons,List.all_nil,qiP,Bool.and_true,if_true,q0J,q01,q03,q0i,hwj,hwi]
  cases hqv:q6h (fo a b c o d) (fo a' b' c' o' d) e with
  | true =>
   simp only [Bool.not_true,Bool.not_false,if_true,Bool.false_eq_true,if_false]
   rw [q8A _ _ _ ⟨by omega,hil⟩,Int.toNat_natCast,q3p 1 _ _ _ _ hkr2 rfl]
   simp only [q32,List.map_set,rI]
  | false =>
   simp only [Bool.not_true,Bool.not_false,if_true,Bool.false_eq_true,if_false]
set_option maxRecDepth 20000 in
theorem k93 (n:Nat) (z:Option (List E9)) (x1 x2 x3:D) (d:Int) (hz:(z.getD []).length≤1000000) (hd:0≤d∧d≤4166) (g:GoodK (a.getD []) (b.getD []) (c.getD []) (o.getD [])) (g':GoodK (a'.getD []) (b'.getD []) (c'.getD []) (o'.getD [])) :
  FN (n+108) 93 [d9 z,x1,x2,x3,d9 a,d9 b,d9 c,d5 o,d9 a',d9 b',d9 c',d5 o',il d]=some (0,[.d (dI ((nzO (q0H (z.getD []))).map (List.filter (q6h (fo a b c o d) (fo a' b' c' o' d)))))]):=by
 rw [F93]
 have hlp:=q1l (z.getD [])
 have h111:=s111 (n+102) z x1 x2 x3 hz
 simp only [G93,q06,h111]
 have hi:=fun l hl=>s186 (n+106) l hl (.fn 170 [.dp [.fn 2000082 [q0U a b c o]] 0,.dp [il d] 0,.dp [q0U a' b' c' o'] 0]) (fun p=>!q6h (fo a b c o d) (fo a' b' c' o' d) p) (fun e _=>d170 n d e hd g g')
 have hdk:(.dp [d9 a,d9 b,d9 c,d5 o] 0:D)=q0U a b c o:=rfl
 have hdk':(.dp [d9 a',d9 b',d9 c',d5 o'] 0:D)=q0U a' b' c' o':=rfl
 generalize hl:q0H (z.getD [])=l at hlp ⊢
 cases l with
 | nil =>
  have:=hi none (by simp)
  simp only [q1E,q00,q02,q4L,q5u,hdk,hdk',this,q77,fnd,q29,List.all_cons,List.all_nil,qgh,Bool.and_true,if_true,q03,q0M,q01,Option.getD_none]
  simp [nzO,dI,dSl]
 | cons y r =>
  have h2:=hi (some (y::r)) (by simp only [Option.getD_some];omega)
  simp only [Option.getD_some] at h2
  simp only [q00,q0x,q0A,q0B,if_true,q0q,q1e,q4L,q5u,hdk,hdk',qeK,h2,q02,q29,List.all_cons,List.all_nil,qgh,Bool.and_true,q03,q0M,q01,decide_eq_true_eq,q0d]
  have hres:dI ((nzO (y::r)).map (List.filter (q6h (fo a b c o d) (fo a' b' c' o' d))))=dI (some ((y::r).filter (q6h (fo a b c o d) (fo a' b' c' o' d)))):=rfl
  rw [hres]
  generalize hy:(y::r)=l at *
  unfold q77
  cases hf:fnd (fun p=>!q6h (fo a b c o d) (fo a' b' c' o' d) p) l with
  | none =>
   simp only [if_true]
   have:=q3V hf
   simp only [Bool.not_not] at this
   rw [show (l.filter (q6h (fo a b c o d) (fo a' b' c' o' d)))=l.filter (fun p=>q6h (fo a b c o d) (fo a' b' c' o' d) p) from rfl,this]
  | some i0 =>
   obtain ⟨h0,h1⟩:=q3U hf
   simp only
   rw [if_neg (by omega),q0i,q0f (by omega) (by omega),q0r,List.length_map]
   obtain ⟨i,ks,e1,e2,e3,e4⟩:=l93 n d hd g g' l (by omega) i0 h0 h1
   rw [show ((i0:Nat):Int)+1=((i0+1:Nat):Int) by simp,e1]
   have ek:(ks.map rI).length=l.length:=by simp [e3]
   simp only [q00,q02,q04,q0E,q0D,q0x,q0F,ek,if_true]
   rw [q5v _ _ _ _ e2]
   have ea:i+(l.length - i)=l.length:=by omega
   have et:((ks.map rI).take i++List.replicate (l.length - i) [il 0]).length=l.length:=by
    simp [e3];omega
   simp only [q16,ea,q1R,q73,et,if_true]
   rw [q5w _ _ _ _ (by omega)]
   simp only [Bool.not_not] at e4
   have er:((ks.map rI).take i++List.replicate (l.length - i) [il 0]).take i=(l.filter (q6h (fo a b c o d) (fo a' b' c' o' d))).map rI:=by
    rw [List.take_append_of_le_length (by simp [e3];omega),List.take_take,Nat.min_self,← List.map_take,e4]
   rw [er]
   rfl
end
theorem askE_3 {ok ps fs:Bool} {p f d k l:Int} (h:q0R ok ps fs p f [d,k,l]=0):(0≤d∧d≤4166)∧(0≤k∧k≤4166)∧0≤l∧l≤4166:=by
 unfold q0R at h
 split at h
 ·simp at h
 ·split at h
  ·simp at h
  ·split at h
   ·simp at h
   ·split at h
    ·simp at h
    ·rename_i hh
     simp only [List.any_cons,List.any_nil,Bool.or_false,Bool.or_eq_true,Bool.not_eq_true',decide_eq_false_iff_not,not_or,Decidable.not_not] at hh
     exact hh
def fk (k:Int) (a b c:Option (List E9)) (o:Option (List E5)) (d:Int):Int→List Int:=q1Q k a b c o d
theorem fo_kn (k:Int) (a b c:Option (List E9)) (o:Option (List E5)) (d:Int):fo (kn9 k a) (kn9 k b) (kn9 k c) (kn5 k o) d=fk k a b c o d:=by
 funext p;unfold fo fk q1Q;rw [q0m,q0m,q0m,q2w]
section
variable (n:Nat) (p f d k l:Int) (a b c:Option (List E9)) (o:Option (List E5)) (ha:(a.getD []).length*72≤140737488351232) (hb:(b.getD []).length*72≤140737488351232) (hc:(c.getD []).length*72≤140737488351232) (ho:(o.getD []).length*40≤140737488351232)
include ha hb hc ho
set_option maxRecDepth 20000 in
theorem s37:FN (n+109) 37 [d9 a,d9 b,d9 c,d5 o,il d,il k,il l]=if q0R (q0k (a.getD []) (b.getD []) (c.getD []) (o.getD [])) false false 0 0 [d,k,l]=0 then some (0,[.d (dI ((nzO (q0H (a.getD []))).map (List.filter (q6h (fk k a b c o d) (fk l a b c o d))))),.d (il 0)]) else some (0,[.d (dI none),.d (il (q0R (q0k (a.getD []) (b.getD []) (c.getD []) (o.getD [])) false false 0 0 [d,k,l]))]):=by
 rw [F37]
 have h73:=s73 (n+98) 0 0 false false a b c o [d,k] l (by simp) ha hb hc ho
 rw [show dI (some ([d,k]++[l]))=.sl 1 [[il d],[il k],[il l]] from rfl,show [d,k]++[l]=[d,k,l] from rfl] at h73
 have h94:=s94 (n+103) k a b c o ha hb hc ho
 simp only [G37,q06,q03,q0K,q0u,q1e,h73]
 by_cases he:q0R (q0k (a.getD []) (b.getD []) (c.getD []) (o.getD [])) false false 0 0 [d,k,l]=0
 ·have g:=q4V k he
  have g':=q4V l he
  have hl:=(q0Y (q15 he)).1
  rw [if_pos he]
  have hp:∀ (k:Int) (q:List D→Out),(RP (n+108)).ptrW 4 (q0U (kn9 k a) (kn9 k b) (kn9 k c) (kn5 k o)) q=q [d9 (kn9 k a),d9 (kn9 k b),d9 (kn9 k c),d5 (kn5 k o)]:=fun k q=>q1O _ 4 q rfl
  simp only [q4C,he,if_true,q00,q02,q04,q0y,ne_eq,not_true_eq_false,decide_false,q01,Bool.false_eq_true,if_false,h94,hp,q07,q0g,k93 n a (d9 b) (d9 c) (d5 o) d (by omega) (askE_3 he).1 g g',q0d,fo_kn]
 ·rw [if_neg he]
  simp only [q4C,if_neg he,q00,q02,q04,q0y,q01]
  rw [if_pos (by simpa using he)]
  simp [dI,dSl]
def q3F (k:Int) (a b c:Option (List E9)) (o:Option (List E5)) (d f:Int):Option (List Int):=(nzO (q0H (q0p k (a.getD [])))).map (List.filter fun p=>decide (q3b (q1Q k a b c o d p) f=1))
def q9G (k:Int) (a b c:Option (List E9)) (o:Option (List E5)) (d f:Int):Option (List Int):=(nzO (q0H (q0p k (a.getD [])))).map (List.filter fun p=>decide (q3b (q1Q k a b c o d p) f≠0))
omit ha hb hc ho in
theorem k89s (he:q0R (q0k (a.getD []) (b.getD []) (c.getD []) (o.getD [])) false true 0 f [d,k]=0):FN (n+109) 89 [d9 (kn9 k a),d9 (kn9 k b),d9 (kn9 k c),d5 (kn5 k o),il f,il d,.fn 90 []]=some (0,[.d (dI (q3F k a b c o d f))]):=by
 rw [k89 n d f (.fn 90 []) (fun z=>decide (z=1)) (fun z=>d90 (n+105) z) (fun z=>d90 (n+106) z) (q1s he).1 (q4V k he)]
 unfold q3F q1Q
 rw [q0m,q0m,q0m,q2w]
omit ha hb hc ho in
theorem k89m (he:q0R (q0k (a.getD []) (b.getD []) (c.getD []) (o.getD [])) false true 0 f [d,k]=0):FN (n+109) 89 [d9 (kn9 k a),d9 (kn9 k b),d9 (kn9 k c),d5 (kn5 k o),il f,il d,.fn 91 []]=some (0,[.d (dI (q9G k a b c o d f))]):=by
 rw [k89 n d f (.fn 91 []) (fun z=>decide (z≠0)) (fun z=>d91 (n+105) z) (fun z=>d91 (n+106) z) (q1s he).1 (q4V k he)]
 unfold q9G q1Q
 rw [q0m,q0m,q0m,q2w]
set_option maxRecDepth 20000 in
theorem s32:FN (n+110) 32 [d9 a,d9 b,d9 c,d5 o,il f,il d,il k]=if q0R (q0k (a.getD []) (b.getD []) (c.getD []) (o.getD [])) false true 0 f [d,k]=0 then some (0,[.d (dI (q3F k a b c o d f)),.d (il 0)]) else some (0,[.d (dI none),.d (il (q0R (q0k (a.getD []) (b.getD []) (c.getD []) (o.getD [])) false true 0 f [d,k]))]):=by
 rw [F32]
 simp only [G32,q06,s79,q00,q02,q04,q0u,q1e,q9Y (n+99) 0 f d k a b c o ha hb hc ho false true]
 by_cases he:q0R (q0k (a.getD []) (b.getD []) (c.getD []) (o.getD [])) false true 0 f [d,k]=0
 ·rw [if_pos he]
  have hp:∀ q:List D→Out,(RP (n+109)).ptrW 4 (q0U (kn9 k a) (kn9 k b) (kn9 k c) (kn5 k o)) q=q [d9 (kn9 k a),d9 (kn9 k b),d9 (kn9 k c),d5 (kn5 k o)]:=fun q=>q1O _ 4 q rfl
  simp only [q4C,he,if_true,q00,q02,q04,q03,q0y,ne_eq,not_true_eq_false,decide_false,q01,Bool.false_eq_true,if_false,hp,q07,q0g,q4L,k89s n f d k a b c o he,q0d]
 ·rw [if_neg he]
  simp only [q4C,if_neg he,q00,q02,q04,q03,q0y,q01]
  rw [if_pos (by simpa using he)]
  simp [dI,dSl]
set_option maxRecDepth 20000 in
theorem s34:FN (n+110) 34 [d9 a,d9 b,d9 c,d5 o,il f,il d,il k]=if q0R (q0k (a.getD []) (b.getD []) (c.getD []) (o.getD [])) false true 0 f [d,k]=0 then some (0,[.d (dI (q9G k a b c o d f)),.d (il 0)]) else some (0,[.d (dI none),.d (il (q0R (q0k (a.getD []) (b.getD []) (c.getD []) (o.getD [])) false true 0 f [d,k]))]):=by
 rw [F34]
 simp only [G34,q06,s79,q00,q02,q04,q0u,q1e,q9Y (n+99) 0 f d k a b c o ha hb hc ho false true]
 by_cases he:q0R (q0k (a.getD []) (b.getD []) (c.getD []) (o.getD [])) false true 0 f [d,k]=0
 ·rw [if_pos he]
  have hp:∀ q:List D→Out,(RP (n+109)).ptrW 4 (q0U (kn9 k a) (kn9 k b) (kn9 k c) (kn5 k o)) q=q [d9 (kn9 k a),d9 (kn9 k b),d9 (kn9 k c),d5 (kn5 k o)]:=fun q=>q1O _ 4 q rfl
  simp only [q4C,he,if_true,q00,q02,q04,q03,q0y,ne_eq,not_true_eq_false,decide_false,q01,Bool.false_eq_true,if_false,hp,q07,q0g,q4L,k89m n f d k a b c o he,q0d]
 ·rw [if_neg he]
  simp only [q4C,if_neg he,q00,q02,q04,q03,q0y,q01]
  rw [if_pos (by simpa using he)]
  simp [dI,dSl]
set_option maxRecDepth 20000 in
theorem s29:FN (n+110) 29 [d9 a,d9 b,d9 c,d5 o,il f,il d,il k]=if q0R (q0k (a.getD []) (b.getD []) (c.getD []) (o.getD [])) false true 0 f [d,k]=0 then some (0,[.d (il (((q3F k a b c o d f).getD []).length:Int)),.d (il (((q9G k a b c o d f).getD []).length:Int)),.d (il 0)]) else some (0,[.d (il 0),.d (il 0),.d (il (q0R (q0k (a.getD []) (b.getD []) (c.getD []) (o.getD [])) false true 0 f [d,k]))]):=by
 rw [F29]
 simp only [G29,q06,s79,q00,q02,q04,q0u,q1e,q9Y (n+99) 0 f d k a b c o ha hb hc ho false true]
 by_cases he:q0R (q0k (a.getD []) (b.getD []) (c.getD []) (o.getD [])) false true 0 f [d,k]=0
 ·rw [if_pos he]
  have hp:∀ q:List D→Out,(RP (n+109)).ptrW 4 (q0U (kn9 k a) (kn9 k b) (kn9 k c) (kn5 k o)) q=q [d9 (kn9 k a),d9 (kn9 k b),d9 (kn9 k c),d5 (kn5 k o)]:=fun q=>q1O _ 4 q rfl
  simp only [q4C,he,if_true,q00,q02,q04,q03,q0y,ne_eq,not_true_eq_false,decide_false,q01,Bool.false_eq_true,if_false,hp,q07,q0g,q4L,k89s n f d k a b c o he,k89m n f d k a b c o he,q2I,q0d]
 ·rw [if_neg he]
  simp only [q4C,if_neg he,q00,q02,q04,q03,q0y,q01]
  rw [if_pos (by simpa using he)]
  simp
end
end Go.VE
