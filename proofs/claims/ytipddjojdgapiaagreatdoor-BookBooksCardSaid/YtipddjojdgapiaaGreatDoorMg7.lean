/- Book: a number ahead of a blank, walked. -/
import Derived.Test.YtipddjojdgapiaaGreatDoorMg6
import Derived.Test.YtipddjojdgapiaaGreatDoorMg1
import Derived.WalkLawsBesides
import Derived.Recover
import Derived.Test.YtipddjojdgapiaaGreatDoorMg2
import Derived.Test.YtipddjojdgapiaaGreatDoorMg3
namespace Go.VE
open Go.RowKit Go.Proofs Go.Shelf Go.Lib
set_option maxRecDepth 100000
set_option maxHeartbeats 4000000
theorem atoi_max {l:List UInt8} {v:Int} (h:Lib.atoiAll l=.ok v):v≤9223372036854775807:=by
 unfold Lib.atoiAll at h
 split at h
 ·cases h
 ·rename_i c r
  simp only at h
  split at h
  ·cases h
  ·cases h
  ·rename_i u _
   split at h
   ·cases h
   ·split at h
    ·cases h
    ·rename_i h1 h2
     injection h with h
     subst h
     split<;>omega
theorem below_bytes (w:World) (t:ByteArray):Below w.heap.size w (Lib.bytesWorld w 5 t) :=
 ⟨rfl,rfl,rfl,by rw [Lib.bytesWorld_size];omega,fun k hk=>Lib.bytesWorld_at_old w 5 t k hk⟩
theorem below_or {w w1:World} (h:w1=w∨∃ t,w1=Lib.bytesWorld w 5 t):Below w.heap.size w w1:=by
 rcases h with rfl | ⟨t,rfl⟩
 ·exact Below.refl _ _
 ·exact below_bytes w t
abbrev wrongV:Value:=.iface 195 (.agg #[])
theorem atoi_any (s:List UInt8) (hs:s.length≤281474976710656) (w:World) (hL:LaidW w):Calls Tryz.prog 150 #[.string ⟨s.toArray⟩] w fun e w'=>Below w.heap.size w w'∧∃ (v:Int) (er:Value),e=.returned (.tuple #[.int .i64 v,er]):=by
 have hsz:=bs_size s
 rcases ha:Lib.atoiAll s with v | _ | _
 ·have hmx:=atoi_max ha
  refine (Tryz.strconv_Atoi_ok ⟨s.toArray⟩ (by rw [hsz];omega) v (by simpa using ha) w).mono ?_
  rintro e w1 ⟨rfl,hw1⟩
  exact ⟨below_or hw1,_,_,rfl⟩
 ·obtain ⟨ev,h1,h2⟩:=hL.l.s
  refine (Tryz.strconv_Atoi_syntax ⟨s.toArray⟩ (by rw [hsz];omega) (by simpa using ha) ev w h1 h2).mono ?_
  rintro e w1 ⟨N,rfl,-,-,hw1⟩
  exact ⟨hw1,_,_,rfl⟩
 ·obtain ⟨ev,h1,h2⟩:=hL.l.r
  refine (Tryz.strconv_Atoi_range ⟨s.toArray⟩ (by rw [hsz];omega) (by simpa using ha) ev w h1 h2).mono ?_
  rintro e w1 ⟨N,rfl,-,-,hw1⟩
  exact ⟨hw1,_,_,rfl⟩
def numO (s:List UInt8):Ending:=match cutSp s with
 | some (a,r)=>(match numA a with
  | some n=>.returned (.tuple #[.int .i64 n,.string ⟨r.toArray⟩])
  | none=>.panicked [{ v:=wrongV,recovered:=false }])
 | none=>.panicked [{ v:=wrongV,recovered:=false }]
theorem numN (s:List UInt8) (hl:s.length≤281474976710656) (w:World) (hL:LaidW w) (A:Aside (∀ w,Calls Tryz.prog 149 #[.string ⟨s.toArray⟩,.string ⟨#[32]⟩] w fun e w'=>e=.returned (.tuple #[.string ⟨s.toArray⟩,.string ⟨#[]⟩,.bool false])∧Below w.heap.size w w')) :
  Calls Tryz.prog 136 #[.string ⟨s.toArray⟩] w fun e w'=>Below w.heap.size w w'∧e=.panicked [{ v:=wrongV,recovered:=false }]:=by
 have LW:∀ {u:World},Below w.heap.size w u→LaidW u:=fun h=>hL.below h hL.s
 have hat:=fun (w:World) (h:LaidW w)=>atoi_any s hl w h
 have B:Aside (∀ w,LaidW w→Calls Tryz.prog 150 #[.string ⟨s.toArray⟩] w fun e w'=>Below w.heap.size w w'∧∃ (v:Int) (er:Value),e=.returned (.tuple #[.int .i64 v,er])):=hat
 clear hat
 obtain ⟨S,hS⟩:∃ S,(⟨s.toArray⟩:ByteArray)=S:=⟨_,rfl⟩
 rw [hS] at A B ⊢
 clear hS
 go_enter Tryz.func136,Tryz.ntmps136
 go_wp2_with (first
  | (go_at_call 149;refine (A.out _).mono ?_;rintro e w1 ⟨rfl,b1⟩)
  | (go_at_call 150;refine (B.out _ (LW b1)).mono ?_;rintro e w2 ⟨b2,v,er,rfl⟩))
 exact ⟨rfl,b1.trans (b2.mono b1.size),rfl⟩
theorem numA_neg {a:List UInt8} {v:Int} (ha:atoiAll a=.ok v) (h0:v < 0):numA a=none:=by
 unfold numA
 rw [ha]
 exact if_pos (.inl h0)
theorem numA_ne {a:List UInt8} {n:Nat} (ha:atoiAll a=.ok (n:Int)) (h:decDigits n≠a):numA a=none:=by
 unfold numA
 rw [ha]
 exact if_pos (.inr (by simpa using h))
theorem numA_eq {a:List UInt8} {n:Nat} (ha:atoiAll a=.ok (n:Int)) (h:decDigits n=a):numA a=some n:=by
 unfold numA
 rw [ha]
 have:¬ ((n:Int) < 0∨decDigits (n:Int).toNat≠a):=by
  rintro (h' | h')
  ·omega
  ·exact h' h
 exact if_neg this
theorem numA_syn {a:List UInt8} (ha:atoiAll a=Go.Lib.NumEnd.syntax):numA a=none:=by
 unfold numA
 rw [ha]
theorem numA_rng {a:List UInt8} (ha:atoiAll a=.range):numA a=none:=by
 unfold numA
 rw [ha]
theorem numNeg {s a r:List UInt8} {w:World} (hL:LaidW w) (A:Aside (∀ w,Calls Tryz.prog 149 #[.string ⟨s.toArray⟩,.string ⟨#[32]⟩] w fun e w'=>e=.returned (.tuple #[.string ⟨a.toArray⟩,.string ⟨r.toArray⟩,.bool true])∧Below w.heap.size w w')) {v:Int} (B:Aside (∀ w,Calls Tryz.prog 150 #[.string ⟨a.toArray⟩] w fun e w'=>e=.returned (.tuple #[.int .i64 v,.nilIface])∧(w'=w∨∃ t,w'=Lib.bytesWorld w 5 t))) (h0:v < 0):Calls Tryz.prog 136 #[.string ⟨s.toArray⟩] w fun e w'=>Below w.heap.size w w'∧e=.panicked [{ v:=wrongV,recovered:=false }]:=by
 obtain ⟨a',ha'⟩:∃ S,(⟨a.toArray⟩:ByteArray)=S:=⟨_,rfl⟩
 rw [ha'] at A B
 clear ha'
 obtain ⟨S,hS⟩:∃ S,(⟨s.toArray⟩:ByteArray)=S:=⟨_,rfl⟩
 rw [hS] at A ⊢
 clear hS
 go_enter Tryz.func136,Tryz.ntmps136
 go_wp2_with (first
  | (go_at_call 149;refine (A.out _).mono ?_;rintro e w1 ⟨rfl,b1⟩)
  | (go_at_call 150;refine (B.out _).mono ?_;rintro e w2 ⟨rfl,b2⟩;have b2':=below_or b2;clear b2))
 exact ⟨rfl,b1.trans (b2'.mono b1.size),rfl⟩
theorem numErr {s a r:List UInt8} {w:World} (hL:LaidW w) (A:Aside (∀ w,Calls Tryz.prog 149 #[.string ⟨s.toArray⟩,.string ⟨#[32]⟩] w fun e w'=>e=.returned (.tuple #[.string ⟨a.toArray⟩,.string ⟨r.toArray⟩,.bool true])∧Below w.heap.size w w')) (B:Aside (∀ w,LaidW w→Calls Tryz.prog 150 #[.string ⟨a.toArray⟩] w fun e w'=>Below w.heap.size w w'∧∃ (v:Int) (N:Nat),e=.returned (.tuple #[.int .i64 v,.iface 244 (.pointer (some ⟨N,0,none⟩))]))):Calls Tryz.prog 136 #[.string ⟨s.toArray⟩] w fun e w'=>Below w.heap.size w w'∧e=.panicked [{ v:=wrongV,recovered:=false }]:=by
 have LW:∀ {u:World},Below w.heap.size w u→LaidW u:=fun h=>hL.below h hL.s
 obtain ⟨a',ha'⟩:∃ S,(⟨a.toArray⟩:ByteArray)=S:=⟨_,rfl⟩
 rw [ha'] at A B
 clear ha'
 obtain ⟨S,hS⟩:∃ S,(⟨s.toArray⟩:ByteArray)=S:=⟨_,rfl⟩
 rw [hS] at A ⊢
 clear hS
 go_enter Tryz.func136,Tryz.ntmps136
 go_wp2_with (first
  | (go_at_call 149;refine (A.out _).mono ?_;rintro e w1 ⟨rfl,b1⟩)
  | (go_at_call 150;refine (B.out _ (LW b1)).mono ?_;rintro e w2 ⟨b2,v,N,rfl⟩))
 exact ⟨rfl,b1.trans (b2.mono b1.size),rfl⟩
theorem numGood {s a r:List UInt8} {w:World} (hL:LaidW w) (A:Aside (∀ w,Calls Tryz.prog 149 #[.string ⟨s.toArray⟩,.string ⟨#[32]⟩] w fun e w'=>e=.returned (.tuple #[.string ⟨a.toArray⟩,.string ⟨r.toArray⟩,.bool true])∧Below w.heap.size w w')) {n:Nat} (hn:n≤9223372036854775807) (B:Aside (∀ w,Calls Tryz.prog 150 #[.string ⟨a.toArray⟩] w fun e w'=>e=.returned (.tuple #[.int .i64 n,.nilIface])∧(w'=w∨∃ t,w'=Lib.bytesWorld w 5 t))) (hd:(⟨(decDigits n).toArray⟩:ByteArray)=⟨a.toArray⟩):Calls Tryz.prog 136 #[.string ⟨s.toArray⟩] w fun e w'=>Below w.heap.size w w'∧e=.returned (.tuple #[.int .i64 n,.string ⟨r.toArray⟩]):=by
 have LW:∀ {u:World},Below w.heap.size w u→LaidW u:=fun h=>hL.below h hL.s
 have h0:¬ (n:Int) < 0:=by omega
 obtain ⟨S,hS⟩:∃ S,(⟨s.toArray⟩:ByteArray)=S:=⟨_,rfl⟩
 rw [hS] at A ⊢
 clear hS
 obtain ⟨q,hq⟩:∃ S,(⟨r.toArray⟩:ByteArray)=S:=⟨_,rfl⟩
 rw [hq] at A
 try rw [hq]
 clear hq
 obtain ⟨a',ha'⟩:∃ S,(⟨a.toArray⟩:ByteArray)=S:=⟨_,rfl⟩
 rw [ha'] at A B hd
 clear ha'
 have I:Aside (∀ w,LaidW w→Calls Tryz.prog 142 #[.int .i64 n] w fun e w'=>e=.returned (.string ⟨(decDigits n).toArray⟩)∧Below w.heap.size w w'):=fun w h=>itoaL n hn w h
 obtain ⟨d',hd'⟩:∃ S,(⟨(decDigits n).toArray⟩:ByteArray)=S:=⟨_,rfl⟩
 rw [hd'] at I hd
 clear hd'
 subst hd
 go_enter Tryz.func136,Tryz.ntmps136
 go_wp2_with (first
  | (go_at_call 149;refine (A.out _).mono ?_;rintro e w1 ⟨rfl,b1⟩)
  | (go_at_call 150;refine (B.out _).mono ?_;rintro e w2 ⟨rfl,b2⟩;have b2':=b1.trans ((below_or b2).mono b1.size);clear b2 b1)
  | (go_at_call 142;refine (I.out _ (LW b2')).mono ?_;rintro e w3 ⟨rfl,b3⟩))
 go_ret2
 exact ⟨b2'.trans (b3.mono b2'.size),rfl⟩
theorem toL_ne {x y:ByteArray} (h:x≠y):(x.toList==y.toList)=false:=by
 rw [beq_eq_false_iff_ne,ByteArray.toList_eq,ByteArray.toList_eq]
 intro e
 exact h (ByteArray.ext (Array.ext' e))
theorem numBad {s a r:List UInt8} {w:World} (hL:LaidW w) (A:Aside (∀ w,Calls Tryz.prog 149 #[.string ⟨s.toArray⟩,.string ⟨#[32]⟩] w fun e w'=>e=.returned (.tuple #[.string ⟨a.toArray⟩,.string ⟨r.toArray⟩,.bool true])∧Below w.heap.size w w')) {n:Nat} (hn:n≤9223372036854775807) (B:Aside (∀ w,Calls Tryz.prog 150 #[.string ⟨a.toArray⟩] w fun e w'=>e=.returned (.tuple #[.int .i64 n,.nilIface])∧(w'=w∨∃ t,w'=Lib.bytesWorld w 5 t))) (hd:(⟨(decDigits n).toArray⟩:ByteArray)≠⟨a.toArray⟩):Calls Tryz.prog 136 #[.string ⟨s.toArray⟩] w fun e w'=>Below w.heap.size w w'∧e=.panicked [{ v:=wrongV,recovered:=false }]:=by
 have LW:∀ {u:World},Below w.heap.size w u→LaidW u:=fun h=>hL.below h hL.s
 have h0:¬ (n:Int) < 0:=by omega
 obtain ⟨S,hS⟩:∃ S,(⟨s.toArray⟩:ByteArray)=S:=⟨_,rfl⟩
 rw [hS] at A ⊢
 clear hS
 obtain ⟨q,hq⟩:∃ S,(⟨r.toArray⟩:ByteArray)=S:=⟨_,rfl⟩
 rw [hq] at A
 try rw [hq]
 clear hq
 obtain ⟨a',ha'⟩:∃ S,(⟨a.toArray⟩:ByteArray)=S:=⟨_,rfl⟩
 rw [ha'] at A B hd
 clear ha'
 have I:Aside (∀ w,LaidW w→Calls Tryz.prog 142 #[.int .i64 n] w fun e w'=>e=.returned (.string ⟨(decDigits n).toArray⟩)∧Below w.heap.size w w'):=fun w h=>itoaL n hn w h
 obtain ⟨d',hd'⟩:∃ S,(⟨(decDigits n).toArray⟩:ByteArray)=S:=⟨_,rfl⟩
 rw [hd'] at I hd
 clear hd'
 have hd2:(d'.toList==a'.toList)=false:=toL_ne hd
 go_enter Tryz.func136,Tryz.ntmps136
 go_wp2_with (first
  | (go_at_call 149;refine (A.out _).mono ?_;rintro e w1 ⟨rfl,b1⟩)
  | (go_at_call 150;refine (B.out _).mono ?_;rintro e w2 ⟨rfl,b2⟩;have b2':=b1.trans ((below_or b2).mono b1.size);clear b2 b1)
  | (go_at_call 142;refine (I.out _ (LW b2')).mono ?_;rintro e w3 ⟨rfl,b3⟩))
 all_goals first
  | exact ⟨rfl,b2'.trans (b3.mono b2'.size),rfl⟩
  | (exfalso;rename_i h;exact absurd h hd)
  | trace_state
theorem ne_str {x y:List UInt8} (h:x≠y):(⟨x.toArray⟩:ByteArray)≠⟨y.toArray⟩:=fun e=>h (by
 have:=congrArg (fun b:ByteArray=>b.data.toList) e
 simpa using this)
theorem num_c (s:List UInt8) (hl:s.length≤281474976710656) (w:World) (hL:LaidW w):Calls Tryz.prog 136 #[.string ⟨s.toArray⟩] w fun e w'=>Below w.heap.size w w'∧e=numO s:=by
 have hcut:=cut149 s hl
 unfold cutO at hcut
 unfold numO
 cases hc:cutSp s with
 | none =>
  rw [hc] at hcut
  exact numN s hl w hL hcut
 | some p =>
  obtain ⟨a,r⟩:=p
  rw [hc] at hcut
  obtain ⟨hs,hb⟩:=cut_inv s a r hc
  have hal:a.length≤281474976710656:=by rw [hs] at hl;simp only [List.length_append] at hl;omega
  have hsz:=bs_size a
  have ea:(⟨a.toArray⟩:ByteArray).data.toList=a:=by simp
  simp only
  rcases ha:Lib.atoiAll a with v | _ | _
  ·have hmx:=atoi_max ha
   have hat:=Tryz.strconv_Atoi_ok ⟨a.toArray⟩ (by rw [hsz];omega) v (by rw [ea];exact ha)
   by_cases h0:v < 0
   ·rw [numA_neg ha h0]
    exact numNeg hL hcut hat h0
   ·obtain ⟨n,rfl⟩:=Int.eq_ofNat_of_zero_le (show 0≤v by omega)
    by_cases hd:Lib.decDigits n=a
    ·rw [numA_eq ha hd]
     exact numGood hL hcut (by omega) hat (by rw [hd])
    ·rw [numA_ne ha hd]
     exact numBad hL hcut (by omega) hat (ne_str hd)
  ·rw [numA_syn ha]
   refine numErr hL hcut fun w hL=>?_
   obtain ⟨ev,h1,h2⟩:=hL.l.s
   refine (Tryz.strconv_Atoi_syntax ⟨a.toArray⟩ (by rw [hsz];omega) (by rw [ea];exact ha) ev w h1 h2).mono ?_
   rintro e w1 ⟨N,rfl,-,-,hw1⟩
   exact ⟨hw1,_,_,rfl⟩
  ·rw [numA_rng ha]
   refine numErr hL hcut fun w hL=>?_
   obtain ⟨ev,h1,h2⟩:=hL.l.r
   refine (Tryz.strconv_Atoi_range ⟨a.toArray⟩ (by rw [hsz];omega) (by rw [ea];exact ha) ev w h1 h2).mono ?_
   rintro e w1 ⟨N,rfl,-,-,hw1⟩
   exact ⟨hw1,_,_,rfl⟩
end Go.VE
namespace Go.VE
open Go.RowKit Go.Proofs Go.Shelf Go.Lib
set_option maxRecDepth 100000
set_option maxHeartbeats 4000000
theorem idle135 (p q:Addr) (w:World):CallsD Tryz.prog 135 #[.pointer (some p),.pointer (some q)] .returning w fun e u' w'=>e=.returned (.tuple #[])∧u'=.returning∧w'=w:=by
 refine callsD_of_wpS Tryz.func135 rfl fun c₀ cs hu=>?_
 apply wpS_seq
 apply wpS_region
 simp [wpOpsS,go_sem,recoverD,hu,Tryz.ntmps135,Exit.thenS]
 refine wpS_of_wp ?_
 go_wp2
 cases c₀
 simp_all [bodyPostS,results,Tryz.results135]
theorem assert195 (W:World) (v:Value):(Instr.typeAssert (.iface 195 v) 20 195 true).run Tryz.prog W=.ok (.tuple #[v,.bool true]) W:=by kernel_rfl
theorem catch135 (b c:Nat) (x0 x1 x2 x3 x4 x5 x6 x7 y:Value) (older:List PanicEntry) (w:World) (hbc:b≠c) (hb:w.heap[b]?=some (.cells #[x0,x1,x2,x3,x4,x5,x6,x7] 25 (0,0))) (hc:w.heap[c]?=some (.cells #[y] 4 (0,0))) :
  CallsD Tryz.prog 135 #[.pointer (some ⟨b,0,none⟩),.pointer (some ⟨c,0,none⟩)] (.panicking ({ v:=wrongV,recovered:=false }::older)) w fun e u' w' =>
   e=.returned (.tuple #[])∧u'=.panicking ({ v:=wrongV,recovered:=true }::older)∧w'=(((((((((w.setCell ⟨b,0,none⟩ (.int .i64 0)).setCell ⟨b,1,none⟩ (.int .i64 0)).setCell ⟨b,2,none⟩ (.int .i64 0)).setCell ⟨b,3,none⟩ (.int .i64 0)).setCell ⟨b,4,none⟩ (.int .i64 0)).setCell ⟨b,5,none⟩ (.int .i64 0)).setCell ⟨b,6,none⟩ (.int .i64 0)).setCell ⟨b,7,none⟩ (.string ⟨#[]⟩)).setCell ⟨c,0,none⟩ (.bool false)).alloc (.cells #[] 195):=by
 have h0:=Go.Joins.cell_of_block hb 0
 have f0:=Go.Joins.unfrozen_of_block hb 0
 have h1:=Go.Joins.cell_of_block hb 1
 have f1:=Go.Joins.unfrozen_of_block hb 1
 have h2:=Go.Joins.cell_of_block hb 2
 have f2:=Go.Joins.unfrozen_of_block hb 2
 have h3:=Go.Joins.cell_of_block hb 3
 have f3:=Go.Joins.unfrozen_of_block hb 3
 have h4:=Go.Joins.cell_of_block hb 4
 have f4:=Go.Joins.unfrozen_of_block hb 4
 have h5:=Go.Joins.cell_of_block hb 5
 have f5:=Go.Joins.unfrozen_of_block hb 5
 have h6:=Go.Joins.cell_of_block hb 6
 have f6:=Go.Joins.unfrozen_of_block hb 6
 have h7:=Go.Joins.cell_of_block hb 7
 have f7:=Go.Joins.unfrozen_of_block hb 7
 have hy:=Go.Joins.cell_of_block hc 0
 have fy:=Go.Joins.unfrozen_of_block hc 0
 have hlb:b < w.heap.size:=(Array.getElem?_eq_some_iff.1 hb).1
 have hlc:c < w.heap.size:=(Array.getElem?_eq_some_iff.1 hc).1
 clear hb hc
 refine callsD_of_wpS Tryz.func135 rfl fun c₀ cs hu=>?_
 apply wpS_seq
 apply wpS_region
 simp [wpOpsS,go_sem,recoverD,hu,Tryz.ntmps135,Exit.thenS]
 have has:=fun W=>assert195 W (.agg #[])
 refine wpS_of_wp ?_
 go_wp2
 cases c₀
 simp_all [bodyPostS,results,Tryz.results135]
end Go.VE
namespace Go.VE
open Go.RowKit Go.Proofs Go.Shelf Go.Lib
set_option maxRecDepth 100000
set_option maxHeartbeats 2000000
def readV:Option Rec→Value
 | some r=>.tuple #[.agg (encR r).toArray,.bool true]
 | none=>.tuple #[.agg (encR zeroR).toArray,.bool false]
def boxR (l:List Nat):Array Value:=(l.map (fun n:Nat=>Value.int .i64 n)++List.replicate (7 - l.length) (Value.int .i64 0)++[Value.string ⟨#[]⟩]).toArray
theorem boxR_size {l:List Nat} (h:l.length≤7):(boxR l).size=8:=by
 simp [boxR];omega
theorem arr8 {A:Array Value} (h:A.size=8):∃ x0 x1 x2 x3 x4 x5 x6 x7,A=#[x0,x1,x2,x3,x4,x5,x6,x7]:=by
 obtain ⟨l⟩:=A
 match l,h with
 | [x0,x1,x2,x3,x4,x5,x6,x7],_=>exact ⟨x0,x1,x2,x3,x4,x5,x6,x7,rfl⟩
theorem boxR_at {l:List Nat} (h:l.length < 7):(boxR l)[l.length]?=some (.int .i64 0):=by
 unfold boxR
 rw [List.getElem?_toArray,List.append_assoc,List.getElem?_append_right (by simp),show 7 - l.length=(7 - (l.length+1))+1 by omega,List.replicate_succ]
 simp
theorem boxR_set {l:List Nat} (h:l.length < 7) (n:Nat):(boxR l).setIfInBounds l.length (.int .i64 n)=boxR (l++[n]):=by
 unfold boxR
 rw [List.setIfInBounds_toArray]
 congr 1
 rw [List.append_assoc,List.set_append_right _ _ (by simp),show 7 - l.length=(7 - (l.length+1))+1 by omega,List.replicate_succ]
 simp
structure Rd (s:List UInt8) (w:World) (l:List Nat) (t:List UInt8) (wr:World):Prop where
 le:l.length≤7
 nums:numsG numA 7 s=(numsG numA (7 - l.length) t).map fun x=>(l++x.1,x.2)
 tl:t.length≤s.length
 box:wr.heap[w.heap.size]?=some (.cells (boxR l) 25 (0,0))
 err:wr.heap[w.heap.size+1]?=some (.cells #[.bool false] 4 (0,0))
 be:Below w.heap.size w wr
 si:w.heap.size+1+1≤wr.heap.size
theorem Rd.keep {s:List UInt8} {w:World} {l:List Nat} {t:List UInt8} {wr w1:World} (R:Rd s w l t wr) (hb:Below wr.heap.size wr w1):Rd s w l t w1:=by
 have:=R.si
 exact ⟨R.le,R.nums,R.tl,(hb.block _ (by omega)).trans R.box,(hb.block _ (by omega)).trans R.err,R.be.trans (hb.mono (by omega)),Nat.le_trans R.si hb.size⟩
theorem Rd.start (s:List UInt8) (w:World):Rd s w [] s ((w.alloc (.cells #[.int .i64 0,.int .i64 0,.int .i64 0,.int .i64 0,.int .i64 0,.int .i64 0,.int .i64 0,.string ⟨#[]⟩] 25)).alloc (.cells #[.bool false] 4)):=by
 refine ⟨by decide,?_,Nat.le_refl _,?_,heap_alloc2_new _ _ _,((Below.refl _ w).alloc (Nat.le_refl _) _).alloc (by simp) _,by simp⟩
 ·cases numsG numA 7 s<;>rfl
 ·rw [heap_alloc_old _ _ (by simp)];exact heap_alloc_new _ _
theorem nums_step {t a r:List UInt8} {n k:Nat} (hc:cutSp t=some (a,r)) (hn:numA a=some n):numsG numA (k+1) t=(numsG numA k r).map fun x=>(n::x.1,x.2):=by
 rw [numsG,hc]
 simp only [hn]
theorem nums_bad {t:List UInt8} {k:Nat} (hc:cutSp t=none∨∃ a r,cutSp t=some (a,r)∧numA a=none):numsG numA (k+1) t=none:=by
 rw [numsG]
 rcases hc with hc | ⟨a,r,hc,hn⟩
 ·rw [hc]
 ·rw [hc]
  simp only [hn]
theorem Rd.next {s:List UInt8} {w:World} {l:List Nat} {t a r:List UInt8} {n:Nat} {wr:World} (R:Rd s w l t wr) (hl:l.length < 7) (hc:cutSp t=some (a,r)) (hn:numA a=some n):Rd s w (l++[n]) r (wr.setCell ⟨w.heap.size,l.length,none⟩ (.int .i64 n)):=by
 have hs:=R.si
 have ht:r.length≤t.length:=by
  rw [(cut_inv t a r hc).1]
  simp only [List.length_append,List.length_cons];omega
 refine ⟨by simp;omega,?_,Nat.le_trans ht R.tl,?_,(setC_other (by omega)).trans R.err,R.be.setCell (p:=⟨w.heap.size,l.length,none⟩) (Nat.le_refl _) _,by simpa [World.setCell] using hs⟩
 ·rw [R.nums,show 7 - l.length=(7 - (l.length+1))+1 by omega,nums_step hc hn,List.length_append,List.length_singleton]
  cases numsG numA (7 - (l.length+1)) r<;>simp
 ·have:=setC_same (i:=l.length) (v:=.int .i64 n) R.box
  rwa [boxR_set hl] at this
theorem Rd.bad {s:List UInt8} {w:World} {l:List Nat} {t:List UInt8} {wr:World} (R:Rd s w l t wr) (hl:l.length < 7) (hc:cutSp t=none∨∃ a r,cutSp t=some (a,r)∧numA a=none):numsG numA 7 s=none:=by
 rw [R.nums,show 7 - l.length=(7 - (l.length+1))+1 by omega,nums_bad hc]
 rfl
theorem Rd.done {s:List UInt8} {w:World} {l:List Nat} {t:List UInt8} {wr:World} (R:Rd s w l t wr) (hl:l.length=7):numsG numA 7 s=some (l,t):=by
 have:=R.nums
 rw [hl] at this
 rw [this]
 simp [numsG]
theorem ix197 (B:Nat) {i:Nat} (hi:i < 7) (W:World):(Instr.index 197 (.agg #[.pointer (some ⟨B,0,none⟩),.pointer (some ⟨B,1,none⟩),.pointer (some ⟨B,2,none⟩),.pointer (some ⟨B,3,none⟩),.pointer (some ⟨B,4,none⟩),.pointer (some ⟨B,5,none⟩),.pointer (some ⟨B,6,none⟩)]) (.int .i64 i)).run Tryz.prog W=.ok (.pointer (some ⟨B,i,none⟩)) W:=by
 have hu:Tryz.prog.underlying 197=some (.array 7 196):=by kernel_rfl
 have hs:sizeC Tryz.prog 196=some 1:=by kernel_rfl
 have hg:aggC Tryz.prog 196=some false:=by kernel_rfl
 have hp:=part_ok (P:=Tryz.prog) (w:=W) (t:=196) (s:=1) (off:=i*1) (us:=[.pointer (some ⟨B,0,none⟩),.pointer (some ⟨B,1,none⟩),.pointer (some ⟨B,2,none⟩),.pointer (some ⟨B,3,none⟩),.pointer (some ⟨B,4,none⟩),.pointer (some ⟨B,5,none⟩),.pointer (some ⟨B,6,none⟩)]) hs (by rw [hg];rfl) (.inr rfl) (by simp;omega)
 have h1:(0:Int)≤(i:Int)∧(i:Int) < ((7:Nat):Int):=by omega
 simp only [Instr.index,asIntOf,Sem.run_bind,Sem.run_pure,Result.andThen_ok,run_underlying hu,Sem.run_ite]
 rw [if_pos h1]
 simp only [Sem.run_bind,r_sizeOf hs,Result.andThen_ok,Int.toNat_natCast]
 rw [hp]
 unfold mkVal
 rw [hg]
 congr 1
 match i,hi with
 | 0,_=>rfl
 | 1,_=>rfl
 | 2,_=>rfl
 | 3,_=>rfl
 | 4,_=>rfl
 | 5,_=>rfl
 | 6,_=>rfl
theorem settle_r (v:Value):settle (.panicking [{ v:=v,recovered:=true }])=.returning:=by simp [settle]
theorem leave86 {T:Array Value} {W:World} {R:Ending→World→Prop} {cs:Array Value} {y:Bool} {b c:Nat} (h2:T.getD 2 undef=.pointer (some ⟨b,0,none⟩)) (h3:T.getD 3 undef=.pointer (some ⟨c,0,none⟩))
  (hb:W.heap[b]?=some (.cells cs 25 (0,0))) (hs:cs.size=8) (hc:W.heap[c]?=some (.cells #[.bool y] 4 (0,0))) (hR:R (.returned (.tuple #[.agg cs,.bool y])) W):Leaves Tryz.prog Tryz.f86 T R [] .returning W:=by
 have h2':T[2]?.getD undef=.pointer (some ⟨b,0,none⟩):=by simpa using h2
 have h3':T[3]?.getD undef=.pointer (some ⟨c,0,none⟩):=by simpa using h3
 have hl:=run_loadVar_row (P:=Tryz.prog) W b 25 25 cs (0,0) _ hb Tryz.underlying25 rfl (by rw [hs];kernel_rfl)
 have hy:W.cell? ⟨c,0,none⟩=some (.bool y):=Go.Joins.cell_of_block hc 0
 have hl4:(loadVar 4 ⟨c,0,none⟩).run Tryz.prog W=.ok (.bool y) W:=by simp [go_sem,hy]
 refine ⟨_,?_,hR⟩
 simp [results,Tryz.results86,h2',h3',asAddr,hl,hl4,Sem.run_bind]
end Go.VE
namespace Go.VE
open Go.RowKit Go.Proofs Go.Shelf Go.Lib
set_option maxRecDepth 100000
set_option maxHeartbeats 2000000
abbrev RdP (w:World) (o:Option Rec) (e:Ending) (w':World):Prop:=Below w.heap.size w w'∧e=.returned (readV o)
theorem set8 {w:World} {b t:Nat} {x0 x1 x2 x3 x4 x5 x6 x7:Value} (h:w.heap[b]?=some (.cells #[x0,x1,x2,x3,x4,x5,x6,x7] t (0,0))) (u0 u1 u2 u3 u4 u5 u6 u7:Value):((((((((w.setCell ⟨b,0,none⟩ u0).setCell ⟨b,1,none⟩ u1).setCell ⟨b,2,none⟩ u2).setCell ⟨b,3,none⟩ u3).setCell ⟨b,4,none⟩ u4).setCell ⟨b,5,none⟩ u5).setCell ⟨b,6,none⟩ u6).setCell ⟨b,7,none⟩ u7).heap[b]?=some (.cells #[u0,u1,u2,u3,u4,u5,u6,u7] t (0,0)):=(setC_same (i:=7) (v:=u7) (setC_same (i:=6) (v:=u6) (setC_same (i:=5) (v:=u5) (setC_same (i:=4) (v:=u4) (setC_same (i:=3) (v:=u3) (setC_same (i:=2) (v:=u2) (setC_same (i:=1) (v:=u1) (setC_same (i:=0) (v:=u0) h))))))))
theorem zero8 {w W:World} {y:Value} {x0 x1 x2 x3 x4 x5 x6 x7:Value} (hb:W.heap[w.heap.size]?=some (.cells #[x0,x1,x2,x3,x4,x5,x6,x7] 25 (0,0))) (hc:W.heap[w.heap.size+1]?=some (.cells #[y] 4 (0,0))) (hbe:Below w.heap.size w W) :
  ((((((((((W.setCell ⟨w.heap.size,0,none⟩ (.int .i64 0)).setCell ⟨w.heap.size,1,none⟩ (.int .i64 0)).setCell ⟨w.heap.size,2,none⟩ (.int .i64 0)).setCell ⟨w.heap.size,3,none⟩ (.int .i64 0)).setCell ⟨w.heap.size,4,none⟩ (.int .i64 0)).setCell ⟨w.heap.size,5,none⟩ (.int .i64 0)).setCell ⟨w.heap.size,6,none⟩ (.int .i64 0)).setCell ⟨w.heap.size,7,none⟩ (.string ⟨#[]⟩)).setCell ⟨(w.heap.size+1),0,none⟩ (.bool false)).alloc (.cells #[] 195)).heap[w.heap.size]?=some (.cells (encR zeroR).toArray 25 (0,0))∧((((((((((W.setCell ⟨w.heap.size,0,none⟩ (.int .i64 0)).setCell ⟨w.heap.size,1,none⟩ (.int .i64 0)).setCell ⟨w.heap.size,2,none⟩ (.int .i64 0)).setCell ⟨w.heap.size,3,none⟩ (.int .i64 0)).setCell ⟨w.heap.size,4,none⟩ (.int .i64 0)).setCell ⟨w.heap.size,5,none⟩ (.int .i64 0)).setCell ⟨w.heap.size,6,none⟩ (.int .i64 0)).setCell ⟨w.heap.size,7,none⟩ (.string ⟨#[]⟩)).setCell ⟨(w.heap.size+1),0,none⟩ (.bool false)).alloc (.cells #[] 195)).heap[w.heap.size+1]?=some (.cells #[.bool false] 4 (0,0))∧Below w.heap.size w ((((((((((W.setCell ⟨w.heap.size,0,none⟩ (.int .i64 0)).setCell ⟨w.heap.size,1,none⟩ (.int .i64 0)).setCell ⟨w.heap.size,2,none⟩ (.int .i64 0)).setCell ⟨w.heap.size,3,none⟩ (.int .i64 0)).setCell ⟨w.heap.size,4,none⟩ (.int .i64 0)).setCell ⟨w.heap.size,5,none⟩ (.int .i64 0)).setCell ⟨w.heap.size,6,none⟩ (.int .i64 0)).setCell ⟨w.heap.size,7,none⟩ (.string ⟨#[]⟩)).setCell ⟨(w.heap.size+1),0,none⟩ (.bool false)).alloc (.cells #[] 195)):=by
 have g8:=(setC_same (i:=7) (v:=(.string ⟨#[]⟩)) (setC_same (i:=6) (v:=(.int .i64 0)) (setC_same (i:=5) (v:=(.int .i64 0)) (setC_same (i:=4) (v:=(.int .i64 0)) (setC_same (i:=3) (v:=(.int .i64 0)) (setC_same (i:=2) (v:=(.int .i64 0)) (setC_same (i:=1) (v:=(.int .i64 0)) (setC_same (i:=0) (v:=(.int .i64 0)) hb))))))))
 have o8:((((((((W.setCell ⟨w.heap.size,0,none⟩ (.int .i64 0)).setCell ⟨w.heap.size,1,none⟩ (.int .i64 0)).setCell ⟨w.heap.size,2,none⟩ (.int .i64 0)).setCell ⟨w.heap.size,3,none⟩ (.int .i64 0)).setCell ⟨w.heap.size,4,none⟩ (.int .i64 0)).setCell ⟨w.heap.size,5,none⟩ (.int .i64 0)).setCell ⟨w.heap.size,6,none⟩ (.int .i64 0)).setCell ⟨w.heap.size,7,none⟩ (.string ⟨#[]⟩)).heap[w.heap.size+1]?=some (.cells #[y] 4 (0,0)):=((setC_other (by omega)).trans ((setC_other (by omega)).trans ((setC_other (by omega)).trans ((setC_other (by omega)).trans ((setC_other (by omega)).trans ((setC_other (by omega)).trans ((setC_other (by omega)).trans ((setC_other (by omega)).trans hc))))))))
 have g9:=(setC_other (b:=w.heap.size+1) (i:=0) (v:=.bool false) (show w.heap.size≠w.heap.size+1 by omega)).trans g8
 have o9:=setC_same (i:=0) (v:=.bool false) o8
 have b9:Below w.heap.size w (((((((((W.setCell ⟨w.heap.size,0,none⟩ (.int .i64 0)).setCell ⟨w.heap.size,1,none⟩ (.int .i64 0)).setCell ⟨w.heap.size,2,none⟩ (.int .i64 0)).setCell ⟨w.heap.size,3,none⟩ (.int .i64 0)).setCell ⟨w.heap.size,4,none⟩ (.int .i64 0)).setCell ⟨w.heap.size,5,none⟩ (.int .i64 0)).setCell ⟨w.heap.size,6,none⟩ (.int .i64 0)).setCell ⟨w.heap.size,7,none⟩ (.string ⟨#[]⟩)).setCell ⟨(w.heap.size+1),0,none⟩ (.bool false)):=((((((((hbe.setCell (p:=⟨w.heap.size,0,none⟩) (Nat.le_refl _) _).setCell (p:=⟨w.heap.size,1,none⟩) (Nat.le_refl _) _).setCell (p:=⟨w.heap.size,2,none⟩) (Nat.le_refl _) _).setCell (p:=⟨w.heap.size,3,none⟩) (Nat.le_refl _) _).setCell (p:=⟨w.heap.size,4,none⟩) (Nat.le_refl _) _).setCell (p:=⟨w.heap.size,5,none⟩) (Nat.le_refl _) _).setCell (p:=⟨w.heap.size,6,none⟩) (Nat.le_refl _) _).setCell (p:=⟨w.heap.size,7,none⟩) (Nat.le_refl _) _).setCell (p:=⟨w.heap.size+1,0,none⟩) (by show w.heap.size≤w.heap.size+1;omega) _
 refine ⟨(heap_alloc_old _ _ (Array.getElem?_eq_some_iff.1 g9).1).trans g9,(heap_alloc_old _ _ (Array.getElem?_eq_some_iff.1 o9).1).trans o9,b9.alloc b9.size _⟩
theorem fin_bad {w W:World} {A:Array Value} {y:Value} (hb:W.heap[w.heap.size]?=some (.cells A 25 (0,0))) (hA:A.size=8) (hc:W.heap[w.heap.size+1]?=some (.cells #[y] 4 (0,0))) (hbe:Below w.heap.size w W) {rest:List PanicEntry} (hrest:rest=[]) :
  CallsD Tryz.prog 135 #[.pointer (some ⟨w.heap.size,0,none⟩),.pointer (some ⟨w.heap.size+1,0,none⟩)] (.panicking ({ v:=wrongV,recovered:=false }::rest)) W fun e u' w'=>e=.returned (.tuple #[])∧∀ T:Array Value,T.getD 2 undef=.pointer (some ⟨w.heap.size,0,none⟩)→T.getD 3 undef=.pointer (some ⟨w.heap.size+1,0,none⟩)→Leaves Tryz.prog Tryz.f86 T (RdP w none) [] (settle u') w':=by
 subst hrest
 obtain ⟨x0,x1,x2,x3,x4,x5,x6,x7,rfl⟩:=arr8 hA
 refine (catch135 w.heap.size (w.heap.size+1) _ _ _ _ _ _ _ _ _ [] W (by omega) hb hc).mono ?_
 rintro e u' w' ⟨rfl,rfl,rfl⟩
 obtain ⟨k1,k2,k3⟩:=zero8 hb hc hbe
 refine ⟨rfl,fun T h2 h3=>?_⟩
 rw [settle_r]
 exact leave86 h2 h3 k1 rfl k2 ⟨k3,rfl⟩
theorem fin_ok {w W:World} {r:Rec} (hb:W.heap[w.heap.size]?=some (.cells #[.int .i64 r.p,.int .i64 r.no,.int .i64 r.kd,.int .i64 r.dy,.int .i64 r.kn,.int .i64 r.op,.int .i64 r.on,.string ⟨r.tx.toArray⟩] 25 (0,0))) (hc:W.heap[w.heap.size+1]?=some (.cells #[.bool false] 4 (0,0))) (hbe:Below w.heap.size w W) (T:Array Value) (h2:T.getD 2 undef=.pointer (some ⟨w.heap.size,0,none⟩)) (h3:T.getD 3 undef=.pointer (some ⟨w.heap.size+1,0,none⟩)) :
  Leaves Tryz.prog Tryz.f86 T (RdP w (some r)) [] .returning (((((((((W.setCell ⟨w.heap.size,0,none⟩ (.int .i64 r.p)).setCell ⟨w.heap.size,1,none⟩ (.int .i64 r.no)).setCell ⟨w.heap.size,2,none⟩ (.int .i64 r.kd)).setCell ⟨w.heap.size,3,none⟩ (.int .i64 r.dy)).setCell ⟨w.heap.size,4,none⟩ (.int .i64 r.kn)).setCell ⟨w.heap.size,5,none⟩ (.int .i64 r.op)).setCell ⟨w.heap.size,6,none⟩ (.int .i64 r.on)).setCell ⟨w.heap.size,7,none⟩ (.string ⟨r.tx.toArray⟩)).setCell ⟨w.heap.size+1,0,none⟩ (.bool true)):=by
 have g8:((((((((W.setCell ⟨w.heap.size,0,none⟩ (.int .i64 r.p)).setCell ⟨w.heap.size,1,none⟩ (.int .i64 r.no)).setCell ⟨w.heap.size,2,none⟩ (.int .i64 r.kd)).setCell ⟨w.heap.size,3,none⟩ (.int .i64 r.dy)).setCell ⟨w.heap.size,4,none⟩ (.int .i64 r.kn)).setCell ⟨w.heap.size,5,none⟩ (.int .i64 r.op)).setCell ⟨w.heap.size,6,none⟩ (.int .i64 r.on)).setCell ⟨w.heap.size,7,none⟩ (.string ⟨r.tx.toArray⟩)).heap[w.heap.size]?=some (.cells (encR r).toArray 25 (0,0)):=by
  exact set8 hb _ _ _ _ _ _ _ _
 have o8:((((((((W.setCell ⟨w.heap.size,0,none⟩ (.int .i64 r.p)).setCell ⟨w.heap.size,1,none⟩ (.int .i64 r.no)).setCell ⟨w.heap.size,2,none⟩ (.int .i64 r.kd)).setCell ⟨w.heap.size,3,none⟩ (.int .i64 r.dy)).setCell ⟨w.heap.size,4,none⟩ (.int .i64 r.kn)).setCell ⟨w.heap.size,5,none⟩ (.int .i64 r.op)).setCell ⟨w.heap.size,6,none⟩ (.int .i64 r.on)).setCell ⟨w.heap.size,7,none⟩ (.string ⟨r.tx.toArray⟩)).heap[w.heap.size+1]?=some (.cells #[.bool false] 4 (0,0)):=((setC_other (by omega)).trans ((setC_other (by omega)).trans ((setC_other (by omega)).trans ((setC_other (by omega)).trans ((setC_other (by omega)).trans ((setC_other (by omega)).trans ((setC_other (by omega)).trans ((setC_other (by omega)).trans hc))))))))
 have g9:=(setC_other (b:=w.heap.size+1) (i:=0) (v:=.bool true) (show w.heap.size≠w.heap.size+1 by omega)).trans g8
 have o9:=setC_same (i:=0) (v:=.bool true) o8
 have b9:Below w.heap.size w (((((((((W.setCell ⟨w.heap.size,0,none⟩ (.int .i64 r.p)).setCell ⟨w.heap.size,1,none⟩ (.int .i64 r.no)).setCell ⟨w.heap.size,2,none⟩ (.int .i64 r.kd)).setCell ⟨w.heap.size,3,none⟩ (.int .i64 r.dy)).setCell ⟨w.heap.size,4,none⟩ (.int .i64 r.kn)).setCell ⟨w.heap.size,5,none⟩ (.int .i64 r.op)).setCell ⟨w.heap.size,6,none⟩ (.int .i64 r.on)).setCell ⟨w.heap.size,7,none⟩ (.string ⟨r.tx.toArray⟩)).setCell ⟨w.heap.size+1,0,none⟩ (.bool true)):=((((((((hbe.setCell (p:=⟨w.heap.size,0,none⟩) (Nat.le_refl _) _).setCell (p:=⟨w.heap.size,1,none⟩) (Nat.le_refl _) _).setCell (p:=⟨w.heap.size,2,none⟩) (Nat.le_refl _) _).setCell (p:=⟨w.heap.size,3,none⟩) (Nat.le_refl _) _).setCell (p:=⟨w.heap.size,4,none⟩) (Nat.le_refl _) _).setCell (p:=⟨w.heap.size,5,none⟩) (Nat.le_refl _) _).setCell (p:=⟨w.heap.size,6,none⟩) (Nat.le_refl _) _).setCell (p:=⟨w.heap.size,7,none⟩) (Nat.le_refl _) _).setCell (p:=⟨w.heap.size+1,0,none⟩) (by show w.heap.size≤w.heap.size+1;omega) _
 exact leave86 h2 h3 g9 rfl o9 ⟨b9,rfl⟩
end Go.VE
namespace Go.VE
open Go.RowKit Go.Proofs Go.Shelf Go.Lib
set_option maxRecDepth 100000
set_option maxHeartbeats 2000000
theorem read_c {Fn:Nat→List D→Out} (hF:FnOK Tryz.prog CF Fn) {s:List UInt8} (hl:s.length≤281474976710656) {o:Option Rec} (ho:readO Fn s=some o) {w:World} {U:Nat→Prop} (hU:∀ b,U b→b < w.heap.size) (hX:XX w U):Calls Tryz.prog 86 #[.string ⟨s.toArray⟩] w (RdP w o):=by
 have hmf:∀ (fn:Go.Fn) (first cap:Array Value) (w:World),(Instr.makeFunc fn first cap).run Tryz.prog w=.ok (.func fn first cap) w:=fun _ _ _ _=>rfl
 have LW:∀ {u:World},Below w.heap.size w u→LaidW u:=fun h=>(laidW hU hX).below h (laidW hU hX).s
 go_enter_defers Tryz.func86,Tryz.ntmps86
 go_wp2
 go_loopg [0,19] 7 (fun g z0 z19 wr=>∃ (l:List Nat) (t:List UInt8),z19=.int .i64 l.length∧z0=.string ⟨t.toArray⟩∧l.length+g=7∧Rd s w l t wr)
 case atStart=>exact ⟨[],s,rfl,rfl,rfl,Rd.start s w⟩
 case round =>
  obtain ⟨l,t,rfl,rfl,hg,R⟩:=hrel
  by_cases hi:l.length < 7
  ·obtain ⟨g,rfl⟩:∃ g,gk=g+1:=⟨gk - 1,by omega⟩
   have hidx:=ix197 w.heap.size hi
   have hii:(l.length:Int) < 7:=by omega
   have htl:=Nat.le_trans R.tl hl
   have hnum:=num_c t htl wr (LW R.be)
   unfold numO at hnum
   obtain ⟨tt,htt⟩:∃ S,(⟨t.toArray⟩:ByteArray)=S:=⟨_,rfl⟩
   rw [htt] at hnum ⊢
   clear htt
   cases hc:cutSp t with
   | none =>
    rw [hc] at hnum
    simp only at hnum
    have ho':o=none:=by
     have:=R.bad hi (.inl hc)
     rw [readO,this] at ho
     exact (Option.some.inj ho).symm
    subst ho'
    go_wp2_with (go_at_call 136;refine hnum.mono ?_;rintro e w1 ⟨b1,rfl⟩)
    have R1:=R.keep b1
    refine leaves_cons (f:=135) (args:=#[.pointer (some ⟨w.heap.size,0,none⟩),.pointer (some ⟨w.heap.size+1,0,none⟩)]) (by simp) (by simp [go_sem]) ?_
    refine (fin_bad R1.box (boxR_size R1.le) R1.err R1.be rfl).mono ?_
    rintro e u' w'' ⟨rfl,h⟩
    exact h _ rfl rfl
   | some p =>
    obtain ⟨a,r⟩:=p
    rw [hc] at hnum
    simp only at hnum
    cases hn:numA a with
    | none =>
     rw [hn] at hnum
     simp only at hnum
     have ho':o=none:=by
      have:=R.bad hi (.inr ⟨a,r,hc,hn⟩)
      rw [readO,this] at ho
      exact (Option.some.inj ho).symm
     subst ho'
     go_wp2_with (go_at_call 136;refine hnum.mono ?_;rintro e w1 ⟨b1,rfl⟩)
     have R1:=R.keep b1
     refine leaves_cons (f:=135) (args:=#[.pointer (some ⟨w.heap.size,0,none⟩),.pointer (some ⟨w.heap.size+1,0,none⟩)]) (by simp) (by simp [go_sem]) ?_
     refine (fin_bad R1.box (boxR_size R1.le) R1.err R1.be rfl).mono ?_
     rintro e u' w'' ⟨rfl,h⟩
     exact h _ rfl rfl
    | some n =>
     rw [hn] at hnum
     simp only at hnum
     go_wp2_with (go_at_call 136;refine hnum.mono ?_;rintro e w1 ⟨b1,rfl⟩;have R1:=R.keep b1;have c0:=(Go.Joins.cell_of_block R1.box l.length).trans (boxR_at hi);have f0:=Go.Joins.unfrozen_of_block R1.box l.length)
     go_roundg g
     case measure=>omega
     case rel=>exact ⟨l++[n],r,by simp,rfl,by simp;omega,R1.next hi hc hn⟩
  ·obtain rfl:gk=0:=by omega
   have hl7:l.length=7:=by have:=R.le;omega
   have hd:=R.done hl7
   obtain ⟨a0,a1,a2,a3,a4,a5,a6,rfl⟩:∃ a0 a1 a2 a3 a4 a5 a6,l=[a0,a1,a2,a3,a4,a5,a6]:=by
    match l,hl7 with
    | [a0,a1,a2,a3,a4,a5,a6],_=>exact ⟨_,_,_,_,_,_,_,rfl⟩
   rw [readO,hd] at ho
   simp only [mkR] at ho
   have hbx:wr.heap[w.heap.size]?=some (.cells #[.int .i64 a0,.int .i64 a1,.int .i64 a2,.int .i64 a3,.int .i64 a4,.int .i64 a5,.int .i64 a6,.string ⟨#[]⟩] 25 (0,0)):=R.box
   have c0:=Go.Joins.cell_of_block hbx 0
   have c1:=Go.Joins.cell_of_block hbx 1
   have c2:=Go.Joins.cell_of_block hbx 2
   have c3:=Go.Joins.cell_of_block hbx 3
   have c4:=Go.Joins.cell_of_block hbx 4
   have c5:=Go.Joins.cell_of_block hbx 5
   have c6:=Go.Joins.cell_of_block hbx 6
   have c7:=Go.Joins.cell_of_block hbx 7
   have f7':=Go.Joins.unfrozen_of_block hbx 7
   have hst:=setC_same (i:=7) (v:=.string ⟨t.toArray⟩) hbx
   have her:=(setC_other (b:=w.heap.size) (i:=7) (v:=.string ⟨t.toArray⟩) (show w.heap.size+1≠w.heap.size by omega)).trans R.err
   have hbe:Below w.heap.size w (wr.setCell ⟨w.heap.size,7,none⟩ (.string ⟨t.toArray⟩)):=R.be.setCell (p:=⟨w.heap.size,7,none⟩) (Nat.le_refl _) _
   have hsz:w.heap.size+1+1≤(wr.setCell ⟨w.heap.size,7,none⟩ (.string ⟨t.toArray⟩)).heap.size:=by have:=R.si;simpa [World.setCell] using this
   cases hb:isT (Fn 69 (recR ⟨a0,a1,a2,a3,a4,a5,a6,t⟩)) with
   | none=>rw [hb] at ho;cases ho
   | some bo =>
    rw [hb] at ho
    have s69:=sc_of hF (f:=69) (sh:=[.agg 8]) (vs:=[.agg (recR ⟨a0,a1,a2,a3,a4,a5,a6,t⟩)]) (rs:=[(false,[.d])]) rfl rfl (isT_some hb) rfl
    have k69:=cLit s69 (w:=wr.setCell ⟨w.heap.size,7,none⟩ (.string ⟨t.toArray⟩)) (fun b h=>Nat.lt_of_lt_of_le (hU b h) hbe.size) (hX.mono (fun b h=>hbe.block b (hU b h)) fun _ h=>h) (vs:=#[.agg #[.int .i64 a0,.int .i64 a1,.int .i64 a2,.int .i64 a3,.int .i64 a4,.int .i64 a5,.int .i64 a6,.string ⟨t.toArray⟩]]) ⟨_,_,rfl,⟨_,rfl,recR_f ⟨a0,a1,a2,a3,a4,a5,a6,t⟩⟩,rfl⟩
    clear s69 R hd hb
    cases bo with
    | false =>
     have ho':o=none:=(Option.some.inj ho).symm
     subst ho'
     go_wp2_with (go_at_call 69;refine k69.mono ?_;rintro e w5 ⟨rfl,b5⟩)
     have hb5:=(b5.block w.heap.size (by omega)).trans hst
     have he5:=(b5.block (w.heap.size+1) (by omega)).trans her
     refine leaves_cons (f:=135) (args:=#[.pointer (some ⟨w.heap.size,0,none⟩),.pointer (some ⟨w.heap.size+1,0,none⟩)]) (by simp) (by simp [go_sem]) ?_
     refine (fin_bad hb5 rfl he5 (hbe.trans (b5.mono (by omega))) rfl).mono ?_
     rintro e u' w'' ⟨rfl,h⟩
     exact h _ rfl rfl
    | true =>
     have ho':o=some ⟨a0,a1,a2,a3,a4,a5,a6,t⟩:=(Option.some.inj ho).symm
     subst ho'
     go_wp2_with (go_at_call 69;refine k69.mono ?_;rintro e w5 ⟨rfl,b5⟩;have hb5:=(b5.block w.heap.size (by omega)).trans hst;have he5:=(b5.block (w.heap.size+1) (by omega)).trans her;have d0:=Go.Joins.cell_of_block hb5 0;have f0:=Go.Joins.unfrozen_of_block hb5 0;have d1:=Go.Joins.cell_of_block hb5 1;have f1:=Go.Joins.unfrozen_of_block hb5 1;have d2:=Go.Joins.cell_of_block hb5 2;have f2:=Go.Joins.unfrozen_of_block hb5 2;have d3:=Go.Joins.cell_of_block hb5 3;have f3:=Go.Joins.unfrozen_of_block hb5 3;have d4:=Go.Joins.cell_of_block hb5 4;have f4:=Go.Joins.unfrozen_of_block hb5 4;have d5:=Go.Joins.cell_of_block hb5 5;have f5:=Go.Joins.unfrozen_of_block hb5 5;have d6:=Go.Joins.cell_of_block hb5 6;have f6:=Go.Joins.unfrozen_of_block hb5 6;have d7:=Go.Joins.cell_of_block hb5 7;have f7:=Go.Joins.unfrozen_of_block hb5 7;have de:=Go.Joins.cell_of_block he5 0;have fe:=Go.Joins.unfrozen_of_block he5 0)
     refine leaves_cons (f:=135) (args:=#[.pointer (some ⟨w.heap.size,0,none⟩),.pointer (some ⟨w.heap.size+1,0,none⟩)]) (by simp) (by simp [go_sem]) ?_
     refine (idle135 _ _ _).mono ?_
     rintro e u' w'' ⟨rfl,rfl,rfl⟩
     have hb6:w5.heap[w.heap.size]?=some (.cells #[.int .i64 a0,.int .i64 a1,.int .i64 a2,.int .i64 a3,.int .i64 a4,.int .i64 a5,.int .i64 a6,.string ⟨t.toArray⟩] 25 (0,0)):=hb5
     exact fin_ok (r:=⟨a0,a1,a2,a3,a4,a5,a6,t⟩) hb6 he5 (hbe.trans (b5.mono (by omega))) _ rfl rfl
end Go.VE
namespace Go.VE
open Go.RowKit Go.Proofs Go.Shelf Go.Lib
set_option maxRecDepth 100000
set_option maxHeartbeats 1500000
theorem ok86 {Fn:Nat→List D→Out} (hF:FnOK Tryz.prog CF Fn) {xs:List D} {vs:List VD} {j:Nat} {ys:List Yr} {rs:RS} {sh:List Sh} (h1:CF.ash 86=some sh) (h2:vdsOf sh xs=some vs) (h3:tRead Fn xs=some (j,ys)) (h4:(CF.rsk 86)[j]?=some rs):SC Tryz.prog 86 vs (pack (rvsAt ys rs 0)):=by
 unfold tRead at h3
 split at h3
 ·split at h3
  ·cases h3
  rename_i s hs
  split at h3
  ·rename_i hl
   split at h3
   ·cases h3
   rename_i o ho
   cases h3
   rw [dStr_some hs] at h2
   cases h1
   cases h2
   cases h4
   have hc:SC Tryz.prog 86 [.one (sD s)] (match o with
     | some r=>.tup [.agg ((recR r).map RC.d),.one (.d (bl true))]
     | none=>.tup [.agg ((recR zeroR).map RC.d),.one (.d (bl false))]):=by
    refine ⟨enters_of Tryz.func86 (by kernel_rfl) rfl,fun w U vs hU hX hv=>?_⟩
    obtain ⟨v,g1,g2⟩:=one_v hv
    rw [arr_of g1,sD_v g2]
    refine (read_c hF hl ho hU hX).mono ?_
    rintro e w' ⟨hb,rfl⟩
    cases o with
    | none=>exact post_lit hU hb ⟨_,rfl,_,_,[],[],rfl,rfl,⟨_,rfl,RcF_of (recR_f zeroR)⟩,_,_,[],[],rfl,rfl,⟨rfl,rfl,rfl⟩,rfl,rfl⟩
    | some r=>exact post_lit hU hb ⟨_,rfl,_,_,[],[],rfl,rfl,⟨_,rfl,RcF_of (recR_f r)⟩,_,_,[],[],rfl,rfl,⟨rfl,rfl,rfl⟩,rfl,rfl⟩
   cases o with
   | none=>exact hc
   | some r=>exact hc
  ·cases h3
 ·cases h3
end Go.VE
namespace Go.VE
open Go.RowKit Go.Proofs Go.Shelf Go.Lib
set_option maxRecDepth 100000
set_option maxHeartbeats 1500000
theorem isI_some {x:D} {z:Int} (h:isI x z=true):x=il z:=by
 unfold isI at h
 split at h
 ·rename_i k hk
  rw [decide_eq_true_eq] at h
  rw [dInt_some hk,h]
 ·cases h
theorem isNil1_some {o:Out} (h:isNil1 o=true):o=some (1,[.d (.lit (.slice none 0 0))]):=by
 unfold isNil1 at h
 split at h
 ·rw [dNil_some h]
 ·cases h
theorem isSame_some {o:Out} {p q r:Int} (h:isSame o p q r=true):o=some (0,[.d (.lit (.slice none 0 0)),.d (.lit (.slice none 0 0)),.d (.lit (.slice none 0 0)),.d (il p),.d (il q),.d (il r)]):=by
 unfold isSame at h
 split at h
 ·simp only [Bool.and_eq_true] at h
  obtain ⟨⟨⟨⟨⟨h1,h2⟩,h3⟩,h4⟩,h5⟩,h6⟩:=h
  rw [dNil_some h1,dNil_some h2,dNil_some h3,isI_some h4,isI_some h5,isI_some h6]
 ·cases h
theorem ok21 {Fn:Nat→List D→Out} (hF:FnOK Tryz.prog CF Fn) {xs:List D} {vs:List VD} {j:Nat} {ys:List Yr} {rs:RS} {sh:List Sh} (h1:CF.ash 21=some sh) (h2:vdsOf sh xs=some vs) (h3:tWrite Fn xs=some (j,ys)) (h4:(CF.rsk 21)[j]?=some rs):SC Tryz.prog 21 vs (pack (rvsAt ys rs 0)):=by
 unfold tWrite at h3
 split at h3
 ·rename_i a0 a1 a2 a3 a4 a5 l r0 r1 r2 r3 r4 r5 r6 r7
  split at h3
  ·rename_i hn
   simp only [Bool.and_eq_true] at hn
   obtain ⟨⟨⟨m0,m1⟩,m2⟩,m3⟩:=hn
   split at h3
   ·cases h3
   rename_i b3 e3
   split at h3
   ·cases h3
   rename_i b4 e4
   split at h3
   ·cases h3
   rename_i b5 e5
   split at h3
   ·cases h3
   rename_i r hr
   split at h3
   ·rename_i hc
    simp only [Bool.and_eq_true] at hc
    obtain ⟨⟨⟨h31,h81⟩,h82⟩,h83⟩:=hc
    split at h3
    ·cases h3
    rename_i ys' h71
    split at h3
    ·cases h3
    rename_i n0 z0 t0 n1 z1 t1 n2 z2 t2 hs
    cases h3
    have hr':=recD_some hr
    simp only [recR,List.cons.injEq,and_true] at hr'
    obtain ⟨rfl,rfl,rfl,rfl,rfl,rfl,rfl,rfl⟩:=hr'
    rw [dNil_some m0,dNil_some m1,dNil_some m2,dNil_some m3,dInt_some e3,dInt_some e4,dInt_some e5] at h2
    cases h1
    cases h2
    cases h4
    refine ⟨enters_of Tryz.func21 (by kernel_rfl) rfl,fun w U vs hU hX hv=>?_⟩
    have hvs:vs=#[.agg #[.slice none 0 0,.slice none 0 0,.slice none 0 0,.int .i64 b3,.int .i64 b4,.int .i64 b5],.slice none 0 0,.agg #[.int .i64 r.p,.int .i64 r.no,.int .i64 r.kd,.int .i64 r.dy,.int .i64 r.kn,.int .i64 r.op,.int .i64 r.on,.string ⟨r.tx.toArray⟩]]:=by
     simp only [VDF,VDR] at hv
     obtain ⟨_,_,g1,⟨cs,rfl,hc⟩,_,_,rfl,hl,_,_,rfl,⟨ds,rfl,hd⟩,rfl⟩:=hv
     obtain ⟨_,_,c1,q1,_,_,rfl,q2,_,_,rfl,q3,_,_,rfl,q4,_,_,rfl,q5,_,_,rfl,q6,rfl⟩:=hc
     rw [q1.1,q2.1,q3.1,il_v q4,il_v q5,il_v q6] at c1
     rw [arr_of c1,hl.1,arr_of (recR_v hd)] at g1
     exact arr_of g1
    rw [hvs]
    exact write0 hF h31 h81 (isSame_some h82) (isNil1_some h83) h71 hs hU hX
   ·cases h3
  ·cases h3
 ·cases h3
end Go.VE
namespace Go.VE
open Go.RowKit Go.Proofs Go.Shelf Go.Lib
set_option maxRecDepth 100000
set_option maxHeartbeats 1500000
theorem rec_cells {w:World} {U:Nat→Prop} {b o:Nat} {rows:List (List D)} (h:RR w U b o 8 rows) {k:Nat} {x:Rec} (hk:rows[k]?=some (recR x)):∀ j u,(encR x)[j]?=some u→w.cell? ⟨b,o+k*8+j,none⟩=some u:=fun j u hj=>by
 have h1:=h.at_ hk
 have hj8:j < 8:=(List.getElem?_eq_some_iff.1 hj).1
 have hx:(recR x)[j]?=some ((recR x)[j]'(by show j < 8;exact hj8)):=List.getElem?_eq_getElem _
 obtain ⟨u',h2,h3⟩:=h1.2.at_ hx
 rw [enc_at hj8 hx h3] at h2
 have e:(encR x)[j]! = u:=by
  rw [getElem!_pos _ _ (by show j < 8;exact hj8)]
  exact (List.getElem?_eq_some_iff.1 hj).2
 rw [e] at h2
 exact h2
theorem ok88 {Fn:Nat→List D→Out} (hF:FnOK Tryz.prog CF Fn) {xs:List D} {vs:List VD} {j:Nat} {ys:List Yr} {rs:RS} {sh:List Sh} (h1:CF.ash 88=some sh) (h2:vdsOf sh xs=some vs) (h3:tBind Fn xs=some (j,ys)) (h4:(CF.rsk 88)[j]?=some rs):SC Tryz.prog 88 vs (pack (rvsAt ys rs 0)):=by
 unfold tBind at h3
 split at h3
 ·rename_i x
  split at h3
  ·cases h3
  rename_i rows hrows
  split at h3
  ·cases h3
  rename_i a b c hq
  split at h3
  ·rename_i x0 x1 x2 y0 y1 y2 h27
   split at h3
   ·rename_i hsl
    split at h3
    ·cases h3
    rename_i y0 e0
    split at h3
    ·cases h3
    rename_i y1 e1
    split at h3
    ·cases h3
    rename_i y2 e2
    cases h3
    cases h1
    cases h2
    cases h4
    rw [dInt_some e0,dInt_some e1,dInt_some e2] at h27
    simp only [Bool.and_eq_true] at hsl
    refine ⟨enters_of Tryz.func88 (by kernel_rfl) rfl,fun w U vs hU hX hv=>?_⟩
    obtain ⟨v,g1,g2⟩:=one_v hv
    rw [arr_of g1]
    have hb:=fun (p:Option Addr) (cap:Nat) (hl:rows.length≤1000) hp=>bind_c hF hq hl (p:=p) (cap:=cap) hU hX hp h27 hsl.1.1 hsl.1.2 hsl.2
    split at hrows
    ·rename_i hn
     cases hrows
     rw [dNil_some hn] at g2
     rw [g2.1]
     exact hb none 0 (by decide) fun k x hk=>by simp at hk
    ·split at hrows
     ·rename_i s rows'
      split at hrows
      ·rename_i hs
       cases hrows
       obtain ⟨rfl,hl⟩:=hs
       simp only [DR] at g2
       obtain ⟨ad,cap,rfl,_,_,g3⟩:=g2
       refine hb (some ad) cap hl fun k x hk=>?_
       obtain ⟨bl,o,rfl,g4,g5⟩:=g3 (by have:=(List.getElem?_eq_some_iff.1 hk).1;omega)
       exact ⟨bl,o,rfl,hU bl g4,rec_cells g5 hk⟩
      ·cases hrows
     ·cases hrows
   ·cases h3
  ·cases h3
 ·cases h3
end Go.VE
