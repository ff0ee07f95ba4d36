/- Bell: an act of a parish: its parts (printed by mkbg10.py). -/
import Derived.Test.YtaagapoglhndjaaDoorMg6
import Derived.Test.YtaagapoglhndjaaDoorMg3
import Derived.Test.YtaagapoglhndjaaDoorMg5
namespace Go.VE
open Go.RowKit Go.Proofs
section
set_option maxRecDepth 100000
section
variable {Δ N R W M E Ω:Type} (p:Pr Δ N R W M E Ω)
def qhS:E→Ω:=fun y4=>p.eqN (p.ln y4 3) (p.len (p.lr y4 1)) (p.out 0 [.d (p.slD 4 (p.seg (p.lr y4 1) none (p.ln y4 2))),.d (p.ld y4 4),.d (p.ld y4 0)])
def qfV:E→Ω:=fun y4=>p.bin .eql false (p.ld y4 1) (p.lit (.int .i64 2)) fun x5=>p.cond x5 (p.eqN (p.ln y4 8) (p.len (p.lr y4 2)) (p.out 0 [.d (p.slD 4 (p.seg (p.lr y4 2) none (p.ln y4 7))),.d (p.ld y4 9),.d (p.lit (.bool true))])) (p.bin .neq false (p.ld y4 1) (p.lit (.int .i64 0)) fun x6=>p.cond x6 (p.eqN (p.ln y4 8) (p.len (p.lr y4 2)) (p.out 0 [.d (p.slD 4 (p.seg (p.lr y4 2) none (p.ln y4 7))),.d (p.ld y4 9),.d (p.lit (.bool false))])) (p.eqN (p.ln y4 8) (p.len (p.lr y4 2)) (p.inx (p.ld y4 0) (p.ln y4 7) fun n7=>p.eqN (p.ln y4 8) (p.len (p.lr y4 2)) (p.rowAt 4 (p.lr y4 2) n7 fun _=>p.eqN (p.ln y4 8) (p.len (p.setR (p.lr y4 2) n7 [p.ld y4 3,p.ld y4 4,p.ld y4 5,p.ld y4 6])) (p.out 0 [.d (p.slD 4 (p.seg (p.setR (p.lr y4 2) n7 [p.ld y4 3,p.ld y4 4,p.ld y4 5,p.ld y4 6]) none (p.ln y4 7))),.d (p.ld y4 9),.d (p.lit (.bool true))])))))
def qhR:E→Ω:=fun y4=>p.eqN (p.ln y4 4) (p.len (p.lr y4 2)) (p.eqN (p.ln y4 6) (p.len (p.lr y4 1)) (p.out 0 [.d (p.slD 4 (p.seg (p.lr y4 2) none (p.ln y4 3))),.d (p.slD 3 (p.seg (p.lr y4 1) none (p.ln y4 5))),.d (p.ld y4 0)]))
def I56 (a1 a2 a3 a4 a5 a6: Δ) (r0:R) (y1:E) (w3:W):Ω:=(p.bnd (p.call 96 [a2,(p.lit (.int .i64 19))]) [fun y4=>p.bnd (p.bin .eql false (p.ld y4 0) (p.lit (.int .i64 0)) fun x5=>p.cond x5 (p.out 0 [.d a2,.d a3,.d a4,.d a5,.d a6,.d (p.ld y1 0),.d (p.ld y4 0),.d (p.lit (.bool true)),.r (p.app (p.rows []) r0),.d (p.cell w3 0),.d (p.cell w3 1),.d (p.cell w3 2),.d (p.cell w3 3),.n (p.addN (p.natN 0) (p.len r0)),.n (p.addN (p.natN 0) (p.len r0)),.d a1]) (p.bin .eql false (p.ld y4 0) (p.lit (.int .i64 1)) fun x6=>p.out 0 [.d a2,.d a3,.d a4,.d a5,.d a6,.d (p.ld y1 0),.d (p.ld y4 0),.d x6,.r (p.app (p.rows []) r0),.d (p.cell w3 0),.d (p.cell w3 1),.d (p.cell w3 2),.d (p.cell w3 3),.n (p.addN (p.natN 0) (p.len r0)),.n (p.addN (p.natN 0) (p.len r0)),.d a1])) [fun y5=>p.cond (p.ld y5 7) (p.bnd (p.call 100 [p.ld y5 0,p.ld y5 1,p.ld y5 2,p.ld y5 3,p.ld y5 4,p.ld y5 9,p.ld y5 10,p.ld y5 11,p.ld y5 12]) [fun y6=>p.bnd (p.call 19 [p.ld y5 9,p.ld y5 10,p.ld y5 11,p.ld y5 12,p.ld y6 0]) [fun y7=>p.bin .eql false (p.ld y7 4) (p.lit (.int .i64 95)) fun x8=>p.cond x8 (p.out 0 [.d (p.lit (.bool true)),.r (p.lr y5 8),.n (p.ln y5 13),.n (p.ln y5 14),.d (p.ld y5 15)]) (p.out 1 [.d (p.ld y5 5),.d (p.ld y7 4),.r (p.lr y5 8),.d (p.ld y7 0),.d (p.ld y7 1),.d (p.ld y7 2),.d (p.ld y7 3),.n (p.ln y5 13),.n (p.ln y5 14),.d (p.ld y5 15)])]]) (p.bnd (p.bin .eql false (p.ld y5 6) (p.lit (.int .i64 2)) fun x6=>p.cond x6 (p.out 0 [.d (p.ld y5 0),.d (p.ld y5 1),.d (p.ld y5 2),.d (p.ld y5 3),.d (p.ld y5 4),.d (p.ld y5 5),.d (p.ld y5 6),.d (p.lit (.bool true)),.r (p.lr y5 8),.d (p.ld y5 9),.d (p.ld y5 10),.d (p.ld y5 11),.d (p.ld y5 12),.n (p.ln y5 13),.n (p.ln y5 14),.d (p.ld y5 15)]) (p.bin .eql false (p.ld y5 6) (p.lit (.int .i64 3)) fun x7=>p.out 0 [.d (p.ld y5 0),.d (p.ld y5 1),.d (p.ld y5 2),.d (p.ld y5 3),.d (p.ld y5 4),.d (p.ld y5 5),.d (p.ld y5 6),.d x7,.r (p.lr y5 8),.d (p.ld y5 9),.d (p.ld y5 10),.d (p.ld y5 11),.d (p.ld y5 12),.n (p.ln y5 13),.n (p.ln y5 14),.d (p.ld y5 15)])) [fun y6=>p.cond (p.ld y6 7) (p.bnd (p.call 100 [p.ld y6 0,p.ld y6 1,p.ld y6 2,p.ld y6 3,p.ld y6 4,p.ld y6 9,p.ld y6 10,p.ld y6 11,p.ld y6 12]) [fun y7=>p.bnd (p.call 21 [p.ld y6 9,p.ld y6 10,p.ld y6 11,p.ld y6 12,p.ld y7 0]) [fun y8=>p.bin .eql false (p.ld y8 4) (p.lit (.int .i64 95)) fun x9=>p.cond x9 (p.out 0 [.d (p.lit (.bool true)),.r (p.lr y6 8),.n (p.ln y6 13),.n (p.ln y6 14),.d (p.ld y6 15)]) (p.bin .eql false (p.ld y8 4) (p.lit (.int .i64 97)) fun x10=>p.cond x10 (p.out 0 [.d (p.lit (.bool true)),.r (p.lr y6 8),.n (p.ln y6 13),.n (p.ln y6 14),.d (p.ld y6 15)]) (p.out 1 [.d (p.ld y6 5),.d (p.ld y8 4),.r (p.lr y6 8),.d (p.ld y8 0),.d (p.ld y8 1),.d (p.ld y8 2),.d (p.ld y8 3),.n (p.ln y6 13),.n (p.ln y6 14),.d (p.ld y6 15)]))]]) (p.bin .eql false (p.ld y6 6) (p.lit (.int .i64 4)) fun x7=>p.cond x7 (p.bnd (p.call 100 [p.ld y6 0,p.ld y6 1,p.ld y6 2,p.ld y6 3,p.ld y6 4,p.ld y6 9,p.ld y6 10,p.ld y6 11,p.ld y6 12]) [fun y8=>p.bnd (p.call 23 [p.ld y6 9,p.ld y6 10,p.ld y6 11,p.ld y6 12,p.ld y8 0]) [fun y9=>p.bin .eql false (p.ld y9 4) (p.lit (.int .i64 96)) fun x10=>p.cond x10 (p.out 0 [.d (p.lit (.bool true)),.r (p.lr y6 8),.n (p.ln y6 13),.n (p.ln y6 14),.d (p.ld y6 15)]) (p.out 1 [.d (p.ld y6 5),.d (p.ld y9 4),.r (p.lr y6 8),.d (p.ld y9 0),.d (p.ld y9 1),.d (p.ld y9 2),.d (p.ld y9 3),.n (p.ln y6 13),.n (p.ln y6 14),.d (p.ld y6 15)])]]) (p.bnd (p.bin .eql false (p.ld y6 6) (p.lit (.int .i64 5)) fun x8=>p.cond x8 (p.out 0 [.d (p.ld y6 0),.d (p.ld y6 1),.d (p.ld y6 2),.d (p.ld y6 3),.d (p.ld y6 4),.d (p.ld y6 5),.d (p.ld y6 6),.d (p.lit (.bool true)),.r (p.lr y6 8),.d (p.ld y6 9),.d (p.ld y6 10),.d (p.ld y6 11),.d (p.ld y6 12),.n (p.ln y6 13),.n (p.ln y6 14),.d (p.ld y6 15)]) (p.bin .eql false (p.ld y6 6) (p.lit (.int .i64 6)) fun x9=>p.out 0 [.d (p.ld y6 0),.d (p.ld y6 1),.d (p.ld y6 2),.d (p.ld y6 3),.d (p.ld y6 4),.d (p.ld y6 5),.d (p.ld y6 6),.d x9,.r (p.lr y6 8),.d (p.ld y6 9),.d (p.ld y6 10),.d (p.ld y6 11),.d (p.ld y6 12),.n (p.ln y6 13),.n (p.ln y6 14),.d (p.ld y6 15)])) [fun y8=>p.cond (p.ld y8 7) (p.bnd (p.call 25 [p.ld y8 9,p.ld y8 10,p.ld y8 11,p.ld y8 12]) [fun y9=>p.out 1 [.d (p.ld y8 5),.d (p.ld y9 4),.r (p.lr y8 8),.d (p.ld y9 0),.d (p.ld y9 1),.d (p.ld y9 2),.d (p.ld y9 3),.n (p.ln y8 13),.n (p.ln y8 14),.d (p.ld y8 15)]]) (p.bin .eql false (p.ld y8 6) (p.lit (.int .i64 7)) fun x9=>p.cond x9 (p.bnd (p.call 49 [p.ld y8 9,p.ld y8 10,p.ld y8 11,p.ld y8 12]) [fun y10=>p.out 1 [.d (p.ld y8 5),.d (p.ld y10 4),.r (p.lr y8 8),.d (p.ld y10 0),.d (p.ld y10 1),.d (p.ld y10 2),.d (p.ld y10 3),.n (p.ln y8 13),.n (p.ln y8 14),.d (p.ld y8 15)]]) (p.bin .eql false (p.ld y8 6) (p.lit (.int .i64 8)) fun x10=>p.cond x10 (p.bnd (p.call 51 [p.ld y8 9,p.ld y8 10,p.ld y8 11,p.ld y8 12,p.ld y8 4]) [fun y11=>p.out 1 [.d (p.ld y8 5),.d (p.ld y11 4),.r (p.lr y8 8),.d (p.ld y11 0),.d (p.ld y11 1),.d (p.ld y11 2),.d (p.ld y11 3),.n (p.ln y8 13),.n (p.ln y8 14),.d (p.ld y8 15)]]) (p.bin .eql false (p.ld y8 6) (p.lit (.int .i64 9)) fun x11=>p.cond x11 (p.bnd (p.call 53 [p.ld y8 9,p.ld y8 10,p.ld y8 11,p.ld y8 12]) [fun y12=>p.out 1 [.d (p.ld y8 5),.d (p.ld y12 4),.r (p.lr y8 8),.d (p.ld y12 0),.d (p.ld y12 1),.d (p.ld y12 2),.d (p.ld y12 3),.n (p.ln y8 13),.n (p.ln y8 14),.d (p.ld y8 15)]]) (p.bnd (p.bin .eql false (p.ld y8 6) (p.lit (.int .i64 10)) fun x12=>p.cond x12 (p.out 0 [.d (p.ld y8 0),.d (p.ld y8 1),.d (p.ld y8 2),.d (p.ld y8 3),.d (p.ld y8 4),.d (p.ld y8 5),.d (p.lit (.bool true)),.r (p.lr y8 8),.d (p.ld y8 9),.d (p.ld y8 10),.d (p.ld y8 11),.d (p.ld y8 12),.n (p.ln y8 13),.n (p.ln y8 14),.d (p.ld y8 15)]) (p.bin .eql false (p.ld y8 6) (p.lit (.int .i64 11)) fun x13=>p.cond x13 (p.out 0 [.d (p.ld y8 0),.d (p.ld y8 1),.d (p.ld y8 2),.d (p.ld y8 3),.d (p.ld y8 4),.d (p.ld y8 5),.d (p.lit (.bool true)),.r (p.lr y8 8),.d (p.ld y8 9),.d (p.ld y8 10),.d (p.ld y8 11),.d (p.ld y8 12),.n (p.ln y8 13),.n (p.ln y8 14),.d (p.ld y8 15)]) (p.bin .eql false (p.ld y8 6) (p.lit (.int .i64 12)) fun x14=>p.out 0 [.d (p.ld y8 0),.d (p.ld y8 1),.d (p.ld y8 2),.d (p.ld y8 3),.d (p.ld y8 4),.d (p.ld y8 5),.d x14,.r (p.lr y8 8),.d (p.ld y8 9),.d (p.ld y8 10),.d (p.ld y8 11),.d (p.ld y8 12),.n (p.ln y8 13),.n (p.ln y8 14),.d (p.ld y8 15)]))) [fun y12=>p.cond (p.ld y12 6) (p.bnd (p.call 96 [p.ld y12 3,(p.lit (.int .i64 6))]) [fun y13=>p.bnd (p.call 43 [p.ld y12 8,p.ld y12 9,p.ld y12 10,p.ld y12 11,p.ld y13 0]) [fun y14=>p.bnd (p.bin .eql false (p.ld y14 3) (p.lit (.int .i64 0)) fun x15=>p.cond x15 (p.rowsD 3 (p.ld y12 14) fun r16=>p.eqN (p.natN 0) (p.len (p.rows [])) (p.eqN (p.natN 0) (p.len (p.rows [])) (p.fits 40 (p.addN (p.natN 0) (p.len r16)) (p.eqN (p.natN 1) (p.len (p.rows [[p.ld y14 0,p.ld y14 1,p.ld y14 2]])) (p.eqN (p.addN (p.natN 0) (p.len r16)) (p.len (p.app (p.rows []) r16)) (p.eqN (p.addN (p.natN 0) (p.len r16)) (p.len (p.app (p.rows []) r16)) (p.fits 40 (p.addN (p.addN (p.natN 0) (p.len r16)) (p.len (p.seg (p.rows [[p.ld y14 0,p.ld y14 1,p.ld y14 2]]) none (p.natN 1)))) (p.out 0 [.d (p.ld y12 5),.d (p.ld y13 0),.d (p.ld y14 3),.r (p.app (p.app (p.rows []) r16) (p.seg (p.rows [[p.ld y14 0,p.ld y14 1,p.ld y14 2]]) none (p.natN 1))),.r (p.lr y12 7),.n (p.ln y12 12),.n (p.ln y12 13),.n (p.addN (p.addN (p.natN 0) (p.len r16)) (p.len (p.seg (p.rows [[p.ld y14 0,p.ld y14 1,p.ld y14 2]]) none (p.natN 1)))),.n (p.addN (p.addN (p.natN 0) (p.len r16)) (p.len (p.seg (p.rows [[p.ld y14 0,p.ld y14 1,p.ld y14 2]]) none (p.natN 1))))])))))))) (p.out 1 [.d (p.ld y12 5),.d (p.ld y13 0),.d (p.ld y14 3),.r (p.lr y12 7),.n (p.ln y12 12),.n (p.ln y12 13),.d (p.ld y12 14)])) [fun y15=>p.bin .eql false (p.ld y15 2) (p.lit (.int .i64 0)) fun x16=>p.cond x16 (p.out 2 [.d (p.lit (.bool true)),.r (p.lr y15 3),.r (p.lr y15 4),.n (p.ln y15 5),.n (p.ln y15 6),.n (p.ln y15 7),.n (p.ln y15 8)]) (p.bin .eql false (p.ld y15 2) (p.lit (.int .i64 1)) fun x17=>p.bnd (p.cond x17 (p.bin .eql false (p.ld y15 1) (p.ld y15 0) fun x18=>p.out 0 [.n (p.ln y15 5),.n (p.ln y15 6),.n (p.ln y15 7),.n (p.ln y15 8),.d x18,.r (p.lr y15 3),.r (p.lr y15 4)]) (p.out 0 [.n (p.ln y15 5),.n (p.ln y15 6),.n (p.ln y15 7),.n (p.ln y15 8),.d (p.lit (.bool false)),.r (p.lr y15 3),.r (p.lr y15 4)])) [fun y18=>p.out 2 [.d (p.ld y18 4),.r (p.lr y18 5),.r (p.lr y18 6),.n (p.ln y18 0),.n (p.ln y18 1),.n (p.ln y18 2),.n (p.ln y18 3)]]),fun y15=>p.bin .eql false (p.ld y15 2) (p.lit (.int .i64 0)) fun x16=>p.cond x16 (p.out 0 [.d (p.lit (.bool true)),.r (p.lr y15 3),.n (p.ln y15 4),.n (p.ln y15 5),.d (p.ld y15 6)]) (p.bin .eql false (p.ld y15 2) (p.lit (.int .i64 1)) fun x17=>p.bnd (p.cond x17 (p.bin .eql false (p.ld y15 1) (p.ld y15 0) fun x18=>p.out 0 [.n (p.ln y15 4),.n (p.ln y15 5),.d (p.ld y15 6),.d x18,.r (p.lr y15 3)]) (p.out 0 [.n (p.ln y15 4),.n (p.ln y15 5),.d (p.ld y15 6),.d (p.lit (.bool false)),.r (p.lr y15 3)])) [fun y18=>p.out 0 [.d (p.ld y18 3),.r (p.lr y18 4),.n (p.ln y18 0),.n (p.ln y18 1),.d (p.ld y18 2)]])]]]) (p.lenD (p.ld y12 14) fun x13=>p.bin .eql false x13 (p.lit (.int .i64 0)) fun x14=>p.cond x14 (p.out 0 [.d (p.lit (.bool true)),.r (p.lr y12 7),.n (p.ln y12 12),.n (p.ln y12 13),.d (p.ld y12 14)]) (p.lenD (p.ld y12 14) fun x15=>p.bnd (p.call 96 [p.ld y12 4,x15]) [fun y16=>p.rowD 3 (p.ld y12 14) (p.ld y16 0) fun w17=>p.bin .lss false (p.cell w17 1) (p.lit (.int .i64 0)) fun x18=>p.cond x18 (p.out 0 [.d (p.lit (.bool false)),.r (p.lr y12 7),.n (p.ln y12 12),.n (p.ln y12 13),.d (p.ld y12 14)]) (p.bin .geq false (p.cell w17 1) (p.lit (.int .i64 6)) fun x19=>p.cond x19 (p.out 0 [.d (p.lit (.bool false)),.r (p.lr y12 7),.n (p.ln y12 12),.n (p.ln y12 13),.d (p.ld y12 14)]) (p.eqN (p.ln y12 13) (p.len (p.lr y12 7)) (p.inx (p.cell w17 1) (p.ln y12 12) fun n20=>p.eqN (p.ln y12 13) (p.len (p.lr y12 7)) (p.rowAt 4 (p.lr y12 7) n20 fun w21=>p.bnd (p.call 27 [p.cell w21 0,p.cell w21 1,p.cell w21 2,p.cell w21 3,p.cell w17 0,p.cell w17 1,p.cell w17 2]) [fun y22=>p.out 1 [.d (p.cell w17 1),.d (p.ld y22 4),.r (p.lr y12 7),.d (p.ld y22 0),.d (p.ld y22 1),.d (p.ld y22 2),.d (p.ld y22 3),.n (p.ln y12 12),.n (p.ln y12 13),.d (p.ld y12 14)]]))))]))]))))]))])]])
def H56 (a0 a1 a2 a3 a4 a5 a6: Δ):Ω:=(p.rowsD 4 a0 fun r0=>p.eqN (p.natN 0) (p.len (p.rows [])) (p.eqN (p.natN 0) (p.len (p.rows [])) (p.fits 64 (p.addN (p.natN 0) (p.len r0)) (p.bnd (p.call 96 [a3,(p.lit (.int .i64 6))]) [fun y1=>p.eqN (p.addN (p.natN 0) (p.len r0)) (p.len (p.app (p.rows []) r0)) (p.inx (p.ld y1 0) (p.addN (p.natN 0) (p.len r0)) fun n2=>p.eqN (p.addN (p.natN 0) (p.len r0)) (p.len (p.app (p.rows []) r0)) (p.rowAt 4 (p.app (p.rows []) r0) n2 fun w3=>p.bnd (I56 p a1 a2 a3 a4 a5 a6 r0 y1 w3) [qhS p,qfV p,qhR p]))]))))
end
theorem eG56:@G56=@H56:=rfl
end
section
set_option maxRecDepth 100000
theorem k56_0 (n:Nat) (ws:List W4) (o:Option (List P3)) (t:D):qhS (RP n) [.d t,.r (ws.map rWt),.n ws.length,.n ws.length,.d (dP o)]=some (0,[.d (dW (some ws)),.d (dP o),.d t]):=by
 have ht:(ws.map rWt).take ws.length=ws.map rWt:=List.take_of_length_le (by simp)
 simp only [qhS,q06,q0a,q0h,q0j,q0e,q0g,q0v,List.length_map,q0O,if_true,q0K,ht,q2N,q0t]
 rfl
theorem k56_2 (n:Nat) (ws:List W4) (ps:List P3) (t:D):qhR (RP n) [.d t,.r (ps.map rP),.r (ws.map rWt),.n ws.length,.n ws.length,.n ps.length,.n ps.length]=some (0,[.d (dW (some ws)),.d (dP (some ps)),.d t]):=by
 have ht:(ws.map rWt).take ws.length=ws.map rWt:=List.take_of_length_le (by simp)
 have hp:(ps.map rP).take ps.length=ps.map rP:=List.take_of_length_le (by simp)
 simp only [qhR,q06,q0h,q0j,q0e,q0g,q0v,List.length_map,q0O,if_true,q0K,ht,hp,q2N,q0t]
 rfl
theorem k56_1 (n:Nat) (ws:List W4) (o:Option (List P3)) {k:Nat} (hk:k < ws.length) (m h e:Int) (b:Option (List Brd)) (s:Option (List Stk)) (he:e=0∨e=2) :
  qfV (RP n) [.d (il k),.d (il e),.r (ws.map rWt),.d (il m),.d (dB b),.d (dS s),.d (il h),.n ws.length,.n ws.length,.d (dP o)]=some (0,[.d (dW (some (if e=0 then ws.set k (m,b,s,h) else ws))),.d (dP o),.d (bl true)]):=by
 have ht:(ws.map rWt).take ws.length=ws.map rWt:=List.take_of_length_le (by simp)
 have hs:(ws.map rWt).set k [il m,dB b,dS s,il h]=(ws.set k (m,b,s,h)).map rWt:=by rw [List.map_set];rfl
 have hts:((ws.set k (m,b,s,h)).map rWt).take ws.length=(ws.set k (m,b,s,h)).map rWt:=List.take_of_length_le (by simp)
 have hrow:(ws.map rWt)[k]?=some (rWt ws[k]):=by rw [List.getElem?_map,List.getElem?_eq_getElem hk];rfl
 have hc:(rWt ws[k]).length=4:=rfl
 have hki:(0:Int)≤(k:Int)∧(k:Int) < (ws.length:Int):=by omega
 rcases he with rfl | rfl
 ·simp only [qfV,q06,q0a,q0h,q0j,q0e,q0g,q09,q0u,q0H,q2a,ne_eq,not_true,show ((0:Int)=2)=False by simp,decide_false,q04,Bool.false_eq_true,if_false,q0v,List.length_map,q0O,if_true,q1K,hki,and_self,Int.toNat_natCast,q3n,hrow,hc,qi9,hs,List.length_set,q0K,hts,q2N,q0t]
  rfl
 ·simp only [qfV,q06,q0a,q0h,q0j,q0e,q0g,q09,q0u,q0H,decide_true,q04,if_true,q0v,List.length_map,q0O,q0K,ht,q2N,q0t,show ((2:Int)=0)=False by simp,if_false]
  rfl
def Act (ws:List W4) (o:Option (List P3)) (X:Out):Prop :=
 X=some (0,[.d (bl true),.r (ws.map rWt),.n 6,.n 6,.d (dP o)]) ∨
 (∃ (kk:Nat) (e m h:Int) (b:Option (List Brd)) (s:Option (List Stk)),X=some (1,[.d (il kk),.d (il e),.r (ws.map rWt),.d (il m),.d (dB b),.d (dS s),.d (il h),.n 6,.n 6,.d (dP o)])∧kk < 6∧(e=2∨(e=0∧GoodW (ws.set kk (m,b,s,h)) (o.getD [])))) ∨
 (∃ p:P3,X=some (2,[.d (bl true),.r ((o.getD []++[p]).map rP),.r (ws.map rWt),.n 6,.n 6,.n ((o.getD []).length+1),.n ((o.getD []).length+1)])∧GoodW ws (o.getD []++[p]))
section
variable {ws:List W4} {o:Option (List P3)} (hG:GoodW ws (o.getD [])) {k:Nat} {w:W4} (hw:ws[k]?=some w) (n:Nat) (kind who fld to pick:Int)
include hG hw
theorem i56_0 (hc:q2n kind 19=0):Act ws o (I56 (RP (n+8)) (dP o) (il kind) (il who) (il fld) (il to) (il pick) (ws.map rWt) [.d (il k)] (rWt w)):=by
 obtain ⟨a1,a2,a3⟩:=hG.wat k w hw
 have hk:k < 6:=by rw [←hG.len];exact (List.getElem?_eq_some_iff.1 hw).1
 have hsm:=hG.small w (List.mem_of_getElem? hw)
 have h96:=s96 (n+7) kind 19 (by omega) (by omega)
 rw [hc] at h96
 obtain ⟨fl',j,h100,hx⟩:=s100 (n+6) hk a2 (il kind) (il who) (il to) (il pick) (il w.1) (dS w.2.2.1) (il w.2.2.2) fld
 have hcall:=s19 (n+2) w.1 w.2.2.2 w.2.1 w.2.2.1 fl' hsm.2 hsm.1
 obtain ⟨m,b,s,h,e,hX,he⟩:Ans ws (o.getD []) k _ _:=qbu hG hw hx
 have hcall:=hcall.trans hX
 rcases he with ⟨rfl,hg⟩ | ⟨hne,he⟩
 ·refine .inr (.inl ⟨k,0,m,h,b,s,?_,hk,.inr ⟨rfl,hg⟩⟩)
  simp only [I56,Int.reduceEq,q0i,q02,q06,q0a,q0h,q0j,q0e,q0g,q09,q0u,q0H,decide_true,decide_false,q04,if_true,if_false,Bool.false_eq_true,q0t,cW0,cW1,cW2,cW3,q0k,q0o,q0I,List.nil_append,q0v,List.length_nil,List.length_map,hG.len,q0n,Nat.zero_add,h96,h100,hcall]
 ·rcases he with rfl | rfl
  ·refine .inr (.inl ⟨k,2,m,h,b,s,?_,hk,.inl rfl⟩)
   simp only [I56,Int.reduceEq,q0i,q02,q06,q0a,q0h,q0j,q0e,q0g,q09,q0u,q0H,decide_true,decide_false,q04,if_true,if_false,Bool.false_eq_true,q0t,cW0,cW1,cW2,cW3,q0k,q0o,q0I,List.nil_append,q0v,List.length_nil,List.length_map,hG.len,q0n,Nat.zero_add,h96,h100,hcall]
  ·left
   simp only [I56,Int.reduceEq,q0i,q02,q06,q0a,q0h,q0j,q0e,q0g,q09,q0u,q0H,decide_true,decide_false,q04,if_true,if_false,Bool.false_eq_true,q0t,cW0,cW1,cW2,cW3,q0k,q0o,q0I,List.nil_append,q0v,List.length_nil,List.length_map,hG.len,q0n,Nat.zero_add,h96,h100,hcall]
theorem i56_1 (hc:q2n kind 19=1):Act ws o (I56 (RP (n+8)) (dP o) (il kind) (il who) (il fld) (il to) (il pick) (ws.map rWt) [.d (il k)] (rWt w)):=by
 obtain ⟨a1,a2,a3⟩:=hG.wat k w hw
 have hk:k < 6:=by rw [←hG.len];exact (List.getElem?_eq_some_iff.1 hw).1
 have hsm:=hG.small w (List.mem_of_getElem? hw)
 have h96:=s96 (n+7) kind 19 (by omega) (by omega)
 rw [hc] at h96
 obtain ⟨fl',j,h100,hx⟩:=s100 (n+6) hk a2 (il kind) (il who) (il to) (il pick) (il w.1) (dS w.2.2.1) (il w.2.2.2) fld
 have hcall:=s19 (n+2) w.1 w.2.2.2 w.2.1 w.2.2.1 fl' hsm.2 hsm.1
 obtain ⟨m,b,s,h,e,hX,he⟩:Ans ws (o.getD []) k _ _:=qbu hG hw hx
 have hcall:=hcall.trans hX
 rcases he with ⟨rfl,hg⟩ | ⟨hne,he⟩
 ·refine .inr (.inl ⟨k,0,m,h,b,s,?_,hk,.inr ⟨rfl,hg⟩⟩)
  simp only [I56,Int.reduceEq,q0i,q02,q06,q0a,q0h,q0j,q0e,q0g,q09,q0u,q0H,decide_true,decide_false,q04,if_true,if_false,Bool.false_eq_true,q0t,cW0,cW1,cW2,cW3,q0k,q0o,q0I,List.nil_append,q0v,List.length_nil,List.length_map,hG.len,q0n,Nat.zero_add,h96,h100,hcall]
 ·rcases he with rfl | rfl
  ·refine .inr (.inl ⟨k,2,m,h,b,s,?_,hk,.inl rfl⟩)
   simp only [I56,Int.reduceEq,q0i,q02,q06,q0a,q0h,q0j,q0e,q0g,q09,q0u,q0H,decide_true,decide_false,q04,if_true,if_false,Bool.false_eq_true,q0t,cW0,cW1,cW2,cW3,q0k,q0o,q0I,List.nil_append,q0v,List.length_nil,List.length_map,hG.len,q0n,Nat.zero_add,h96,h100,hcall]
  ·left
   simp only [I56,Int.reduceEq,q0i,q02,q06,q0a,q0h,q0j,q0e,q0g,q09,q0u,q0H,decide_true,decide_false,q04,if_true,if_false,Bool.false_eq_true,q0t,cW0,cW1,cW2,cW3,q0k,q0o,q0I,List.nil_append,q0v,List.length_nil,List.length_map,hG.len,q0n,Nat.zero_add,h96,h100,hcall]
theorem i56_2 (hc:q2n kind 19=2):Act ws o (I56 (RP (n+8)) (dP o) (il kind) (il who) (il fld) (il to) (il pick) (ws.map rWt) [.d (il k)] (rWt w)):=by
 obtain ⟨a1,a2,a3⟩:=hG.wat k w hw
 have hk:k < 6:=by rw [←hG.len];exact (List.getElem?_eq_some_iff.1 hw).1
 have hsm:=hG.small w (List.mem_of_getElem? hw)
 have h96:=s96 (n+7) kind 19 (by omega) (by omega)
 rw [hc] at h96
 obtain ⟨fl',j,h100,hx⟩:=s100 (n+6) hk a2 (il kind) (il who) (il to) (il pick) (il w.1) (dS w.2.2.1) (il w.2.2.2) fld
 have hcall:=s21 (n+2) w.1 w.2.2.2 w.2.1 w.2.2.1 fl' hsm.2 hsm.1
 obtain ⟨m,b,s,h,e,hX,he⟩:Ans ws (o.getD []) k _ _:=qbC hG hw hx
 have hcall:=hcall.trans hX
 rcases he with ⟨rfl,hg⟩ | ⟨hne,he⟩
 ·refine .inr (.inl ⟨k,0,m,h,b,s,?_,hk,.inr ⟨rfl,hg⟩⟩)
  simp only [I56,Int.reduceEq,q0i,q02,q06,q0a,q0h,q0j,q0e,q0g,q09,q0u,q0H,decide_true,decide_false,q04,if_true,if_false,Bool.false_eq_true,q0t,cW0,cW1,cW2,cW3,q0k,q0o,q0I,List.nil_append,q0v,List.length_nil,List.length_map,hG.len,q0n,Nat.zero_add,h96,h100,hcall]
 ·rcases he with rfl | rfl | rfl
  ·refine .inr (.inl ⟨k,2,m,h,b,s,?_,hk,.inl rfl⟩)
   simp only [I56,Int.reduceEq,q0i,q02,q06,q0a,q0h,q0j,q0e,q0g,q09,q0u,q0H,decide_true,decide_false,q04,if_true,if_false,Bool.false_eq_true,q0t,cW0,cW1,cW2,cW3,q0k,q0o,q0I,List.nil_append,q0v,List.length_nil,List.length_map,hG.len,q0n,Nat.zero_add,h96,h100,hcall]
  ·left
   simp only [I56,Int.reduceEq,q0i,q02,q06,q0a,q0h,q0j,q0e,q0g,q09,q0u,q0H,decide_true,decide_false,q04,if_true,if_false,Bool.false_eq_true,q0t,cW0,cW1,cW2,cW3,q0k,q0o,q0I,List.nil_append,q0v,List.length_nil,List.length_map,hG.len,q0n,Nat.zero_add,h96,h100,hcall]
  ·left
   simp only [I56,Int.reduceEq,q0i,q02,q06,q0a,q0h,q0j,q0e,q0g,q09,q0u,q0H,decide_true,decide_false,q04,if_true,if_false,Bool.false_eq_true,q0t,cW0,cW1,cW2,cW3,q0k,q0o,q0I,List.nil_append,q0v,List.length_nil,List.length_map,hG.len,q0n,Nat.zero_add,h96,h100,hcall]
theorem i56_3 (hc:q2n kind 19=3):Act ws o (I56 (RP (n+8)) (dP o) (il kind) (il who) (il fld) (il to) (il pick) (ws.map rWt) [.d (il k)] (rWt w)):=by
 obtain ⟨a1,a2,a3⟩:=hG.wat k w hw
 have hk:k < 6:=by rw [←hG.len];exact (List.getElem?_eq_some_iff.1 hw).1
 have hsm:=hG.small w (List.mem_of_getElem? hw)
 have h96:=s96 (n+7) kind 19 (by omega) (by omega)
 rw [hc] at h96
 obtain ⟨fl',j,h100,hx⟩:=s100 (n+6) hk a2 (il kind) (il who) (il to) (il pick) (il w.1) (dS w.2.2.1) (il w.2.2.2) fld
 have hcall:=s21 (n+2) w.1 w.2.2.2 w.2.1 w.2.2.1 fl' hsm.2 hsm.1
 obtain ⟨m,b,s,h,e,hX,he⟩:Ans ws (o.getD []) k _ _:=qbC hG hw hx
 have hcall:=hcall.trans hX
 rcases he with ⟨rfl,hg⟩ | ⟨hne,he⟩
 ·refine .inr (.inl ⟨k,0,m,h,b,s,?_,hk,.inr ⟨rfl,hg⟩⟩)
  simp only [I56,Int.reduceEq,q0i,q02,q06,q0a,q0h,q0j,q0e,q0g,q09,q0u,q0H,decide_true,decide_false,q04,if_true,if_false,Bool.false_eq_true,q0t,cW0,cW1,cW2,cW3,q0k,q0o,q0I,List.nil_append,q0v,List.length_nil,List.length_map,hG.len,q0n,Nat.zero_add,h96,h100,hcall]
 ·rcases he with rfl | rfl | rfl
  ·refine .inr (.inl ⟨k,2,m,h,b,s,?_,hk,.inl rfl⟩)
   simp only [I56,Int.reduceEq,q0i,q02,q06,q0a,q0h,q0j,q0e,q0g,q09,q0u,q0H,decide_true,decide_false,q04,if_true,if_false,Bool.false_eq_true,q0t,cW0,cW1,cW2,cW3,q0k,q0o,q0I,List.nil_append,q0v,List.length_nil,List.length_map,hG.len,q0n,Nat.zero_add,h96,h100,hcall]
  ·left
   simp only [I56,Int.reduceEq,q0i,q02,q06,q0a,q0h,q0j,q0e,q0g,q09,q0u,q0H,decide_true,decide_false,q04,if_true,if_false,Bool.false_eq_true,q0t,cW0,cW1,cW2,cW3,q0k,q0o,q0I,List.nil_append,q0v,List.length_nil,List.length_map,hG.len,q0n,Nat.zero_add,h96,h100,hcall]
  ·left
   simp only [I56,Int.reduceEq,q0i,q02,q06,q0a,q0h,q0j,q0e,q0g,q09,q0u,q0H,decide_true,decide_false,q04,if_true,if_false,Bool.false_eq_true,q0t,cW0,cW1,cW2,cW3,q0k,q0o,q0I,List.nil_append,q0v,List.length_nil,List.length_map,hG.len,q0n,Nat.zero_add,h96,h100,hcall]
theorem i56_4 (hc:q2n kind 19=4):Act ws o (I56 (RP (n+8)) (dP o) (il kind) (il who) (il fld) (il to) (il pick) (ws.map rWt) [.d (il k)] (rWt w)):=by
 obtain ⟨a1,a2,a3⟩:=hG.wat k w hw
 have hk:k < 6:=by rw [←hG.len];exact (List.getElem?_eq_some_iff.1 hw).1
 have hsm:=hG.small w (List.mem_of_getElem? hw)
 have h96:=s96 (n+7) kind 19 (by omega) (by omega)
 rw [hc] at h96
 obtain ⟨fl',j,h100,hx⟩:=s100 (n+6) hk a2 (il kind) (il who) (il to) (il pick) (il w.1) (dS w.2.2.1) (il w.2.2.2) fld
 have hcall:=s23 (n+2) w.1 w.2.2.2 w.2.1 w.2.2.1 fl' hsm.2 hsm.1
 obtain ⟨m,b,s,h,e,hX,he⟩:Ans ws (o.getD []) k _ _:=qgm hG hw hx
 have hcall:=hcall.trans hX
 rcases he with ⟨rfl,hg⟩ | ⟨hne,he⟩
 ·refine .inr (.inl ⟨k,0,m,h,b,s,?_,hk,.inr ⟨rfl,hg⟩⟩)
  simp only [I56,Int.reduceEq,q0i,q02,q06,q0a,q0h,q0j,q0e,q0g,q09,q0u,q0H,decide_true,decide_false,q04,if_true,if_false,Bool.false_eq_true,q0t,cW0,cW1,cW2,cW3,q0k,q0o,q0I,List.nil_append,q0v,List.length_nil,List.length_map,hG.len,q0n,Nat.zero_add,h96,h100,hcall]
 ·rcases he with rfl | rfl
  ·refine .inr (.inl ⟨k,2,m,h,b,s,?_,hk,.inl rfl⟩)
   simp only [I56,Int.reduceEq,q0i,q02,q06,q0a,q0h,q0j,q0e,q0g,q09,q0u,q0H,decide_true,decide_false,q04,if_true,if_false,Bool.false_eq_true,q0t,cW0,cW1,cW2,cW3,q0k,q0o,q0I,List.nil_append,q0v,List.length_nil,List.length_map,hG.len,q0n,Nat.zero_add,h96,h100,hcall]
  ·left
   simp only [I56,Int.reduceEq,q0i,q02,q06,q0a,q0h,q0j,q0e,q0g,q09,q0u,q0H,decide_true,decide_false,q04,if_true,if_false,Bool.false_eq_true,q0t,cW0,cW1,cW2,cW3,q0k,q0o,q0I,List.nil_append,q0v,List.length_nil,List.length_map,hG.len,q0n,Nat.zero_add,h96,h100,hcall]
theorem i56_5 (hc:q2n kind 19=5):Act ws o (I56 (RP (n+8)) (dP o) (il kind) (il who) (il fld) (il to) (il pick) (ws.map rWt) [.d (il k)] (rWt w)):=by
 obtain ⟨a1,a2,a3⟩:=hG.wat k w hw
 have hk:k < 6:=by rw [←hG.len];exact (List.getElem?_eq_some_iff.1 hw).1
 have hsm:=hG.small w (List.mem_of_getElem? hw)
 have h96:=s96 (n+7) kind 19 (by omega) (by omega)
 rw [hc] at h96
 have hcall:=s25 (n+2) w.1 w.2.2.2 w.2.1 w.2.2.1 hsm.2 hsm.1
 obtain ⟨m,b,s,h,e,hX,he⟩:Ans ws (o.getD []) k _ _:=q9q hG hw
 have hcall:=hcall.trans hX
 rcases he with ⟨rfl,hg⟩ | ⟨hne,he⟩
 ·refine .inr (.inl ⟨k,0,m,h,b,s,?_,hk,.inr ⟨rfl,hg⟩⟩)
  simp only [I56,Int.reduceEq,q0i,q02,q06,q0a,q0h,q0j,q0e,q0g,q09,q0u,q0H,decide_true,decide_false,q04,if_true,if_false,Bool.false_eq_true,q0t,cW0,cW1,cW2,cW3,q0k,q0o,q0I,List.nil_append,q0v,List.length_nil,List.length_map,hG.len,q0n,Nat.zero_add,h96,hcall]
 ·subst he
  refine .inr (.inl ⟨k,2,m,h,b,s,?_,hk,.inl rfl⟩)
  simp only [I56,Int.reduceEq,q0i,q02,q06,q0a,q0h,q0j,q0e,q0g,q09,q0u,q0H,decide_true,decide_false,q04,if_true,if_false,Bool.false_eq_true,q0t,cW0,cW1,cW2,cW3,q0k,q0o,q0I,List.nil_append,q0v,List.length_nil,List.length_map,hG.len,q0n,Nat.zero_add,h96,hcall]
theorem i56_6 (hc:q2n kind 19=6):Act ws o (I56 (RP (n+8)) (dP o) (il kind) (il who) (il fld) (il to) (il pick) (ws.map rWt) [.d (il k)] (rWt w)):=by
 obtain ⟨a1,a2,a3⟩:=hG.wat k w hw
 have hk:k < 6:=by rw [←hG.len];exact (List.getElem?_eq_some_iff.1 hw).1
 have hsm:=hG.small w (List.mem_of_getElem? hw)
 have h96:=s96 (n+7) kind 19 (by omega) (by omega)
 rw [hc] at h96
 have hcall:=s25 (n+2) w.1 w.2.2.2 w.2.1 w.2.2.1 hsm.2 hsm.1
 obtain ⟨m,b,s,h,e,hX,he⟩:Ans ws (o.getD []) k _ _:=q9q hG hw
 have hcall:=hcall.trans hX
 rcases he with ⟨rfl,hg⟩ | ⟨hne,he⟩
 ·refine .inr (.inl ⟨k,0,m,h,b,s,?_,hk,.inr ⟨rfl,hg⟩⟩)
  simp only [I56,Int.reduceEq,q0i,q02,q06,q0a,q0h,q0j,q0e,q0g,q09,q0u,q0H,decide_true,decide_false,q04,if_true,if_false,Bool.false_eq_true,q0t,cW0,cW1,cW2,cW3,q0k,q0o,q0I,List.nil_append,q0v,List.length_nil,List.length_map,hG.len,q0n,Nat.zero_add,h96,hcall]
 ·subst he
  refine .inr (.inl ⟨k,2,m,h,b,s,?_,hk,.inl rfl⟩)
  simp only [I56,Int.reduceEq,q0i,q02,q06,q0a,q0h,q0j,q0e,q0g,q09,q0u,q0H,decide_true,decide_false,q04,if_true,if_false,Bool.false_eq_true,q0t,cW0,cW1,cW2,cW3,q0k,q0o,q0I,List.nil_append,q0v,List.length_nil,List.length_map,hG.len,q0n,Nat.zero_add,h96,hcall]
theorem i56_7 (hc:q2n kind 19=7):Act ws o (I56 (RP (n+8)) (dP o) (il kind) (il who) (il fld) (il to) (il pick) (ws.map rWt) [.d (il k)] (rWt w)):=by
 obtain ⟨a1,a2,a3⟩:=hG.wat k w hw
 have hk:k < 6:=by rw [←hG.len];exact (List.getElem?_eq_some_iff.1 hw).1
 have hsm:=hG.small w (List.mem_of_getElem? hw)
 have h96:=s96 (n+7) kind 19 (by omega) (by omega)
 rw [hc] at h96
 have hcall:=s49 (n+2) w.1 w.2.2.2 w.2.1 w.2.2.1 hsm.2 hsm.1
 obtain ⟨m,b,s,h,e,hX,he⟩:Ans ws (o.getD []) k _ _:=qhH hG hw
 have hcall:=hcall.trans hX
 rcases he with ⟨rfl,hg⟩ | ⟨hne,he⟩
 ·refine .inr (.inl ⟨k,0,m,h,b,s,?_,hk,.inr ⟨rfl,hg⟩⟩)
  simp only [I56,Int.reduceEq,q0i,q02,q06,q0a,q0h,q0j,q0e,q0g,q09,q0u,q0H,decide_true,decide_false,q04,if_true,if_false,Bool.false_eq_true,q0t,cW0,cW1,cW2,cW3,q0k,q0o,q0I,List.nil_append,q0v,List.length_nil,List.length_map,hG.len,q0n,Nat.zero_add,h96,hcall]
 ·exact he.elim
theorem i56_8 (hc:q2n kind 19=8):Act ws o (I56 (RP (n+8)) (dP o) (il kind) (il who) (il fld) (il to) (il pick) (ws.map rWt) [.d (il k)] (rWt w)):=by
 obtain ⟨a1,a2,a3⟩:=hG.wat k w hw
 have hk:k < 6:=by rw [←hG.len];exact (List.getElem?_eq_some_iff.1 hw).1
 have hsm:=hG.small w (List.mem_of_getElem? hw)
 have h96:=s96 (n+7) kind 19 (by omega) (by omega)
 rw [hc] at h96
 have hcall:=s51 (n+2) w.1 w.2.2.2 pick w.2.1 w.2.2.1 hsm.2 hsm.1
 obtain ⟨m,b,s,h,e,hX,he⟩:Ans ws (o.getD []) k _ _:=qgi hG hw
 have hcall:=hcall.trans hX
 rcases he with ⟨rfl,hg⟩ | ⟨hne,he⟩
 ·refine .inr (.inl ⟨k,0,m,h,b,s,?_,hk,.inr ⟨rfl,hg⟩⟩)
  simp only [I56,Int.reduceEq,q0i,q02,q06,q0a,q0h,q0j,q0e,q0g,q09,q0u,q0H,decide_true,decide_false,q04,if_true,if_false,Bool.false_eq_true,q0t,cW0,cW1,cW2,cW3,q0k,q0o,q0I,List.nil_append,q0v,List.length_nil,List.length_map,hG.len,q0n,Nat.zero_add,h96,hcall]
 ·exact he.elim
theorem i56_9 (hc:q2n kind 19=9):Act ws o (I56 (RP (n+8)) (dP o) (il kind) (il who) (il fld) (il to) (il pick) (ws.map rWt) [.d (il k)] (rWt w)):=by
 obtain ⟨a1,a2,a3⟩:=hG.wat k w hw
 have hk:k < 6:=by rw [←hG.len];exact (List.getElem?_eq_some_iff.1 hw).1
 have hsm:=hG.small w (List.mem_of_getElem? hw)
 have h96:=s96 (n+7) kind 19 (by omega) (by omega)
 rw [hc] at h96
 have hcall:=s53 (n+2) w.1 w.2.2.2 w.2.1 w.2.2.1 hsm.2 hsm.1
 obtain ⟨m,b,s,h,e,hX,he⟩:Ans ws (o.getD []) k _ _:=qiU hG hw
 have hcall:=hcall.trans hX
 rcases he with ⟨rfl,hg⟩ | ⟨hne,he⟩
 ·refine .inr (.inl ⟨k,0,m,h,b,s,?_,hk,.inr ⟨rfl,hg⟩⟩)
  simp only [I56,Int.reduceEq,q0i,q02,q06,q0a,q0h,q0j,q0e,q0g,q09,q0u,q0H,decide_true,decide_false,q04,if_true,if_false,Bool.false_eq_true,q0t,cW0,cW1,cW2,cW3,q0k,q0o,q0I,List.nil_append,q0v,List.length_nil,List.length_map,hG.len,q0n,Nat.zero_add,h96,hcall]
 ·exact he.elim
end
end
section
set_option maxRecDepth 100000
section
variable {ws:List W4} {o:Option (List P3)} (hG:GoodW ws (o.getD [])) {k:Nat} {w:W4} (hw:ws[k]?=some w) (n:Nat) (kind who fld to pick:Int)
include hG hw
theorem i56_10 (hl:(o.getD []).length≤200) (hc:q2n kind 19=10):Act ws o (I56 (RP (n+8)) (dP o) (il kind) (il who) (il fld) (il to) (il pick) (ws.map rWt) [.d (il k)] (rWt w)):=by
 obtain ⟨a1,a2,a3⟩:=hG.wat k w hw
 have hk:k < 6:=by rw [←hG.len];exact (List.getElem?_eq_some_iff.1 hw).1
 have hsm:=hG.small w (List.mem_of_getElem? hw)
 have h96:=s96 (n+7) kind 19 (by omega) (by omega)
 rw [hc] at h96
 have h6:=s96 (n+7) to 6 (by omega) (by omega)
 have hr:=q2Z (x:=to) (m:=6) (by omega)
 have hz:q2n to 6=((q2n to 6).toNat:Int):=by omega
 rw [hz] at h6
 have hb6:(q2n to 6).toNat < 6:=by omega
 generalize (q2n to 6).toNat=b at h6 hb6
 have h43:=s43 (n+2) w.1 w.2.2.2 (b:Int) w.2.1 w.2.2.1 hsm.2 hsm.1
 unfold qdw at h43
 have hpb:par (b:Int)=true:=q16.2 (by omega)
 rw [if_pos (show okP w.1 (w.2.1.getD []) (w.2.2.1.getD []) w.2.2.2=true from wOK hG hw),hpb] at h43
 by_cases hbk:b=k
 ·subst hbk
  rw [if_pos (by rw [a1];simp)] at h43
  left
  simp only [I56,Int.reduceEq,q0i,q02,q1C,q06,q0a,q0h,q0j,q0e,q0g,q09,q0u,q0H,decide_true,decide_false,q04,if_true,if_false,Bool.false_eq_true,q0t,cW0,cW1,cW2,cW3,q0k,q0o,q0I,List.nil_append,q0v,List.length_nil,List.length_map,hG.len,q0n,Nat.zero_add,h96,h6,h43,q6n]
 ·have hne:¬ ((b:Int)=w.1):=by rw [a1];omega
  rw [if_neg (by simp [hne]),a1,a2] at h43
  refine .inr (.inr ⟨((k:Int),(b:Int),opN (q6N k (bk k) (bnd w) b)),?_,hG.tell hw hb6 (fun h=>hbk h.symm)⟩)
  have f1:(o.getD []).length*40≤140737488355328∧(o.getD []).length≤9223372036854775807:=by omega
  have f2:((o.getD []).length+1)*40≤140737488355328∧(o.getD []).length+1≤9223372036854775807:=by omega
  simp only [I56,Int.reduceEq,q0i,q02,q06,q0a,q0h,q0j,q0e,q0g,q09,q0u,q0H,decide_true,decide_false,q04,if_true,if_false,Bool.false_eq_true,q0t,cW0,cW1,cW2,cW3,q0k,q0o,q0I,List.nil_append,q0v,List.length_nil,List.length_map,hG.len,q0n,Nat.zero_add,h96,h6,h43,q6T,q0O,q0Q,f1,f2,and_self,List.length_cons,q0K,List.take,List.map_append,List.map_cons,List.map_nil,rP,qbf,a1]
  rfl
theorem i56_11 (hl:(o.getD []).length≤200) (hc:q2n kind 19=11):Act ws o (I56 (RP (n+8)) (dP o) (il kind) (il who) (il fld) (il to) (il pick) (ws.map rWt) [.d (il k)] (rWt w)):=by
 obtain ⟨a1,a2,a3⟩:=hG.wat k w hw
 have hk:k < 6:=by rw [←hG.len];exact (List.getElem?_eq_some_iff.1 hw).1
 have hsm:=hG.small w (List.mem_of_getElem? hw)
 have h96:=s96 (n+7) kind 19 (by omega) (by omega)
 rw [hc] at h96
 have h6:=s96 (n+7) to 6 (by omega) (by omega)
 have hr:=q2Z (x:=to) (m:=6) (by omega)
 have hz:q2n to 6=((q2n to 6).toNat:Int):=by omega
 rw [hz] at h6
 have hb6:(q2n to 6).toNat < 6:=by omega
 generalize (q2n to 6).toNat=b at h6 hb6
 have h43:=s43 (n+2) w.1 w.2.2.2 (b:Int) w.2.1 w.2.2.1 hsm.2 hsm.1
 unfold qdw at h43
 have hpb:par (b:Int)=true:=q16.2 (by omega)
 rw [if_pos (show okP w.1 (w.2.1.getD []) (w.2.2.1.getD []) w.2.2.2=true from wOK hG hw),hpb] at h43
 by_cases hbk:b=k
 ·subst hbk
  rw [if_pos (by rw [a1];simp)] at h43
  left
  simp only [I56,Int.reduceEq,q0i,q02,q1C,q06,q0a,q0h,q0j,q0e,q0g,q09,q0u,q0H,decide_true,decide_false,q04,if_true,if_false,Bool.false_eq_true,q0t,cW0,cW1,cW2,cW3,q0k,q0o,q0I,List.nil_append,q0v,List.length_nil,List.length_map,hG.len,q0n,Nat.zero_add,h96,h6,h43,q6n]
 ·have hne:¬ ((b:Int)=w.1):=by rw [a1];omega
  rw [if_neg (by simp [hne]),a1,a2] at h43
  refine .inr (.inr ⟨((k:Int),(b:Int),opN (q6N k (bk k) (bnd w) b)),?_,hG.tell hw hb6 (fun h=>hbk h.symm)⟩)
  have f1:(o.getD []).length*40≤140737488355328∧(o.getD []).length≤9223372036854775807:=by omega
  have f2:((o.getD []).length+1)*40≤140737488355328∧(o.getD []).length+1≤9223372036854775807:=by omega
  simp only [I56,Int.reduceEq,q0i,q02,q06,q0a,q0h,q0j,q0e,q0g,q09,q0u,q0H,decide_true,decide_false,q04,if_true,if_false,Bool.false_eq_true,q0t,cW0,cW1,cW2,cW3,q0k,q0o,q0I,List.nil_append,q0v,List.length_nil,List.length_map,hG.len,q0n,Nat.zero_add,h96,h6,h43,q6T,q0O,q0Q,f1,f2,and_self,List.length_cons,q0K,List.take,List.map_append,List.map_cons,List.map_nil,rP,qbf,a1]
  rfl
theorem i56_12 (hl:(o.getD []).length≤200) (hc:q2n kind 19=12):Act ws o (I56 (RP (n+8)) (dP o) (il kind) (il who) (il fld) (il to) (il pick) (ws.map rWt) [.d (il k)] (rWt w)):=by
 obtain ⟨a1,a2,a3⟩:=hG.wat k w hw
 have hk:k < 6:=by rw [←hG.len];exact (List.getElem?_eq_some_iff.1 hw).1
 have hsm:=hG.small w (List.mem_of_getElem? hw)
 have h96:=s96 (n+7) kind 19 (by omega) (by omega)
 rw [hc] at h96
 have h6:=s96 (n+7) to 6 (by omega) (by omega)
 have hr:=q2Z (x:=to) (m:=6) (by omega)
 have hz:q2n to 6=((q2n to 6).toNat:Int):=by omega
 rw [hz] at h6
 have hb6:(q2n to 6).toNat < 6:=by omega
 generalize (q2n to 6).toNat=b at h6 hb6
 have h43:=s43 (n+2) w.1 w.2.2.2 (b:Int) w.2.1 w.2.2.1 hsm.2 hsm.1
 unfold qdw at h43
 have hpb:par (b:Int)=true:=q16.2 (by omega)
 rw [if_pos (show okP w.1 (w.2.1.getD []) (w.2.2.1.getD []) w.2.2.2=true from wOK hG hw),hpb] at h43
 by_cases hbk:b=k
 ·subst hbk
  rw [if_pos (by rw [a1];simp)] at h43
  left
  simp only [I56,Int.reduceEq,q0i,q02,q1C,q06,q0a,q0h,q0j,q0e,q0g,q09,q0u,q0H,decide_true,decide_false,q04,if_true,if_false,Bool.false_eq_true,q0t,cW0,cW1,cW2,cW3,q0k,q0o,q0I,List.nil_append,q0v,List.length_nil,List.length_map,hG.len,q0n,Nat.zero_add,h96,h6,h43,q6n]
 ·have hne:¬ ((b:Int)=w.1):=by rw [a1];omega
  rw [if_neg (by simp [hne]),a1,a2] at h43
  refine .inr (.inr ⟨((k:Int),(b:Int),opN (q6N k (bk k) (bnd w) b)),?_,hG.tell hw hb6 (fun h=>hbk h.symm)⟩)
  have f1:(o.getD []).length*40≤140737488355328∧(o.getD []).length≤9223372036854775807:=by omega
  have f2:((o.getD []).length+1)*40≤140737488355328∧(o.getD []).length+1≤9223372036854775807:=by omega
  simp only [I56,Int.reduceEq,q0i,q02,q06,q0a,q0h,q0j,q0e,q0g,q09,q0u,q0H,decide_true,decide_false,q04,if_true,if_false,Bool.false_eq_true,q0t,cW0,cW1,cW2,cW3,q0k,q0o,q0I,List.nil_append,q0v,List.length_nil,List.length_map,hG.len,q0n,Nat.zero_add,h96,h6,h43,q6T,q0O,q0Q,f1,f2,and_self,List.length_cons,q0K,List.take,List.map_append,List.map_cons,List.map_nil,rP,qbf,a1]
  rfl
theorem i56_13 (hl:(o.getD []).length≤200) (hc:13≤q2n kind 19):Act ws o (I56 (RP (n+8)) (dP o) (il kind) (il who) (il fld) (il to) (il pick) (ws.map rWt) [.d (il k)] (rWt w)):=by
 have _:=hw
 have h96:=s96 (n+7) kind 19 (by omega) (by omega)
 generalize q2n kind 19=c at h96 hc
 have ne0:¬ c=0:=by omega
 have ne1:¬ c=1:=by omega
 have ne2:¬ c=2:=by omega
 have ne3:¬ c=3:=by omega
 have ne4:¬ c=4:=by omega
 have ne5:¬ c=5:=by omega
 have ne6:¬ c=6:=by omega
 have ne7:¬ c=7:=by omega
 have ne8:¬ c=8:=by omega
 have ne9:¬ c=9:=by omega
 have ne10:¬ c=10:=by omega
 have ne11:¬ c=11:=by omega
 have ne12:¬ c=12:=by omega
 by_cases h0:(o.getD []).length=0
 ·left
  have h0':(((o.getD []).length:Nat):Int)=0:=by omega
  simp only [I56,q0i,q02,q06,q0a,q0h,q0j,q0e,q0g,q09,q0u,q0H,decide_true,decide_false,q04,if_true,if_false,Bool.false_eq_true,q0t,cW0,cW1,cW2,cW3,q0k,q0o,q0I,List.nil_append,q0v,List.length_nil,List.length_map,hG.len,q0n,Nat.zero_add,h96,ne0,ne1,ne2,ne3,ne4,ne5,ne6,ne7,ne8,ne9,ne10,ne11,ne12,q5c,h0']
 ·have h0':¬ (((o.getD []).length:Nat):Int)=0:=by omega
  have hp96:=s96 (n+7) pick ((o.getD []).length:Int) (by omega) (by omega)
  have hr:=q2Z (x:=pick) (m:=((o.getD []).length:Int)) (by omega)
  have hz:q2n pick ((o.getD []).length:Int)=((q2n pick ((o.getD []).length:Int)).toNat:Int):=by omega
  rw [hz] at hp96
  have hlt:(q2n pick ((o.getD []).length:Int)).toNat < (o.getD []).length:=by omega
  generalize (q2n pick ((o.getD []).length:Int)).toNat=i at hp96 hlt
  have hpi:=List.getElem?_eq_getElem hlt
  have hpm:=List.mem_of_getElem? hpi
  generalize (o.getD [])[i]=p at hpi hpm
  obtain ⟨p1,_⟩:=hG.pl p hpm
  have p1':=p1
  simp only [qcL,Bool.and_eq_true,decide_eq_true_eq] at p1'
  have pto:=q16.1 p1'.2.1
  have hto:p.2.1=((p.2.1.toNat:Nat):Int):=by omega
  have ht6:p.2.1.toNat < 6:=by omega
  have hlw:p.2.1.toNat < ws.length:=by rw [hG.len];exact ht6
  have hv:=List.getElem?_eq_getElem hlw
  generalize ws[p.2.1.toNat]=v at hv
  have hsm:=hG.small v (List.mem_of_getElem? hv)
  have htl:(p.2.2.getD []).length≤4611686018427387904:=by have:=p1'.2.2.2.1;omega
  have hcall:=s27 (n+2) v.1 v.2.2.2 p.1 p.2.1 v.2.1 v.2.2.1 p.2.2 hsm.2 hsm.1 htl
  obtain ⟨m,b,s,h,e,hX,he⟩:Ans ws (o.getD []) p.2.1.toNat _ _:=qh8 hG hv hpm hto
  have hcall:=hcall.trans hX
  have hrow:=fun k=>qi4 (Fn:=FN (n+8)) (FnD:=q2L Tryd.prog (cf3 tb Tryd.prog) (FN (n+8))) (m:=M0) (n:=3) (f:=rP) hpi rfl k
  have hc1:(RP (n+8)).cell (rP p) 1=il p.2.1:=rfl
  have hc0:(RP (n+8)).cell (rP p) 0=il p.1:=rfl
  have hc2:(RP (n+8)).cell (rP p) 2=dT p.2.2:=rfl
  have hlo:¬ p.2.1 < 0:=by omega
  have hhi:¬ p.2.1≥6:=by omega
  have hin:0≤p.2.1∧p.2.1 < ((6:Nat):Int):=by omega
  have hrw:(ws.map rWt)[p.2.1.toNat]?=some (rWt v):=by rw [List.getElem?_map,hv];rfl
  have hrl:(rWt v).length=4:=rfl
  have key:∀ e:Int,(FN (n+8) 27 [il v.1,dB v.2.1,dS v.2.2.1,il v.2.2.2,il p.1,il p.2.1,dT p.2.2]=some (0,[.d (il m),.d (dB b),.d (dS s),.d (il h),.d (il e)]))→I56 (RP (n+8)) (dP o) (il kind) (il who) (il fld) (il to) (il pick) (ws.map rWt) [.d (il k)] (rWt w)=some (1,[.d (il p.2.1),.d (il e),.r (ws.map rWt),.d (il m),.d (dB b),.d (dS s),.d (il h),.n 6,.n 6,.d (dP o)]):=fun e hcall=>by
   simp only [I56,q0i,q02,q06,q0a,q0h,q0j,q0e,q0g,q09,q0u,q0H,decide_false,q04,if_true,if_false,Bool.false_eq_true,q0t,cW0,cW1,cW2,cW3,q0k,q0o,q0I,List.nil_append,q0v,List.length_nil,List.length_map,hG.len,q0n,Nat.zero_add,h96,ne0,ne1,ne2,ne3,ne4,ne5,ne6,ne7,ne8,ne9,ne10,ne11,ne12,q5c,h0',hp96,hrow,hc0,hc1,hc2,q0V,hlo,qe7,hhi,q0O,q1K,hin,and_self,q3n,hrw,hrl,hcall]
  rw [hto] at key
  rcases he with ⟨rfl,hg⟩ | ⟨hne,rfl⟩
  ·exact .inr (.inl ⟨p.2.1.toNat,0,m,h,b,s,by rw [←hto] at key ⊢;exact key 0 hcall,ht6,.inr ⟨rfl,hg⟩⟩)
  ·exact .inr (.inl ⟨p.2.1.toNat,2,m,h,b,s,by rw [←hto] at key ⊢;exact key 2 hcall,ht6,.inl rfl⟩)
end
end
section
set_option maxRecDepth 100000
end
section
set_option maxRecDepth 100000
end
section
set_option maxRecDepth 100000
theorem qh4 {β:Type} (N:Nat) (hN:N≤4611686018427387904) (body:(Nat→List Yr→Out)→List Yr→Out) (en:Nat→β→List Yr) (I:Nat→β→Prop) (out:β→Out)
  (h0:∀ b k,I N b→body k (en N b)=out b)
  (h1:∀ i b,i < N→I i b→IntKind.i64.wrap ((i:Int)+1)=(i:Int)+1→∃ b',I (i+1) b'∧∀ k,body k (en i b)=k 0 (en (i+1) b'))
  (b:β) (hb:I 0 b):∃ b',I N b'∧q1b [body] M0 0 (en 0 b)=out b':=by
 have key:∀ (d i:Nat) (b:β) (n:Nat),i+d=N→I i b→d < n→∃ b',I N b'∧q1b [body] n 0 (en i b)=out b':=by
  intro d
  induction d with
  | zero =>
   intro i b n hi hI hn
   obtain ⟨n,rfl⟩:∃ m,n=m+1:=⟨n - 1,by omega⟩
   have:i=N:=by omega
   subst this
   exact ⟨b,hI,by simp only [q1b,List.getElem?_cons_zero];exact h0 b _ hI⟩
  | succ d ih =>
   intro i b n hi hI hn
   obtain ⟨n,rfl⟩:∃ m,n=m+1:=⟨n - 1,by omega⟩
   obtain ⟨b',h2,h3⟩:=h1 i b (by omega) hI (q3C (show i < N by omega) hN)
   obtain ⟨b'',h4,h5⟩:=ih (i+1) b' n (by omega) h2 (by omega)
   exact ⟨b'',h4,by simp only [q1b,List.getElem?_cons_zero];rw [h3];exact h5⟩
 exact key N 0 b M0 (by omega) hb (by simp only [M0];omega)
theorem act_ok (n:Nat) {ws:List W4} {o:Option (List P3)} (hG:GoodW ws (o.getD [])) (hl:(o.getD []).length≤200) (kind who fld to pick:Int) :
  ∃ ws' o',FN (n+9) 56 [dW (some ws),dP o,il kind,il who,il fld,il to,il pick]=some (0,[.d (dW (some ws')),.d (dP o'),.d (bl true)])∧GoodW ws' (o'.getD [])∧(o'.getD []).length≤(o.getD []).length+1:=by
 have hr:=q2Z (x:=who) (m:=6) (by omega)
 have h96:=s96 (n+7) who 6 (by omega) (by omega)
 have hz:q2n who 6=((q2n who 6).toNat:Int):=by omega
 rw [hz] at h96
 have hk:(q2n who 6).toNat < 6:=by omega
 generalize (q2n who 6).toNat=k at h96 hk
 have hlk:k < ws.length:=by rw [hG.len];exact hk
 have hw:=List.getElem?_eq_getElem hlk
 generalize ws[k]=w at hw
 have hA:Act ws o (I56 (RP (n+8)) (dP o) (il kind) (il who) (il fld) (il to) (il pick) (ws.map rWt) [.d (il k)] (rWt w)):=by
  have hm:=q2Z (x:=kind) (m:=19) (by omega)
  rcases (show q2n kind 19=0∨q2n kind 19=1∨q2n kind 19=2∨q2n kind 19=3∨q2n kind 19=4∨q2n kind 19=5∨q2n kind 19=6∨q2n kind 19=7∨q2n kind 19=8∨q2n kind 19=9∨q2n kind 19=10∨q2n kind 19=11∨q2n kind 19=12∨13≤q2n kind 19 by omega) with h | h | h | h | h | h | h | h | h | h | h | h | h | h
  ·exact i56_0 hG hw n kind who fld to pick h
  ·exact i56_1 hG hw n kind who fld to pick h
  ·exact i56_2 hG hw n kind who fld to pick h
  ·exact i56_3 hG hw n kind who fld to pick h
  ·exact i56_4 hG hw n kind who fld to pick h
  ·exact i56_5 hG hw n kind who fld to pick h
  ·exact i56_6 hG hw n kind who fld to pick h
  ·exact i56_7 hG hw n kind who fld to pick h
  ·exact i56_8 hG hw n kind who fld to pick h
  ·exact i56_9 hG hw n kind who fld to pick h
  ·exact i56_10 hG hw n kind who fld to pick hl h
  ·exact i56_11 hG hw n kind who fld to pick hl h
  ·exact i56_12 hG hw n kind who fld to pick hl h
  ·exact i56_13 hG hw n kind who fld to pick hl h
 have hrow:(ws.map rWt)[k]?=some (rWt w):=by rw [List.getElem?_map,hw];rfl
 have hrl:(rWt w).length=4:=rfl
 have hin:(0:Int)≤(k:Int)∧(k:Int) < ((6:Nat):Int):=by omega
 have f6:6*64≤140737488355328∧6≤9223372036854775807:=by omega
 have hbody:∀ X:Out,X=I56 (RP (n+8)) (dP o) (il kind) (il who) (il fld) (il to) (il pick) (ws.map rWt) [.d (il k)] (rWt w)→FN (n+9) 56 [dW (some ws),dP o,il kind,il who,il fld,il to,il pick]=(RP (n+8)).bnd X [qhS (RP (n+8)),qfV (RP (n+8)),qhR (RP (n+8))]:=by
  intro X hX
  rw [FS,G56_eq,eG56,hX]
  simp only [H56,dW,q6T,Option.getD_some,q0k,q0o,q0v,List.length_nil,q0O,if_true,List.length_map,hG.len,q0n,Nat.zero_add,q0Q,f6,and_self,q0i,q09,h96,q02,q0I,List.nil_append,q06,q1K,hin,Int.toNat_natCast,q3n,hrow,hrl]
 rcases hA with hX | ⟨kk,e,m,h,b,s,hX,hkk,he⟩ | ⟨p,hX,hg⟩
 ·refine ⟨ws,o,?_,hG,by omega⟩
  rw [hbody _ hX.symm,q02]
  have:=k56_0 (n+8) ws o (bl true)
  rw [hG.len] at this
  exact this
 ·have h1:=k56_1 (n+8) ws o (k:=kk) (by rw [hG.len];exact hkk) m h e b s (by rcases he with h | h;exact .inr h;exact .inl h.1)
  rw [hG.len] at h1
  refine ⟨if e=0 then ws.set kk (m,b,s,h) else ws,o,?_,?_,by omega⟩
  ·rw [hbody _ hX.symm,q1C]
   exact h1
  ·split
   ·rename_i h0
    rcases he with h | h
    ·omega
    ·exact h.2
   ·exact hG
 ·refine ⟨ws,some (o.getD []++[p]),?_,hg,by simp⟩
  rw [hbody _ hX.symm,qib]
  have:=k56_2 (n+8) ws (o.getD []++[p]) (bl true)
  rw [hG.len,List.length_append] at this
  exact this
abbrev A5:=Int×Int×Int×Int×Int
def rA (a:A5):List D:=[il a.1,il a.2.1,il a.2.2.1,il a.2.2.2.1,il a.2.2.2.2]
theorem lawOne {Fn:Nat→List D→Out} {FnD:D→List Sh→List D→Out} (h18:Fn 18 []=some (0,[.d (bl true)]))
  (h55:Fn 55 []=some (0,[.d (dW (some ws0)),.d (dP none),.d (bl true)]))
  (h56:∀ {ws:List W4} {o:Option (List P3)},GoodW ws (o.getD [])→(o.getD []).length≤200→∀ kind who fld to pick:Int,∃ ws' o',Fn 56 [dW (some ws),dP o,il kind,il who,il fld,il to,il pick]=some (0,[.d (dW (some ws')),.d (dP o'),.d (bl true)])∧GoodW ws' (o'.getD [])∧(o'.getD []).length≤(o.getD []).length+1)
  (h57:∀ {ws:List W4} {o:Option (List P3)},GoodW ws (o.getD [])→Fn 57 [dW (some ws),dP o]=some (0,[.d (bl true)]))
  (l:Option (List A5)):G7 (q01 Fn FnD M0) (dL 5 rA l)=some (0,[.d (bl true)]):=by
 have hm:min (l.getD []).length 70≤70:=Nat.min_le_right _ _
 have hm2:min (l.getD []).length 70≤(l.getD []).length:=Nat.min_le_left _ _
 have hinv:=qh4 (β:=List W4×Option (List P3)) (min (l.getD []).length 70) (by omega) (L7_0 (q01 Fn FnD M0)) (fun i g=>[.d (dL 5 rA l),.d (bl true),.d (il i),.d (dW (some g.1)),.d (dP g.2)])
  (fun i g=>GoodW g.1 (g.2.getD [])∧(g.2.getD []).length≤i) (fun g=>some (0,[.d (bl true),.d (dW (some g.1)),.d (dP g.2)])) ?_ ?_ (ws0,none) ⟨good0,by simp⟩
 ·obtain ⟨⟨ws,o⟩,⟨hG,_⟩,hloop⟩:=hinv
  simp only at hG hloop
  simp only [Int.natCast_zero] at hloop
  simp only [G7,q0i,h55,q02,q06,q0a,q09,q0u,q10,hloop,q04,if_true,h57 hG,h18,q0t]
 ·intro g k _
  simp only [L7_0,q06,q0a,q5c,q09,q0V,q04,q0t]
  rcases (show (((min (l.getD []).length 70:Nat):Int) < ((l.getD []).length:Int)∧¬ ((min (l.getD []).length 70:Nat):Int) < 70)∨¬ ((min (l.getD []).length 70:Nat):Int) < ((l.getD []).length:Int) by omega) with ⟨a,b⟩ | a
  ·simp only [a,b,decide_true,decide_false,if_true,Bool.false_eq_true,if_false]
  ·simp only [a,decide_false,Bool.false_eq_true,if_false]
 ·rintro i ⟨ws,o⟩ hi ⟨hG,ho⟩ hw
  simp only at hG ho
  have hil:i < (l.getD []).length:=by omega
  have hrow:(l.getD [])[i]?=some (l.getD [])[i]:=List.getElem?_eq_getElem hil
  generalize (l.getD [])[i]=a at hrow
  obtain ⟨ws',o',h1,h2,h3⟩:=h56 hG (by omega) a.1 a.2.1 a.2.2.1 a.2.2.2.1 a.2.2.2.2
  refine ⟨(ws',o'),⟨h2,by simp only;omega⟩,fun k=>?_⟩
  have c0:(q01 Fn FnD M0).cell (rA a) 0=il a.1:=rfl
  have c1:(q01 Fn FnD M0).cell (rA a) 1=il a.2.1:=rfl
  have c2:(q01 Fn FnD M0).cell (rA a) 2=il a.2.2.1:=rfl
  have c3:(q01 Fn FnD M0).cell (rA a) 3=il a.2.2.2.1:=rfl
  have c4:(q01 Fn FnD M0).cell (rA a) 4=il a.2.2.2.2:=rfl
  have hlt:(i:Int) < ((l.getD []).length:Int):=by omega
  have h70:(i:Int) < 70:=by omega
  simp only [L7_0,q06,q0a,q5c,q09,q0V,hlt,h70,decide_true,q04,if_true,qi4 hrow (show (rA a).length=5 from rfl),c0,c1,c2,c3,c4,q0i,h1,q02,q7M _ _ _ _ (show (5:Int)≠0 by decide),q0H,h57 h2,q0T,hw,q1h]
  by_cases h4:(i:Int).tmod 5=4
  ·simp only [h4,decide_true,if_true]
  ·simp only [h4,decide_false,Bool.false_eq_true,if_false]
theorem o68 {n:Nat} {ds:List D} (h:HasT Tryd.prog (n+2) 68 ds):∃ a:A5,ds=rA a:=by
 obtain ⟨_,_,rfl,h1,_,_,rfl,h2,_,_,rfl,h3,_,_,rfl,h4,_,_,rfl,h5,rfl⟩:=h.struct Tryd.underlying68 rfl
 obtain ⟨x,rfl,_⟩:=o3 h1
 obtain ⟨y,rfl,_⟩:=o3 h2
 obtain ⟨z,rfl,_⟩:=o3 h3
 obtain ⟨u,rfl,_⟩:=o3 h4
 obtain ⟨v,rfl,_⟩:=o3 h5
 exact ⟨(x,y,z,u,v),rfl⟩
theorem qd9 (vds:List VD) (h:VTs Tryd.prog 8 [60] vds):SC Tryd.prog 7 vds (.one (.d (bl true))):=by
 obtain ⟨_,_,rfl,h1,h⟩:=qhO h
 cases qjR h
 obtain ⟨_,rfl,k1⟩:=h1.sl_ Tryd.underlying60
 obtain ⟨l,e1,_⟩:=oL (f:=rA) (c:=5) (b:=40) Tryd.underlying60 (by kernel_rfl) (by kernel_rfl) (fun _ h=>o68 h) k1
 cases e1
 refine lawSC (T:=tb) (fuel:=400) (m0:=M0) (xs:=[dL 5 rA l]) qjb (FnS_ok 20) (qk0 20) qiJ (by decide) (sh:=[.one]) rfl rfl rfl ?_
 refine (G7_eq _ _).trans ?_
 refine lawOne (FnS_18 20) (qcz (s55 11) (by decide)) (fun {ws o} hG hl kind who fld to pick=>?_) (fun {ws o} hG=>qcz (s57 hG o 13) (by decide)) l
 obtain ⟨ws',o',a,b,c⟩:=act_ok 11 hG hl kind who fld to pick
 exact ⟨ws',o',qcz a (by decide),b,c⟩
end
end Go.VE
