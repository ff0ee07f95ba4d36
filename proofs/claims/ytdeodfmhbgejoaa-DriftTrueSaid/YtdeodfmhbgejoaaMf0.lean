/- What the functions of this program do, made by a program of ours out of the evaluator itself. -/
import Derived.Test.YtdeodfmhbgejoaaMt
import Derived.KernelRfl
namespace Go.VE
open Go.RowKit Go.Proofs
set_option maxRecDepth 100000
set_option maxHeartbeats 4000000
section
variable {Δ N R W M E Ω : Type} (pr : Pr Δ N R W M E Ω)
/-! leazing/leazinglaw04.DriftChecks -/
def G3 (a0 a1 a2 a3 a4 a5 a6 a7 a8 a9 a10 a11 a12 a13 : Δ) : Ω :=
 (pr.bnd (pr.call 11 []) [fun y0 => (pr.bnd (pr.call 12 [a0, a1, a2, a13]) [fun y1 => (pr.bnd (pr.call 13 [a0, a1, a2, a13]) [fun y2 => (pr.bnd (pr.call 14 [(pr.ld y1 0), (pr.ld y2 0)]) [fun y3 => (pr.un .not (pr.ld y0 0) fun x4 => (pr.cond x4
     (pr.out 0 [.d (pr.lit (.bool false))])
     (pr.un .not (pr.ld y3 0) fun x5 => (pr.cond x5
      (pr.out 0 [.d (pr.lit (.bool false))])
      (pr.bin .neq false (pr.ld y1 1) (pr.ld y2 1) fun x6 =>
      (pr.cond x6
       (pr.out 0 [.d (pr.lit (.bool false))])
       (pr.bnd (pr.call 15 [a0, a1]) [fun y7 => (pr.bnd (pr.call 16 [a0, a1]) [fun y8 => (pr.bin .neq false (pr.ld y7 0) (pr.ld y8 0) fun x9 =>
         (pr.cond x9
          (pr.out 0 [.d (pr.lit (.bool false))])
          (pr.bnd (pr.call 17 [a0, a1, a2]) [fun y10 => (pr.bnd (pr.call 18 [a0, a1, a2]) [fun y11 => (pr.bin .neq false (pr.ld y10 0) (pr.ld y11 0) fun x12 =>
            (pr.cond x12
             (pr.out 0 [.d (pr.lit (.bool false))])
             (pr.bnd (pr.call 19 [a3, a4, a5]) [fun y13 => (pr.bnd (pr.call 20 [a3, a4, a5]) [fun y14 => (pr.bin .eql false (pr.ld y13 0) (pr.ld y14 0) fun x15 =>
               (pr.cond x15
                (pr.bnd (pr.call 21 [a6, a7, a8]) [fun y16 => (pr.bnd (pr.call 22 [a6, a7, a8]) [fun y17 => (pr.bin .eql false (pr.ld y16 0) (pr.ld y17 0) fun x18 =>
                  (pr.cond x18
                   (pr.bnd (pr.call 23 [a9, a10, a11, a12]) [fun y19 => (pr.bnd (pr.call 24 [a9, a10, a11, a12]) [fun y20 => (pr.bin .eql false (pr.ld y19 0) (pr.ld y20 0) fun x21 =>
                     (pr.out 0 [.d x21]))])])
                   (pr.out 0 [.d (pr.lit (.bool false))])))])])
                (pr.out 0 [.d (pr.lit (.bool false))])))])])))])])))])])))))))])])])])
/-! leazing/leazinglaw04.DriftTurns -/
def L4_0  : (Nat → List (Y Δ N R M) → Ω) → E → Ω := fun J16 y16 =>
 (pr.lenD (pr.ld y16 1) fun x17 =>
                 (pr.bin .lss false (pr.ld y16 3) x17 fun x18 =>
                  (pr.cond x18
                   (pr.bin .add false (pr.ld y16 0) (pr.ld y16 3) fun x19 =>
                   (pr.bnd (pr.call 12 [(pr.ld y16 4), (pr.ld y16 5), (pr.ld y16 1), x19]) [fun y20 => (pr.bin .neq false (pr.ld y20 1) (pr.lit (.int Go.IntKind.i64 (0))) fun x21 =>
                     (pr.cond x21
                      (pr.out 0 [.d (pr.lit (.bool false))])
                      (pr.lenD (pr.ld y20 0) fun x22 =>
                      (pr.lenD (pr.ld y16 1) fun x23 =>
                       (pr.bin .neq false x22 x23 fun x24 =>
                        (pr.cond x24
                         (pr.out 0 [.d (pr.lit (.bool false))])
                         (pr.rowD 4 (pr.ld y20 0) (pr.lit (.int Go.IntKind.i64 (0))) fun w25 =>
                         (pr.rowD 4 (pr.ld y16 2) (pr.ld y16 3) fun w26 =>
                          (pr.eqs [true, true, true, true] true [(pr.cell w25 0), (pr.cell w25 1), (pr.cell w25 2), (pr.cell w25 3)] [(pr.cell w26 0), (pr.cell w26 1), (pr.cell w26 2), (pr.cell w26 3)] fun x27 => (pr.cond x27
                            (pr.out 0 [.d (pr.lit (.bool false))])
                            (pr.bin .add false (pr.ld y16 3) (pr.lit (.int Go.IntKind.i64 (1))) fun x28 =>
                            (J16 0 [.d (pr.ld y16 0), .d (pr.ld y16 1), .d (pr.ld y16 2), .d x28, .d (pr.ld y16 4), .d (pr.ld y16 5)]))))))))))))]))
                   (pr.out 1 []))))
def G4 (a0 a1 a2 a3 : Δ) : Ω :=
 (pr.bnd (pr.call 11 []) [fun y0 => (pr.bnd (pr.call 25 [a0, a1, a2]) [fun y1 => (pr.bnd (pr.call 26 [a3, (pr.lit (.int Go.IntKind.i64 (4000)))]) [fun y2 => (pr.bnd (pr.call 12 [(pr.ld y1 0), (pr.ld y1 1), (pr.ld y1 2), (pr.lit (.int Go.IntKind.i64 (0)))]) [fun y3 => (pr.bnd (pr.call 12 [(pr.ld y1 0), (pr.ld y1 1), (pr.ld y1 2), (pr.ld y2 0)]) [fun y4 => (pr.lenD (pr.ld y1 2) fun x5 =>
     (pr.bin .add false (pr.ld y2 0) x5 fun x6 =>
      (pr.bnd (pr.call 12 [(pr.ld y1 0), (pr.ld y1 1), (pr.ld y1 2), x6]) [fun y7 => (pr.bnd (pr.call 14 [(pr.ld y3 0), (pr.ld y1 2)]) [fun y8 => (pr.bnd (pr.call 14 [(pr.ld y4 0), (pr.ld y7 0)]) [fun y9 => (pr.un .not (pr.ld y0 0) fun x10 => (pr.cond x10
           (pr.out 0 [.d (pr.lit (.bool false))])
           (pr.bin .neq false (pr.ld y3 1) (pr.lit (.int Go.IntKind.i64 (0))) fun x11 =>
           (pr.cond x11
            (pr.out 0 [.d (pr.lit (.bool false))])
            (pr.bin .neq false (pr.ld y4 1) (pr.lit (.int Go.IntKind.i64 (0))) fun x12 =>
            (pr.cond x12
             (pr.out 0 [.d (pr.lit (.bool false))])
             (pr.bin .neq false (pr.ld y7 1) (pr.lit (.int Go.IntKind.i64 (0))) fun x13 =>
             (pr.cond x13
              (pr.out 0 [.d (pr.lit (.bool false))])
              (pr.un .not (pr.ld y8 0) fun x14 => (pr.cond x14
               (pr.out 0 [.d (pr.lit (.bool false))])
               (pr.un .not (pr.ld y9 0) fun x15 => (pr.cond x15
                (pr.out 0 [.d (pr.lit (.bool false))])
                (pr.bnd (pr.loop [(L4_0 pr)] 0 [.d (pr.ld y2 0), .d (pr.ld y1 2), .d (pr.ld y4 0), .d (pr.lit (.int Go.IntKind.i64 (0))), .d (pr.ld y1 0), .d (pr.ld y1 1)]) [fun y16 => (pr.out 0 [.d (pr.ld y16 0)]), fun y16 => (pr.out 0 [.d (pr.lit (.bool true))])])))))))))))))])])])))])])])])])
/-! leazing/leazinglaw04.DriftTrue -/
def L6_0  : (Nat → List (Y Δ N R M) → Ω) → E → Ω := fun J13 y13 =>
 (pr.lenD (pr.ld y13 12) fun x14 =>
              (pr.bin .lss false (pr.ld y13 5) x14 fun x15 =>
               (pr.cond x15
                (pr.rowD 3 (pr.ld y13 12) (pr.ld y13 5) fun w16 =>
                (pr.bnd (pr.bin .shr false (pr.ld y13 4) (pr.ld y13 5) fun x17 =>
                 (pr.bin .and false x17 (pr.lit (.int Go.IntKind.i64 (1))) fun x18 =>
                  (pr.bin .eql false x18 (pr.lit (.int Go.IntKind.i64 (1))) fun x19 =>
                   (pr.cond x19
                    (pr.out 0 [.d (pr.ld y13 0), .d (pr.ld y13 1), .d (pr.ld y13 2), .d (pr.ld y13 3), .d (pr.ld y13 4), .d (pr.ld y13 5), .d (pr.cell w16 2), .d (pr.cell w16 1), .d (pr.cell w16 2), .d (pr.ld y13 6), .d (pr.ld y13 7), .d (pr.ld y13 8), .d (pr.ld y13 9), .d (pr.ld y13 10), .d (pr.ld y13 11), .d (pr.ld y13 12), .d (pr.ld y13 13)])
                    (pr.out 0 [.d (pr.ld y13 0), .d (pr.ld y13 1), .d (pr.ld y13 2), .d (pr.ld y13 3), .d (pr.ld y13 4), .d (pr.ld y13 5), .d (pr.cell w16 1), .d (pr.cell w16 1), .d (pr.cell w16 2), .d (pr.ld y13 6), .d (pr.ld y13 7), .d (pr.ld y13 8), .d (pr.ld y13 9), .d (pr.ld y13 10), .d (pr.ld y13 11), .d (pr.ld y13 12), .d (pr.ld y13 13)]))))) [fun y17 => (pr.bnd (pr.lenD (pr.ld y17 15) fun x18 =>
                  (pr.bin .shl false (pr.lit (.int Go.IntKind.i64 (1))) x18 fun x19 =>
                   (pr.bin .eql false (pr.ld y17 4) x19 fun x20 =>
                    (pr.cond x20
                     (pr.lenD (pr.ld y17 0) fun x21 =>
                     (pr.bin .gtr false x21 (pr.lit (.int Go.IntKind.i64 (0))) fun x22 =>
                      (pr.cond x22
                       (pr.lenD (pr.ld y17 0) fun x23 =>
                       (pr.bin .rem false (pr.ld y17 5) x23 fun x24 =>
                        (pr.rowD 1 (pr.ld y17 0) x24 fun w25 =>
                         (pr.bin .sub false (pr.ld y17 8) (pr.ld y17 7) fun x26 =>
                          (pr.bin .add false x26 (pr.lit (.int Go.IntKind.i64 (1))) fun x27 =>
                           (pr.bnd (pr.call 26 [(pr.cell w25 0), x27]) [fun y28 => (pr.bin .add false (pr.ld y17 7) (pr.ld y28 0) fun x29 =>
                             (pr.out 0 [.d (pr.ld y17 0), .d (pr.ld y17 1), .d (pr.ld y17 2), .d (pr.ld y17 3), .d (pr.ld y17 4), .d (pr.ld y17 5), .d x29, .d (pr.ld y17 9), .d (pr.ld y17 10), .d (pr.ld y17 11), .d (pr.ld y17 12), .d (pr.ld y17 13), .d (pr.ld y17 14), .d (pr.ld y17 15), .d (pr.ld y17 16)]))]))))))
                       (pr.out 0 [.d (pr.ld y17 0), .d (pr.ld y17 1), .d (pr.ld y17 2), .d (pr.ld y17 3), .d (pr.ld y17 4), .d (pr.ld y17 5), .d (pr.ld y17 6), .d (pr.ld y17 9), .d (pr.ld y17 10), .d (pr.ld y17 11), .d (pr.ld y17 12), .d (pr.ld y17 13), .d (pr.ld y17 14), .d (pr.ld y17 15), .d (pr.ld y17 16)]))))
                     (pr.out 0 [.d (pr.ld y17 0), .d (pr.ld y17 1), .d (pr.ld y17 2), .d (pr.ld y17 3), .d (pr.ld y17 4), .d (pr.ld y17 5), .d (pr.ld y17 6), .d (pr.ld y17 9), .d (pr.ld y17 10), .d (pr.ld y17 11), .d (pr.ld y17 12), .d (pr.ld y17 13), .d (pr.ld y17 14), .d (pr.ld y17 15), .d (pr.ld y17 16)]))))) [fun y18 => (pr.eqN (pr.natN 1) (pr.len (pr.rows [[(pr.ld y18 6)]])) (pr.isNil (pr.seg (pr.rows [[(pr.ld y18 6)]]) none (pr.natN 1))
                   (pr.bin .add false (pr.ld y18 5) (pr.lit (.int Go.IntKind.i64 (1))) fun x19 =>
                   (J13 0 [.d (pr.ld y18 0), .d (pr.ld y18 1), .d (pr.ld y18 2), .d (pr.ld y18 3), .d (pr.ld y18 4), .d x19, .d (pr.ld y18 7), .d (pr.ld y18 8), .d (pr.ld y18 9), .d (pr.ld y18 10), .d (pr.ld y18 11), .d (pr.ld y18 12), .d (pr.ld y18 13), .d (pr.ld y18 14)]))
                   (pr.fits 8 (pr.len (pr.seg (pr.rows [[(pr.ld y18 6)]]) none (pr.natN 1)))
                   (pr.bin .add false (pr.ld y18 5) (pr.lit (.int Go.IntKind.i64 (1))) fun x19 =>
                   (J13 1 [.d (pr.ld y18 0), .d (pr.ld y18 1), .d (pr.ld y18 2), .d (pr.ld y18 3), .d (pr.ld y18 4), .n (pr.len (pr.seg (pr.rows [[(pr.ld y18 6)]]) none (pr.natN 1))), .n (pr.len (pr.seg (pr.rows [[(pr.ld y18 6)]]) none (pr.natN 1))), .d x19, .r (pr.seg (pr.rows [[(pr.ld y18 6)]]) none (pr.natN 1)), .d (pr.ld y18 7), .d (pr.ld y18 8), .d (pr.ld y18 9), .d (pr.ld y18 10), .d (pr.ld y18 11), .d (pr.ld y18 12), .d (pr.ld y18 13), .d (pr.ld y18 14)])))))])]))
                (pr.out 0 [.d (pr.ld y13 0), .d (pr.ld y13 1), .d (pr.ld y13 2), .d (pr.ld y13 3), .d (pr.ld y13 4), .d (pr.ld y13 6), .d (pr.ld y13 7), .d (pr.ld y13 8), .d (pr.ld y13 9), .d (pr.ld y13 10), .d (pr.ld y13 11), .d (pr.ld y13 12), .d (pr.ld y13 13)]))))
def L6_1  : (Nat → List (Y Δ N R M) → Ω) → E → Ω := fun J13 y13 =>
 (pr.lenD (pr.ld y13 15) fun x14 =>
              (pr.bin .lss false (pr.ld y13 7) x14 fun x15 =>
               (pr.cond x15
                (pr.rowD 3 (pr.ld y13 15) (pr.ld y13 7) fun w16 =>
                (pr.bnd (pr.bin .shr false (pr.ld y13 4) (pr.ld y13 7) fun x17 =>
                 (pr.bin .and false x17 (pr.lit (.int Go.IntKind.i64 (1))) fun x18 =>
                  (pr.bin .eql false x18 (pr.lit (.int Go.IntKind.i64 (1))) fun x19 =>
                   (pr.cond x19
                    (pr.out 0 [.d (pr.ld y13 0), .d (pr.ld y13 1), .d (pr.ld y13 2), .d (pr.ld y13 3), .d (pr.ld y13 4), .n (pr.ln y13 5), .n (pr.ln y13 6), .d (pr.ld y13 7), .d (pr.cell w16 2), .d (pr.cell w16 1), .d (pr.cell w16 2), .r (pr.lr y13 8), .d (pr.ld y13 9), .d (pr.ld y13 10), .d (pr.ld y13 11), .d (pr.ld y13 12), .d (pr.ld y13 13), .d (pr.ld y13 14), .d (pr.ld y13 15), .d (pr.ld y13 16)])
                    (pr.out 0 [.d (pr.ld y13 0), .d (pr.ld y13 1), .d (pr.ld y13 2), .d (pr.ld y13 3), .d (pr.ld y13 4), .n (pr.ln y13 5), .n (pr.ln y13 6), .d (pr.ld y13 7), .d (pr.cell w16 1), .d (pr.cell w16 1), .d (pr.cell w16 2), .r (pr.lr y13 8), .d (pr.ld y13 9), .d (pr.ld y13 10), .d (pr.ld y13 11), .d (pr.ld y13 12), .d (pr.ld y13 13), .d (pr.ld y13 14), .d (pr.ld y13 15), .d (pr.ld y13 16)]))))) [fun y17 => (pr.bnd (pr.lenD (pr.ld y17 18) fun x18 =>
                  (pr.bin .shl false (pr.lit (.int Go.IntKind.i64 (1))) x18 fun x19 =>
                   (pr.bin .eql false (pr.ld y17 4) x19 fun x20 =>
                    (pr.cond x20
                     (pr.lenD (pr.ld y17 0) fun x21 =>
                     (pr.bin .gtr false x21 (pr.lit (.int Go.IntKind.i64 (0))) fun x22 =>
                      (pr.cond x22
                       (pr.lenD (pr.ld y17 0) fun x23 =>
                       (pr.bin .rem false (pr.ld y17 7) x23 fun x24 =>
                        (pr.rowD 1 (pr.ld y17 0) x24 fun w25 =>
                         (pr.bin .sub false (pr.ld y17 10) (pr.ld y17 9) fun x26 =>
                          (pr.bin .add false x26 (pr.lit (.int Go.IntKind.i64 (1))) fun x27 =>
                           (pr.bnd (pr.call 26 [(pr.cell w25 0), x27]) [fun y28 => (pr.bin .add false (pr.ld y17 9) (pr.ld y28 0) fun x29 =>
                             (pr.out 0 [.d (pr.ld y17 0), .d (pr.ld y17 1), .d (pr.ld y17 2), .d (pr.ld y17 3), .d (pr.ld y17 4), .n (pr.ln y17 5), .n (pr.ln y17 6), .d (pr.ld y17 7), .d x29, .r (pr.lr y17 11), .d (pr.ld y17 12), .d (pr.ld y17 13), .d (pr.ld y17 14), .d (pr.ld y17 15), .d (pr.ld y17 16), .d (pr.ld y17 17), .d (pr.ld y17 18), .d (pr.ld y17 19)]))]))))))
                       (pr.out 0 [.d (pr.ld y17 0), .d (pr.ld y17 1), .d (pr.ld y17 2), .d (pr.ld y17 3), .d (pr.ld y17 4), .n (pr.ln y17 5), .n (pr.ln y17 6), .d (pr.ld y17 7), .d (pr.ld y17 8), .r (pr.lr y17 11), .d (pr.ld y17 12), .d (pr.ld y17 13), .d (pr.ld y17 14), .d (pr.ld y17 15), .d (pr.ld y17 16), .d (pr.ld y17 17), .d (pr.ld y17 18), .d (pr.ld y17 19)]))))
                     (pr.out 0 [.d (pr.ld y17 0), .d (pr.ld y17 1), .d (pr.ld y17 2), .d (pr.ld y17 3), .d (pr.ld y17 4), .n (pr.ln y17 5), .n (pr.ln y17 6), .d (pr.ld y17 7), .d (pr.ld y17 8), .r (pr.lr y17 11), .d (pr.ld y17 12), .d (pr.ld y17 13), .d (pr.ld y17 14), .d (pr.ld y17 15), .d (pr.ld y17 16), .d (pr.ld y17 17), .d (pr.ld y17 18), .d (pr.ld y17 19)]))))) [fun y18 => (pr.eqN (pr.natN 1) (pr.len (pr.rows [[(pr.ld y18 8)]])) (pr.eqN (pr.ln y18 6) (pr.len (pr.lr y18 9)) (pr.eqN (pr.ln y18 5) (pr.len (pr.lr y18 9)) (pr.fits 8 (pr.addN (pr.ln y18 5) (pr.len (pr.seg (pr.rows [[(pr.ld y18 8)]]) none (pr.natN 1))))
                   (pr.bin .add false (pr.ld y18 7) (pr.lit (.int Go.IntKind.i64 (1))) fun x19 =>
                   (J13 1 [.d (pr.ld y18 0), .d (pr.ld y18 1), .d (pr.ld y18 2), .d (pr.ld y18 3), .d (pr.ld y18 4), .n (pr.addN (pr.ln y18 5) (pr.len (pr.seg (pr.rows [[(pr.ld y18 8)]]) none (pr.natN 1)))), .n (pr.addN (pr.ln y18 5) (pr.len (pr.seg (pr.rows [[(pr.ld y18 8)]]) none (pr.natN 1)))), .d x19, .r (pr.app (pr.lr y18 9) (pr.seg (pr.rows [[(pr.ld y18 8)]]) none (pr.natN 1))), .d (pr.ld y18 10), .d (pr.ld y18 11), .d (pr.ld y18 12), .d (pr.ld y18 13), .d (pr.ld y18 14), .d (pr.ld y18 15), .d (pr.ld y18 16), .d (pr.ld y18 17)]))))))])]))
                (pr.out 1 [.d (pr.ld y13 0), .d (pr.ld y13 1), .d (pr.ld y13 2), .d (pr.ld y13 3), .d (pr.ld y13 4), .n (pr.ln y13 5), .n (pr.ln y13 6), .r (pr.lr y13 8), .d (pr.ld y13 9), .d (pr.ld y13 10), .d (pr.ld y13 11), .d (pr.ld y13 12), .d (pr.ld y13 13), .d (pr.ld y13 14), .d (pr.ld y13 15), .d (pr.ld y13 16)]))))
def L6_2  : (Nat → List (Y Δ N R M) → Ω) → E → Ω := fun J9 y9 =>
 (pr.lenD (pr.ld y9 11) fun x10 =>
          (pr.bin .shl false (pr.lit (.int Go.IntKind.i64 (1))) x10 fun x11 =>
           (pr.bin .leq false (pr.ld y9 4) x11 fun x12 =>
            (pr.cond x12
             (pr.bnd (pr.loop [(L6_0 pr), (L6_1 pr)] 0 [.d (pr.ld y9 0), .d (pr.ld y9 1), .d (pr.ld y9 2), .d (pr.ld y9 3), .d (pr.ld y9 4), .d (pr.lit (.int Go.IntKind.i64 (0))), .d (pr.ld y9 5), .d (pr.ld y9 6), .d (pr.ld y9 7), .d (pr.ld y9 8), .d (pr.ld y9 9), .d (pr.ld y9 10), .d (pr.ld y9 11), .d (pr.ld y9 12)]) [fun y13 => (pr.bnd (pr.call 32 [(pr.ld y13 11), (pr.ld y13 12), (pr.lit (.slice none 0 0)), (pr.ld y13 9), (pr.ld y13 10)]) [fun y14 => (pr.bnd (pr.call 32 [(pr.ld y13 11), (pr.ld y13 12), (pr.lit (.slice none 0 0)), (pr.ld y13 7), (pr.ld y13 8)]) [fun y15 => (pr.bin .neq false (pr.ld y14 1) (pr.lit (.int Go.IntKind.i64 (0))) fun x16 =>
                (pr.cond x16
                 (pr.out 1 [.d (pr.lit (.bool false))])
                 (pr.bin .neq false (pr.ld y15 1) (pr.lit (.int Go.IntKind.i64 (0))) fun x17 =>
                 (pr.cond x17
                  (pr.out 1 [.d (pr.lit (.bool false))])
                  (pr.bin .lss false (pr.ld y14 0) (pr.ld y13 5) fun x18 =>
                  (pr.cond x18
                   (pr.out 1 [.d (pr.lit (.bool false))])
                   (pr.bin .gtr false (pr.ld y14 0) (pr.ld y13 6) fun x19 =>
                   (pr.cond x19
                    (pr.out 1 [.d (pr.lit (.bool false))])
                    (pr.bin .eql false (pr.ld y13 4) (pr.lit (.int Go.IntKind.i64 (0))) fun x20 =>
                    (pr.bnd (pr.cond x20
                     (pr.bin .neq false (pr.ld y14 0) (pr.ld y13 5) fun x21 =>
                     (pr.out 0 [.d (pr.ld y13 0), .d (pr.ld y13 1), .d (pr.ld y13 2), .d (pr.ld y13 3), .d (pr.ld y13 4), .d (pr.ld y14 0), .d (pr.ld y15 0), .d x21, .d (pr.ld y13 5), .d (pr.ld y13 6), .d (pr.ld y13 7), .d (pr.ld y13 8), .d (pr.ld y13 9), .d (pr.ld y13 10), .d (pr.ld y13 11), .d (pr.ld y13 12)]))
                     (pr.out 0 [.d (pr.ld y13 0), .d (pr.ld y13 1), .d (pr.ld y13 2), .d (pr.ld y13 3), .d (pr.ld y13 4), .d (pr.ld y14 0), .d (pr.ld y15 0), .d (pr.lit (.bool false)), .d (pr.ld y13 5), .d (pr.ld y13 6), .d (pr.ld y13 7), .d (pr.ld y13 8), .d (pr.ld y13 9), .d (pr.ld y13 10), .d (pr.ld y13 11), .d (pr.ld y13 12)])) [fun y21 => (pr.cond (pr.ld y21 7)
                      (pr.out 1 [.d (pr.lit (.bool false))])
                      (pr.lenD (pr.ld y21 14) fun x22 =>
                      (pr.bin .shl false (pr.lit (.int Go.IntKind.i64 (1))) x22 fun x23 =>
                       (pr.bin .sub false x23 (pr.lit (.int Go.IntKind.i64 (1))) fun x24 =>
                        (pr.bin .eql false (pr.ld y21 4) x24 fun x25 =>
                         (pr.bnd (pr.cond x25
                          (pr.bin .neq false (pr.ld y21 5) (pr.ld y21 9) fun x26 =>
                          (pr.out 0 [.d (pr.ld y21 0), .d (pr.ld y21 1), .d (pr.ld y21 2), .d (pr.ld y21 3), .d (pr.ld y21 4), .d (pr.ld y21 5), .d (pr.ld y21 6), .d x26, .d (pr.ld y21 8), .d (pr.ld y21 9), .d (pr.ld y21 10), .d (pr.ld y21 11), .d (pr.ld y21 12), .d (pr.ld y21 13), .d (pr.ld y21 14), .d (pr.ld y21 15)]))
                          (pr.out 0 [.d (pr.ld y21 0), .d (pr.ld y21 1), .d (pr.ld y21 2), .d (pr.ld y21 3), .d (pr.ld y21 4), .d (pr.ld y21 5), .d (pr.ld y21 6), .d (pr.lit (.bool false)), .d (pr.ld y21 8), .d (pr.ld y21 9), .d (pr.ld y21 10), .d (pr.ld y21 11), .d (pr.ld y21 12), .d (pr.ld y21 13), .d (pr.ld y21 14), .d (pr.ld y21 15)])) [fun y26 => (pr.cond (pr.ld y26 7)
                           (pr.out 1 [.d (pr.lit (.bool false))])
                           (pr.bin .eql false (pr.ld y26 1) (pr.lit (.int Go.IntKind.i64 (1))) fun x27 =>
                           (pr.bnd (pr.cond x27
                            (pr.bin .leq false (pr.ld y26 5) (pr.ld y26 6) fun x28 =>
                            (pr.out 0 [.d (pr.ld y26 0), .d (pr.ld y26 1), .d (pr.ld y26 2), .d (pr.ld y26 3), .d (pr.ld y26 4), .d (pr.ld y26 5), .d (pr.ld y26 6), .d x28, .d (pr.ld y26 8), .d (pr.ld y26 9), .d (pr.ld y26 10), .d (pr.ld y26 11), .d (pr.ld y26 12), .d (pr.ld y26 13), .d (pr.ld y26 14), .d (pr.ld y26 15)]))
                            (pr.out 0 [.d (pr.ld y26 0), .d (pr.ld y26 1), .d (pr.ld y26 2), .d (pr.ld y26 3), .d (pr.ld y26 4), .d (pr.ld y26 5), .d (pr.ld y26 6), .d (pr.lit (.bool false)), .d (pr.ld y26 8), .d (pr.ld y26 9), .d (pr.ld y26 10), .d (pr.ld y26 11), .d (pr.ld y26 12), .d (pr.ld y26 13), .d (pr.ld y26 14), .d (pr.ld y26 15)])) [fun y28 => (pr.cond (pr.ld y28 7)
                             (pr.out 1 [.d (pr.lit (.bool false))])
                             (pr.bin .eql false (pr.ld y28 1) (pr.lit (.int Go.IntKind.i64 (0))) fun x29 =>
                             (pr.bnd (pr.cond x29
(pr.bin .gtr false (pr.ld y28 5) (pr.ld y28 6) fun x30 =>
(pr.out 0 [.d (pr.ld y28 0), .d (pr.ld y28 1), .d (pr.ld y28 2), .d (pr.ld y28 3), .d (pr.ld y28 4), .d (pr.ld y28 5), .d (pr.ld y28 6), .d x30, .d (pr.ld y28 8), .d (pr.ld y28 9), .d (pr.ld y28 10), .d (pr.ld y28 11), .d (pr.ld y28 12), .d (pr.ld y28 13), .d (pr.ld y28 14), .d (pr.ld y28 15)]))
(pr.out 0 [.d (pr.ld y28 0), .d (pr.ld y28 1), .d (pr.ld y28 2), .d (pr.ld y28 3), .d (pr.ld y28 4), .d (pr.ld y28 5), .d (pr.ld y28 6), .d (pr.lit (.bool false)), .d (pr.ld y28 8), .d (pr.ld y28 9), .d (pr.ld y28 10), .d (pr.ld y28 11), .d (pr.ld y28 12), .d (pr.ld y28 13), .d (pr.ld y28 14), .d (pr.ld y28 15)])) [fun y30 => (pr.cond (pr.ld y30 7)
 (pr.out 1 [.d (pr.lit (.bool false))])
 (pr.bnd (pr.cond (pr.ld y30 2)
 (pr.out 0 [.d (pr.ld y30 0), .d (pr.ld y30 1), .d (pr.lit (.bool true)), .d (pr.ld y30 3), .d (pr.ld y30 4), .d (pr.ld y30 5), .d (pr.ld y30 6), .d (pr.ld y30 8), .d (pr.ld y30 9), .d (pr.ld y30 10), .d (pr.ld y30 11), .d (pr.ld y30 12), .d (pr.ld y30 13), .d (pr.ld y30 14), .d (pr.ld y30 15)])
 (pr.bin .gtr false (pr.ld y30 5) (pr.ld y30 6) fun x31 =>
 (pr.out 0 [.d (pr.ld y30 0), .d (pr.ld y30 1), .d x31, .d (pr.ld y30 3), .d (pr.ld y30 4), .d (pr.ld y30 5), .d (pr.ld y30 6), .d (pr.ld y30 8), .d (pr.ld y30 9), .d (pr.ld y30 10), .d (pr.ld y30 11), .d (pr.ld y30 12), .d (pr.ld y30 13), .d (pr.ld y30 14), .d (pr.ld y30 15)]))) [fun y31 => (pr.cond (pr.ld y31 3)
  (pr.bin .add false (pr.ld y31 4) (pr.lit (.int Go.IntKind.i64 (1))) fun x32 =>
  (J9 0 [.d (pr.ld y31 0), .d (pr.ld y31 1), .d (pr.ld y31 2), .d (pr.lit (.bool true)), .d x32, .d (pr.ld y31 7), .d (pr.ld y31 8), .d (pr.ld y31 9), .d (pr.ld y31 10), .d (pr.ld y31 11), .d (pr.ld y31 12), .d (pr.ld y31 13), .d (pr.ld y31 14)]))
  (pr.bin .leq false (pr.ld y31 5) (pr.ld y31 6) fun x32 =>
  (pr.bin .add false (pr.ld y31 4) (pr.lit (.int Go.IntKind.i64 (1))) fun x33 =>
   (J9 0 [.d (pr.ld y31 0), .d (pr.ld y31 1), .d (pr.ld y31 2), .d x32, .d x33, .d (pr.ld y31 7), .d (pr.ld y31 8), .d (pr.ld y31 9), .d (pr.ld y31 10), .d (pr.ld y31 11), .d (pr.ld y31 12), .d (pr.ld y31 13), .d (pr.ld y31 14)]))))]))])))])))]))))))]))))))))))])]), fun y13 => (pr.eqN (pr.ln y13 6) (pr.len (pr.lr y13 7)) (pr.bnd (pr.call 32 [(pr.ld y13 14), (pr.ld y13 15), (pr.slD 1 (pr.seg (pr.lr y13 7) none (pr.ln y13 5))), (pr.ld y13 12), (pr.ld y13 13)]) [fun y14 => (pr.lits [.d (pr.ld y14 0), .d (pr.ld y14 1)]
               (pr.eqN (pr.ln y13 6) (pr.len (pr.lr y13 7)) (pr.bnd (pr.call 32 [(pr.ld y13 14), (pr.ld y13 15), (pr.slD 1 (pr.seg (pr.lr y13 7) none (pr.ln y13 5))), (pr.ld y13 10), (pr.ld y13 11)]) [fun y15 => (pr.lits [.d (pr.ld y15 0), .d (pr.ld y15 1)]
                (pr.bin .neq false (pr.ld y14 1) (pr.lit (.int Go.IntKind.i64 (0))) fun x16 =>
                (pr.cond x16
                 (pr.out 1 [.d (pr.lit (.bool false))])
                 (pr.bin .neq false (pr.ld y15 1) (pr.lit (.int Go.IntKind.i64 (0))) fun x17 =>
                 (pr.cond x17
                  (pr.out 1 [.d (pr.lit (.bool false))])
                  (pr.bin .lss false (pr.ld y14 0) (pr.ld y13 8) fun x18 =>
                  (pr.cond x18
                   (pr.out 1 [.d (pr.lit (.bool false))])
                   (pr.bin .gtr false (pr.ld y14 0) (pr.ld y13 9) fun x19 =>
                   (pr.cond x19
                    (pr.out 1 [.d (pr.lit (.bool false))])
                    (pr.bin .eql false (pr.ld y13 4) (pr.lit (.int Go.IntKind.i64 (0))) fun x20 =>
                    (pr.bnd (pr.cond x20
                     (pr.bin .neq false (pr.ld y14 0) (pr.ld y13 8) fun x21 =>
                     (pr.out 0 [.d (pr.ld y13 0), .d (pr.ld y13 1), .d (pr.ld y13 2), .d (pr.ld y13 3), .d (pr.ld y13 4), .d (pr.ld y14 0), .d (pr.ld y15 0), .d x21, .d (pr.ld y13 8), .d (pr.ld y13 9), .d (pr.ld y13 10), .d (pr.ld y13 11), .d (pr.ld y13 12), .d (pr.ld y13 13), .d (pr.ld y13 14), .d (pr.ld y13 15)]))
                     (pr.out 0 [.d (pr.ld y13 0), .d (pr.ld y13 1), .d (pr.ld y13 2), .d (pr.ld y13 3), .d (pr.ld y13 4), .d (pr.ld y14 0), .d (pr.ld y15 0), .d (pr.lit (.bool false)), .d (pr.ld y13 8), .d (pr.ld y13 9), .d (pr.ld y13 10), .d (pr.ld y13 11), .d (pr.ld y13 12), .d (pr.ld y13 13), .d (pr.ld y13 14), .d (pr.ld y13 15)])) [fun y21 => (pr.cond (pr.ld y21 7)
                      (pr.out 1 [.d (pr.lit (.bool false))])
                      (pr.lenD (pr.ld y21 14) fun x22 =>
                      (pr.bin .shl false (pr.lit (.int Go.IntKind.i64 (1))) x22 fun x23 =>
                       (pr.bin .sub false x23 (pr.lit (.int Go.IntKind.i64 (1))) fun x24 =>
                        (pr.bin .eql false (pr.ld y21 4) x24 fun x25 =>
                         (pr.bnd (pr.cond x25
                          (pr.bin .neq false (pr.ld y21 5) (pr.ld y21 9) fun x26 =>
                          (pr.out 0 [.d (pr.ld y21 0), .d (pr.ld y21 1), .d (pr.ld y21 2), .d (pr.ld y21 3), .d (pr.ld y21 4), .d (pr.ld y21 5), .d (pr.ld y21 6), .d x26, .d (pr.ld y21 8), .d (pr.ld y21 9), .d (pr.ld y21 10), .d (pr.ld y21 11), .d (pr.ld y21 12), .d (pr.ld y21 13), .d (pr.ld y21 14), .d (pr.ld y21 15)]))
                          (pr.out 0 [.d (pr.ld y21 0), .d (pr.ld y21 1), .d (pr.ld y21 2), .d (pr.ld y21 3), .d (pr.ld y21 4), .d (pr.ld y21 5), .d (pr.ld y21 6), .d (pr.lit (.bool false)), .d (pr.ld y21 8), .d (pr.ld y21 9), .d (pr.ld y21 10), .d (pr.ld y21 11), .d (pr.ld y21 12), .d (pr.ld y21 13), .d (pr.ld y21 14), .d (pr.ld y21 15)])) [fun y26 => (pr.cond (pr.ld y26 7)
                           (pr.out 1 [.d (pr.lit (.bool false))])
                           (pr.bin .eql false (pr.ld y26 1) (pr.lit (.int Go.IntKind.i64 (1))) fun x27 =>
                           (pr.bnd (pr.cond x27
                            (pr.bin .leq false (pr.ld y26 5) (pr.ld y26 6) fun x28 =>
                            (pr.out 0 [.d (pr.ld y26 0), .d (pr.ld y26 1), .d (pr.ld y26 2), .d (pr.ld y26 3), .d (pr.ld y26 4), .d (pr.ld y26 5), .d (pr.ld y26 6), .d x28, .d (pr.ld y26 8), .d (pr.ld y26 9), .d (pr.ld y26 10), .d (pr.ld y26 11), .d (pr.ld y26 12), .d (pr.ld y26 13), .d (pr.ld y26 14), .d (pr.ld y26 15)]))
                            (pr.out 0 [.d (pr.ld y26 0), .d (pr.ld y26 1), .d (pr.ld y26 2), .d (pr.ld y26 3), .d (pr.ld y26 4), .d (pr.ld y26 5), .d (pr.ld y26 6), .d (pr.lit (.bool false)), .d (pr.ld y26 8), .d (pr.ld y26 9), .d (pr.ld y26 10), .d (pr.ld y26 11), .d (pr.ld y26 12), .d (pr.ld y26 13), .d (pr.ld y26 14), .d (pr.ld y26 15)])) [fun y28 => (pr.cond (pr.ld y28 7)
                             (pr.out 1 [.d (pr.lit (.bool false))])
                             (pr.bin .eql false (pr.ld y28 1) (pr.lit (.int Go.IntKind.i64 (0))) fun x29 =>
                             (pr.bnd (pr.cond x29
(pr.bin .gtr false (pr.ld y28 5) (pr.ld y28 6) fun x30 =>
(pr.out 0 [.d (pr.ld y28 0), .d (pr.ld y28 1), .d (pr.ld y28 2), .d (pr.ld y28 3), .d (pr.ld y28 4), .d (pr.ld y28 5), .d (pr.ld y28 6), .d x30, .d (pr.ld y28 8), .d (pr.ld y28 9), .d (pr.ld y28 10), .d (pr.ld y28 11), .d (pr.ld y28 12), .d (pr.ld y28 13), .d (pr.ld y28 14), .d (pr.ld y28 15)]))
(pr.out 0 [.d (pr.ld y28 0), .d (pr.ld y28 1), .d (pr.ld y28 2), .d (pr.ld y28 3), .d (pr.ld y28 4), .d (pr.ld y28 5), .d (pr.ld y28 6), .d (pr.lit (.bool false)), .d (pr.ld y28 8), .d (pr.ld y28 9), .d (pr.ld y28 10), .d (pr.ld y28 11), .d (pr.ld y28 12), .d (pr.ld y28 13), .d (pr.ld y28 14), .d (pr.ld y28 15)])) [fun y30 => (pr.cond (pr.ld y30 7)
 (pr.out 1 [.d (pr.lit (.bool false))])
 (pr.bnd (pr.cond (pr.ld y30 2)
 (pr.out 0 [.d (pr.ld y30 0), .d (pr.ld y30 1), .d (pr.lit (.bool true)), .d (pr.ld y30 3), .d (pr.ld y30 4), .d (pr.ld y30 5), .d (pr.ld y30 6), .d (pr.ld y30 8), .d (pr.ld y30 9), .d (pr.ld y30 10), .d (pr.ld y30 11), .d (pr.ld y30 12), .d (pr.ld y30 13), .d (pr.ld y30 14), .d (pr.ld y30 15)])
 (pr.bin .gtr false (pr.ld y30 5) (pr.ld y30 6) fun x31 =>
 (pr.out 0 [.d (pr.ld y30 0), .d (pr.ld y30 1), .d x31, .d (pr.ld y30 3), .d (pr.ld y30 4), .d (pr.ld y30 5), .d (pr.ld y30 6), .d (pr.ld y30 8), .d (pr.ld y30 9), .d (pr.ld y30 10), .d (pr.ld y30 11), .d (pr.ld y30 12), .d (pr.ld y30 13), .d (pr.ld y30 14), .d (pr.ld y30 15)]))) [fun y31 => (pr.cond (pr.ld y31 3)
  (pr.bin .add false (pr.ld y31 4) (pr.lit (.int Go.IntKind.i64 (1))) fun x32 =>
  (J9 0 [.d (pr.ld y31 0), .d (pr.ld y31 1), .d (pr.ld y31 2), .d (pr.lit (.bool true)), .d x32, .d (pr.ld y31 7), .d (pr.ld y31 8), .d (pr.ld y31 9), .d (pr.ld y31 10), .d (pr.ld y31 11), .d (pr.ld y31 12), .d (pr.ld y31 13), .d (pr.ld y31 14)]))
  (pr.bin .leq false (pr.ld y31 5) (pr.ld y31 6) fun x32 =>
  (pr.bin .add false (pr.ld y31 4) (pr.lit (.int Go.IntKind.i64 (1))) fun x33 =>
   (J9 0 [.d (pr.ld y31 0), .d (pr.ld y31 1), .d (pr.ld y31 2), .d x32, .d x33, .d (pr.ld y31 7), .d (pr.ld y31 8), .d (pr.ld y31 9), .d (pr.ld y31 10), .d (pr.ld y31 11), .d (pr.ld y31 12), .d (pr.ld y31 13), .d (pr.ld y31 14)]))))]))])))])))]))))))])))))))))))])))]))])
             (pr.out 0 [.d (pr.ld y9 1), .d (pr.ld y9 2), .d (pr.ld y9 3)])))))
def G6 (a0 a1 a2 a3 a4 a5 a6 a7 : Δ) : Ω :=
 (pr.bnd (pr.call 11 []) [fun y0 => (pr.bnd (pr.call 25 [a0, a1, a2]) [fun y1 => (pr.bnd (pr.call 29 [(pr.ld y1 0), (pr.ld y1 1), a3, a4]) [fun y2 => (pr.bnd (pr.call 29 [(pr.ld y1 0), (pr.ld y1 1), a5, a6]) [fun y3 => (pr.bnd (pr.call 30 [(pr.ld y1 0), (pr.ld y1 1), (pr.ld y2 0), (pr.ld y2 1)]) [fun y4 => (pr.bnd (pr.call 31 [(pr.ld y1 0), (pr.ld y1 1), (pr.ld y2 0), (pr.ld y2 1), (pr.ld y3 0), (pr.ld y3 1)]) [fun y5 => (pr.un .not (pr.ld y0 0) fun x6 => (pr.cond x6
       (pr.out 0 [.d (pr.lit (.bool false))])
       (pr.bin .neq false (pr.ld y4 2) (pr.lit (.int Go.IntKind.i64 (0))) fun x7 =>
       (pr.cond x7
        (pr.out 0 [.d (pr.lit (.bool false))])
        (pr.bin .neq false (pr.ld y5 1) (pr.lit (.int Go.IntKind.i64 (0))) fun x8 =>
        (pr.cond x8
         (pr.out 0 [.d (pr.lit (.bool false))])
         (pr.bnd (pr.loop [(L6_2 pr)] 0 [.d a7, .d (pr.ld y5 0), .d (pr.lit (.bool false)), .d (pr.lit (.bool false)), .d (pr.lit (.int Go.IntKind.i64 (0))), .d (pr.ld y4 0), .d (pr.ld y4 1), .d (pr.ld y3 0), .d (pr.ld y3 1), .d (pr.ld y2 0), .d (pr.ld y2 1), .d (pr.ld y1 0), .d (pr.ld y1 1)]) [fun y9 => (pr.bin .eql false (pr.ld y9 0) (pr.lit (.int Go.IntKind.i64 (2))) fun x10 =>
          (pr.cond (pr.ld y9 1)
           (pr.bin .eql true x10 (pr.ld y9 2) fun x11 =>
           (pr.out 0 [.d x11]))
           (pr.bin .eql true x10 (pr.lit (.bool false)) fun x11 =>
           (pr.out 0 [.d x11])))), fun y9 => (pr.out 0 [.d (pr.ld y9 0)])])))))))])])])])])])
/-! leazing/leazinglaw04.DriftLengths -/
def G8 (a0 a1 a2 a3 a4 a5 a6 a7 a8 a9 a10 : Δ) : Ω :=
 (pr.bnd (pr.call 11 []) [fun y0 => (pr.bnd (pr.call 30 [a0, a1, a2, a3]) [fun y1 => (pr.bnd (pr.call 37 [a0, a1, a2, a3]) [fun y2 => (pr.bnd (pr.call 31 [a0, a1, a2, a3, a4, a5]) [fun y3 => (pr.bnd (pr.call 38 [a0, a1, a2, a3, a4, a5]) [fun y4 => (pr.bnd (pr.call 32 [a0, a1, a10, a2, a3]) [fun y5 => (pr.bnd (pr.call 39 [a0, a1, a10, a2, a3]) [fun y6 => (pr.bnd (pr.call 40 [a0, a1, a4, a5]) [fun y7 => (pr.bnd (pr.call 41 [a0, a1, a4, a5]) [fun y8 => (pr.bnd (pr.call 28 [a6, a7, a8, a9]) [fun y9 => (pr.bnd (pr.call 42 [a6, a7, a8, a9]) [fun y10 => (pr.cond (pr.ld y0 0)
           (pr.eqs [true, true] false [(pr.ld y1 0), (pr.ld y1 1)] [(pr.ld y2 0), (pr.ld y2 1)] fun x11 => (pr.cond x11
            (pr.bin .eql false (pr.ld y1 2) (pr.ld y2 2) fun x12 =>
            (pr.cond x12
             (pr.bin .eql false (pr.ld y3 0) (pr.ld y4 0) fun x13 =>
             (pr.cond x13
              (pr.bin .eql false (pr.ld y3 1) (pr.ld y4 1) fun x14 =>
              (pr.cond x14
               (pr.bin .eql false (pr.ld y5 0) (pr.ld y6 0) fun x15 =>
               (pr.cond x15
                (pr.bin .eql false (pr.ld y5 1) (pr.ld y6 1) fun x16 =>
                (pr.cond x16
                 (pr.bin .eql false (pr.ld y7 0) (pr.ld y8 0) fun x17 =>
                 (pr.cond x17
                  (pr.bin .eql false (pr.ld y7 1) (pr.ld y8 1) fun x18 =>
                  (pr.cond x18
                   (pr.bin .eql false (pr.ld y9 0) (pr.ld y10 0) fun x19 =>
                   (pr.cond x19
                    (pr.bin .eql false (pr.ld y9 1) (pr.ld y10 1) fun x20 =>
                    (pr.out 0 [.d x20]))
                    (pr.out 0 [.d (pr.lit (.bool false))])))
                   (pr.out 0 [.d (pr.lit (.bool false))])))
                  (pr.out 0 [.d (pr.lit (.bool false))])))
                 (pr.out 0 [.d (pr.lit (.bool false))])))
                (pr.out 0 [.d (pr.lit (.bool false))])))
               (pr.out 0 [.d (pr.lit (.bool false))])))
              (pr.out 0 [.d (pr.lit (.bool false))])))
             (pr.out 0 [.d (pr.lit (.bool false))])))
            (pr.out 0 [.d (pr.lit (.bool false))])))
           (pr.out 0 [.d (pr.lit (.bool false))]))])])])])])])])])])])])
/-! leazing/drift.Turn -/
def G12 (a0 a1 a2 a3 : Δ) : Ω :=
 (pr.bnd (pr.call 17 [a0, a1, a2]) [fun y0 => (pr.bin .neq false (pr.ld y0 0) (pr.lit (.int Go.IntKind.i64 (0))) fun x1 =>
 (pr.cond x1
  (pr.out 0 [.d (pr.lit (.slice none 0 0)), .d (pr.ld y0 0)])
  (pr.bnd (pr.call 59 [a3, (pr.lit (.int Go.IntKind.i64 (0))), (pr.lit (.int Go.IntKind.i64 (4166)))]) [fun y2 => (pr.un .not (pr.ld y2 0) fun x3 => (pr.cond x3
    (pr.out 0 [.d (pr.lit (.slice none 0 0)), .d (pr.lit (.int Go.IntKind.i64 (6)))])
    (pr.lenD a2 fun x4 =>
    (pr.bin .rem false a3 x4 fun x5 =>
     (pr.cutD 4 a2 (some x5) none fun x6 =>
      (pr.cutD 4 a2 none (some x5) fun x7 =>
       (pr.eqN (pr.natN 2) (pr.len (pr.rows [[x6], [x7]])) (pr.bnd (pr.call 60 [(pr.slD 1 (pr.seg (pr.rows [[x6], [x7]]) none (pr.natN 2)))]) [fun y8 => (pr.lits [.r (pr.lr y8 0)]
         (pr.eqN (pr.len (pr.lr y8 0)) (pr.len (pr.lr y8 0)) (pr.out 0 [.d (pr.slD 4 (pr.seg (pr.lr y8 0) none (pr.len (pr.lr y8 0)))), .d (pr.lit (.int Go.IntKind.i64 (0)))]))), fun y8 => (pr.lits [.d (pr.ld y8 0)]
         (pr.out 0 [.d (pr.ld y8 0), .d (pr.lit (.int Go.IntKind.i64 (0)))]))]))))))))])))])
/-! leazing/leazingref04.Turn -/
def G13 (a0 a1 a2 a3 : Δ) : Ω :=
 (pr.bnd (pr.call 18 [a0, a1, a2]) [fun y0 => (pr.bin .neq false (pr.ld y0 0) (pr.lit (.int Go.IntKind.i64 (0))) fun x1 =>
 (pr.cond x1
  (pr.out 0 [.d (pr.lit (.slice none 0 0)), .d (pr.ld y0 0)])
  (pr.bnd (pr.call 61 [a3, (pr.lit (.int Go.IntKind.i64 (0))), (pr.lit (.int Go.IntKind.i64 (4166)))]) [fun y2 => (pr.un .not (pr.ld y2 0) fun x3 => (pr.cond x3
    (pr.out 0 [.d (pr.lit (.slice none 0 0)), .d (pr.lit (.int Go.IntKind.i64 (6)))])
    (pr.lenD a2 fun x4 =>
    (pr.bin .rem false a3 x4 fun x5 =>
     (pr.cutD 4 a2 (some x5) none fun x6 =>
      (pr.rowsD 4 x6 fun r7 => (pr.eqN (pr.natN 0) (pr.len (pr.rows [])) (pr.eqN (pr.natN 0) (pr.len (pr.rows [])) (pr.fits 32 (pr.addN (pr.natN 0) (pr.len r7))
        (pr.cutD 4 a2 none (some x5) fun x8 =>
        (pr.rowsD 4 x8 fun r9 => (pr.eqN (pr.addN (pr.natN 0) (pr.len r7)) (pr.len (pr.app (pr.rows []) r7)) (pr.eqN (pr.addN (pr.natN 0) (pr.len r7)) (pr.len (pr.app (pr.rows []) r7)) (pr.fits 32 (pr.addN (pr.addN (pr.natN 0) (pr.len r7)) (pr.len r9))
          (pr.eqN (pr.addN (pr.addN (pr.natN 0) (pr.len r7)) (pr.len r9)) (pr.len (pr.app (pr.app (pr.rows []) r7) r9)) (pr.out 0 [.d (pr.slD 4 (pr.seg (pr.app (pr.app (pr.rows []) r7) r9) none (pr.addN (pr.addN (pr.natN 0) (pr.len r7)) (pr.len r9)))), .d (pr.lit (.int Go.IntKind.i64 (0)))]))))))))))))))))])))])
/-! leazing/leazingref04.SameClaims -/
def L14_0  : (Nat → List (Y Δ N R M) → Ω) → E → Ω := fun J3 y3 =>
 (pr.lenD (pr.ld y3 0) fun x4 =>
    (pr.bin .lss false (pr.ld y3 3) x4 fun x5 =>
     (pr.cond x5
      (pr.cond (pr.ld y3 2)
      (pr.rowD 4 (pr.ld y3 0) (pr.ld y3 3) fun w6 =>
      (pr.rowD 4 (pr.ld y3 1) (pr.ld y3 3) fun w7 =>
       (pr.eqs [true, true, true, true] false [(pr.cell w6 0), (pr.cell w6 1), (pr.cell w6 2), (pr.cell w6 3)] [(pr.cell w7 0), (pr.cell w7 1), (pr.cell w7 2), (pr.cell w7 3)] fun x8 => (pr.bin .add false (pr.ld y3 3) (pr.lit (.int Go.IntKind.i64 (1))) fun x9 =>
         (J3 0 [.d (pr.ld y3 0), .d (pr.ld y3 1), .d x8, .d x9])))))
      (pr.out 0 [.d (pr.ld y3 2)]))
      (pr.out 0 [.d (pr.ld y3 2)]))))
def G14 (a0 a1 : Δ) : Ω :=
 (pr.lenD a0 fun x0 =>
(pr.lenD a1 fun x1 =>
 (pr.bin .eql false x0 x1 fun x2 =>
  (pr.bnd (pr.loop [(L14_0 pr)] 0 [.d a0, .d a1, .d x2, .d (pr.lit (.int Go.IntKind.i64 (0)))]) [fun y3 => (pr.out 0 [.d (pr.ld y3 0)])]))))
/-! leazing/drift.Check -/
def L15_0  : (Nat → List (Y Δ N R M) → Ω) → E → Ω := fun J7 y7 =>
 (pr.bin .lss false (pr.ld y7 2) (pr.ld y7 1) fun x8 =>
        (pr.cond x8
         (pr.rowD 3 (pr.ld y7 0) (pr.ld y7 2) fun w9 =>
         (pr.bnd (pr.call 19 [(pr.cell w9 0), (pr.cell w9 1), (pr.cell w9 2)]) [fun y10 => (pr.bin .neq false (pr.ld y10 0) (pr.lit (.int Go.IntKind.i64 (0))) fun x11 =>
           (pr.cond x11
            (pr.out 0 [.d (pr.lit (.int Go.IntKind.i64 (42)))])
            (pr.bin .gtr false (pr.ld y7 2) (pr.lit (.int Go.IntKind.i64 (0))) fun x12 =>
            (pr.cond x12
             (pr.bin .sub false (pr.ld y7 2) (pr.lit (.int Go.IntKind.i64 (1))) fun x13 =>
             (pr.rowD 3 (pr.ld y7 3) x13 fun w14 =>
              (pr.bin .geq false (pr.cell w14 0) (pr.cell w9 0) fun x15 =>
               (pr.cond x15
                (pr.out 0 [.d (pr.lit (.int Go.IntKind.i64 (42)))])
                (pr.bin .add false (pr.ld y7 2) (pr.lit (.int Go.IntKind.i64 (1))) fun x16 =>
                (J7 0 [.d (pr.ld y7 0), .d (pr.ld y7 1), .d x16, .d (pr.ld y7 3), .d (pr.ld y7 4)]))))))
             (pr.bin .add false (pr.ld y7 2) (pr.lit (.int Go.IntKind.i64 (1))) fun x13 =>
             (J7 0 [.d (pr.ld y7 0), .d (pr.ld y7 1), .d x13, .d (pr.ld y7 3), .d (pr.ld y7 4)]))))))]))
         (pr.out 1 [.d (pr.ld y7 3), .d (pr.ld y7 4)])))
def L15_1  : (Nat → List (Y Δ N R M) → Ω) → E → Ω := fun J10 y10 =>
 (pr.bin .lss false (pr.ld y10 2) (pr.ld y10 1) fun x11 =>
           (pr.cond x11
            (pr.rowD 3 (pr.ld y10 0) (pr.ld y10 2) fun w12 =>
            (pr.look 0 [(.int Go.IntKind.i64 (0))] (pr.lm y10 3) (pr.cell w12 0) fun w13 x13 =>
             (pr.bnd (pr.call 21 [(pr.cell w12 0), (pr.cell w12 1), (pr.cell w12 2)]) [fun y14 => (pr.bin .neq false (pr.ld y14 0) (pr.lit (.int Go.IntKind.i64 (0))) fun x15 =>
               (pr.cond x15
                (pr.out 0 [.d (pr.lit (.int Go.IntKind.i64 (42)))])
                (pr.un .not x13 fun x16 => (pr.cond x16
                 (pr.out 0 [.d (pr.lit (.int Go.IntKind.i64 (42)))])
                 (pr.bin .add false (pr.ld y10 2) (pr.lit (.int Go.IntKind.i64 (1))) fun x17 =>
                 (J10 0 [.d (pr.ld y10 0), .d (pr.ld y10 1), .d x17, .m (pr.lm y10 3)]))))))])))
            (pr.out 1 [])))
def G15 (a0 a1 : Δ) : Ω :=
 (pr.lenD a0 fun x0 =>
(pr.bnd (pr.call 59 [x0, (pr.lit (.int Go.IntKind.i64 (1))), (pr.lit (.int Go.IntKind.i64 (6)))]) [fun y1 => (pr.un .not (pr.ld y1 0) fun x2 => (pr.cond x2
   (pr.out 0 [.d (pr.lit (.int Go.IntKind.i64 (42)))])
   (pr.lenD a1 fun x3 =>
   (pr.bnd (pr.call 59 [x3, (pr.lit (.int Go.IntKind.i64 (1))), (pr.lit (.int Go.IntKind.i64 (24)))]) [fun y4 => (pr.un .not (pr.ld y4 0) fun x5 => (pr.cond x5
      (pr.out 0 [.d (pr.lit (.int Go.IntKind.i64 (42)))])
      (pr.lenD a0 fun x6 =>
      (pr.bnd (pr.loop [(L15_0 pr)] 0 [.d a0, .d x6, .d (pr.lit (.int Go.IntKind.i64 (0))), .d a0, .d a1]) [fun y7 => (pr.out 0 [.d (pr.ld y7 0)]), fun y7 => (pr.bnd (pr.call 62 [(pr.ld y7 0), (pr.ld y7 1)]) [fun y8 => (pr.lenD (pr.ld y7 1) fun x9 =>
         (pr.bnd (pr.loop [(L15_1 pr)] 0 [.d (pr.ld y7 1), .d x9, .d (pr.lit (.int Go.IntKind.i64 (0))), .m (pr.lm y8 0)]) [fun y10 => (pr.out 0 [.d (pr.ld y10 0)]), fun y10 => (pr.out 0 [.d (pr.lit (.int Go.IntKind.i64 (0)))])]))])]))))]))))]))
/-! leazing/leazingref04.Check -/
def L16_0  : (Nat → List (Y Δ N R M) → Ω) → E → Ω := fun J6 y6 =>
 (pr.lenD (pr.ld y6 1) fun x7 =>
       (pr.bin .lss false (pr.ld y6 0) x7 fun x8 =>
        (pr.cond x8
         (pr.rowD 3 (pr.ld y6 1) (pr.ld y6 0) fun w9 =>
         (pr.bnd (pr.call 20 [(pr.cell w9 0), (pr.cell w9 1), (pr.cell w9 2)]) [fun y10 => (pr.bin .neq false (pr.ld y10 0) (pr.lit (.int Go.IntKind.i64 (0))) fun x11 =>
           (pr.cond x11
            (pr.out 0 [.d (pr.lit (.int Go.IntKind.i64 (42)))])
            (pr.bin .gtr false (pr.ld y6 0) (pr.lit (.int Go.IntKind.i64 (0))) fun x12 =>
            (pr.cond x12
             (pr.bin .sub false (pr.ld y6 0) (pr.lit (.int Go.IntKind.i64 (1))) fun x13 =>
             (pr.rowD 3 (pr.ld y6 1) x13 fun w14 =>
              (pr.rowD 3 (pr.ld y6 1) (pr.ld y6 0) fun w15 =>
               (pr.bin .geq false (pr.cell w14 0) (pr.cell w15 0) fun x16 =>
                (pr.cond x16
                 (pr.out 0 [.d (pr.lit (.int Go.IntKind.i64 (42)))])
                 (pr.bin .add false (pr.ld y6 0) (pr.lit (.int Go.IntKind.i64 (1))) fun x17 =>
                 (J6 0 [.d x17, .d (pr.ld y6 1), .d (pr.ld y6 2)])))))))
             (pr.bin .add false (pr.ld y6 0) (pr.lit (.int Go.IntKind.i64 (1))) fun x13 =>
             (J6 0 [.d x13, .d (pr.ld y6 1), .d (pr.ld y6 2)]))))))]))
         (pr.out 1 [.d (pr.ld y6 1), .d (pr.ld y6 2)]))))
def L16_1  : (Nat → List (Y Δ N R M) → Ω) → E → Ω := fun J7 y7 =>
 (pr.lenD (pr.ld y7 2) fun x8 =>
        (pr.bin .lss false (pr.ld y7 0) x8 fun x9 =>
         (pr.cond x9
          (pr.rowD 3 (pr.ld y7 2) (pr.ld y7 0) fun w10 =>
          (pr.bnd (pr.call 22 [(pr.cell w10 0), (pr.cell w10 1), (pr.cell w10 2)]) [fun y11 => (pr.bin .neq false (pr.ld y11 0) (pr.lit (.int Go.IntKind.i64 (0))) fun x12 =>
            (pr.cond x12
             (pr.out 0 [.d (pr.lit (.int Go.IntKind.i64 (42)))])
             (pr.rowD 3 (pr.ld y7 2) (pr.ld y7 0) fun w13 =>
             (pr.bnd (pr.call 63 [(pr.ld y7 1), (pr.ld y7 2), (pr.cell w13 0)]) [fun y14 => (pr.bin .lss false (pr.ld y14 0) (pr.lit (.int Go.IntKind.i64 (0))) fun x15 =>
               (pr.cond x15
                (pr.out 0 [.d (pr.lit (.int Go.IntKind.i64 (42)))])
                (pr.bin .add false (pr.ld y7 0) (pr.lit (.int Go.IntKind.i64 (1))) fun x16 =>
                (J7 0 [.d x16, .d (pr.ld y7 1), .d (pr.ld y7 2)]))))]))))]))
          (pr.out 1 []))))
def G16 (a0 a1 : Δ) : Ω :=
 (pr.lenD a0 fun x0 =>
(pr.bnd (pr.call 61 [x0, (pr.lit (.int Go.IntKind.i64 (1))), (pr.lit (.int Go.IntKind.i64 (6)))]) [fun y1 => (pr.un .not (pr.ld y1 0) fun x2 => (pr.cond x2
   (pr.out 0 [.d (pr.lit (.int Go.IntKind.i64 (42)))])
   (pr.lenD a1 fun x3 =>
   (pr.bnd (pr.call 61 [x3, (pr.lit (.int Go.IntKind.i64 (1))), (pr.lit (.int Go.IntKind.i64 (24)))]) [fun y4 => (pr.un .not (pr.ld y4 0) fun x5 => (pr.cond x5
      (pr.out 0 [.d (pr.lit (.int Go.IntKind.i64 (42)))])
      (pr.bnd (pr.loop [(L16_0 pr)] 0 [.d (pr.lit (.int Go.IntKind.i64 (0))), .d a0, .d a1]) [fun y6 => (pr.out 0 [.d (pr.ld y6 0)]), fun y6 => (pr.bnd (pr.loop [(L16_1 pr)] 0 [.d (pr.lit (.int Go.IntKind.i64 (0))), .d (pr.ld y6 0), .d (pr.ld y6 1)]) [fun y7 => (pr.out 0 [.d (pr.ld y7 0)]), fun y7 => (pr.out 0 [.d (pr.lit (.int Go.IntKind.i64 (0)))])])])))]))))]))
/-! leazing/drift.CheckClaims -/
def L17_0  : (Nat → List (Y Δ N R M) → Ω) → E → Ω := fun J6 y6 =>
 (pr.bin .lss false (pr.ld y6 3) (pr.ld y6 2) fun x7 =>
       (pr.cond x7
        (pr.rowD 4 (pr.ld y6 1) (pr.ld y6 3) fun w8 =>
        (pr.cutD 4 (pr.ld y6 0) none (some (pr.ld y6 3)) fun x9 =>
         (pr.bnd (pr.call 64 [x9, (pr.fnD 65 [(pr.dpD [(pr.cell w8 0), (pr.cell w8 1), (pr.cell w8 2), (pr.cell w8 3)] 0)])]) [fun y10 => (pr.lits [.d (pr.ld y10 0)]
           (pr.bnd (pr.call 23 [(pr.cell w8 0), (pr.cell w8 1), (pr.cell w8 2), (pr.cell w8 3)]) [fun y11 => (pr.bin .neq false (pr.ld y11 0) (pr.lit (.int Go.IntKind.i64 (0))) fun x12 =>
            (pr.cond x12
             (pr.out 0 [.d (pr.lit (.int Go.IntKind.i64 (44)))])
             (pr.cond (pr.ld y10 0)
             (pr.out 0 [.d (pr.lit (.int Go.IntKind.i64 (44)))])
             (pr.lenD (pr.ld y6 5) fun x13 =>
             (pr.bin .geq false (pr.cell w8 3) x13 fun x14 =>
              (pr.cond x14
               (pr.out 0 [.d (pr.lit (.int Go.IntKind.i64 (44)))])
               (pr.bin .add false (pr.ld y6 3) (pr.lit (.int Go.IntKind.i64 (1))) fun x15 =>
               (J6 0 [.d (pr.ld y6 0), .d (pr.ld y6 1), .d (pr.ld y6 2), .d x15, .d (pr.ld y6 4), .d (pr.ld y6 5)]))))))))]))])))
        (pr.out 1 [])))
def G17 (a0 a1 a2 : Δ) : Ω :=
 (pr.bnd (pr.call 15 [a0, a1]) [fun y0 => (pr.bin .neq false (pr.ld y0 0) (pr.lit (.int Go.IntKind.i64 (0))) fun x1 =>
 (pr.cond x1
  (pr.out 0 [.d (pr.ld y0 0)])
  (pr.lenD a2 fun x2 =>
  (pr.bnd (pr.call 59 [x2, (pr.lit (.int Go.IntKind.i64 (1))), (pr.lit (.int Go.IntKind.i64 (12)))]) [fun y3 => (pr.un .not (pr.ld y3 0) fun x4 => (pr.cond x4
     (pr.out 0 [.d (pr.lit (.int Go.IntKind.i64 (44)))])
     (pr.lenD a2 fun x5 =>
     (pr.bnd (pr.loop [(L17_0 pr)] 0 [.d a2, .d a2, .d x5, .d (pr.lit (.int Go.IntKind.i64 (0))), .d a0, .d a1]) [fun y6 => (pr.out 0 [.d (pr.ld y6 0)]), fun y6 => (pr.out 0 [.d (pr.lit (.int Go.IntKind.i64 (0)))])]))))]))))])
/-! leazing/leazingref04.CheckClaims -/
def G18 (a0 a1 a2 : Δ) : Ω :=
 (pr.bnd (pr.call 16 [a0, a1]) [fun y0 => (pr.bin .neq false (pr.ld y0 0) (pr.lit (.int Go.IntKind.i64 (0))) fun x1 =>
 (pr.cond x1
  (pr.out 0 [.d (pr.lit (.int Go.IntKind.i64 (42)))])
  (pr.bnd (pr.call 66 [a0, a1, a2]) [fun y2 => (pr.un .not (pr.ld y2 0) fun x3 => (pr.cond x3
    (pr.out 0 [.d (pr.lit (.int Go.IntKind.i64 (44)))])
    (pr.out 0 [.d (pr.lit (.int Go.IntKind.i64 (0)))])))])))])
/-! leazing/drift.CheckChain -/
def G19 (a0 a1 a2 : Δ) : Ω :=
 (pr.bnd (pr.call 59 [a0, (pr.lit (.int Go.IntKind.i64 (1))), (pr.lit (.int Go.IntKind.i64 (99)))]) [fun y0 => (pr.un .not (pr.ld y0 0) fun x1 => (pr.cond x1
  (pr.out 0 [.d (pr.lit (.int Go.IntKind.i64 (40)))])
  (pr.bin .lss false a1 (pr.lit (.int Go.IntKind.i64 (1))) fun x2 =>
  (pr.cond x2
   (pr.out 0 [.d (pr.lit (.int Go.IntKind.i64 (40)))])
   (pr.bin .lss false a2 a1 fun x3 =>
   (pr.cond x3
    (pr.out 0 [.d (pr.lit (.int Go.IntKind.i64 (40)))])
    (pr.bin .gtr false a2 (pr.lit (.int Go.IntKind.i64 (1000))) fun x4 =>
    (pr.cond x4
     (pr.out 0 [.d (pr.lit (.int Go.IntKind.i64 (40)))])
     (pr.out 0 [.d (pr.lit (.int Go.IntKind.i64 (0)))])))))))))])
/-! leazing/leazingref04.CheckChain -/
def G20 (a0 a1 a2 : Δ) : Ω :=
 (pr.bnd (pr.call 61 [a0, (pr.lit (.int Go.IntKind.i64 (1))), (pr.lit (.int Go.IntKind.i64 (99)))]) [fun y0 => (pr.un .not (pr.ld y0 0) fun x1 => (pr.cond x1
  (pr.out 0 [.d (pr.lit (.int Go.IntKind.i64 (40)))])
  (pr.bnd (pr.call 61 [a1, (pr.lit (.int Go.IntKind.i64 (1))), a2]) [fun y2 => (pr.un .not (pr.ld y2 0) fun x3 => (pr.cond x3
    (pr.out 0 [.d (pr.lit (.int Go.IntKind.i64 (40)))])
    (pr.bin .gtr false a2 (pr.lit (.int Go.IntKind.i64 (1000))) fun x4 =>
    (pr.cond x4
     (pr.out 0 [.d (pr.lit (.int Go.IntKind.i64 (40)))])
     (pr.out 0 [.d (pr.lit (.int Go.IntKind.i64 (0)))])))))])))])
/-! leazing/drift.CheckCell -/
def G21 (a0 a1 a2 : Δ) : Ω :=
 (pr.bnd (pr.call 59 [a0, (pr.lit (.int Go.IntKind.i64 (1))), (pr.lit (.int Go.IntKind.i64 (99)))]) [fun y0 => (pr.un .not (pr.ld y0 0) fun x1 => (pr.cond x1
  (pr.out 0 [.d (pr.lit (.int Go.IntKind.i64 (41)))])
  (pr.bnd (pr.call 59 [a1, (pr.lit (.int Go.IntKind.i64 (1))), (pr.lit (.int Go.IntKind.i64 (1000)))]) [fun y2 => (pr.un .not (pr.ld y2 0) fun x3 => (pr.cond x3
    (pr.out 0 [.d (pr.lit (.int Go.IntKind.i64 (41)))])
    (pr.bnd (pr.call 59 [a2, (pr.lit (.int Go.IntKind.i64 (0))), (pr.lit (.int Go.IntKind.i64 (10000)))]) [fun y4 => (pr.un .not (pr.ld y4 0) fun x5 => (pr.cond x5
      (pr.out 0 [.d (pr.lit (.int Go.IntKind.i64 (41)))])
      (pr.out 0 [.d (pr.lit (.int Go.IntKind.i64 (0)))])))])))])))])
/-! leazing/leazingref04.CheckCell -/
def G22 (a0 a1 a2 : Δ) : Ω :=
 (pr.bnd (pr.call 61 [a0, (pr.lit (.int Go.IntKind.i64 (1))), (pr.lit (.int Go.IntKind.i64 (99)))]) [fun y0 => (pr.un .not (pr.ld y0 0) fun x1 => (pr.cond x1
  (pr.out 0 [.d (pr.lit (.int Go.IntKind.i64 (41)))])
  (pr.bnd (pr.call 61 [a1, (pr.lit (.int Go.IntKind.i64 (1))), (pr.lit (.int Go.IntKind.i64 (1000)))]) [fun y2 => (pr.un .not (pr.ld y2 0) fun x3 => (pr.cond x3
    (pr.out 0 [.d (pr.lit (.int Go.IntKind.i64 (41)))])
    (pr.bnd (pr.call 61 [a2, (pr.lit (.int Go.IntKind.i64 (0))), (pr.lit (.int Go.IntKind.i64 (10000)))]) [fun y4 => (pr.un .not (pr.ld y4 0) fun x5 => (pr.cond x5
      (pr.out 0 [.d (pr.lit (.int Go.IntKind.i64 (41)))])
      (pr.out 0 [.d (pr.lit (.int Go.IntKind.i64 (0)))])))])))])))])
/-! leazing/drift.CheckClaim -/
def G23 (a0 a1 a2 a3 : Δ) : Ω :=
 (pr.bnd (pr.call 59 [a0, (pr.lit (.int Go.IntKind.i64 (1))), (pr.lit (.int Go.IntKind.i64 (99)))]) [fun y0 => (pr.un .not (pr.ld y0 0) fun x1 => (pr.cond x1
  (pr.out 0 [.d (pr.lit (.int Go.IntKind.i64 (43)))])
  (pr.bnd (pr.call 59 [a1, (pr.lit (.int Go.IntKind.i64 (1))), (pr.lit (.int Go.IntKind.i64 (20)))]) [fun y2 => (pr.un .not (pr.ld y2 0) fun x3 => (pr.cond x3
    (pr.out 0 [.d (pr.lit (.int Go.IntKind.i64 (43)))])
    (pr.bin .lss false a2 (pr.lit (.int Go.IntKind.i64 (0))) fun x4 =>
    (pr.cond x4
     (pr.out 0 [.d (pr.lit (.int Go.IntKind.i64 (43)))])
     (pr.bin .lss false a3 a2 fun x5 =>
     (pr.cond x5
      (pr.out 0 [.d (pr.lit (.int Go.IntKind.i64 (43)))])
      (pr.bin .geq false a3 (pr.lit (.int Go.IntKind.i64 (24))) fun x6 =>
      (pr.cond x6
       (pr.out 0 [.d (pr.lit (.int Go.IntKind.i64 (43)))])
       (pr.out 0 [.d (pr.lit (.int Go.IntKind.i64 (0)))])))))))))])))])
/-! leazing/leazingref04.CheckClaim -/
def G24 (a0 a1 a2 a3 : Δ) : Ω :=
 (pr.bnd (pr.call 61 [a0, (pr.lit (.int Go.IntKind.i64 (1))), (pr.lit (.int Go.IntKind.i64 (99)))]) [fun y0 => (pr.un .not (pr.ld y0 0) fun x1 => (pr.cond x1
  (pr.out 0 [.d (pr.lit (.int Go.IntKind.i64 (43)))])
  (pr.bnd (pr.call 61 [a1, (pr.lit (.int Go.IntKind.i64 (1))), (pr.lit (.int Go.IntKind.i64 (20)))]) [fun y2 => (pr.un .not (pr.ld y2 0) fun x3 => (pr.cond x3
    (pr.out 0 [.d (pr.lit (.int Go.IntKind.i64 (43)))])
    (pr.bnd (pr.call 61 [a2, (pr.lit (.int Go.IntKind.i64 (0))), a3]) [fun y4 => (pr.un .not (pr.ld y4 0) fun x5 => (pr.cond x5
      (pr.out 0 [.d (pr.lit (.int Go.IntKind.i64 (43)))])
      (pr.bin .geq false a3 (pr.lit (.int Go.IntKind.i64 (24))) fun x6 =>
      (pr.cond x6
       (pr.out 0 [.d (pr.lit (.int Go.IntKind.i64 (43)))])
       (pr.out 0 [.d (pr.lit (.int Go.IntKind.i64 (0)))])))))])))])))])
end
theorem G3_eq {Δ N R W M E Ω : Type} (pr : Pr Δ N R W M E Ω) (a0 a1 a2 a3 a4 a5 a6 a7 a8 a9 a10 a11 a12 a13 : Δ) : fun3 pr tb Try.prog 400 3 [a0, a1, a2, a3, a4, a5, a6, a7, a8, a9, a10, a11, a12, a13] = G3 pr a0 a1 a2 a3 a4 a5 a6 a7 a8 a9 a10 a11 a12 a13 := by kernel_rfl
theorem F3 (n : Nat) (a0 a1 a2 a3 a4 a5 a6 a7 a8 a9 a10 a11 a12 a13 : D) : FN (n + 1) 3 [a0, a1, a2, a3, a4, a5, a6, a7, a8, a9, a10, a11, a12, a13] = G3 (RP n) a0 a1 a2 a3 a4 a5 a6 a7 a8 a9 a10 a11 a12 a13 := G3_eq _ a0 a1 a2 a3 a4 a5 a6 a7 a8 a9 a10 a11 a12 a13
theorem G4_eq {Δ N R W M E Ω : Type} (pr : Pr Δ N R W M E Ω) (a0 a1 a2 a3 : Δ) : fun3 pr tb Try.prog 400 4 [a0, a1, a2, a3] = G4 pr a0 a1 a2 a3 := by kernel_rfl
theorem F4 (n : Nat) (a0 a1 a2 a3 : D) : FN (n + 1) 4 [a0, a1, a2, a3] = G4 (RP n) a0 a1 a2 a3 := G4_eq _ a0 a1 a2 a3
theorem G6_eq {Δ N R W M E Ω : Type} (pr : Pr Δ N R W M E Ω) (a0 a1 a2 a3 a4 a5 a6 a7 : Δ) : fun3 pr tb Try.prog 400 6 [a0, a1, a2, a3, a4, a5, a6, a7] = G6 pr a0 a1 a2 a3 a4 a5 a6 a7 := by kernel_rfl
theorem F6 (n : Nat) (a0 a1 a2 a3 a4 a5 a6 a7 : D) : FN (n + 1) 6 [a0, a1, a2, a3, a4, a5, a6, a7] = G6 (RP n) a0 a1 a2 a3 a4 a5 a6 a7 := G6_eq _ a0 a1 a2 a3 a4 a5 a6 a7
theorem G8_eq {Δ N R W M E Ω : Type} (pr : Pr Δ N R W M E Ω) (a0 a1 a2 a3 a4 a5 a6 a7 a8 a9 a10 : Δ) : fun3 pr tb Try.prog 400 8 [a0, a1, a2, a3, a4, a5, a6, a7, a8, a9, a10] = G8 pr a0 a1 a2 a3 a4 a5 a6 a7 a8 a9 a10 := by kernel_rfl
theorem F8 (n : Nat) (a0 a1 a2 a3 a4 a5 a6 a7 a8 a9 a10 : D) : FN (n + 1) 8 [a0, a1, a2, a3, a4, a5, a6, a7, a8, a9, a10] = G8 (RP n) a0 a1 a2 a3 a4 a5 a6 a7 a8 a9 a10 := G8_eq _ a0 a1 a2 a3 a4 a5 a6 a7 a8 a9 a10
theorem G12_eq {Δ N R W M E Ω : Type} (pr : Pr Δ N R W M E Ω) (a0 a1 a2 a3 : Δ) : fun3 pr tb Try.prog 400 12 [a0, a1, a2, a3] = G12 pr a0 a1 a2 a3 := by kernel_rfl
theorem F12 (n : Nat) (a0 a1 a2 a3 : D) : FN (n + 1) 12 [a0, a1, a2, a3] = G12 (RP n) a0 a1 a2 a3 := G12_eq _ a0 a1 a2 a3
theorem G13_eq {Δ N R W M E Ω : Type} (pr : Pr Δ N R W M E Ω) (a0 a1 a2 a3 : Δ) : fun3 pr tb Try.prog 400 13 [a0, a1, a2, a3] = G13 pr a0 a1 a2 a3 := by kernel_rfl
theorem F13 (n : Nat) (a0 a1 a2 a3 : D) : FN (n + 1) 13 [a0, a1, a2, a3] = G13 (RP n) a0 a1 a2 a3 := G13_eq _ a0 a1 a2 a3
theorem G14_eq {Δ N R W M E Ω : Type} (pr : Pr Δ N R W M E Ω) (a0 a1 : Δ) : fun3 pr tb Try.prog 400 14 [a0, a1] = G14 pr a0 a1 := by kernel_rfl
theorem F14 (n : Nat) (a0 a1 : D) : FN (n + 1) 14 [a0, a1] = G14 (RP n) a0 a1 := G14_eq _ a0 a1
theorem G15_eq {Δ N R W M E Ω : Type} (pr : Pr Δ N R W M E Ω) (a0 a1 : Δ) : fun3 pr tb Try.prog 400 15 [a0, a1] = G15 pr a0 a1 := by kernel_rfl
theorem F15 (n : Nat) (a0 a1 : D) : FN (n + 1) 15 [a0, a1] = G15 (RP n) a0 a1 := G15_eq _ a0 a1
theorem G16_eq {Δ N R W M E Ω : Type} (pr : Pr Δ N R W M E Ω) (a0 a1 : Δ) : fun3 pr tb Try.prog 400 16 [a0, a1] = G16 pr a0 a1 := by kernel_rfl
theorem F16 (n : Nat) (a0 a1 : D) : FN (n + 1) 16 [a0, a1] = G16 (RP n) a0 a1 := G16_eq _ a0 a1
theorem G17_eq {Δ N R W M E Ω : Type} (pr : Pr Δ N R W M E Ω) (a0 a1 a2 : Δ) : fun3 pr tb Try.prog 400 17 [a0, a1, a2] = G17 pr a0 a1 a2 := by kernel_rfl
theorem F17 (n : Nat) (a0 a1 a2 : D) : FN (n + 1) 17 [a0, a1, a2] = G17 (RP n) a0 a1 a2 := G17_eq _ a0 a1 a2
theorem G18_eq {Δ N R W M E Ω : Type} (pr : Pr Δ N R W M E Ω) (a0 a1 a2 : Δ) : fun3 pr tb Try.prog 400 18 [a0, a1, a2] = G18 pr a0 a1 a2 := by kernel_rfl
theorem F18 (n : Nat) (a0 a1 a2 : D) : FN (n + 1) 18 [a0, a1, a2] = G18 (RP n) a0 a1 a2 := G18_eq _ a0 a1 a2
theorem G19_eq {Δ N R W M E Ω : Type} (pr : Pr Δ N R W M E Ω) (a0 a1 a2 : Δ) : fun3 pr tb Try.prog 400 19 [a0, a1, a2] = G19 pr a0 a1 a2 := by kernel_rfl
theorem F19 (n : Nat) (a0 a1 a2 : D) : FN (n + 1) 19 [a0, a1, a2] = G19 (RP n) a0 a1 a2 := G19_eq _ a0 a1 a2
theorem G20_eq {Δ N R W M E Ω : Type} (pr : Pr Δ N R W M E Ω) (a0 a1 a2 : Δ) : fun3 pr tb Try.prog 400 20 [a0, a1, a2] = G20 pr a0 a1 a2 := by kernel_rfl
theorem F20 (n : Nat) (a0 a1 a2 : D) : FN (n + 1) 20 [a0, a1, a2] = G20 (RP n) a0 a1 a2 := G20_eq _ a0 a1 a2
theorem G21_eq {Δ N R W M E Ω : Type} (pr : Pr Δ N R W M E Ω) (a0 a1 a2 : Δ) : fun3 pr tb Try.prog 400 21 [a0, a1, a2] = G21 pr a0 a1 a2 := by kernel_rfl
theorem F21 (n : Nat) (a0 a1 a2 : D) : FN (n + 1) 21 [a0, a1, a2] = G21 (RP n) a0 a1 a2 := G21_eq _ a0 a1 a2
theorem G22_eq {Δ N R W M E Ω : Type} (pr : Pr Δ N R W M E Ω) (a0 a1 a2 : Δ) : fun3 pr tb Try.prog 400 22 [a0, a1, a2] = G22 pr a0 a1 a2 := by kernel_rfl
theorem F22 (n : Nat) (a0 a1 a2 : D) : FN (n + 1) 22 [a0, a1, a2] = G22 (RP n) a0 a1 a2 := G22_eq _ a0 a1 a2
theorem G23_eq {Δ N R W M E Ω : Type} (pr : Pr Δ N R W M E Ω) (a0 a1 a2 a3 : Δ) : fun3 pr tb Try.prog 400 23 [a0, a1, a2, a3] = G23 pr a0 a1 a2 a3 := by kernel_rfl
theorem F23 (n : Nat) (a0 a1 a2 a3 : D) : FN (n + 1) 23 [a0, a1, a2, a3] = G23 (RP n) a0 a1 a2 a3 := G23_eq _ a0 a1 a2 a3
theorem G24_eq {Δ N R W M E Ω : Type} (pr : Pr Δ N R W M E Ω) (a0 a1 a2 a3 : Δ) : fun3 pr tb Try.prog 400 24 [a0, a1, a2, a3] = G24 pr a0 a1 a2 a3 := by kernel_rfl
theorem F24 (n : Nat) (a0 a1 a2 a3 : D) : FN (n + 1) 24 [a0, a1, a2, a3] = G24 (RP n) a0 a1 a2 a3 := G24_eq _ a0 a1 a2 a3
end Go.VE
/- What the functions of this program do, made by a program of ours out of the evaluator itself. -/
namespace Go.VE
open Go.RowKit Go.Proofs
set_option maxRecDepth 100000
set_option maxHeartbeats 4000000
section
variable {Δ N R W M E Ω : Type} (pr : Pr Δ N R W M E Ω)
/-! leazing/leazingref04.Made -/
def L25_0  : (Nat → List (Y Δ N R M) → Ω) → E → Ω := fun J0 y0 =>
 (pr.lenD (pr.ld y0 1) fun x1 =>
 (pr.bin .lss false (pr.ld y0 0) x1 fun x2 =>
  (pr.cond x2
   (pr.bin .lss false (pr.ld y0 0) (pr.lit (.int Go.IntKind.i64 (3))) fun x3 =>
   (pr.cond x3
    (pr.bnd (pr.lenD (pr.ld y0 1) fun x4 =>
    (pr.bin .lss false (pr.ld y0 0) x4 fun x5 =>
     (pr.cond x5
      (pr.rowD 2 (pr.ld y0 1) (pr.ld y0 0) fun w6 =>
      (pr.out 0 [.d (pr.ld y0 0), .d (pr.cell w6 0), .d (pr.cell w6 1), .d (pr.ld y0 1), .d (pr.ld y0 2), .d (pr.ld y0 3)]))
      (pr.out 0 [.d (pr.ld y0 0), .d (pr.lit (.int Go.IntKind.i64 (0))), .d (pr.lit (.int Go.IntKind.i64 (0))), .d (pr.ld y0 1), .d (pr.ld y0 2), .d (pr.ld y0 3)])))) [fun y4 => (pr.bin .add false (pr.lit (.int Go.IntKind.i64 (1))) (pr.ld y4 0) fun x5 =>
     (pr.bnd (pr.call 26 [(pr.ld y4 1), (pr.lit (.int Go.IntKind.i64 (20)))]) [fun y6 => (pr.bin .add false (pr.lit (.int Go.IntKind.i64 (90))) (pr.ld y6 0) fun x7 =>
       (pr.bnd (pr.call 26 [(pr.ld y4 2), (pr.lit (.int Go.IntKind.i64 (12)))]) [fun y8 => (pr.bin .add false x7 (pr.ld y8 0) fun x9 =>
         (pr.eqN (pr.natN 1) (pr.len (pr.rows [[x5, x7, x9]])) (pr.isNil (pr.seg (pr.rows [[x5, x7, x9]]) none (pr.natN 1))
          (pr.bin .add false (pr.ld y4 0) (pr.lit (.int Go.IntKind.i64 (1))) fun x10 =>
          (J0 0 [.d x10, .d (pr.ld y4 3), .d (pr.ld y4 4), .d (pr.ld y4 5)]))
          (pr.fits 24 (pr.len (pr.seg (pr.rows [[x5, x7, x9]]) none (pr.natN 1)))
          (pr.bin .add false (pr.ld y4 0) (pr.lit (.int Go.IntKind.i64 (1))) fun x10 =>
          (J0 1 [.d x10, .r (pr.seg (pr.rows [[x5, x7, x9]]) none (pr.natN 1)), .n (pr.len (pr.seg (pr.rows [[x5, x7, x9]]) none (pr.natN 1))), .n (pr.len (pr.seg (pr.rows [[x5, x7, x9]]) none (pr.natN 1))), .d (pr.ld y4 3), .d (pr.ld y4 4), .d (pr.ld y4 5)]))))))]))]))])
    (pr.bin .eql false (pr.ld y0 0) (pr.lit (.int Go.IntKind.i64 (0))) fun x4 =>
    (pr.cond x4
     (pr.bnd (pr.lenD (pr.ld y0 1) fun x5 =>
     (pr.bin .lss false (pr.ld y0 0) x5 fun x6 =>
      (pr.cond x6
       (pr.rowD 2 (pr.ld y0 1) (pr.ld y0 0) fun w7 =>
       (pr.out 0 [.d (pr.ld y0 0), .d (pr.cell w7 0), .d (pr.cell w7 1), .d (pr.ld y0 1), .d (pr.ld y0 2), .d (pr.ld y0 3)]))
       (pr.out 0 [.d (pr.ld y0 0), .d (pr.lit (.int Go.IntKind.i64 (0))), .d (pr.lit (.int Go.IntKind.i64 (0))), .d (pr.ld y0 1), .d (pr.ld y0 2), .d (pr.ld y0 3)])))) [fun y5 => (pr.bin .add false (pr.lit (.int Go.IntKind.i64 (1))) (pr.ld y5 0) fun x6 =>
      (pr.bnd (pr.call 26 [(pr.ld y5 1), (pr.lit (.int Go.IntKind.i64 (20)))]) [fun y7 => (pr.bin .add false (pr.lit (.int Go.IntKind.i64 (90))) (pr.ld y7 0) fun x8 =>
        (pr.bnd (pr.call 26 [(pr.ld y5 2), (pr.lit (.int Go.IntKind.i64 (12)))]) [fun y9 => (pr.bin .add false x8 (pr.ld y9 0) fun x10 =>
          (pr.eqN (pr.natN 1) (pr.len (pr.rows [[x6, x8, x10]])) (pr.isNil (pr.seg (pr.rows [[x6, x8, x10]]) none (pr.natN 1))
           (pr.bin .add false (pr.ld y5 0) (pr.lit (.int Go.IntKind.i64 (1))) fun x11 =>
           (J0 0 [.d x11, .d (pr.ld y5 3), .d (pr.ld y5 4), .d (pr.ld y5 5)]))
           (pr.fits 24 (pr.len (pr.seg (pr.rows [[x6, x8, x10]]) none (pr.natN 1)))
           (pr.bin .add false (pr.ld y5 0) (pr.lit (.int Go.IntKind.i64 (1))) fun x11 =>
           (J0 1 [.d x11, .r (pr.seg (pr.rows [[x6, x8, x10]]) none (pr.natN 1)), .n (pr.len (pr.seg (pr.rows [[x6, x8, x10]]) none (pr.natN 1))), .n (pr.len (pr.seg (pr.rows [[x6, x8, x10]]) none (pr.natN 1))), .d (pr.ld y5 3), .d (pr.ld y5 4), .d (pr.ld y5 5)]))))))]))]))])
     (pr.out 0 [.d (pr.ld y0 1), .d (pr.ld y0 2), .d (pr.ld y0 3)])))))
   (pr.bin .eql false (pr.ld y0 0) (pr.lit (.int Go.IntKind.i64 (0))) fun x3 =>
   (pr.cond x3
    (pr.bnd (pr.lenD (pr.ld y0 1) fun x4 =>
    (pr.bin .lss false (pr.ld y0 0) x4 fun x5 =>
     (pr.cond x5
      (pr.rowD 2 (pr.ld y0 1) (pr.ld y0 0) fun w6 =>
      (pr.out 0 [.d (pr.ld y0 0), .d (pr.cell w6 0), .d (pr.cell w6 1), .d (pr.ld y0 1), .d (pr.ld y0 2), .d (pr.ld y0 3)]))
      (pr.out 0 [.d (pr.ld y0 0), .d (pr.lit (.int Go.IntKind.i64 (0))), .d (pr.lit (.int Go.IntKind.i64 (0))), .d (pr.ld y0 1), .d (pr.ld y0 2), .d (pr.ld y0 3)])))) [fun y4 => (pr.bin .add false (pr.lit (.int Go.IntKind.i64 (1))) (pr.ld y4 0) fun x5 =>
     (pr.bnd (pr.call 26 [(pr.ld y4 1), (pr.lit (.int Go.IntKind.i64 (20)))]) [fun y6 => (pr.bin .add false (pr.lit (.int Go.IntKind.i64 (90))) (pr.ld y6 0) fun x7 =>
       (pr.bnd (pr.call 26 [(pr.ld y4 2), (pr.lit (.int Go.IntKind.i64 (12)))]) [fun y8 => (pr.bin .add false x7 (pr.ld y8 0) fun x9 =>
         (pr.eqN (pr.natN 1) (pr.len (pr.rows [[x5, x7, x9]])) (pr.isNil (pr.seg (pr.rows [[x5, x7, x9]]) none (pr.natN 1))
          (pr.bin .add false (pr.ld y4 0) (pr.lit (.int Go.IntKind.i64 (1))) fun x10 =>
          (J0 0 [.d x10, .d (pr.ld y4 3), .d (pr.ld y4 4), .d (pr.ld y4 5)]))
          (pr.fits 24 (pr.len (pr.seg (pr.rows [[x5, x7, x9]]) none (pr.natN 1)))
          (pr.bin .add false (pr.ld y4 0) (pr.lit (.int Go.IntKind.i64 (1))) fun x10 =>
          (J0 1 [.d x10, .r (pr.seg (pr.rows [[x5, x7, x9]]) none (pr.natN 1)), .n (pr.len (pr.seg (pr.rows [[x5, x7, x9]]) none (pr.natN 1))), .n (pr.len (pr.seg (pr.rows [[x5, x7, x9]]) none (pr.natN 1))), .d (pr.ld y4 3), .d (pr.ld y4 4), .d (pr.ld y4 5)]))))))]))]))])
    (pr.out 0 [.d (pr.ld y0 1), .d (pr.ld y0 2), .d (pr.ld y0 3)]))))))
def L25_1  : (Nat → List (Y Δ N R M) → Ω) → E → Ω := fun J0 y0 =>
 (pr.lenD (pr.ld y0 4) fun x1 =>
 (pr.bin .lss false (pr.ld y0 0) x1 fun x2 =>
  (pr.cond x2
   (pr.bin .lss false (pr.ld y0 0) (pr.lit (.int Go.IntKind.i64 (3))) fun x3 =>
   (pr.cond x3
    (pr.bnd (pr.lenD (pr.ld y0 4) fun x4 =>
    (pr.bin .lss false (pr.ld y0 0) x4 fun x5 =>
     (pr.cond x5
      (pr.rowD 2 (pr.ld y0 4) (pr.ld y0 0) fun w6 =>
      (pr.out 0 [.d (pr.ld y0 0), .r (pr.lr y0 1), .d (pr.cell w6 0), .d (pr.cell w6 1), .n (pr.ln y0 2), .n (pr.ln y0 3), .d (pr.ld y0 4), .d (pr.ld y0 5), .d (pr.ld y0 6)]))
      (pr.out 0 [.d (pr.ld y0 0), .r (pr.lr y0 1), .d (pr.lit (.int Go.IntKind.i64 (0))), .d (pr.lit (.int Go.IntKind.i64 (0))), .n (pr.ln y0 2), .n (pr.ln y0 3), .d (pr.ld y0 4), .d (pr.ld y0 5), .d (pr.ld y0 6)])))) [fun y4 => (pr.bin .add false (pr.lit (.int Go.IntKind.i64 (1))) (pr.ld y4 0) fun x5 =>
     (pr.bnd (pr.call 26 [(pr.ld y4 2), (pr.lit (.int Go.IntKind.i64 (20)))]) [fun y6 => (pr.bin .add false (pr.lit (.int Go.IntKind.i64 (90))) (pr.ld y6 0) fun x7 =>
       (pr.bnd (pr.call 26 [(pr.ld y4 3), (pr.lit (.int Go.IntKind.i64 (12)))]) [fun y8 => (pr.bin .add false x7 (pr.ld y8 0) fun x9 =>
         (pr.eqN (pr.natN 1) (pr.len (pr.rows [[x5, x7, x9]])) (pr.eqN (pr.ln y4 5) (pr.len (pr.lr y4 1)) (pr.eqN (pr.ln y4 4) (pr.len (pr.lr y4 1)) (pr.fits 24 (pr.addN (pr.ln y4 4) (pr.len (pr.seg (pr.rows [[x5, x7, x9]]) none (pr.natN 1))))
          (pr.bin .add false (pr.ld y4 0) (pr.lit (.int Go.IntKind.i64 (1))) fun x10 =>
          (J0 1 [.d x10, .r (pr.app (pr.lr y4 1) (pr.seg (pr.rows [[x5, x7, x9]]) none (pr.natN 1))), .n (pr.addN (pr.ln y4 4) (pr.len (pr.seg (pr.rows [[x5, x7, x9]]) none (pr.natN 1)))), .n (pr.addN (pr.ln y4 4) (pr.len (pr.seg (pr.rows [[x5, x7, x9]]) none (pr.natN 1)))), .d (pr.ld y4 6), .d (pr.ld y4 7), .d (pr.ld y4 8)])))))))]))]))])
    (pr.bin .eql false (pr.ld y0 0) (pr.lit (.int Go.IntKind.i64 (0))) fun x4 =>
    (pr.cond x4
     (pr.bnd (pr.lenD (pr.ld y0 4) fun x5 =>
     (pr.bin .lss false (pr.ld y0 0) x5 fun x6 =>
      (pr.cond x6
       (pr.rowD 2 (pr.ld y0 4) (pr.ld y0 0) fun w7 =>
       (pr.out 0 [.d (pr.ld y0 0), .r (pr.lr y0 1), .d (pr.cell w7 0), .d (pr.cell w7 1), .n (pr.ln y0 2), .n (pr.ln y0 3), .d (pr.ld y0 4), .d (pr.ld y0 5), .d (pr.ld y0 6)]))
       (pr.out 0 [.d (pr.ld y0 0), .r (pr.lr y0 1), .d (pr.lit (.int Go.IntKind.i64 (0))), .d (pr.lit (.int Go.IntKind.i64 (0))), .n (pr.ln y0 2), .n (pr.ln y0 3), .d (pr.ld y0 4), .d (pr.ld y0 5), .d (pr.ld y0 6)])))) [fun y5 => (pr.bin .add false (pr.lit (.int Go.IntKind.i64 (1))) (pr.ld y5 0) fun x6 =>
      (pr.bnd (pr.call 26 [(pr.ld y5 2), (pr.lit (.int Go.IntKind.i64 (20)))]) [fun y7 => (pr.bin .add false (pr.lit (.int Go.IntKind.i64 (90))) (pr.ld y7 0) fun x8 =>
        (pr.bnd (pr.call 26 [(pr.ld y5 3), (pr.lit (.int Go.IntKind.i64 (12)))]) [fun y9 => (pr.bin .add false x8 (pr.ld y9 0) fun x10 =>
          (pr.eqN (pr.natN 1) (pr.len (pr.rows [[x6, x8, x10]])) (pr.eqN (pr.ln y5 5) (pr.len (pr.lr y5 1)) (pr.eqN (pr.ln y5 4) (pr.len (pr.lr y5 1)) (pr.fits 24 (pr.addN (pr.ln y5 4) (pr.len (pr.seg (pr.rows [[x6, x8, x10]]) none (pr.natN 1))))
           (pr.bin .add false (pr.ld y5 0) (pr.lit (.int Go.IntKind.i64 (1))) fun x11 =>
           (J0 1 [.d x11, .r (pr.app (pr.lr y5 1) (pr.seg (pr.rows [[x6, x8, x10]]) none (pr.natN 1))), .n (pr.addN (pr.ln y5 4) (pr.len (pr.seg (pr.rows [[x6, x8, x10]]) none (pr.natN 1)))), .n (pr.addN (pr.ln y5 4) (pr.len (pr.seg (pr.rows [[x6, x8, x10]]) none (pr.natN 1)))), .d (pr.ld y5 6), .d (pr.ld y5 7), .d (pr.ld y5 8)])))))))]))]))])
     (pr.out 1 [.r (pr.lr y0 1), .n (pr.ln y0 2), .n (pr.ln y0 3), .d (pr.ld y0 4), .d (pr.ld y0 5), .d (pr.ld y0 6)])))))
   (pr.bin .eql false (pr.ld y0 0) (pr.lit (.int Go.IntKind.i64 (0))) fun x3 =>
   (pr.cond x3
    (pr.bnd (pr.lenD (pr.ld y0 4) fun x4 =>
    (pr.bin .lss false (pr.ld y0 0) x4 fun x5 =>
     (pr.cond x5
      (pr.rowD 2 (pr.ld y0 4) (pr.ld y0 0) fun w6 =>
      (pr.out 0 [.d (pr.ld y0 0), .r (pr.lr y0 1), .d (pr.cell w6 0), .d (pr.cell w6 1), .n (pr.ln y0 2), .n (pr.ln y0 3), .d (pr.ld y0 4), .d (pr.ld y0 5), .d (pr.ld y0 6)]))
      (pr.out 0 [.d (pr.ld y0 0), .r (pr.lr y0 1), .d (pr.lit (.int Go.IntKind.i64 (0))), .d (pr.lit (.int Go.IntKind.i64 (0))), .n (pr.ln y0 2), .n (pr.ln y0 3), .d (pr.ld y0 4), .d (pr.ld y0 5), .d (pr.ld y0 6)])))) [fun y4 => (pr.bin .add false (pr.lit (.int Go.IntKind.i64 (1))) (pr.ld y4 0) fun x5 =>
     (pr.bnd (pr.call 26 [(pr.ld y4 2), (pr.lit (.int Go.IntKind.i64 (20)))]) [fun y6 => (pr.bin .add false (pr.lit (.int Go.IntKind.i64 (90))) (pr.ld y6 0) fun x7 =>
       (pr.bnd (pr.call 26 [(pr.ld y4 3), (pr.lit (.int Go.IntKind.i64 (12)))]) [fun y8 => (pr.bin .add false x7 (pr.ld y8 0) fun x9 =>
         (pr.eqN (pr.natN 1) (pr.len (pr.rows [[x5, x7, x9]])) (pr.eqN (pr.ln y4 5) (pr.len (pr.lr y4 1)) (pr.eqN (pr.ln y4 4) (pr.len (pr.lr y4 1)) (pr.fits 24 (pr.addN (pr.ln y4 4) (pr.len (pr.seg (pr.rows [[x5, x7, x9]]) none (pr.natN 1))))
          (pr.bin .add false (pr.ld y4 0) (pr.lit (.int Go.IntKind.i64 (1))) fun x10 =>
          (J0 1 [.d x10, .r (pr.app (pr.lr y4 1) (pr.seg (pr.rows [[x5, x7, x9]]) none (pr.natN 1))), .n (pr.addN (pr.ln y4 4) (pr.len (pr.seg (pr.rows [[x5, x7, x9]]) none (pr.natN 1)))), .n (pr.addN (pr.ln y4 4) (pr.len (pr.seg (pr.rows [[x5, x7, x9]]) none (pr.natN 1)))), .d (pr.ld y4 6), .d (pr.ld y4 7), .d (pr.ld y4 8)])))))))]))]))])
    (pr.out 1 [.r (pr.lr y0 1), .n (pr.ln y0 2), .n (pr.ln y0 3), .d (pr.ld y0 4), .d (pr.ld y0 5), .d (pr.ld y0 6)]))))))
def L25_2  : (Nat → List (Y Δ N R M) → Ω) → E → Ω := fun J1 y1 =>
 (pr.lenD (pr.ld y1 2) fun x2 =>
  (pr.bin .lss false (pr.ld y1 0) x2 fun x3 =>
   (pr.cond x3
    (pr.bin .lss false (pr.ld y1 0) (pr.lit (.int Go.IntKind.i64 (10))) fun x4 =>
    (pr.cond x4
     (pr.bnd (pr.lenD (pr.ld y1 2) fun x5 =>
     (pr.bin .lss false (pr.ld y1 0) x5 fun x6 =>
      (pr.cond x6
       (pr.rowD 3 (pr.ld y1 2) (pr.ld y1 0) fun w7 =>
       (pr.out 0 [.d (pr.ld y1 0), .d (pr.cell w7 0), .d (pr.cell w7 1), .d (pr.cell w7 2), .d (pr.ld y1 1), .d (pr.ld y1 2), .d (pr.ld y1 3)]))
       (pr.out 0 [.d (pr.ld y1 0), .d (pr.lit (.int Go.IntKind.i64 (0))), .d (pr.lit (.int Go.IntKind.i64 (0))), .d (pr.lit (.int Go.IntKind.i64 (0))), .d (pr.ld y1 1), .d (pr.ld y1 2), .d (pr.ld y1 3)])))) [fun y5 => (pr.bnd (pr.call 26 [(pr.ld y5 1), (pr.lit (.int Go.IntKind.i64 (0)))]) [fun y6 => (pr.bin .add false (pr.lit (.int Go.IntKind.i64 (1))) (pr.ld y6 0) fun x7 =>
       (pr.bnd (pr.call 26 [(pr.ld y5 2), (pr.lit (.int Go.IntKind.i64 (9)))]) [fun y8 => (pr.bin .add false (pr.lit (.int Go.IntKind.i64 (1))) (pr.ld y8 0) fun x9 =>
         (pr.bnd (pr.call 26 [(pr.ld y5 3), (pr.lit (.int Go.IntKind.i64 (12)))]) [fun y10 => (pr.eqN (pr.natN 1) (pr.len (pr.rows [[x7, x9, (pr.ld y10 0)]])) (pr.isNil (pr.seg (pr.rows [[x7, x9, (pr.ld y10 0)]]) none (pr.natN 1))
           (pr.bin .add false (pr.ld y5 0) (pr.lit (.int Go.IntKind.i64 (1))) fun x11 =>
           (J1 0 [.d x11, .d (pr.ld y5 4), .d (pr.ld y5 5), .d (pr.ld y5 6)]))
           (pr.fits 24 (pr.len (pr.seg (pr.rows [[x7, x9, (pr.ld y10 0)]]) none (pr.natN 1)))
           (pr.bin .add false (pr.ld y5 0) (pr.lit (.int Go.IntKind.i64 (1))) fun x11 =>
           (J1 1 [.d x11, .r (pr.seg (pr.rows [[x7, x9, (pr.ld y10 0)]]) none (pr.natN 1)), .n (pr.len (pr.seg (pr.rows [[x7, x9, (pr.ld y10 0)]]) none (pr.natN 1))), .n (pr.len (pr.seg (pr.rows [[x7, x9, (pr.ld y10 0)]]) none (pr.natN 1))), .d (pr.ld y5 4), .d (pr.ld y5 5), .d (pr.ld y5 6)])))))]))]))])])
     (pr.bin .eql false (pr.ld y1 0) (pr.lit (.int Go.IntKind.i64 (0))) fun x5 =>
     (pr.cond x5
      (pr.bnd (pr.lenD (pr.ld y1 2) fun x6 =>
      (pr.bin .lss false (pr.ld y1 0) x6 fun x7 =>
       (pr.cond x7
        (pr.rowD 3 (pr.ld y1 2) (pr.ld y1 0) fun w8 =>
        (pr.out 0 [.d (pr.ld y1 0), .d (pr.cell w8 0), .d (pr.cell w8 1), .d (pr.cell w8 2), .d (pr.ld y1 1), .d (pr.ld y1 2), .d (pr.ld y1 3)]))
        (pr.out 0 [.d (pr.ld y1 0), .d (pr.lit (.int Go.IntKind.i64 (0))), .d (pr.lit (.int Go.IntKind.i64 (0))), .d (pr.lit (.int Go.IntKind.i64 (0))), .d (pr.ld y1 1), .d (pr.ld y1 2), .d (pr.ld y1 3)])))) [fun y6 => (pr.bnd (pr.call 26 [(pr.ld y6 1), (pr.lit (.int Go.IntKind.i64 (0)))]) [fun y7 => (pr.bin .add false (pr.lit (.int Go.IntKind.i64 (1))) (pr.ld y7 0) fun x8 =>
        (pr.bnd (pr.call 26 [(pr.ld y6 2), (pr.lit (.int Go.IntKind.i64 (9)))]) [fun y9 => (pr.bin .add false (pr.lit (.int Go.IntKind.i64 (1))) (pr.ld y9 0) fun x10 =>
          (pr.bnd (pr.call 26 [(pr.ld y6 3), (pr.lit (.int Go.IntKind.i64 (12)))]) [fun y11 => (pr.eqN (pr.natN 1) (pr.len (pr.rows [[x8, x10, (pr.ld y11 0)]])) (pr.isNil (pr.seg (pr.rows [[x8, x10, (pr.ld y11 0)]]) none (pr.natN 1))
            (pr.bin .add false (pr.ld y6 0) (pr.lit (.int Go.IntKind.i64 (1))) fun x12 =>
            (J1 0 [.d x12, .d (pr.ld y6 4), .d (pr.ld y6 5), .d (pr.ld y6 6)]))
            (pr.fits 24 (pr.len (pr.seg (pr.rows [[x8, x10, (pr.ld y11 0)]]) none (pr.natN 1)))
            (pr.bin .add false (pr.ld y6 0) (pr.lit (.int Go.IntKind.i64 (1))) fun x12 =>
            (J1 1 [.d x12, .r (pr.seg (pr.rows [[x8, x10, (pr.ld y11 0)]]) none (pr.natN 1)), .n (pr.len (pr.seg (pr.rows [[x8, x10, (pr.ld y11 0)]]) none (pr.natN 1))), .n (pr.len (pr.seg (pr.rows [[x8, x10, (pr.ld y11 0)]]) none (pr.natN 1))), .d (pr.ld y6 4), .d (pr.ld y6 5), .d (pr.ld y6 6)])))))]))]))])])
      (pr.out 0 [.d (pr.ld y1 1), .d (pr.ld y1 2), .d (pr.ld y1 3)])))))
    (pr.bin .eql false (pr.ld y1 0) (pr.lit (.int Go.IntKind.i64 (0))) fun x4 =>
    (pr.cond x4
     (pr.bnd (pr.lenD (pr.ld y1 2) fun x5 =>
     (pr.bin .lss false (pr.ld y1 0) x5 fun x6 =>
      (pr.cond x6
       (pr.rowD 3 (pr.ld y1 2) (pr.ld y1 0) fun w7 =>
       (pr.out 0 [.d (pr.ld y1 0), .d (pr.cell w7 0), .d (pr.cell w7 1), .d (pr.cell w7 2), .d (pr.ld y1 1), .d (pr.ld y1 2), .d (pr.ld y1 3)]))
       (pr.out 0 [.d (pr.ld y1 0), .d (pr.lit (.int Go.IntKind.i64 (0))), .d (pr.lit (.int Go.IntKind.i64 (0))), .d (pr.lit (.int Go.IntKind.i64 (0))), .d (pr.ld y1 1), .d (pr.ld y1 2), .d (pr.ld y1 3)])))) [fun y5 => (pr.bnd (pr.call 26 [(pr.ld y5 1), (pr.lit (.int Go.IntKind.i64 (0)))]) [fun y6 => (pr.bin .add false (pr.lit (.int Go.IntKind.i64 (1))) (pr.ld y6 0) fun x7 =>
       (pr.bnd (pr.call 26 [(pr.ld y5 2), (pr.lit (.int Go.IntKind.i64 (9)))]) [fun y8 => (pr.bin .add false (pr.lit (.int Go.IntKind.i64 (1))) (pr.ld y8 0) fun x9 =>
         (pr.bnd (pr.call 26 [(pr.ld y5 3), (pr.lit (.int Go.IntKind.i64 (12)))]) [fun y10 => (pr.eqN (pr.natN 1) (pr.len (pr.rows [[x7, x9, (pr.ld y10 0)]])) (pr.isNil (pr.seg (pr.rows [[x7, x9, (pr.ld y10 0)]]) none (pr.natN 1))
           (pr.bin .add false (pr.ld y5 0) (pr.lit (.int Go.IntKind.i64 (1))) fun x11 =>
           (J1 0 [.d x11, .d (pr.ld y5 4), .d (pr.ld y5 5), .d (pr.ld y5 6)]))
           (pr.fits 24 (pr.len (pr.seg (pr.rows [[x7, x9, (pr.ld y10 0)]]) none (pr.natN 1)))
           (pr.bin .add false (pr.ld y5 0) (pr.lit (.int Go.IntKind.i64 (1))) fun x11 =>
           (J1 1 [.d x11, .r (pr.seg (pr.rows [[x7, x9, (pr.ld y10 0)]]) none (pr.natN 1)), .n (pr.len (pr.seg (pr.rows [[x7, x9, (pr.ld y10 0)]]) none (pr.natN 1))), .n (pr.len (pr.seg (pr.rows [[x7, x9, (pr.ld y10 0)]]) none (pr.natN 1))), .d (pr.ld y5 4), .d (pr.ld y5 5), .d (pr.ld y5 6)])))))]))]))])])
     (pr.out 0 [.d (pr.ld y1 1), .d (pr.ld y1 2), .d (pr.ld y1 3)]))))))
def L25_3  : (Nat → List (Y Δ N R M) → Ω) → E → Ω := fun J1 y1 =>
 (pr.lenD (pr.ld y1 5) fun x2 =>
  (pr.bin .lss false (pr.ld y1 0) x2 fun x3 =>
   (pr.cond x3
    (pr.bin .lss false (pr.ld y1 0) (pr.lit (.int Go.IntKind.i64 (10))) fun x4 =>
    (pr.cond x4
     (pr.bnd (pr.lenD (pr.ld y1 5) fun x5 =>
     (pr.bin .lss false (pr.ld y1 0) x5 fun x6 =>
      (pr.cond x6
       (pr.rowD 3 (pr.ld y1 5) (pr.ld y1 0) fun w7 =>
       (pr.out 0 [.d (pr.ld y1 0), .r (pr.lr y1 1), .d (pr.cell w7 0), .d (pr.cell w7 1), .d (pr.cell w7 2), .n (pr.ln y1 2), .n (pr.ln y1 3), .d (pr.ld y1 4), .d (pr.ld y1 5), .d (pr.ld y1 6)]))
       (pr.out 0 [.d (pr.ld y1 0), .r (pr.lr y1 1), .d (pr.lit (.int Go.IntKind.i64 (0))), .d (pr.lit (.int Go.IntKind.i64 (0))), .d (pr.lit (.int Go.IntKind.i64 (0))), .n (pr.ln y1 2), .n (pr.ln y1 3), .d (pr.ld y1 4), .d (pr.ld y1 5), .d (pr.ld y1 6)])))) [fun y5 => (pr.bnd (pr.call 26 [(pr.ld y5 2), (pr.lit (.int Go.IntKind.i64 (0)))]) [fun y6 => (pr.bin .add false (pr.lit (.int Go.IntKind.i64 (1))) (pr.ld y6 0) fun x7 =>
       (pr.bnd (pr.call 26 [(pr.ld y5 3), (pr.lit (.int Go.IntKind.i64 (9)))]) [fun y8 => (pr.bin .add false (pr.lit (.int Go.IntKind.i64 (1))) (pr.ld y8 0) fun x9 =>
         (pr.bnd (pr.call 26 [(pr.ld y5 4), (pr.lit (.int Go.IntKind.i64 (12)))]) [fun y10 => (pr.eqN (pr.natN 1) (pr.len (pr.rows [[x7, x9, (pr.ld y10 0)]])) (pr.eqN (pr.ln y5 6) (pr.len (pr.lr y5 1)) (pr.eqN (pr.ln y5 5) (pr.len (pr.lr y5 1)) (pr.fits 24 (pr.addN (pr.ln y5 5) (pr.len (pr.seg (pr.rows [[x7, x9, (pr.ld y10 0)]]) none (pr.natN 1))))
           (pr.bin .add false (pr.ld y5 0) (pr.lit (.int Go.IntKind.i64 (1))) fun x11 =>
           (J1 1 [.d x11, .r (pr.app (pr.lr y5 1) (pr.seg (pr.rows [[x7, x9, (pr.ld y10 0)]]) none (pr.natN 1))), .n (pr.addN (pr.ln y5 5) (pr.len (pr.seg (pr.rows [[x7, x9, (pr.ld y10 0)]]) none (pr.natN 1)))), .n (pr.addN (pr.ln y5 5) (pr.len (pr.seg (pr.rows [[x7, x9, (pr.ld y10 0)]]) none (pr.natN 1)))), .d (pr.ld y5 7), .d (pr.ld y5 8), .d (pr.ld y5 9)]))))))]))]))])])
     (pr.bin .eql false (pr.ld y1 0) (pr.lit (.int Go.IntKind.i64 (0))) fun x5 =>
     (pr.cond x5
      (pr.bnd (pr.lenD (pr.ld y1 5) fun x6 =>
      (pr.bin .lss false (pr.ld y1 0) x6 fun x7 =>
       (pr.cond x7
        (pr.rowD 3 (pr.ld y1 5) (pr.ld y1 0) fun w8 =>
        (pr.out 0 [.d (pr.ld y1 0), .r (pr.lr y1 1), .d (pr.cell w8 0), .d (pr.cell w8 1), .d (pr.cell w8 2), .n (pr.ln y1 2), .n (pr.ln y1 3), .d (pr.ld y1 4), .d (pr.ld y1 5), .d (pr.ld y1 6)]))
        (pr.out 0 [.d (pr.ld y1 0), .r (pr.lr y1 1), .d (pr.lit (.int Go.IntKind.i64 (0))), .d (pr.lit (.int Go.IntKind.i64 (0))), .d (pr.lit (.int Go.IntKind.i64 (0))), .n (pr.ln y1 2), .n (pr.ln y1 3), .d (pr.ld y1 4), .d (pr.ld y1 5), .d (pr.ld y1 6)])))) [fun y6 => (pr.bnd (pr.call 26 [(pr.ld y6 2), (pr.lit (.int Go.IntKind.i64 (0)))]) [fun y7 => (pr.bin .add false (pr.lit (.int Go.IntKind.i64 (1))) (pr.ld y7 0) fun x8 =>
        (pr.bnd (pr.call 26 [(pr.ld y6 3), (pr.lit (.int Go.IntKind.i64 (9)))]) [fun y9 => (pr.bin .add false (pr.lit (.int Go.IntKind.i64 (1))) (pr.ld y9 0) fun x10 =>
          (pr.bnd (pr.call 26 [(pr.ld y6 4), (pr.lit (.int Go.IntKind.i64 (12)))]) [fun y11 => (pr.eqN (pr.natN 1) (pr.len (pr.rows [[x8, x10, (pr.ld y11 0)]])) (pr.eqN (pr.ln y6 6) (pr.len (pr.lr y6 1)) (pr.eqN (pr.ln y6 5) (pr.len (pr.lr y6 1)) (pr.fits 24 (pr.addN (pr.ln y6 5) (pr.len (pr.seg (pr.rows [[x8, x10, (pr.ld y11 0)]]) none (pr.natN 1))))
            (pr.bin .add false (pr.ld y6 0) (pr.lit (.int Go.IntKind.i64 (1))) fun x12 =>
            (J1 1 [.d x12, .r (pr.app (pr.lr y6 1) (pr.seg (pr.rows [[x8, x10, (pr.ld y11 0)]]) none (pr.natN 1))), .n (pr.addN (pr.ln y6 5) (pr.len (pr.seg (pr.rows [[x8, x10, (pr.ld y11 0)]]) none (pr.natN 1)))), .n (pr.addN (pr.ln y6 5) (pr.len (pr.seg (pr.rows [[x8, x10, (pr.ld y11 0)]]) none (pr.natN 1)))), .d (pr.ld y6 7), .d (pr.ld y6 8), .d (pr.ld y6 9)]))))))]))]))])])
      (pr.out 1 [.r (pr.lr y1 1), .n (pr.ln y1 2), .n (pr.ln y1 3), .d (pr.ld y1 4), .d (pr.ld y1 5), .d (pr.ld y1 6)])))))
    (pr.bin .eql false (pr.ld y1 0) (pr.lit (.int Go.IntKind.i64 (0))) fun x4 =>
    (pr.cond x4
     (pr.bnd (pr.lenD (pr.ld y1 5) fun x5 =>
     (pr.bin .lss false (pr.ld y1 0) x5 fun x6 =>
      (pr.cond x6
       (pr.rowD 3 (pr.ld y1 5) (pr.ld y1 0) fun w7 =>
       (pr.out 0 [.d (pr.ld y1 0), .r (pr.lr y1 1), .d (pr.cell w7 0), .d (pr.cell w7 1), .d (pr.cell w7 2), .n (pr.ln y1 2), .n (pr.ln y1 3), .d (pr.ld y1 4), .d (pr.ld y1 5), .d (pr.ld y1 6)]))
       (pr.out 0 [.d (pr.ld y1 0), .r (pr.lr y1 1), .d (pr.lit (.int Go.IntKind.i64 (0))), .d (pr.lit (.int Go.IntKind.i64 (0))), .d (pr.lit (.int Go.IntKind.i64 (0))), .n (pr.ln y1 2), .n (pr.ln y1 3), .d (pr.ld y1 4), .d (pr.ld y1 5), .d (pr.ld y1 6)])))) [fun y5 => (pr.bnd (pr.call 26 [(pr.ld y5 2), (pr.lit (.int Go.IntKind.i64 (0)))]) [fun y6 => (pr.bin .add false (pr.lit (.int Go.IntKind.i64 (1))) (pr.ld y6 0) fun x7 =>
       (pr.bnd (pr.call 26 [(pr.ld y5 3), (pr.lit (.int Go.IntKind.i64 (9)))]) [fun y8 => (pr.bin .add false (pr.lit (.int Go.IntKind.i64 (1))) (pr.ld y8 0) fun x9 =>
         (pr.bnd (pr.call 26 [(pr.ld y5 4), (pr.lit (.int Go.IntKind.i64 (12)))]) [fun y10 => (pr.eqN (pr.natN 1) (pr.len (pr.rows [[x7, x9, (pr.ld y10 0)]])) (pr.eqN (pr.ln y5 6) (pr.len (pr.lr y5 1)) (pr.eqN (pr.ln y5 5) (pr.len (pr.lr y5 1)) (pr.fits 24 (pr.addN (pr.ln y5 5) (pr.len (pr.seg (pr.rows [[x7, x9, (pr.ld y10 0)]]) none (pr.natN 1))))
           (pr.bin .add false (pr.ld y5 0) (pr.lit (.int Go.IntKind.i64 (1))) fun x11 =>
           (J1 1 [.d x11, .r (pr.app (pr.lr y5 1) (pr.seg (pr.rows [[x7, x9, (pr.ld y10 0)]]) none (pr.natN 1))), .n (pr.addN (pr.ln y5 5) (pr.len (pr.seg (pr.rows [[x7, x9, (pr.ld y10 0)]]) none (pr.natN 1)))), .n (pr.addN (pr.ln y5 5) (pr.len (pr.seg (pr.rows [[x7, x9, (pr.ld y10 0)]]) none (pr.natN 1)))), .d (pr.ld y5 7), .d (pr.ld y5 8), .d (pr.ld y5 9)]))))))]))]))])])
     (pr.out 1 [.r (pr.lr y1 1), .n (pr.ln y1 2), .n (pr.ln y1 3), .d (pr.ld y1 4), .d (pr.ld y1 5), .d (pr.ld y1 6)]))))))
def L25_4  : (Nat → List (Y Δ N R M) → Ω) → E → Ω := fun J2 y2 =>
 (pr.lenD (pr.ld y2 3) fun x3 =>
   (pr.bin .lss false (pr.ld y2 0) x3 fun x4 =>
    (pr.cond x4
     (pr.bin .lss false (pr.ld y2 0) (pr.lit (.int Go.IntKind.i64 (6))) fun x5 =>
     (pr.cond x5
      (pr.bnd (pr.lenD (pr.ld y2 3) fun x6 =>
      (pr.bin .lss false (pr.ld y2 0) x6 fun x7 =>
       (pr.cond x7
        (pr.rowD 3 (pr.ld y2 3) (pr.ld y2 0) fun w8 =>
        (pr.out 0 [.d (pr.ld y2 0), .d (pr.cell w8 0), .d (pr.cell w8 1), .d (pr.cell w8 2), .d (pr.ld y2 1), .d (pr.ld y2 2), .d (pr.ld y2 3)]))
        (pr.out 0 [.d (pr.ld y2 0), .d (pr.lit (.int Go.IntKind.i64 (0))), .d (pr.lit (.int Go.IntKind.i64 (0))), .d (pr.lit (.int Go.IntKind.i64 (0))), .d (pr.ld y2 1), .d (pr.ld y2 2), .d (pr.ld y2 3)])))) [fun y6 => (pr.bin .mul false (pr.lit (.int Go.IntKind.i64 (2))) (pr.ld y6 0) fun x7 =>
       (pr.bin .add false (pr.lit (.int Go.IntKind.i64 (3))) x7 fun x8 =>
        (pr.bnd (pr.call 26 [(pr.ld y6 1), (pr.lit (.int Go.IntKind.i64 (4)))]) [fun y9 => (pr.bin .add false (pr.lit (.int Go.IntKind.i64 (1))) (pr.ld y9 0) fun x10 =>
          (pr.bnd (pr.call 26 [(pr.ld y6 2), (pr.lit (.int Go.IntKind.i64 (0)))]) [fun y11 => (pr.bin .sub false (pr.lit (.int Go.IntKind.i64 (0))) (pr.ld y11 0) fun x12 =>
            (pr.bnd (pr.call 26 [(pr.ld y6 3), x12]) [fun y13 => (pr.bin .add false (pr.ld y11 0) (pr.ld y13 0) fun x14 =>
              (pr.eqN (pr.natN 1) (pr.len (pr.rows [[x8, x10, (pr.ld y11 0), x14]])) (pr.isNil (pr.seg (pr.rows [[x8, x10, (pr.ld y11 0), x14]]) none (pr.natN 1))
               (pr.bin .add false (pr.ld y6 0) (pr.lit (.int Go.IntKind.i64 (1))) fun x15 =>
               (J2 0 [.d x15, .d (pr.ld y6 4), .d (pr.ld y6 5), .d (pr.ld y6 6)]))
               (pr.fits 32 (pr.len (pr.seg (pr.rows [[x8, x10, (pr.ld y11 0), x14]]) none (pr.natN 1)))
               (pr.bin .add false (pr.ld y6 0) (pr.lit (.int Go.IntKind.i64 (1))) fun x15 =>
               (J2 1 [.n (pr.len (pr.seg (pr.rows [[x8, x10, (pr.ld y11 0), x14]]) none (pr.natN 1))), .n (pr.len (pr.seg (pr.rows [[x8, x10, (pr.ld y11 0), x14]]) none (pr.natN 1))), .d x15, .r (pr.seg (pr.rows [[x8, x10, (pr.ld y11 0), x14]]) none (pr.natN 1)), .d (pr.ld y6 4), .d (pr.ld y6 5), .d (pr.ld y6 6)]))))))]))]))])))])
      (pr.bin .eql false (pr.ld y2 0) (pr.lit (.int Go.IntKind.i64 (0))) fun x6 =>
      (pr.cond x6
       (pr.bnd (pr.lenD (pr.ld y2 3) fun x7 =>
       (pr.bin .lss false (pr.ld y2 0) x7 fun x8 =>
        (pr.cond x8
         (pr.rowD 3 (pr.ld y2 3) (pr.ld y2 0) fun w9 =>
         (pr.out 0 [.d (pr.ld y2 0), .d (pr.cell w9 0), .d (pr.cell w9 1), .d (pr.cell w9 2), .d (pr.ld y2 1), .d (pr.ld y2 2), .d (pr.ld y2 3)]))
         (pr.out 0 [.d (pr.ld y2 0), .d (pr.lit (.int Go.IntKind.i64 (0))), .d (pr.lit (.int Go.IntKind.i64 (0))), .d (pr.lit (.int Go.IntKind.i64 (0))), .d (pr.ld y2 1), .d (pr.ld y2 2), .d (pr.ld y2 3)])))) [fun y7 => (pr.bin .mul false (pr.lit (.int Go.IntKind.i64 (2))) (pr.ld y7 0) fun x8 =>
        (pr.bin .add false (pr.lit (.int Go.IntKind.i64 (3))) x8 fun x9 =>
         (pr.bnd (pr.call 26 [(pr.ld y7 1), (pr.lit (.int Go.IntKind.i64 (4)))]) [fun y10 => (pr.bin .add false (pr.lit (.int Go.IntKind.i64 (1))) (pr.ld y10 0) fun x11 =>
           (pr.bnd (pr.call 26 [(pr.ld y7 2), (pr.lit (.int Go.IntKind.i64 (0)))]) [fun y12 => (pr.bin .sub false (pr.lit (.int Go.IntKind.i64 (0))) (pr.ld y12 0) fun x13 =>
             (pr.bnd (pr.call 26 [(pr.ld y7 3), x13]) [fun y14 => (pr.bin .add false (pr.ld y12 0) (pr.ld y14 0) fun x15 =>
               (pr.eqN (pr.natN 1) (pr.len (pr.rows [[x9, x11, (pr.ld y12 0), x15]])) (pr.isNil (pr.seg (pr.rows [[x9, x11, (pr.ld y12 0), x15]]) none (pr.natN 1))
                (pr.bin .add false (pr.ld y7 0) (pr.lit (.int Go.IntKind.i64 (1))) fun x16 =>
                (J2 0 [.d x16, .d (pr.ld y7 4), .d (pr.ld y7 5), .d (pr.ld y7 6)]))
                (pr.fits 32 (pr.len (pr.seg (pr.rows [[x9, x11, (pr.ld y12 0), x15]]) none (pr.natN 1)))
                (pr.bin .add false (pr.ld y7 0) (pr.lit (.int Go.IntKind.i64 (1))) fun x16 =>
                (J2 1 [.n (pr.len (pr.seg (pr.rows [[x9, x11, (pr.ld y12 0), x15]]) none (pr.natN 1))), .n (pr.len (pr.seg (pr.rows [[x9, x11, (pr.ld y12 0), x15]]) none (pr.natN 1))), .d x16, .r (pr.seg (pr.rows [[x9, x11, (pr.ld y12 0), x15]]) none (pr.natN 1)), .d (pr.ld y7 4), .d (pr.ld y7 5), .d (pr.ld y7 6)]))))))]))]))])))])
       (pr.out 0 [])))))
     (pr.bin .eql false (pr.ld y2 0) (pr.lit (.int Go.IntKind.i64 (0))) fun x5 =>
     (pr.cond x5
      (pr.bnd (pr.lenD (pr.ld y2 3) fun x6 =>
      (pr.bin .lss false (pr.ld y2 0) x6 fun x7 =>
       (pr.cond x7
        (pr.rowD 3 (pr.ld y2 3) (pr.ld y2 0) fun w8 =>
        (pr.out 0 [.d (pr.ld y2 0), .d (pr.cell w8 0), .d (pr.cell w8 1), .d (pr.cell w8 2), .d (pr.ld y2 1), .d (pr.ld y2 2), .d (pr.ld y2 3)]))
        (pr.out 0 [.d (pr.ld y2 0), .d (pr.lit (.int Go.IntKind.i64 (0))), .d (pr.lit (.int Go.IntKind.i64 (0))), .d (pr.lit (.int Go.IntKind.i64 (0))), .d (pr.ld y2 1), .d (pr.ld y2 2), .d (pr.ld y2 3)])))) [fun y6 => (pr.bin .mul false (pr.lit (.int Go.IntKind.i64 (2))) (pr.ld y6 0) fun x7 =>
       (pr.bin .add false (pr.lit (.int Go.IntKind.i64 (3))) x7 fun x8 =>
        (pr.bnd (pr.call 26 [(pr.ld y6 1), (pr.lit (.int Go.IntKind.i64 (4)))]) [fun y9 => (pr.bin .add false (pr.lit (.int Go.IntKind.i64 (1))) (pr.ld y9 0) fun x10 =>
          (pr.bnd (pr.call 26 [(pr.ld y6 2), (pr.lit (.int Go.IntKind.i64 (0)))]) [fun y11 => (pr.bin .sub false (pr.lit (.int Go.IntKind.i64 (0))) (pr.ld y11 0) fun x12 =>
            (pr.bnd (pr.call 26 [(pr.ld y6 3), x12]) [fun y13 => (pr.bin .add false (pr.ld y11 0) (pr.ld y13 0) fun x14 =>
              (pr.eqN (pr.natN 1) (pr.len (pr.rows [[x8, x10, (pr.ld y11 0), x14]])) (pr.isNil (pr.seg (pr.rows [[x8, x10, (pr.ld y11 0), x14]]) none (pr.natN 1))
               (pr.bin .add false (pr.ld y6 0) (pr.lit (.int Go.IntKind.i64 (1))) fun x15 =>
               (J2 0 [.d x15, .d (pr.ld y6 4), .d (pr.ld y6 5), .d (pr.ld y6 6)]))
               (pr.fits 32 (pr.len (pr.seg (pr.rows [[x8, x10, (pr.ld y11 0), x14]]) none (pr.natN 1)))
               (pr.bin .add false (pr.ld y6 0) (pr.lit (.int Go.IntKind.i64 (1))) fun x15 =>
               (J2 1 [.n (pr.len (pr.seg (pr.rows [[x8, x10, (pr.ld y11 0), x14]]) none (pr.natN 1))), .n (pr.len (pr.seg (pr.rows [[x8, x10, (pr.ld y11 0), x14]]) none (pr.natN 1))), .d x15, .r (pr.seg (pr.rows [[x8, x10, (pr.ld y11 0), x14]]) none (pr.natN 1)), .d (pr.ld y6 4), .d (pr.ld y6 5), .d (pr.ld y6 6)]))))))]))]))])))])
      (pr.out 0 []))))))
def L25_5  : (Nat → List (Y Δ N R M) → Ω) → E → Ω := fun J2 y2 =>
 (pr.lenD (pr.ld y2 6) fun x3 =>
   (pr.bin .lss false (pr.ld y2 2) x3 fun x4 =>
    (pr.cond x4
     (pr.bin .lss false (pr.ld y2 2) (pr.lit (.int Go.IntKind.i64 (6))) fun x5 =>
     (pr.cond x5
      (pr.bnd (pr.lenD (pr.ld y2 6) fun x6 =>
      (pr.bin .lss false (pr.ld y2 2) x6 fun x7 =>
       (pr.cond x7
        (pr.rowD 3 (pr.ld y2 6) (pr.ld y2 2) fun w8 =>
        (pr.out 0 [.n (pr.ln y2 0), .n (pr.ln y2 1), .d (pr.ld y2 2), .d (pr.cell w8 0), .d (pr.cell w8 1), .d (pr.cell w8 2), .r (pr.lr y2 3), .d (pr.ld y2 4), .d (pr.ld y2 5), .d (pr.ld y2 6)]))
        (pr.out 0 [.n (pr.ln y2 0), .n (pr.ln y2 1), .d (pr.ld y2 2), .d (pr.lit (.int Go.IntKind.i64 (0))), .d (pr.lit (.int Go.IntKind.i64 (0))), .d (pr.lit (.int Go.IntKind.i64 (0))), .r (pr.lr y2 3), .d (pr.ld y2 4), .d (pr.ld y2 5), .d (pr.ld y2 6)])))) [fun y6 => (pr.bin .mul false (pr.lit (.int Go.IntKind.i64 (2))) (pr.ld y6 2) fun x7 =>
       (pr.bin .add false (pr.lit (.int Go.IntKind.i64 (3))) x7 fun x8 =>
        (pr.bnd (pr.call 26 [(pr.ld y6 3), (pr.lit (.int Go.IntKind.i64 (4)))]) [fun y9 => (pr.bin .add false (pr.lit (.int Go.IntKind.i64 (1))) (pr.ld y9 0) fun x10 =>
          (pr.bnd (pr.call 26 [(pr.ld y6 4), (pr.lit (.int Go.IntKind.i64 (0)))]) [fun y11 => (pr.bin .sub false (pr.lit (.int Go.IntKind.i64 (0))) (pr.ld y11 0) fun x12 =>
            (pr.bnd (pr.call 26 [(pr.ld y6 5), x12]) [fun y13 => (pr.bin .add false (pr.ld y11 0) (pr.ld y13 0) fun x14 =>
              (pr.eqN (pr.natN 1) (pr.len (pr.rows [[x8, x10, (pr.ld y11 0), x14]])) (pr.eqN (pr.ln y6 1) (pr.len (pr.lr y6 6)) (pr.eqN (pr.ln y6 0) (pr.len (pr.lr y6 6)) (pr.fits 32 (pr.addN (pr.ln y6 0) (pr.len (pr.seg (pr.rows [[x8, x10, (pr.ld y11 0), x14]]) none (pr.natN 1))))
               (pr.bin .add false (pr.ld y6 2) (pr.lit (.int Go.IntKind.i64 (1))) fun x15 =>
               (J2 1 [.n (pr.addN (pr.ln y6 0) (pr.len (pr.seg (pr.rows [[x8, x10, (pr.ld y11 0), x14]]) none (pr.natN 1)))), .n (pr.addN (pr.ln y6 0) (pr.len (pr.seg (pr.rows [[x8, x10, (pr.ld y11 0), x14]]) none (pr.natN 1)))), .d x15, .r (pr.app (pr.lr y6 6) (pr.seg (pr.rows [[x8, x10, (pr.ld y11 0), x14]]) none (pr.natN 1))), .d (pr.ld y6 7), .d (pr.ld y6 8), .d (pr.ld y6 9)])))))))]))]))])))])
      (pr.bin .eql false (pr.ld y2 2) (pr.lit (.int Go.IntKind.i64 (0))) fun x6 =>
      (pr.cond x6
       (pr.bnd (pr.lenD (pr.ld y2 6) fun x7 =>
       (pr.bin .lss false (pr.ld y2 2) x7 fun x8 =>
        (pr.cond x8
         (pr.rowD 3 (pr.ld y2 6) (pr.ld y2 2) fun w9 =>
         (pr.out 0 [.n (pr.ln y2 0), .n (pr.ln y2 1), .d (pr.ld y2 2), .d (pr.cell w9 0), .d (pr.cell w9 1), .d (pr.cell w9 2), .r (pr.lr y2 3), .d (pr.ld y2 4), .d (pr.ld y2 5), .d (pr.ld y2 6)]))
         (pr.out 0 [.n (pr.ln y2 0), .n (pr.ln y2 1), .d (pr.ld y2 2), .d (pr.lit (.int Go.IntKind.i64 (0))), .d (pr.lit (.int Go.IntKind.i64 (0))), .d (pr.lit (.int Go.IntKind.i64 (0))), .r (pr.lr y2 3), .d (pr.ld y2 4), .d (pr.ld y2 5), .d (pr.ld y2 6)])))) [fun y7 => (pr.bin .mul false (pr.lit (.int Go.IntKind.i64 (2))) (pr.ld y7 2) fun x8 =>
        (pr.bin .add false (pr.lit (.int Go.IntKind.i64 (3))) x8 fun x9 =>
         (pr.bnd (pr.call 26 [(pr.ld y7 3), (pr.lit (.int Go.IntKind.i64 (4)))]) [fun y10 => (pr.bin .add false (pr.lit (.int Go.IntKind.i64 (1))) (pr.ld y10 0) fun x11 =>
           (pr.bnd (pr.call 26 [(pr.ld y7 4), (pr.lit (.int Go.IntKind.i64 (0)))]) [fun y12 => (pr.bin .sub false (pr.lit (.int Go.IntKind.i64 (0))) (pr.ld y12 0) fun x13 =>
             (pr.bnd (pr.call 26 [(pr.ld y7 5), x13]) [fun y14 => (pr.bin .add false (pr.ld y12 0) (pr.ld y14 0) fun x15 =>
               (pr.eqN (pr.natN 1) (pr.len (pr.rows [[x9, x11, (pr.ld y12 0), x15]])) (pr.eqN (pr.ln y7 1) (pr.len (pr.lr y7 6)) (pr.eqN (pr.ln y7 0) (pr.len (pr.lr y7 6)) (pr.fits 32 (pr.addN (pr.ln y7 0) (pr.len (pr.seg (pr.rows [[x9, x11, (pr.ld y12 0), x15]]) none (pr.natN 1))))
                (pr.bin .add false (pr.ld y7 2) (pr.lit (.int Go.IntKind.i64 (1))) fun x16 =>
                (J2 1 [.n (pr.addN (pr.ln y7 0) (pr.len (pr.seg (pr.rows [[x9, x11, (pr.ld y12 0), x15]]) none (pr.natN 1)))), .n (pr.addN (pr.ln y7 0) (pr.len (pr.seg (pr.rows [[x9, x11, (pr.ld y12 0), x15]]) none (pr.natN 1)))), .d x16, .r (pr.app (pr.lr y7 6) (pr.seg (pr.rows [[x9, x11, (pr.ld y12 0), x15]]) none (pr.natN 1))), .d (pr.ld y7 7), .d (pr.ld y7 8), .d (pr.ld y7 9)])))))))]))]))])))])
       (pr.out 1 [.n (pr.ln y2 0), .n (pr.ln y2 1), .r (pr.lr y2 3)])))))
     (pr.bin .eql false (pr.ld y2 2) (pr.lit (.int Go.IntKind.i64 (0))) fun x5 =>
     (pr.cond x5
      (pr.bnd (pr.lenD (pr.ld y2 6) fun x6 =>
      (pr.bin .lss false (pr.ld y2 2) x6 fun x7 =>
       (pr.cond x7
        (pr.rowD 3 (pr.ld y2 6) (pr.ld y2 2) fun w8 =>
        (pr.out 0 [.n (pr.ln y2 0), .n (pr.ln y2 1), .d (pr.ld y2 2), .d (pr.cell w8 0), .d (pr.cell w8 1), .d (pr.cell w8 2), .r (pr.lr y2 3), .d (pr.ld y2 4), .d (pr.ld y2 5), .d (pr.ld y2 6)]))
        (pr.out 0 [.n (pr.ln y2 0), .n (pr.ln y2 1), .d (pr.ld y2 2), .d (pr.lit (.int Go.IntKind.i64 (0))), .d (pr.lit (.int Go.IntKind.i64 (0))), .d (pr.lit (.int Go.IntKind.i64 (0))), .r (pr.lr y2 3), .d (pr.ld y2 4), .d (pr.ld y2 5), .d (pr.ld y2 6)])))) [fun y6 => (pr.bin .mul false (pr.lit (.int Go.IntKind.i64 (2))) (pr.ld y6 2) fun x7 =>
       (pr.bin .add false (pr.lit (.int Go.IntKind.i64 (3))) x7 fun x8 =>
        (pr.bnd (pr.call 26 [(pr.ld y6 3), (pr.lit (.int Go.IntKind.i64 (4)))]) [fun y9 => (pr.bin .add false (pr.lit (.int Go.IntKind.i64 (1))) (pr.ld y9 0) fun x10 =>
          (pr.bnd (pr.call 26 [(pr.ld y6 4), (pr.lit (.int Go.IntKind.i64 (0)))]) [fun y11 => (pr.bin .sub false (pr.lit (.int Go.IntKind.i64 (0))) (pr.ld y11 0) fun x12 =>
            (pr.bnd (pr.call 26 [(pr.ld y6 5), x12]) [fun y13 => (pr.bin .add false (pr.ld y11 0) (pr.ld y13 0) fun x14 =>
              (pr.eqN (pr.natN 1) (pr.len (pr.rows [[x8, x10, (pr.ld y11 0), x14]])) (pr.eqN (pr.ln y6 1) (pr.len (pr.lr y6 6)) (pr.eqN (pr.ln y6 0) (pr.len (pr.lr y6 6)) (pr.fits 32 (pr.addN (pr.ln y6 0) (pr.len (pr.seg (pr.rows [[x8, x10, (pr.ld y11 0), x14]]) none (pr.natN 1))))
               (pr.bin .add false (pr.ld y6 2) (pr.lit (.int Go.IntKind.i64 (1))) fun x15 =>
               (J2 1 [.n (pr.addN (pr.ln y6 0) (pr.len (pr.seg (pr.rows [[x8, x10, (pr.ld y11 0), x14]]) none (pr.natN 1)))), .n (pr.addN (pr.ln y6 0) (pr.len (pr.seg (pr.rows [[x8, x10, (pr.ld y11 0), x14]]) none (pr.natN 1)))), .d x15, .r (pr.app (pr.lr y6 6) (pr.seg (pr.rows [[x8, x10, (pr.ld y11 0), x14]]) none (pr.natN 1))), .d (pr.ld y6 7), .d (pr.ld y6 8), .d (pr.ld y6 9)])))))))]))]))])))])
      (pr.out 1 [.n (pr.ln y2 0), .n (pr.ln y2 1), .r (pr.lr y2 3)]))))))
def L25_6  : (Nat → List (Y Δ N R M) → Ω) → E → Ω := fun J2 y2 =>
 (pr.lenD (pr.ld y2 6) fun x3 =>
   (pr.bin .lss false (pr.ld y2 0) x3 fun x4 =>
    (pr.cond x4
     (pr.bin .lss false (pr.ld y2 0) (pr.lit (.int Go.IntKind.i64 (6))) fun x5 =>
     (pr.cond x5
      (pr.bnd (pr.lenD (pr.ld y2 6) fun x6 =>
      (pr.bin .lss false (pr.ld y2 0) x6 fun x7 =>
       (pr.cond x7
        (pr.rowD 3 (pr.ld y2 6) (pr.ld y2 0) fun w8 =>
        (pr.out 0 [.d (pr.ld y2 0), .r (pr.lr y2 1), .d (pr.cell w8 0), .d (pr.cell w8 1), .d (pr.cell w8 2), .n (pr.ln y2 2), .n (pr.ln y2 3), .d (pr.ld y2 4), .d (pr.ld y2 5), .d (pr.ld y2 6)]))
        (pr.out 0 [.d (pr.ld y2 0), .r (pr.lr y2 1), .d (pr.lit (.int Go.IntKind.i64 (0))), .d (pr.lit (.int Go.IntKind.i64 (0))), .d (pr.lit (.int Go.IntKind.i64 (0))), .n (pr.ln y2 2), .n (pr.ln y2 3), .d (pr.ld y2 4), .d (pr.ld y2 5), .d (pr.ld y2 6)])))) [fun y6 => (pr.bin .mul false (pr.lit (.int Go.IntKind.i64 (2))) (pr.ld y6 0) fun x7 =>
       (pr.bin .add false (pr.lit (.int Go.IntKind.i64 (3))) x7 fun x8 =>
        (pr.bnd (pr.call 26 [(pr.ld y6 2), (pr.lit (.int Go.IntKind.i64 (4)))]) [fun y9 => (pr.bin .add false (pr.lit (.int Go.IntKind.i64 (1))) (pr.ld y9 0) fun x10 =>
          (pr.bnd (pr.call 26 [(pr.ld y6 3), (pr.natD (pr.ln y6 5))]) [fun y11 => (pr.bin .sub false (pr.natD (pr.ln y6 5)) (pr.ld y11 0) fun x12 =>
            (pr.bnd (pr.call 26 [(pr.ld y6 4), x12]) [fun y13 => (pr.bin .add false (pr.ld y11 0) (pr.ld y13 0) fun x14 =>
              (pr.eqN (pr.natN 1) (pr.len (pr.rows [[x8, x10, (pr.ld y11 0), x14]])) (pr.isNil (pr.seg (pr.rows [[x8, x10, (pr.ld y11 0), x14]]) none (pr.natN 1))
               (pr.bin .add false (pr.ld y6 0) (pr.lit (.int Go.IntKind.i64 (1))) fun x15 =>
               (J2 0 [.d x15, .r (pr.lr y6 1), .n (pr.ln y6 5), .n (pr.ln y6 6), .d (pr.ld y6 7), .d (pr.ld y6 8), .d (pr.ld y6 9)]))
               (pr.fits 32 (pr.len (pr.seg (pr.rows [[x8, x10, (pr.ld y11 0), x14]]) none (pr.natN 1)))
               (pr.bin .add false (pr.ld y6 0) (pr.lit (.int Go.IntKind.i64 (1))) fun x15 =>
               (J2 1 [.n (pr.len (pr.seg (pr.rows [[x8, x10, (pr.ld y11 0), x14]]) none (pr.natN 1))), .n (pr.len (pr.seg (pr.rows [[x8, x10, (pr.ld y11 0), x14]]) none (pr.natN 1))), .d x15, .r (pr.lr y6 1), .r (pr.seg (pr.rows [[x8, x10, (pr.ld y11 0), x14]]) none (pr.natN 1)), .n (pr.ln y6 5), .n (pr.ln y6 6), .d (pr.ld y6 7), .d (pr.ld y6 8), .d (pr.ld y6 9)]))))))]))]))])))])
      (pr.bin .eql false (pr.ld y2 0) (pr.lit (.int Go.IntKind.i64 (0))) fun x6 =>
      (pr.cond x6
       (pr.bnd (pr.lenD (pr.ld y2 6) fun x7 =>
       (pr.bin .lss false (pr.ld y2 0) x7 fun x8 =>
        (pr.cond x8
         (pr.rowD 3 (pr.ld y2 6) (pr.ld y2 0) fun w9 =>
         (pr.out 0 [.d (pr.ld y2 0), .r (pr.lr y2 1), .d (pr.cell w9 0), .d (pr.cell w9 1), .d (pr.cell w9 2), .n (pr.ln y2 2), .n (pr.ln y2 3), .d (pr.ld y2 4), .d (pr.ld y2 5), .d (pr.ld y2 6)]))
         (pr.out 0 [.d (pr.ld y2 0), .r (pr.lr y2 1), .d (pr.lit (.int Go.IntKind.i64 (0))), .d (pr.lit (.int Go.IntKind.i64 (0))), .d (pr.lit (.int Go.IntKind.i64 (0))), .n (pr.ln y2 2), .n (pr.ln y2 3), .d (pr.ld y2 4), .d (pr.ld y2 5), .d (pr.ld y2 6)])))) [fun y7 => (pr.bin .mul false (pr.lit (.int Go.IntKind.i64 (2))) (pr.ld y7 0) fun x8 =>
        (pr.bin .add false (pr.lit (.int Go.IntKind.i64 (3))) x8 fun x9 =>
         (pr.bnd (pr.call 26 [(pr.ld y7 2), (pr.lit (.int Go.IntKind.i64 (4)))]) [fun y10 => (pr.bin .add false (pr.lit (.int Go.IntKind.i64 (1))) (pr.ld y10 0) fun x11 =>
           (pr.bnd (pr.call 26 [(pr.ld y7 3), (pr.natD (pr.ln y7 5))]) [fun y12 => (pr.bin .sub false (pr.natD (pr.ln y7 5)) (pr.ld y12 0) fun x13 =>
             (pr.bnd (pr.call 26 [(pr.ld y7 4), x13]) [fun y14 => (pr.bin .add false (pr.ld y12 0) (pr.ld y14 0) fun x15 =>
               (pr.eqN (pr.natN 1) (pr.len (pr.rows [[x9, x11, (pr.ld y12 0), x15]])) (pr.isNil (pr.seg (pr.rows [[x9, x11, (pr.ld y12 0), x15]]) none (pr.natN 1))
                (pr.bin .add false (pr.ld y7 0) (pr.lit (.int Go.IntKind.i64 (1))) fun x16 =>
                (J2 0 [.d x16, .r (pr.lr y7 1), .n (pr.ln y7 5), .n (pr.ln y7 6), .d (pr.ld y7 7), .d (pr.ld y7 8), .d (pr.ld y7 9)]))
                (pr.fits 32 (pr.len (pr.seg (pr.rows [[x9, x11, (pr.ld y12 0), x15]]) none (pr.natN 1)))
                (pr.bin .add false (pr.ld y7 0) (pr.lit (.int Go.IntKind.i64 (1))) fun x16 =>
                (J2 1 [.n (pr.len (pr.seg (pr.rows [[x9, x11, (pr.ld y12 0), x15]]) none (pr.natN 1))), .n (pr.len (pr.seg (pr.rows [[x9, x11, (pr.ld y12 0), x15]]) none (pr.natN 1))), .d x16, .r (pr.lr y7 1), .r (pr.seg (pr.rows [[x9, x11, (pr.ld y12 0), x15]]) none (pr.natN 1)), .n (pr.ln y7 5), .n (pr.ln y7 6), .d (pr.ld y7 7), .d (pr.ld y7 8), .d (pr.ld y7 9)]))))))]))]))])))])
       (pr.out 0 [.r (pr.lr y2 1), .n (pr.ln y2 2), .n (pr.ln y2 3)])))))
     (pr.bin .eql false (pr.ld y2 0) (pr.lit (.int Go.IntKind.i64 (0))) fun x5 =>
     (pr.cond x5
      (pr.bnd (pr.lenD (pr.ld y2 6) fun x6 =>
      (pr.bin .lss false (pr.ld y2 0) x6 fun x7 =>
       (pr.cond x7
        (pr.rowD 3 (pr.ld y2 6) (pr.ld y2 0) fun w8 =>
        (pr.out 0 [.d (pr.ld y2 0), .r (pr.lr y2 1), .d (pr.cell w8 0), .d (pr.cell w8 1), .d (pr.cell w8 2), .n (pr.ln y2 2), .n (pr.ln y2 3), .d (pr.ld y2 4), .d (pr.ld y2 5), .d (pr.ld y2 6)]))
        (pr.out 0 [.d (pr.ld y2 0), .r (pr.lr y2 1), .d (pr.lit (.int Go.IntKind.i64 (0))), .d (pr.lit (.int Go.IntKind.i64 (0))), .d (pr.lit (.int Go.IntKind.i64 (0))), .n (pr.ln y2 2), .n (pr.ln y2 3), .d (pr.ld y2 4), .d (pr.ld y2 5), .d (pr.ld y2 6)])))) [fun y6 => (pr.bin .mul false (pr.lit (.int Go.IntKind.i64 (2))) (pr.ld y6 0) fun x7 =>
       (pr.bin .add false (pr.lit (.int Go.IntKind.i64 (3))) x7 fun x8 =>
        (pr.bnd (pr.call 26 [(pr.ld y6 2), (pr.lit (.int Go.IntKind.i64 (4)))]) [fun y9 => (pr.bin .add false (pr.lit (.int Go.IntKind.i64 (1))) (pr.ld y9 0) fun x10 =>
          (pr.bnd (pr.call 26 [(pr.ld y6 3), (pr.natD (pr.ln y6 5))]) [fun y11 => (pr.bin .sub false (pr.natD (pr.ln y6 5)) (pr.ld y11 0) fun x12 =>
            (pr.bnd (pr.call 26 [(pr.ld y6 4), x12]) [fun y13 => (pr.bin .add false (pr.ld y11 0) (pr.ld y13 0) fun x14 =>
              (pr.eqN (pr.natN 1) (pr.len (pr.rows [[x8, x10, (pr.ld y11 0), x14]])) (pr.isNil (pr.seg (pr.rows [[x8, x10, (pr.ld y11 0), x14]]) none (pr.natN 1))
               (pr.bin .add false (pr.ld y6 0) (pr.lit (.int Go.IntKind.i64 (1))) fun x15 =>
               (J2 0 [.d x15, .r (pr.lr y6 1), .n (pr.ln y6 5), .n (pr.ln y6 6), .d (pr.ld y6 7), .d (pr.ld y6 8), .d (pr.ld y6 9)]))
               (pr.fits 32 (pr.len (pr.seg (pr.rows [[x8, x10, (pr.ld y11 0), x14]]) none (pr.natN 1)))
               (pr.bin .add false (pr.ld y6 0) (pr.lit (.int Go.IntKind.i64 (1))) fun x15 =>
               (J2 1 [.n (pr.len (pr.seg (pr.rows [[x8, x10, (pr.ld y11 0), x14]]) none (pr.natN 1))), .n (pr.len (pr.seg (pr.rows [[x8, x10, (pr.ld y11 0), x14]]) none (pr.natN 1))), .d x15, .r (pr.lr y6 1), .r (pr.seg (pr.rows [[x8, x10, (pr.ld y11 0), x14]]) none (pr.natN 1)), .n (pr.ln y6 5), .n (pr.ln y6 6), .d (pr.ld y6 7), .d (pr.ld y6 8), .d (pr.ld y6 9)]))))))]))]))])))])
      (pr.out 0 [.r (pr.lr y2 1), .n (pr.ln y2 2), .n (pr.ln y2 3)]))))))
def L25_7  : (Nat → List (Y Δ N R M) → Ω) → E → Ω := fun J2 y2 =>
 (pr.lenD (pr.ld y2 9) fun x3 =>
   (pr.bin .lss false (pr.ld y2 2) x3 fun x4 =>
    (pr.cond x4
     (pr.bin .lss false (pr.ld y2 2) (pr.lit (.int Go.IntKind.i64 (6))) fun x5 =>
     (pr.cond x5
      (pr.bnd (pr.lenD (pr.ld y2 9) fun x6 =>
      (pr.bin .lss false (pr.ld y2 2) x6 fun x7 =>
       (pr.cond x7
        (pr.rowD 3 (pr.ld y2 9) (pr.ld y2 2) fun w8 =>
        (pr.out 0 [.n (pr.ln y2 0), .n (pr.ln y2 1), .d (pr.ld y2 2), .r (pr.lr y2 3), .d (pr.cell w8 0), .d (pr.cell w8 1), .d (pr.cell w8 2), .r (pr.lr y2 4), .n (pr.ln y2 5), .n (pr.ln y2 6), .d (pr.ld y2 7), .d (pr.ld y2 8), .d (pr.ld y2 9)]))
        (pr.out 0 [.n (pr.ln y2 0), .n (pr.ln y2 1), .d (pr.ld y2 2), .r (pr.lr y2 3), .d (pr.lit (.int Go.IntKind.i64 (0))), .d (pr.lit (.int Go.IntKind.i64 (0))), .d (pr.lit (.int Go.IntKind.i64 (0))), .r (pr.lr y2 4), .n (pr.ln y2 5), .n (pr.ln y2 6), .d (pr.ld y2 7), .d (pr.ld y2 8), .d (pr.ld y2 9)])))) [fun y6 => (pr.bin .mul false (pr.lit (.int Go.IntKind.i64 (2))) (pr.ld y6 2) fun x7 =>
       (pr.bin .add false (pr.lit (.int Go.IntKind.i64 (3))) x7 fun x8 =>
        (pr.bnd (pr.call 26 [(pr.ld y6 4), (pr.lit (.int Go.IntKind.i64 (4)))]) [fun y9 => (pr.bin .add false (pr.lit (.int Go.IntKind.i64 (1))) (pr.ld y9 0) fun x10 =>
          (pr.bnd (pr.call 26 [(pr.ld y6 5), (pr.natD (pr.ln y6 8))]) [fun y11 => (pr.bin .sub false (pr.natD (pr.ln y6 8)) (pr.ld y11 0) fun x12 =>
            (pr.bnd (pr.call 26 [(pr.ld y6 6), x12]) [fun y13 => (pr.bin .add false (pr.ld y11 0) (pr.ld y13 0) fun x14 =>
              (pr.eqN (pr.natN 1) (pr.len (pr.rows [[x8, x10, (pr.ld y11 0), x14]])) (pr.eqN (pr.ln y6 1) (pr.len (pr.lr y6 7)) (pr.eqN (pr.ln y6 0) (pr.len (pr.lr y6 7)) (pr.fits 32 (pr.addN (pr.ln y6 0) (pr.len (pr.seg (pr.rows [[x8, x10, (pr.ld y11 0), x14]]) none (pr.natN 1))))
               (pr.bin .add false (pr.ld y6 2) (pr.lit (.int Go.IntKind.i64 (1))) fun x15 =>
               (J2 1 [.n (pr.addN (pr.ln y6 0) (pr.len (pr.seg (pr.rows [[x8, x10, (pr.ld y11 0), x14]]) none (pr.natN 1)))), .n (pr.addN (pr.ln y6 0) (pr.len (pr.seg (pr.rows [[x8, x10, (pr.ld y11 0), x14]]) none (pr.natN 1)))), .d x15, .r (pr.lr y6 3), .r (pr.app (pr.lr y6 7) (pr.seg (pr.rows [[x8, x10, (pr.ld y11 0), x14]]) none (pr.natN 1))), .n (pr.ln y6 8), .n (pr.ln y6 9), .d (pr.ld y6 10), .d (pr.ld y6 11), .d (pr.ld y6 12)])))))))]))]))])))])
      (pr.bin .eql false (pr.ld y2 2) (pr.lit (.int Go.IntKind.i64 (0))) fun x6 =>
      (pr.cond x6
       (pr.bnd (pr.lenD (pr.ld y2 9) fun x7 =>
       (pr.bin .lss false (pr.ld y2 2) x7 fun x8 =>
        (pr.cond x8
         (pr.rowD 3 (pr.ld y2 9) (pr.ld y2 2) fun w9 =>
         (pr.out 0 [.n (pr.ln y2 0), .n (pr.ln y2 1), .d (pr.ld y2 2), .r (pr.lr y2 3), .d (pr.cell w9 0), .d (pr.cell w9 1), .d (pr.cell w9 2), .r (pr.lr y2 4), .n (pr.ln y2 5), .n (pr.ln y2 6), .d (pr.ld y2 7), .d (pr.ld y2 8), .d (pr.ld y2 9)]))
         (pr.out 0 [.n (pr.ln y2 0), .n (pr.ln y2 1), .d (pr.ld y2 2), .r (pr.lr y2 3), .d (pr.lit (.int Go.IntKind.i64 (0))), .d (pr.lit (.int Go.IntKind.i64 (0))), .d (pr.lit (.int Go.IntKind.i64 (0))), .r (pr.lr y2 4), .n (pr.ln y2 5), .n (pr.ln y2 6), .d (pr.ld y2 7), .d (pr.ld y2 8), .d (pr.ld y2 9)])))) [fun y7 => (pr.bin .mul false (pr.lit (.int Go.IntKind.i64 (2))) (pr.ld y7 2) fun x8 =>
        (pr.bin .add false (pr.lit (.int Go.IntKind.i64 (3))) x8 fun x9 =>
         (pr.bnd (pr.call 26 [(pr.ld y7 4), (pr.lit (.int Go.IntKind.i64 (4)))]) [fun y10 => (pr.bin .add false (pr.lit (.int Go.IntKind.i64 (1))) (pr.ld y10 0) fun x11 =>
           (pr.bnd (pr.call 26 [(pr.ld y7 5), (pr.natD (pr.ln y7 8))]) [fun y12 => (pr.bin .sub false (pr.natD (pr.ln y7 8)) (pr.ld y12 0) fun x13 =>
             (pr.bnd (pr.call 26 [(pr.ld y7 6), x13]) [fun y14 => (pr.bin .add false (pr.ld y12 0) (pr.ld y14 0) fun x15 =>
               (pr.eqN (pr.natN 1) (pr.len (pr.rows [[x9, x11, (pr.ld y12 0), x15]])) (pr.eqN (pr.ln y7 1) (pr.len (pr.lr y7 7)) (pr.eqN (pr.ln y7 0) (pr.len (pr.lr y7 7)) (pr.fits 32 (pr.addN (pr.ln y7 0) (pr.len (pr.seg (pr.rows [[x9, x11, (pr.ld y12 0), x15]]) none (pr.natN 1))))
                (pr.bin .add false (pr.ld y7 2) (pr.lit (.int Go.IntKind.i64 (1))) fun x16 =>
                (J2 1 [.n (pr.addN (pr.ln y7 0) (pr.len (pr.seg (pr.rows [[x9, x11, (pr.ld y12 0), x15]]) none (pr.natN 1)))), .n (pr.addN (pr.ln y7 0) (pr.len (pr.seg (pr.rows [[x9, x11, (pr.ld y12 0), x15]]) none (pr.natN 1)))), .d x16, .r (pr.lr y7 3), .r (pr.app (pr.lr y7 7) (pr.seg (pr.rows [[x9, x11, (pr.ld y12 0), x15]]) none (pr.natN 1))), .n (pr.ln y7 8), .n (pr.ln y7 9), .d (pr.ld y7 10), .d (pr.ld y7 11), .d (pr.ld y7 12)])))))))]))]))])))])
       (pr.out 1 [.n (pr.ln y2 0), .n (pr.ln y2 1), .r (pr.lr y2 3), .r (pr.lr y2 4), .n (pr.ln y2 5), .n (pr.ln y2 6)])))))
     (pr.bin .eql false (pr.ld y2 2) (pr.lit (.int Go.IntKind.i64 (0))) fun x5 =>
     (pr.cond x5
      (pr.bnd (pr.lenD (pr.ld y2 9) fun x6 =>
      (pr.bin .lss false (pr.ld y2 2) x6 fun x7 =>
       (pr.cond x7
        (pr.rowD 3 (pr.ld y2 9) (pr.ld y2 2) fun w8 =>
        (pr.out 0 [.n (pr.ln y2 0), .n (pr.ln y2 1), .d (pr.ld y2 2), .r (pr.lr y2 3), .d (pr.cell w8 0), .d (pr.cell w8 1), .d (pr.cell w8 2), .r (pr.lr y2 4), .n (pr.ln y2 5), .n (pr.ln y2 6), .d (pr.ld y2 7), .d (pr.ld y2 8), .d (pr.ld y2 9)]))
        (pr.out 0 [.n (pr.ln y2 0), .n (pr.ln y2 1), .d (pr.ld y2 2), .r (pr.lr y2 3), .d (pr.lit (.int Go.IntKind.i64 (0))), .d (pr.lit (.int Go.IntKind.i64 (0))), .d (pr.lit (.int Go.IntKind.i64 (0))), .r (pr.lr y2 4), .n (pr.ln y2 5), .n (pr.ln y2 6), .d (pr.ld y2 7), .d (pr.ld y2 8), .d (pr.ld y2 9)])))) [fun y6 => (pr.bin .mul false (pr.lit (.int Go.IntKind.i64 (2))) (pr.ld y6 2) fun x7 =>
       (pr.bin .add false (pr.lit (.int Go.IntKind.i64 (3))) x7 fun x8 =>
        (pr.bnd (pr.call 26 [(pr.ld y6 4), (pr.lit (.int Go.IntKind.i64 (4)))]) [fun y9 => (pr.bin .add false (pr.lit (.int Go.IntKind.i64 (1))) (pr.ld y9 0) fun x10 =>
          (pr.bnd (pr.call 26 [(pr.ld y6 5), (pr.natD (pr.ln y6 8))]) [fun y11 => (pr.bin .sub false (pr.natD (pr.ln y6 8)) (pr.ld y11 0) fun x12 =>
            (pr.bnd (pr.call 26 [(pr.ld y6 6), x12]) [fun y13 => (pr.bin .add false (pr.ld y11 0) (pr.ld y13 0) fun x14 =>
              (pr.eqN (pr.natN 1) (pr.len (pr.rows [[x8, x10, (pr.ld y11 0), x14]])) (pr.eqN (pr.ln y6 1) (pr.len (pr.lr y6 7)) (pr.eqN (pr.ln y6 0) (pr.len (pr.lr y6 7)) (pr.fits 32 (pr.addN (pr.ln y6 0) (pr.len (pr.seg (pr.rows [[x8, x10, (pr.ld y11 0), x14]]) none (pr.natN 1))))
               (pr.bin .add false (pr.ld y6 2) (pr.lit (.int Go.IntKind.i64 (1))) fun x15 =>
               (J2 1 [.n (pr.addN (pr.ln y6 0) (pr.len (pr.seg (pr.rows [[x8, x10, (pr.ld y11 0), x14]]) none (pr.natN 1)))), .n (pr.addN (pr.ln y6 0) (pr.len (pr.seg (pr.rows [[x8, x10, (pr.ld y11 0), x14]]) none (pr.natN 1)))), .d x15, .r (pr.lr y6 3), .r (pr.app (pr.lr y6 7) (pr.seg (pr.rows [[x8, x10, (pr.ld y11 0), x14]]) none (pr.natN 1))), .n (pr.ln y6 8), .n (pr.ln y6 9), .d (pr.ld y6 10), .d (pr.ld y6 11), .d (pr.ld y6 12)])))))))]))]))])))])
      (pr.out 1 [.n (pr.ln y2 0), .n (pr.ln y2 1), .r (pr.lr y2 3), .r (pr.lr y2 4), .n (pr.ln y2 5), .n (pr.ln y2 6)]))))))
def L25_8  : (Nat → List (Y Δ N R M) → Ω) → E → Ω := fun J1 y1 =>
 (pr.lenD (pr.ld y1 5) fun x2 =>
  (pr.bin .lss false (pr.ld y1 0) x2 fun x3 =>
   (pr.cond x3
    (pr.bin .lss false (pr.ld y1 0) (pr.lit (.int Go.IntKind.i64 (10))) fun x4 =>
    (pr.cond x4
     (pr.bnd (pr.lenD (pr.ld y1 5) fun x5 =>
     (pr.bin .lss false (pr.ld y1 0) x5 fun x6 =>
      (pr.cond x6
       (pr.rowD 3 (pr.ld y1 5) (pr.ld y1 0) fun w7 =>
       (pr.out 0 [.d (pr.ld y1 0), .r (pr.lr y1 1), .d (pr.cell w7 0), .d (pr.cell w7 1), .d (pr.cell w7 2), .n (pr.ln y1 2), .n (pr.ln y1 3), .d (pr.ld y1 4), .d (pr.ld y1 5), .d (pr.ld y1 6)]))
       (pr.out 0 [.d (pr.ld y1 0), .r (pr.lr y1 1), .d (pr.lit (.int Go.IntKind.i64 (0))), .d (pr.lit (.int Go.IntKind.i64 (0))), .d (pr.lit (.int Go.IntKind.i64 (0))), .n (pr.ln y1 2), .n (pr.ln y1 3), .d (pr.ld y1 4), .d (pr.ld y1 5), .d (pr.ld y1 6)])))) [fun y5 => (pr.bnd (pr.call 26 [(pr.ld y5 2), (pr.natD (pr.ln y5 5))]) [fun y6 => (pr.bin .add false (pr.lit (.int Go.IntKind.i64 (1))) (pr.ld y6 0) fun x7 =>
       (pr.bnd (pr.call 26 [(pr.ld y5 3), (pr.lit (.int Go.IntKind.i64 (9)))]) [fun y8 => (pr.bin .add false (pr.lit (.int Go.IntKind.i64 (1))) (pr.ld y8 0) fun x9 =>
         (pr.bnd (pr.call 26 [(pr.ld y5 4), (pr.lit (.int Go.IntKind.i64 (12)))]) [fun y10 => (pr.eqN (pr.natN 1) (pr.len (pr.rows [[x7, x9, (pr.ld y10 0)]])) (pr.isNil (pr.seg (pr.rows [[x7, x9, (pr.ld y10 0)]]) none (pr.natN 1))
           (pr.bin .add false (pr.ld y5 0) (pr.lit (.int Go.IntKind.i64 (1))) fun x11 =>
           (J1 0 [.d x11, .r (pr.lr y5 1), .n (pr.ln y5 5), .n (pr.ln y5 6), .d (pr.ld y5 7), .d (pr.ld y5 8), .d (pr.ld y5 9)]))
           (pr.fits 24 (pr.len (pr.seg (pr.rows [[x7, x9, (pr.ld y10 0)]]) none (pr.natN 1)))
           (pr.bin .add false (pr.ld y5 0) (pr.lit (.int Go.IntKind.i64 (1))) fun x11 =>
           (J1 1 [.d x11, .r (pr.seg (pr.rows [[x7, x9, (pr.ld y10 0)]]) none (pr.natN 1)), .r (pr.lr y5 1), .n (pr.ln y5 5), .n (pr.ln y5 6), .n (pr.len (pr.seg (pr.rows [[x7, x9, (pr.ld y10 0)]]) none (pr.natN 1))), .n (pr.len (pr.seg (pr.rows [[x7, x9, (pr.ld y10 0)]]) none (pr.natN 1))), .d (pr.ld y5 7), .d (pr.ld y5 8), .d (pr.ld y5 9)])))))]))]))])])
     (pr.bin .eql false (pr.ld y1 0) (pr.lit (.int Go.IntKind.i64 (0))) fun x5 =>
     (pr.cond x5
      (pr.bnd (pr.lenD (pr.ld y1 5) fun x6 =>
      (pr.bin .lss false (pr.ld y1 0) x6 fun x7 =>
       (pr.cond x7
        (pr.rowD 3 (pr.ld y1 5) (pr.ld y1 0) fun w8 =>
        (pr.out 0 [.d (pr.ld y1 0), .r (pr.lr y1 1), .d (pr.cell w8 0), .d (pr.cell w8 1), .d (pr.cell w8 2), .n (pr.ln y1 2), .n (pr.ln y1 3), .d (pr.ld y1 4), .d (pr.ld y1 5), .d (pr.ld y1 6)]))
        (pr.out 0 [.d (pr.ld y1 0), .r (pr.lr y1 1), .d (pr.lit (.int Go.IntKind.i64 (0))), .d (pr.lit (.int Go.IntKind.i64 (0))), .d (pr.lit (.int Go.IntKind.i64 (0))), .n (pr.ln y1 2), .n (pr.ln y1 3), .d (pr.ld y1 4), .d (pr.ld y1 5), .d (pr.ld y1 6)])))) [fun y6 => (pr.bnd (pr.call 26 [(pr.ld y6 2), (pr.natD (pr.ln y6 5))]) [fun y7 => (pr.bin .add false (pr.lit (.int Go.IntKind.i64 (1))) (pr.ld y7 0) fun x8 =>
        (pr.bnd (pr.call 26 [(pr.ld y6 3), (pr.lit (.int Go.IntKind.i64 (9)))]) [fun y9 => (pr.bin .add false (pr.lit (.int Go.IntKind.i64 (1))) (pr.ld y9 0) fun x10 =>
          (pr.bnd (pr.call 26 [(pr.ld y6 4), (pr.lit (.int Go.IntKind.i64 (12)))]) [fun y11 => (pr.eqN (pr.natN 1) (pr.len (pr.rows [[x8, x10, (pr.ld y11 0)]])) (pr.isNil (pr.seg (pr.rows [[x8, x10, (pr.ld y11 0)]]) none (pr.natN 1))
            (pr.bin .add false (pr.ld y6 0) (pr.lit (.int Go.IntKind.i64 (1))) fun x12 =>
            (J1 0 [.d x12, .r (pr.lr y6 1), .n (pr.ln y6 5), .n (pr.ln y6 6), .d (pr.ld y6 7), .d (pr.ld y6 8), .d (pr.ld y6 9)]))
            (pr.fits 24 (pr.len (pr.seg (pr.rows [[x8, x10, (pr.ld y11 0)]]) none (pr.natN 1)))
            (pr.bin .add false (pr.ld y6 0) (pr.lit (.int Go.IntKind.i64 (1))) fun x12 =>
            (J1 1 [.d x12, .r (pr.seg (pr.rows [[x8, x10, (pr.ld y11 0)]]) none (pr.natN 1)), .r (pr.lr y6 1), .n (pr.ln y6 5), .n (pr.ln y6 6), .n (pr.len (pr.seg (pr.rows [[x8, x10, (pr.ld y11 0)]]) none (pr.natN 1))), .n (pr.len (pr.seg (pr.rows [[x8, x10, (pr.ld y11 0)]]) none (pr.natN 1))), .d (pr.ld y6 7), .d (pr.ld y6 8), .d (pr.ld y6 9)])))))]))]))])])
      (pr.out 0 [.r (pr.lr y1 1), .n (pr.ln y1 2), .n (pr.ln y1 3), .d (pr.ld y1 4), .d (pr.ld y1 5), .d (pr.ld y1 6)])))))
    (pr.bin .eql false (pr.ld y1 0) (pr.lit (.int Go.IntKind.i64 (0))) fun x4 =>
    (pr.cond x4
     (pr.bnd (pr.lenD (pr.ld y1 5) fun x5 =>
     (pr.bin .lss false (pr.ld y1 0) x5 fun x6 =>
      (pr.cond x6
       (pr.rowD 3 (pr.ld y1 5) (pr.ld y1 0) fun w7 =>
       (pr.out 0 [.d (pr.ld y1 0), .r (pr.lr y1 1), .d (pr.cell w7 0), .d (pr.cell w7 1), .d (pr.cell w7 2), .n (pr.ln y1 2), .n (pr.ln y1 3), .d (pr.ld y1 4), .d (pr.ld y1 5), .d (pr.ld y1 6)]))
       (pr.out 0 [.d (pr.ld y1 0), .r (pr.lr y1 1), .d (pr.lit (.int Go.IntKind.i64 (0))), .d (pr.lit (.int Go.IntKind.i64 (0))), .d (pr.lit (.int Go.IntKind.i64 (0))), .n (pr.ln y1 2), .n (pr.ln y1 3), .d (pr.ld y1 4), .d (pr.ld y1 5), .d (pr.ld y1 6)])))) [fun y5 => (pr.bnd (pr.call 26 [(pr.ld y5 2), (pr.natD (pr.ln y5 5))]) [fun y6 => (pr.bin .add false (pr.lit (.int Go.IntKind.i64 (1))) (pr.ld y6 0) fun x7 =>
       (pr.bnd (pr.call 26 [(pr.ld y5 3), (pr.lit (.int Go.IntKind.i64 (9)))]) [fun y8 => (pr.bin .add false (pr.lit (.int Go.IntKind.i64 (1))) (pr.ld y8 0) fun x9 =>
         (pr.bnd (pr.call 26 [(pr.ld y5 4), (pr.lit (.int Go.IntKind.i64 (12)))]) [fun y10 => (pr.eqN (pr.natN 1) (pr.len (pr.rows [[x7, x9, (pr.ld y10 0)]])) (pr.isNil (pr.seg (pr.rows [[x7, x9, (pr.ld y10 0)]]) none (pr.natN 1))
           (pr.bin .add false (pr.ld y5 0) (pr.lit (.int Go.IntKind.i64 (1))) fun x11 =>
           (J1 0 [.d x11, .r (pr.lr y5 1), .n (pr.ln y5 5), .n (pr.ln y5 6), .d (pr.ld y5 7), .d (pr.ld y5 8), .d (pr.ld y5 9)]))
           (pr.fits 24 (pr.len (pr.seg (pr.rows [[x7, x9, (pr.ld y10 0)]]) none (pr.natN 1)))
           (pr.bin .add false (pr.ld y5 0) (pr.lit (.int Go.IntKind.i64 (1))) fun x11 =>
           (J1 1 [.d x11, .r (pr.seg (pr.rows [[x7, x9, (pr.ld y10 0)]]) none (pr.natN 1)), .r (pr.lr y5 1), .n (pr.ln y5 5), .n (pr.ln y5 6), .n (pr.len (pr.seg (pr.rows [[x7, x9, (pr.ld y10 0)]]) none (pr.natN 1))), .n (pr.len (pr.seg (pr.rows [[x7, x9, (pr.ld y10 0)]]) none (pr.natN 1))), .d (pr.ld y5 7), .d (pr.ld y5 8), .d (pr.ld y5 9)])))))]))]))])])
     (pr.out 0 [.r (pr.lr y1 1), .n (pr.ln y1 2), .n (pr.ln y1 3), .d (pr.ld y1 4), .d (pr.ld y1 5), .d (pr.ld y1 6)]))))))
def L25_9  : (Nat → List (Y Δ N R M) → Ω) → E → Ω := fun J1 y1 =>
 (pr.lenD (pr.ld y1 8) fun x2 =>
  (pr.bin .lss false (pr.ld y1 0) x2 fun x3 =>
   (pr.cond x3
    (pr.bin .lss false (pr.ld y1 0) (pr.lit (.int Go.IntKind.i64 (10))) fun x4 =>
    (pr.cond x4
     (pr.bnd (pr.lenD (pr.ld y1 8) fun x5 =>
     (pr.bin .lss false (pr.ld y1 0) x5 fun x6 =>
      (pr.cond x6
       (pr.rowD 3 (pr.ld y1 8) (pr.ld y1 0) fun w7 =>
       (pr.out 0 [.d (pr.ld y1 0), .r (pr.lr y1 1), .r (pr.lr y1 2), .d (pr.cell w7 0), .d (pr.cell w7 1), .d (pr.cell w7 2), .n (pr.ln y1 3), .n (pr.ln y1 4), .n (pr.ln y1 5), .n (pr.ln y1 6), .d (pr.ld y1 7), .d (pr.ld y1 8), .d (pr.ld y1 9)]))
       (pr.out 0 [.d (pr.ld y1 0), .r (pr.lr y1 1), .r (pr.lr y1 2), .d (pr.lit (.int Go.IntKind.i64 (0))), .d (pr.lit (.int Go.IntKind.i64 (0))), .d (pr.lit (.int Go.IntKind.i64 (0))), .n (pr.ln y1 3), .n (pr.ln y1 4), .n (pr.ln y1 5), .n (pr.ln y1 6), .d (pr.ld y1 7), .d (pr.ld y1 8), .d (pr.ld y1 9)])))) [fun y5 => (pr.bnd (pr.call 26 [(pr.ld y5 3), (pr.natD (pr.ln y5 6))]) [fun y6 => (pr.bin .add false (pr.lit (.int Go.IntKind.i64 (1))) (pr.ld y6 0) fun x7 =>
       (pr.bnd (pr.call 26 [(pr.ld y5 4), (pr.lit (.int Go.IntKind.i64 (9)))]) [fun y8 => (pr.bin .add false (pr.lit (.int Go.IntKind.i64 (1))) (pr.ld y8 0) fun x9 =>
         (pr.bnd (pr.call 26 [(pr.ld y5 5), (pr.lit (.int Go.IntKind.i64 (12)))]) [fun y10 => (pr.eqN (pr.natN 1) (pr.len (pr.rows [[x7, x9, (pr.ld y10 0)]])) (pr.eqN (pr.ln y5 9) (pr.len (pr.lr y5 1)) (pr.eqN (pr.ln y5 8) (pr.len (pr.lr y5 1)) (pr.fits 24 (pr.addN (pr.ln y5 8) (pr.len (pr.seg (pr.rows [[x7, x9, (pr.ld y10 0)]]) none (pr.natN 1))))
           (pr.bin .add false (pr.ld y5 0) (pr.lit (.int Go.IntKind.i64 (1))) fun x11 =>
           (J1 1 [.d x11, .r (pr.app (pr.lr y5 1) (pr.seg (pr.rows [[x7, x9, (pr.ld y10 0)]]) none (pr.natN 1))), .r (pr.lr y5 2), .n (pr.ln y5 6), .n (pr.ln y5 7), .n (pr.addN (pr.ln y5 8) (pr.len (pr.seg (pr.rows [[x7, x9, (pr.ld y10 0)]]) none (pr.natN 1)))), .n (pr.addN (pr.ln y5 8) (pr.len (pr.seg (pr.rows [[x7, x9, (pr.ld y10 0)]]) none (pr.natN 1)))), .d (pr.ld y5 10), .d (pr.ld y5 11), .d (pr.ld y5 12)]))))))]))]))])])
     (pr.bin .eql false (pr.ld y1 0) (pr.lit (.int Go.IntKind.i64 (0))) fun x5 =>
     (pr.cond x5
      (pr.bnd (pr.lenD (pr.ld y1 8) fun x6 =>
      (pr.bin .lss false (pr.ld y1 0) x6 fun x7 =>
       (pr.cond x7
        (pr.rowD 3 (pr.ld y1 8) (pr.ld y1 0) fun w8 =>
        (pr.out 0 [.d (pr.ld y1 0), .r (pr.lr y1 1), .r (pr.lr y1 2), .d (pr.cell w8 0), .d (pr.cell w8 1), .d (pr.cell w8 2), .n (pr.ln y1 3), .n (pr.ln y1 4), .n (pr.ln y1 5), .n (pr.ln y1 6), .d (pr.ld y1 7), .d (pr.ld y1 8), .d (pr.ld y1 9)]))
        (pr.out 0 [.d (pr.ld y1 0), .r (pr.lr y1 1), .r (pr.lr y1 2), .d (pr.lit (.int Go.IntKind.i64 (0))), .d (pr.lit (.int Go.IntKind.i64 (0))), .d (pr.lit (.int Go.IntKind.i64 (0))), .n (pr.ln y1 3), .n (pr.ln y1 4), .n (pr.ln y1 5), .n (pr.ln y1 6), .d (pr.ld y1 7), .d (pr.ld y1 8), .d (pr.ld y1 9)])))) [fun y6 => (pr.bnd (pr.call 26 [(pr.ld y6 3), (pr.natD (pr.ln y6 6))]) [fun y7 => (pr.bin .add false (pr.lit (.int Go.IntKind.i64 (1))) (pr.ld y7 0) fun x8 =>
        (pr.bnd (pr.call 26 [(pr.ld y6 4), (pr.lit (.int Go.IntKind.i64 (9)))]) [fun y9 => (pr.bin .add false (pr.lit (.int Go.IntKind.i64 (1))) (pr.ld y9 0) fun x10 =>
          (pr.bnd (pr.call 26 [(pr.ld y6 5), (pr.lit (.int Go.IntKind.i64 (12)))]) [fun y11 => (pr.eqN (pr.natN 1) (pr.len (pr.rows [[x8, x10, (pr.ld y11 0)]])) (pr.eqN (pr.ln y6 9) (pr.len (pr.lr y6 1)) (pr.eqN (pr.ln y6 8) (pr.len (pr.lr y6 1)) (pr.fits 24 (pr.addN (pr.ln y6 8) (pr.len (pr.seg (pr.rows [[x8, x10, (pr.ld y11 0)]]) none (pr.natN 1))))
            (pr.bin .add false (pr.ld y6 0) (pr.lit (.int Go.IntKind.i64 (1))) fun x12 =>
            (J1 1 [.d x12, .r (pr.app (pr.lr y6 1) (pr.seg (pr.rows [[x8, x10, (pr.ld y11 0)]]) none (pr.natN 1))), .r (pr.lr y6 2), .n (pr.ln y6 6), .n (pr.ln y6 7), .n (pr.addN (pr.ln y6 8) (pr.len (pr.seg (pr.rows [[x8, x10, (pr.ld y11 0)]]) none (pr.natN 1)))), .n (pr.addN (pr.ln y6 8) (pr.len (pr.seg (pr.rows [[x8, x10, (pr.ld y11 0)]]) none (pr.natN 1)))), .d (pr.ld y6 10), .d (pr.ld y6 11), .d (pr.ld y6 12)]))))))]))]))])])
      (pr.out 1 [.r (pr.lr y1 1), .r (pr.lr y1 2), .n (pr.ln y1 3), .n (pr.ln y1 4), .n (pr.ln y1 5), .n (pr.ln y1 6), .d (pr.ld y1 7), .d (pr.ld y1 8), .d (pr.ld y1 9)])))))
    (pr.bin .eql false (pr.ld y1 0) (pr.lit (.int Go.IntKind.i64 (0))) fun x4 =>
    (pr.cond x4
     (pr.bnd (pr.lenD (pr.ld y1 8) fun x5 =>
     (pr.bin .lss false (pr.ld y1 0) x5 fun x6 =>
      (pr.cond x6
       (pr.rowD 3 (pr.ld y1 8) (pr.ld y1 0) fun w7 =>
       (pr.out 0 [.d (pr.ld y1 0), .r (pr.lr y1 1), .r (pr.lr y1 2), .d (pr.cell w7 0), .d (pr.cell w7 1), .d (pr.cell w7 2), .n (pr.ln y1 3), .n (pr.ln y1 4), .n (pr.ln y1 5), .n (pr.ln y1 6), .d (pr.ld y1 7), .d (pr.ld y1 8), .d (pr.ld y1 9)]))
       (pr.out 0 [.d (pr.ld y1 0), .r (pr.lr y1 1), .r (pr.lr y1 2), .d (pr.lit (.int Go.IntKind.i64 (0))), .d (pr.lit (.int Go.IntKind.i64 (0))), .d (pr.lit (.int Go.IntKind.i64 (0))), .n (pr.ln y1 3), .n (pr.ln y1 4), .n (pr.ln y1 5), .n (pr.ln y1 6), .d (pr.ld y1 7), .d (pr.ld y1 8), .d (pr.ld y1 9)])))) [fun y5 => (pr.bnd (pr.call 26 [(pr.ld y5 3), (pr.natD (pr.ln y5 6))]) [fun y6 => (pr.bin .add false (pr.lit (.int Go.IntKind.i64 (1))) (pr.ld y6 0) fun x7 =>
       (pr.bnd (pr.call 26 [(pr.ld y5 4), (pr.lit (.int Go.IntKind.i64 (9)))]) [fun y8 => (pr.bin .add false (pr.lit (.int Go.IntKind.i64 (1))) (pr.ld y8 0) fun x9 =>
         (pr.bnd (pr.call 26 [(pr.ld y5 5), (pr.lit (.int Go.IntKind.i64 (12)))]) [fun y10 => (pr.eqN (pr.natN 1) (pr.len (pr.rows [[x7, x9, (pr.ld y10 0)]])) (pr.eqN (pr.ln y5 9) (pr.len (pr.lr y5 1)) (pr.eqN (pr.ln y5 8) (pr.len (pr.lr y5 1)) (pr.fits 24 (pr.addN (pr.ln y5 8) (pr.len (pr.seg (pr.rows [[x7, x9, (pr.ld y10 0)]]) none (pr.natN 1))))
           (pr.bin .add false (pr.ld y5 0) (pr.lit (.int Go.IntKind.i64 (1))) fun x11 =>
           (J1 1 [.d x11, .r (pr.app (pr.lr y5 1) (pr.seg (pr.rows [[x7, x9, (pr.ld y10 0)]]) none (pr.natN 1))), .r (pr.lr y5 2), .n (pr.ln y5 6), .n (pr.ln y5 7), .n (pr.addN (pr.ln y5 8) (pr.len (pr.seg (pr.rows [[x7, x9, (pr.ld y10 0)]]) none (pr.natN 1)))), .n (pr.addN (pr.ln y5 8) (pr.len (pr.seg (pr.rows [[x7, x9, (pr.ld y10 0)]]) none (pr.natN 1)))), .d (pr.ld y5 10), .d (pr.ld y5 11), .d (pr.ld y5 12)]))))))]))]))])])
     (pr.out 1 [.r (pr.lr y1 1), .r (pr.lr y1 2), .n (pr.ln y1 3), .n (pr.ln y1 4), .n (pr.ln y1 5), .n (pr.ln y1 6), .d (pr.ld y1 7), .d (pr.ld y1 8), .d (pr.ld y1 9)]))))))
def L25_10  : (Nat → List (Y Δ N R M) → Ω) → E → Ω := fun J2 y2 =>
 (pr.lenD (pr.ld y2 6) fun x3 =>
   (pr.bin .lss false (pr.ld y2 0) x3 fun x4 =>
    (pr.cond x4
     (pr.bin .lss false (pr.ld y2 0) (pr.lit (.int Go.IntKind.i64 (6))) fun x5 =>
     (pr.cond x5
      (pr.bnd (pr.lenD (pr.ld y2 6) fun x6 =>
      (pr.bin .lss false (pr.ld y2 0) x6 fun x7 =>
       (pr.cond x7
        (pr.rowD 3 (pr.ld y2 6) (pr.ld y2 0) fun w8 =>
        (pr.out 0 [.d (pr.ld y2 0), .r (pr.lr y2 1), .d (pr.cell w8 0), .d (pr.cell w8 1), .d (pr.cell w8 2), .n (pr.ln y2 2), .n (pr.ln y2 3), .d (pr.ld y2 4), .d (pr.ld y2 5), .d (pr.ld y2 6)]))
        (pr.out 0 [.d (pr.ld y2 0), .r (pr.lr y2 1), .d (pr.lit (.int Go.IntKind.i64 (0))), .d (pr.lit (.int Go.IntKind.i64 (0))), .d (pr.lit (.int Go.IntKind.i64 (0))), .n (pr.ln y2 2), .n (pr.ln y2 3), .d (pr.ld y2 4), .d (pr.ld y2 5), .d (pr.ld y2 6)])))) [fun y6 => (pr.bin .mul false (pr.lit (.int Go.IntKind.i64 (2))) (pr.ld y6 0) fun x7 =>
       (pr.bin .add false (pr.lit (.int Go.IntKind.i64 (3))) x7 fun x8 =>
        (pr.bnd (pr.call 26 [(pr.ld y6 2), (pr.lit (.int Go.IntKind.i64 (4)))]) [fun y9 => (pr.bin .add false (pr.lit (.int Go.IntKind.i64 (1))) (pr.ld y9 0) fun x10 =>
          (pr.bnd (pr.call 26 [(pr.ld y6 3), (pr.lit (.int Go.IntKind.i64 (0)))]) [fun y11 => (pr.bin .sub false (pr.lit (.int Go.IntKind.i64 (0))) (pr.ld y11 0) fun x12 =>
            (pr.bnd (pr.call 26 [(pr.ld y6 4), x12]) [fun y13 => (pr.bin .add false (pr.ld y11 0) (pr.ld y13 0) fun x14 =>
              (pr.eqN (pr.natN 1) (pr.len (pr.rows [[x8, x10, (pr.ld y11 0), x14]])) (pr.isNil (pr.seg (pr.rows [[x8, x10, (pr.ld y11 0), x14]]) none (pr.natN 1))
               (pr.bin .add false (pr.ld y6 0) (pr.lit (.int Go.IntKind.i64 (1))) fun x15 =>
               (J2 0 [.d x15, .r (pr.lr y6 1), .n (pr.ln y6 5), .n (pr.ln y6 6), .d (pr.ld y6 7), .d (pr.ld y6 8), .d (pr.ld y6 9)]))
               (pr.fits 32 (pr.len (pr.seg (pr.rows [[x8, x10, (pr.ld y11 0), x14]]) none (pr.natN 1)))
               (pr.bin .add false (pr.ld y6 0) (pr.lit (.int Go.IntKind.i64 (1))) fun x15 =>
               (J2 1 [.n (pr.len (pr.seg (pr.rows [[x8, x10, (pr.ld y11 0), x14]]) none (pr.natN 1))), .n (pr.len (pr.seg (pr.rows [[x8, x10, (pr.ld y11 0), x14]]) none (pr.natN 1))), .d x15, .r (pr.lr y6 1), .r (pr.seg (pr.rows [[x8, x10, (pr.ld y11 0), x14]]) none (pr.natN 1)), .n (pr.ln y6 5), .n (pr.ln y6 6), .d (pr.ld y6 7), .d (pr.ld y6 8), .d (pr.ld y6 9)]))))))]))]))])))])
      (pr.bin .eql false (pr.ld y2 0) (pr.lit (.int Go.IntKind.i64 (0))) fun x6 =>
      (pr.cond x6
       (pr.bnd (pr.lenD (pr.ld y2 6) fun x7 =>
       (pr.bin .lss false (pr.ld y2 0) x7 fun x8 =>
        (pr.cond x8
         (pr.rowD 3 (pr.ld y2 6) (pr.ld y2 0) fun w9 =>
         (pr.out 0 [.d (pr.ld y2 0), .r (pr.lr y2 1), .d (pr.cell w9 0), .d (pr.cell w9 1), .d (pr.cell w9 2), .n (pr.ln y2 2), .n (pr.ln y2 3), .d (pr.ld y2 4), .d (pr.ld y2 5), .d (pr.ld y2 6)]))
         (pr.out 0 [.d (pr.ld y2 0), .r (pr.lr y2 1), .d (pr.lit (.int Go.IntKind.i64 (0))), .d (pr.lit (.int Go.IntKind.i64 (0))), .d (pr.lit (.int Go.IntKind.i64 (0))), .n (pr.ln y2 2), .n (pr.ln y2 3), .d (pr.ld y2 4), .d (pr.ld y2 5), .d (pr.ld y2 6)])))) [fun y7 => (pr.bin .mul false (pr.lit (.int Go.IntKind.i64 (2))) (pr.ld y7 0) fun x8 =>
        (pr.bin .add false (pr.lit (.int Go.IntKind.i64 (3))) x8 fun x9 =>
         (pr.bnd (pr.call 26 [(pr.ld y7 2), (pr.lit (.int Go.IntKind.i64 (4)))]) [fun y10 => (pr.bin .add false (pr.lit (.int Go.IntKind.i64 (1))) (pr.ld y10 0) fun x11 =>
           (pr.bnd (pr.call 26 [(pr.ld y7 3), (pr.lit (.int Go.IntKind.i64 (0)))]) [fun y12 => (pr.bin .sub false (pr.lit (.int Go.IntKind.i64 (0))) (pr.ld y12 0) fun x13 =>
             (pr.bnd (pr.call 26 [(pr.ld y7 4), x13]) [fun y14 => (pr.bin .add false (pr.ld y12 0) (pr.ld y14 0) fun x15 =>
               (pr.eqN (pr.natN 1) (pr.len (pr.rows [[x9, x11, (pr.ld y12 0), x15]])) (pr.isNil (pr.seg (pr.rows [[x9, x11, (pr.ld y12 0), x15]]) none (pr.natN 1))
                (pr.bin .add false (pr.ld y7 0) (pr.lit (.int Go.IntKind.i64 (1))) fun x16 =>
                (J2 0 [.d x16, .r (pr.lr y7 1), .n (pr.ln y7 5), .n (pr.ln y7 6), .d (pr.ld y7 7), .d (pr.ld y7 8), .d (pr.ld y7 9)]))
                (pr.fits 32 (pr.len (pr.seg (pr.rows [[x9, x11, (pr.ld y12 0), x15]]) none (pr.natN 1)))
                (pr.bin .add false (pr.ld y7 0) (pr.lit (.int Go.IntKind.i64 (1))) fun x16 =>
                (J2 1 [.n (pr.len (pr.seg (pr.rows [[x9, x11, (pr.ld y12 0), x15]]) none (pr.natN 1))), .n (pr.len (pr.seg (pr.rows [[x9, x11, (pr.ld y12 0), x15]]) none (pr.natN 1))), .d x16, .r (pr.lr y7 1), .r (pr.seg (pr.rows [[x9, x11, (pr.ld y12 0), x15]]) none (pr.natN 1)), .n (pr.ln y7 5), .n (pr.ln y7 6), .d (pr.ld y7 7), .d (pr.ld y7 8), .d (pr.ld y7 9)]))))))]))]))])))])
       (pr.out 0 [.r (pr.lr y2 1), .n (pr.ln y2 2), .n (pr.ln y2 3)])))))
     (pr.bin .eql false (pr.ld y2 0) (pr.lit (.int Go.IntKind.i64 (0))) fun x5 =>
     (pr.cond x5
      (pr.bnd (pr.lenD (pr.ld y2 6) fun x6 =>
      (pr.bin .lss false (pr.ld y2 0) x6 fun x7 =>
       (pr.cond x7
        (pr.rowD 3 (pr.ld y2 6) (pr.ld y2 0) fun w8 =>
        (pr.out 0 [.d (pr.ld y2 0), .r (pr.lr y2 1), .d (pr.cell w8 0), .d (pr.cell w8 1), .d (pr.cell w8 2), .n (pr.ln y2 2), .n (pr.ln y2 3), .d (pr.ld y2 4), .d (pr.ld y2 5), .d (pr.ld y2 6)]))
        (pr.out 0 [.d (pr.ld y2 0), .r (pr.lr y2 1), .d (pr.lit (.int Go.IntKind.i64 (0))), .d (pr.lit (.int Go.IntKind.i64 (0))), .d (pr.lit (.int Go.IntKind.i64 (0))), .n (pr.ln y2 2), .n (pr.ln y2 3), .d (pr.ld y2 4), .d (pr.ld y2 5), .d (pr.ld y2 6)])))) [fun y6 => (pr.bin .mul false (pr.lit (.int Go.IntKind.i64 (2))) (pr.ld y6 0) fun x7 =>
       (pr.bin .add false (pr.lit (.int Go.IntKind.i64 (3))) x7 fun x8 =>
        (pr.bnd (pr.call 26 [(pr.ld y6 2), (pr.lit (.int Go.IntKind.i64 (4)))]) [fun y9 => (pr.bin .add false (pr.lit (.int Go.IntKind.i64 (1))) (pr.ld y9 0) fun x10 =>
          (pr.bnd (pr.call 26 [(pr.ld y6 3), (pr.lit (.int Go.IntKind.i64 (0)))]) [fun y11 => (pr.bin .sub false (pr.lit (.int Go.IntKind.i64 (0))) (pr.ld y11 0) fun x12 =>
            (pr.bnd (pr.call 26 [(pr.ld y6 4), x12]) [fun y13 => (pr.bin .add false (pr.ld y11 0) (pr.ld y13 0) fun x14 =>
              (pr.eqN (pr.natN 1) (pr.len (pr.rows [[x8, x10, (pr.ld y11 0), x14]])) (pr.isNil (pr.seg (pr.rows [[x8, x10, (pr.ld y11 0), x14]]) none (pr.natN 1))
               (pr.bin .add false (pr.ld y6 0) (pr.lit (.int Go.IntKind.i64 (1))) fun x15 =>
               (J2 0 [.d x15, .r (pr.lr y6 1), .n (pr.ln y6 5), .n (pr.ln y6 6), .d (pr.ld y6 7), .d (pr.ld y6 8), .d (pr.ld y6 9)]))
               (pr.fits 32 (pr.len (pr.seg (pr.rows [[x8, x10, (pr.ld y11 0), x14]]) none (pr.natN 1)))
               (pr.bin .add false (pr.ld y6 0) (pr.lit (.int Go.IntKind.i64 (1))) fun x15 =>
               (J2 1 [.n (pr.len (pr.seg (pr.rows [[x8, x10, (pr.ld y11 0), x14]]) none (pr.natN 1))), .n (pr.len (pr.seg (pr.rows [[x8, x10, (pr.ld y11 0), x14]]) none (pr.natN 1))), .d x15, .r (pr.lr y6 1), .r (pr.seg (pr.rows [[x8, x10, (pr.ld y11 0), x14]]) none (pr.natN 1)), .n (pr.ln y6 5), .n (pr.ln y6 6), .d (pr.ld y6 7), .d (pr.ld y6 8), .d (pr.ld y6 9)]))))))]))]))])))])
      (pr.out 0 [.r (pr.lr y2 1), .n (pr.ln y2 2), .n (pr.ln y2 3)]))))))
def L25_11  : (Nat → List (Y Δ N R M) → Ω) → E → Ω := fun J2 y2 =>
 (pr.lenD (pr.ld y2 9) fun x3 =>
   (pr.bin .lss false (pr.ld y2 2) x3 fun x4 =>
    (pr.cond x4
     (pr.bin .lss false (pr.ld y2 2) (pr.lit (.int Go.IntKind.i64 (6))) fun x5 =>
     (pr.cond x5
      (pr.bnd (pr.lenD (pr.ld y2 9) fun x6 =>
      (pr.bin .lss false (pr.ld y2 2) x6 fun x7 =>
       (pr.cond x7
        (pr.rowD 3 (pr.ld y2 9) (pr.ld y2 2) fun w8 =>
        (pr.out 0 [.n (pr.ln y2 0), .n (pr.ln y2 1), .d (pr.ld y2 2), .r (pr.lr y2 3), .d (pr.cell w8 0), .d (pr.cell w8 1), .d (pr.cell w8 2), .r (pr.lr y2 4), .n (pr.ln y2 5), .n (pr.ln y2 6), .d (pr.ld y2 7), .d (pr.ld y2 8), .d (pr.ld y2 9)]))
        (pr.out 0 [.n (pr.ln y2 0), .n (pr.ln y2 1), .d (pr.ld y2 2), .r (pr.lr y2 3), .d (pr.lit (.int Go.IntKind.i64 (0))), .d (pr.lit (.int Go.IntKind.i64 (0))), .d (pr.lit (.int Go.IntKind.i64 (0))), .r (pr.lr y2 4), .n (pr.ln y2 5), .n (pr.ln y2 6), .d (pr.ld y2 7), .d (pr.ld y2 8), .d (pr.ld y2 9)])))) [fun y6 => (pr.bin .mul false (pr.lit (.int Go.IntKind.i64 (2))) (pr.ld y6 2) fun x7 =>
       (pr.bin .add false (pr.lit (.int Go.IntKind.i64 (3))) x7 fun x8 =>
        (pr.bnd (pr.call 26 [(pr.ld y6 4), (pr.lit (.int Go.IntKind.i64 (4)))]) [fun y9 => (pr.bin .add false (pr.lit (.int Go.IntKind.i64 (1))) (pr.ld y9 0) fun x10 =>
          (pr.bnd (pr.call 26 [(pr.ld y6 5), (pr.lit (.int Go.IntKind.i64 (0)))]) [fun y11 => (pr.bin .sub false (pr.lit (.int Go.IntKind.i64 (0))) (pr.ld y11 0) fun x12 =>
            (pr.bnd (pr.call 26 [(pr.ld y6 6), x12]) [fun y13 => (pr.bin .add false (pr.ld y11 0) (pr.ld y13 0) fun x14 =>
              (pr.eqN (pr.natN 1) (pr.len (pr.rows [[x8, x10, (pr.ld y11 0), x14]])) (pr.eqN (pr.ln y6 1) (pr.len (pr.lr y6 7)) (pr.eqN (pr.ln y6 0) (pr.len (pr.lr y6 7)) (pr.fits 32 (pr.addN (pr.ln y6 0) (pr.len (pr.seg (pr.rows [[x8, x10, (pr.ld y11 0), x14]]) none (pr.natN 1))))
               (pr.bin .add false (pr.ld y6 2) (pr.lit (.int Go.IntKind.i64 (1))) fun x15 =>
               (J2 1 [.n (pr.addN (pr.ln y6 0) (pr.len (pr.seg (pr.rows [[x8, x10, (pr.ld y11 0), x14]]) none (pr.natN 1)))), .n (pr.addN (pr.ln y6 0) (pr.len (pr.seg (pr.rows [[x8, x10, (pr.ld y11 0), x14]]) none (pr.natN 1)))), .d x15, .r (pr.lr y6 3), .r (pr.app (pr.lr y6 7) (pr.seg (pr.rows [[x8, x10, (pr.ld y11 0), x14]]) none (pr.natN 1))), .n (pr.ln y6 8), .n (pr.ln y6 9), .d (pr.ld y6 10), .d (pr.ld y6 11), .d (pr.ld y6 12)])))))))]))]))])))])
      (pr.bin .eql false (pr.ld y2 2) (pr.lit (.int Go.IntKind.i64 (0))) fun x6 =>
      (pr.cond x6
       (pr.bnd (pr.lenD (pr.ld y2 9) fun x7 =>
       (pr.bin .lss false (pr.ld y2 2) x7 fun x8 =>
        (pr.cond x8
         (pr.rowD 3 (pr.ld y2 9) (pr.ld y2 2) fun w9 =>
         (pr.out 0 [.n (pr.ln y2 0), .n (pr.ln y2 1), .d (pr.ld y2 2), .r (pr.lr y2 3), .d (pr.cell w9 0), .d (pr.cell w9 1), .d (pr.cell w9 2), .r (pr.lr y2 4), .n (pr.ln y2 5), .n (pr.ln y2 6), .d (pr.ld y2 7), .d (pr.ld y2 8), .d (pr.ld y2 9)]))
         (pr.out 0 [.n (pr.ln y2 0), .n (pr.ln y2 1), .d (pr.ld y2 2), .r (pr.lr y2 3), .d (pr.lit (.int Go.IntKind.i64 (0))), .d (pr.lit (.int Go.IntKind.i64 (0))), .d (pr.lit (.int Go.IntKind.i64 (0))), .r (pr.lr y2 4), .n (pr.ln y2 5), .n (pr.ln y2 6), .d (pr.ld y2 7), .d (pr.ld y2 8), .d (pr.ld y2 9)])))) [fun y7 => (pr.bin .mul false (pr.lit (.int Go.IntKind.i64 (2))) (pr.ld y7 2) fun x8 =>
        (pr.bin .add false (pr.lit (.int Go.IntKind.i64 (3))) x8 fun x9 =>
         (pr.bnd (pr.call 26 [(pr.ld y7 4), (pr.lit (.int Go.IntKind.i64 (4)))]) [fun y10 => (pr.bin .add false (pr.lit (.int Go.IntKind.i64 (1))) (pr.ld y10 0) fun x11 =>
           (pr.bnd (pr.call 26 [(pr.ld y7 5), (pr.lit (.int Go.IntKind.i64 (0)))]) [fun y12 => (pr.bin .sub false (pr.lit (.int Go.IntKind.i64 (0))) (pr.ld y12 0) fun x13 =>
             (pr.bnd (pr.call 26 [(pr.ld y7 6), x13]) [fun y14 => (pr.bin .add false (pr.ld y12 0) (pr.ld y14 0) fun x15 =>
               (pr.eqN (pr.natN 1) (pr.len (pr.rows [[x9, x11, (pr.ld y12 0), x15]])) (pr.eqN (pr.ln y7 1) (pr.len (pr.lr y7 7)) (pr.eqN (pr.ln y7 0) (pr.len (pr.lr y7 7)) (pr.fits 32 (pr.addN (pr.ln y7 0) (pr.len (pr.seg (pr.rows [[x9, x11, (pr.ld y12 0), x15]]) none (pr.natN 1))))
                (pr.bin .add false (pr.ld y7 2) (pr.lit (.int Go.IntKind.i64 (1))) fun x16 =>
                (J2 1 [.n (pr.addN (pr.ln y7 0) (pr.len (pr.seg (pr.rows [[x9, x11, (pr.ld y12 0), x15]]) none (pr.natN 1)))), .n (pr.addN (pr.ln y7 0) (pr.len (pr.seg (pr.rows [[x9, x11, (pr.ld y12 0), x15]]) none (pr.natN 1)))), .d x16, .r (pr.lr y7 3), .r (pr.app (pr.lr y7 7) (pr.seg (pr.rows [[x9, x11, (pr.ld y12 0), x15]]) none (pr.natN 1))), .n (pr.ln y7 8), .n (pr.ln y7 9), .d (pr.ld y7 10), .d (pr.ld y7 11), .d (pr.ld y7 12)])))))))]))]))])))])
       (pr.out 1 [.n (pr.ln y2 0), .n (pr.ln y2 1), .r (pr.lr y2 3), .r (pr.lr y2 4), .n (pr.ln y2 5), .n (pr.ln y2 6)])))))
     (pr.bin .eql false (pr.ld y2 2) (pr.lit (.int Go.IntKind.i64 (0))) fun x5 =>
     (pr.cond x5
      (pr.bnd (pr.lenD (pr.ld y2 9) fun x6 =>
      (pr.bin .lss false (pr.ld y2 2) x6 fun x7 =>
       (pr.cond x7
        (pr.rowD 3 (pr.ld y2 9) (pr.ld y2 2) fun w8 =>
        (pr.out 0 [.n (pr.ln y2 0), .n (pr.ln y2 1), .d (pr.ld y2 2), .r (pr.lr y2 3), .d (pr.cell w8 0), .d (pr.cell w8 1), .d (pr.cell w8 2), .r (pr.lr y2 4), .n (pr.ln y2 5), .n (pr.ln y2 6), .d (pr.ld y2 7), .d (pr.ld y2 8), .d (pr.ld y2 9)]))
        (pr.out 0 [.n (pr.ln y2 0), .n (pr.ln y2 1), .d (pr.ld y2 2), .r (pr.lr y2 3), .d (pr.lit (.int Go.IntKind.i64 (0))), .d (pr.lit (.int Go.IntKind.i64 (0))), .d (pr.lit (.int Go.IntKind.i64 (0))), .r (pr.lr y2 4), .n (pr.ln y2 5), .n (pr.ln y2 6), .d (pr.ld y2 7), .d (pr.ld y2 8), .d (pr.ld y2 9)])))) [fun y6 => (pr.bin .mul false (pr.lit (.int Go.IntKind.i64 (2))) (pr.ld y6 2) fun x7 =>
       (pr.bin .add false (pr.lit (.int Go.IntKind.i64 (3))) x7 fun x8 =>
        (pr.bnd (pr.call 26 [(pr.ld y6 4), (pr.lit (.int Go.IntKind.i64 (4)))]) [fun y9 => (pr.bin .add false (pr.lit (.int Go.IntKind.i64 (1))) (pr.ld y9 0) fun x10 =>
          (pr.bnd (pr.call 26 [(pr.ld y6 5), (pr.lit (.int Go.IntKind.i64 (0)))]) [fun y11 => (pr.bin .sub false (pr.lit (.int Go.IntKind.i64 (0))) (pr.ld y11 0) fun x12 =>
            (pr.bnd (pr.call 26 [(pr.ld y6 6), x12]) [fun y13 => (pr.bin .add false (pr.ld y11 0) (pr.ld y13 0) fun x14 =>
              (pr.eqN (pr.natN 1) (pr.len (pr.rows [[x8, x10, (pr.ld y11 0), x14]])) (pr.eqN (pr.ln y6 1) (pr.len (pr.lr y6 7)) (pr.eqN (pr.ln y6 0) (pr.len (pr.lr y6 7)) (pr.fits 32 (pr.addN (pr.ln y6 0) (pr.len (pr.seg (pr.rows [[x8, x10, (pr.ld y11 0), x14]]) none (pr.natN 1))))
               (pr.bin .add false (pr.ld y6 2) (pr.lit (.int Go.IntKind.i64 (1))) fun x15 =>
               (J2 1 [.n (pr.addN (pr.ln y6 0) (pr.len (pr.seg (pr.rows [[x8, x10, (pr.ld y11 0), x14]]) none (pr.natN 1)))), .n (pr.addN (pr.ln y6 0) (pr.len (pr.seg (pr.rows [[x8, x10, (pr.ld y11 0), x14]]) none (pr.natN 1)))), .d x15, .r (pr.lr y6 3), .r (pr.app (pr.lr y6 7) (pr.seg (pr.rows [[x8, x10, (pr.ld y11 0), x14]]) none (pr.natN 1))), .n (pr.ln y6 8), .n (pr.ln y6 9), .d (pr.ld y6 10), .d (pr.ld y6 11), .d (pr.ld y6 12)])))))))]))]))])))])
      (pr.out 1 [.n (pr.ln y2 0), .n (pr.ln y2 1), .r (pr.lr y2 3), .r (pr.lr y2 4), .n (pr.ln y2 5), .n (pr.ln y2 6)]))))))
def L25_12  : (Nat → List (Y Δ N R M) → Ω) → E → Ω := fun J2 y2 =>
 (pr.lenD (pr.ld y2 9) fun x3 =>
   (pr.bin .lss false (pr.ld y2 0) x3 fun x4 =>
    (pr.cond x4
     (pr.bin .lss false (pr.ld y2 0) (pr.lit (.int Go.IntKind.i64 (6))) fun x5 =>
     (pr.cond x5
      (pr.bnd (pr.lenD (pr.ld y2 9) fun x6 =>
      (pr.bin .lss false (pr.ld y2 0) x6 fun x7 =>
       (pr.cond x7
        (pr.rowD 3 (pr.ld y2 9) (pr.ld y2 0) fun w8 =>
        (pr.out 0 [.d (pr.ld y2 0), .r (pr.lr y2 1), .r (pr.lr y2 2), .d (pr.cell w8 0), .d (pr.cell w8 1), .d (pr.cell w8 2), .n (pr.ln y2 3), .n (pr.ln y2 4), .n (pr.ln y2 5), .n (pr.ln y2 6), .d (pr.ld y2 7), .d (pr.ld y2 8), .d (pr.ld y2 9)]))
        (pr.out 0 [.d (pr.ld y2 0), .r (pr.lr y2 1), .r (pr.lr y2 2), .d (pr.lit (.int Go.IntKind.i64 (0))), .d (pr.lit (.int Go.IntKind.i64 (0))), .d (pr.lit (.int Go.IntKind.i64 (0))), .n (pr.ln y2 3), .n (pr.ln y2 4), .n (pr.ln y2 5), .n (pr.ln y2 6), .d (pr.ld y2 7), .d (pr.ld y2 8), .d (pr.ld y2 9)])))) [fun y6 => (pr.bin .mul false (pr.lit (.int Go.IntKind.i64 (2))) (pr.ld y6 0) fun x7 =>
       (pr.bin .add false (pr.lit (.int Go.IntKind.i64 (3))) x7 fun x8 =>
        (pr.bnd (pr.call 26 [(pr.ld y6 3), (pr.lit (.int Go.IntKind.i64 (4)))]) [fun y9 => (pr.bin .add false (pr.lit (.int Go.IntKind.i64 (1))) (pr.ld y9 0) fun x10 =>
          (pr.bnd (pr.call 26 [(pr.ld y6 4), (pr.natD (pr.ln y6 8))]) [fun y11 => (pr.bin .sub false (pr.natD (pr.ln y6 8)) (pr.ld y11 0) fun x12 =>
            (pr.bnd (pr.call 26 [(pr.ld y6 5), x12]) [fun y13 => (pr.bin .add false (pr.ld y11 0) (pr.ld y13 0) fun x14 =>
              (pr.eqN (pr.natN 1) (pr.len (pr.rows [[x8, x10, (pr.ld y11 0), x14]])) (pr.isNil (pr.seg (pr.rows [[x8, x10, (pr.ld y11 0), x14]]) none (pr.natN 1))
               (pr.bin .add false (pr.ld y6 0) (pr.lit (.int Go.IntKind.i64 (1))) fun x15 =>
               (J2 0 [.d x15, .r (pr.lr y6 1), .r (pr.lr y6 2), .n (pr.ln y6 6), .n (pr.ln y6 7), .n (pr.ln y6 8), .n (pr.ln y6 9), .d (pr.ld y6 10), .d (pr.ld y6 11), .d (pr.ld y6 12)]))
               (pr.fits 32 (pr.len (pr.seg (pr.rows [[x8, x10, (pr.ld y11 0), x14]]) none (pr.natN 1)))
               (pr.bin .add false (pr.ld y6 0) (pr.lit (.int Go.IntKind.i64 (1))) fun x15 =>
               (J2 1 [.n (pr.len (pr.seg (pr.rows [[x8, x10, (pr.ld y11 0), x14]]) none (pr.natN 1))), .n (pr.len (pr.seg (pr.rows [[x8, x10, (pr.ld y11 0), x14]]) none (pr.natN 1))), .d x15, .r (pr.lr y6 1), .r (pr.lr y6 2), .r (pr.seg (pr.rows [[x8, x10, (pr.ld y11 0), x14]]) none (pr.natN 1)), .n (pr.ln y6 6), .n (pr.ln y6 7), .n (pr.ln y6 8), .n (pr.ln y6 9), .d (pr.ld y6 10), .d (pr.ld y6 11), .d (pr.ld y6 12)]))))))]))]))])))])
      (pr.bin .eql false (pr.ld y2 0) (pr.lit (.int Go.IntKind.i64 (0))) fun x6 =>
      (pr.cond x6
       (pr.bnd (pr.lenD (pr.ld y2 9) fun x7 =>
       (pr.bin .lss false (pr.ld y2 0) x7 fun x8 =>
        (pr.cond x8
         (pr.rowD 3 (pr.ld y2 9) (pr.ld y2 0) fun w9 =>
         (pr.out 0 [.d (pr.ld y2 0), .r (pr.lr y2 1), .r (pr.lr y2 2), .d (pr.cell w9 0), .d (pr.cell w9 1), .d (pr.cell w9 2), .n (pr.ln y2 3), .n (pr.ln y2 4), .n (pr.ln y2 5), .n (pr.ln y2 6), .d (pr.ld y2 7), .d (pr.ld y2 8), .d (pr.ld y2 9)]))
         (pr.out 0 [.d (pr.ld y2 0), .r (pr.lr y2 1), .r (pr.lr y2 2), .d (pr.lit (.int Go.IntKind.i64 (0))), .d (pr.lit (.int Go.IntKind.i64 (0))), .d (pr.lit (.int Go.IntKind.i64 (0))), .n (pr.ln y2 3), .n (pr.ln y2 4), .n (pr.ln y2 5), .n (pr.ln y2 6), .d (pr.ld y2 7), .d (pr.ld y2 8), .d (pr.ld y2 9)])))) [fun y7 => (pr.bin .mul false (pr.lit (.int Go.IntKind.i64 (2))) (pr.ld y7 0) fun x8 =>
        (pr.bin .add false (pr.lit (.int Go.IntKind.i64 (3))) x8 fun x9 =>
         (pr.bnd (pr.call 26 [(pr.ld y7 3), (pr.lit (.int Go.IntKind.i64 (4)))]) [fun y10 => (pr.bin .add false (pr.lit (.int Go.IntKind.i64 (1))) (pr.ld y10 0) fun x11 =>
           (pr.bnd (pr.call 26 [(pr.ld y7 4), (pr.natD (pr.ln y7 8))]) [fun y12 => (pr.bin .sub false (pr.natD (pr.ln y7 8)) (pr.ld y12 0) fun x13 =>
             (pr.bnd (pr.call 26 [(pr.ld y7 5), x13]) [fun y14 => (pr.bin .add false (pr.ld y12 0) (pr.ld y14 0) fun x15 =>
               (pr.eqN (pr.natN 1) (pr.len (pr.rows [[x9, x11, (pr.ld y12 0), x15]])) (pr.isNil (pr.seg (pr.rows [[x9, x11, (pr.ld y12 0), x15]]) none (pr.natN 1))
                (pr.bin .add false (pr.ld y7 0) (pr.lit (.int Go.IntKind.i64 (1))) fun x16 =>
                (J2 0 [.d x16, .r (pr.lr y7 1), .r (pr.lr y7 2), .n (pr.ln y7 6), .n (pr.ln y7 7), .n (pr.ln y7 8), .n (pr.ln y7 9), .d (pr.ld y7 10), .d (pr.ld y7 11), .d (pr.ld y7 12)]))
                (pr.fits 32 (pr.len (pr.seg (pr.rows [[x9, x11, (pr.ld y12 0), x15]]) none (pr.natN 1)))
                (pr.bin .add false (pr.ld y7 0) (pr.lit (.int Go.IntKind.i64 (1))) fun x16 =>
                (J2 1 [.n (pr.len (pr.seg (pr.rows [[x9, x11, (pr.ld y12 0), x15]]) none (pr.natN 1))), .n (pr.len (pr.seg (pr.rows [[x9, x11, (pr.ld y12 0), x15]]) none (pr.natN 1))), .d x16, .r (pr.lr y7 1), .r (pr.lr y7 2), .r (pr.seg (pr.rows [[x9, x11, (pr.ld y12 0), x15]]) none (pr.natN 1)), .n (pr.ln y7 6), .n (pr.ln y7 7), .n (pr.ln y7 8), .n (pr.ln y7 9), .d (pr.ld y7 10), .d (pr.ld y7 11), .d (pr.ld y7 12)]))))))]))]))])))])
       (pr.out 0 [.r (pr.lr y2 1), .r (pr.lr y2 2), .n (pr.ln y2 3), .n (pr.ln y2 4), .n (pr.ln y2 5), .n (pr.ln y2 6)])))))
     (pr.bin .eql false (pr.ld y2 0) (pr.lit (.int Go.IntKind.i64 (0))) fun x5 =>
     (pr.cond x5
      (pr.bnd (pr.lenD (pr.ld y2 9) fun x6 =>
      (pr.bin .lss false (pr.ld y2 0) x6 fun x7 =>
       (pr.cond x7
        (pr.rowD 3 (pr.ld y2 9) (pr.ld y2 0) fun w8 =>
        (pr.out 0 [.d (pr.ld y2 0), .r (pr.lr y2 1), .r (pr.lr y2 2), .d (pr.cell w8 0), .d (pr.cell w8 1), .d (pr.cell w8 2), .n (pr.ln y2 3), .n (pr.ln y2 4), .n (pr.ln y2 5), .n (pr.ln y2 6), .d (pr.ld y2 7), .d (pr.ld y2 8), .d (pr.ld y2 9)]))
        (pr.out 0 [.d (pr.ld y2 0), .r (pr.lr y2 1), .r (pr.lr y2 2), .d (pr.lit (.int Go.IntKind.i64 (0))), .d (pr.lit (.int Go.IntKind.i64 (0))), .d (pr.lit (.int Go.IntKind.i64 (0))), .n (pr.ln y2 3), .n (pr.ln y2 4), .n (pr.ln y2 5), .n (pr.ln y2 6), .d (pr.ld y2 7), .d (pr.ld y2 8), .d (pr.ld y2 9)])))) [fun y6 => (pr.bin .mul false (pr.lit (.int Go.IntKind.i64 (2))) (pr.ld y6 0) fun x7 =>
       (pr.bin .add false (pr.lit (.int Go.IntKind.i64 (3))) x7 fun x8 =>
        (pr.bnd (pr.call 26 [(pr.ld y6 3), (pr.lit (.int Go.IntKind.i64 (4)))]) [fun y9 => (pr.bin .add false (pr.lit (.int Go.IntKind.i64 (1))) (pr.ld y9 0) fun x10 =>
          (pr.bnd (pr.call 26 [(pr.ld y6 4), (pr.natD (pr.ln y6 8))]) [fun y11 => (pr.bin .sub false (pr.natD (pr.ln y6 8)) (pr.ld y11 0) fun x12 =>
            (pr.bnd (pr.call 26 [(pr.ld y6 5), x12]) [fun y13 => (pr.bin .add false (pr.ld y11 0) (pr.ld y13 0) fun x14 =>
              (pr.eqN (pr.natN 1) (pr.len (pr.rows [[x8, x10, (pr.ld y11 0), x14]])) (pr.isNil (pr.seg (pr.rows [[x8, x10, (pr.ld y11 0), x14]]) none (pr.natN 1))
               (pr.bin .add false (pr.ld y6 0) (pr.lit (.int Go.IntKind.i64 (1))) fun x15 =>
               (J2 0 [.d x15, .r (pr.lr y6 1), .r (pr.lr y6 2), .n (pr.ln y6 6), .n (pr.ln y6 7), .n (pr.ln y6 8), .n (pr.ln y6 9), .d (pr.ld y6 10), .d (pr.ld y6 11), .d (pr.ld y6 12)]))
               (pr.fits 32 (pr.len (pr.seg (pr.rows [[x8, x10, (pr.ld y11 0), x14]]) none (pr.natN 1)))
               (pr.bin .add false (pr.ld y6 0) (pr.lit (.int Go.IntKind.i64 (1))) fun x15 =>
               (J2 1 [.n (pr.len (pr.seg (pr.rows [[x8, x10, (pr.ld y11 0), x14]]) none (pr.natN 1))), .n (pr.len (pr.seg (pr.rows [[x8, x10, (pr.ld y11 0), x14]]) none (pr.natN 1))), .d x15, .r (pr.lr y6 1), .r (pr.lr y6 2), .r (pr.seg (pr.rows [[x8, x10, (pr.ld y11 0), x14]]) none (pr.natN 1)), .n (pr.ln y6 6), .n (pr.ln y6 7), .n (pr.ln y6 8), .n (pr.ln y6 9), .d (pr.ld y6 10), .d (pr.ld y6 11), .d (pr.ld y6 12)]))))))]))]))])))])
      (pr.out 0 [.r (pr.lr y2 1), .r (pr.lr y2 2), .n (pr.ln y2 3), .n (pr.ln y2 4), .n (pr.ln y2 5), .n (pr.ln y2 6)]))))))
def L25_13  : (Nat → List (Y Δ N R M) → Ω) → E → Ω := fun J2 y2 =>
 (pr.lenD (pr.ld y2 12) fun x3 =>
   (pr.bin .lss false (pr.ld y2 2) x3 fun x4 =>
    (pr.cond x4
     (pr.bin .lss false (pr.ld y2 2) (pr.lit (.int Go.IntKind.i64 (6))) fun x5 =>
     (pr.cond x5
      (pr.bnd (pr.lenD (pr.ld y2 12) fun x6 =>
      (pr.bin .lss false (pr.ld y2 2) x6 fun x7 =>
       (pr.cond x7
        (pr.rowD 3 (pr.ld y2 12) (pr.ld y2 2) fun w8 =>
        (pr.out 0 [.n (pr.ln y2 0), .n (pr.ln y2 1), .d (pr.ld y2 2), .r (pr.lr y2 3), .r (pr.lr y2 4), .d (pr.cell w8 0), .d (pr.cell w8 1), .d (pr.cell w8 2), .r (pr.lr y2 5), .n (pr.ln y2 6), .n (pr.ln y2 7), .n (pr.ln y2 8), .n (pr.ln y2 9), .d (pr.ld y2 10), .d (pr.ld y2 11), .d (pr.ld y2 12)]))
        (pr.out 0 [.n (pr.ln y2 0), .n (pr.ln y2 1), .d (pr.ld y2 2), .r (pr.lr y2 3), .r (pr.lr y2 4), .d (pr.lit (.int Go.IntKind.i64 (0))), .d (pr.lit (.int Go.IntKind.i64 (0))), .d (pr.lit (.int Go.IntKind.i64 (0))), .r (pr.lr y2 5), .n (pr.ln y2 6), .n (pr.ln y2 7), .n (pr.ln y2 8), .n (pr.ln y2 9), .d (pr.ld y2 10), .d (pr.ld y2 11), .d (pr.ld y2 12)])))) [fun y6 => (pr.bin .mul false (pr.lit (.int Go.IntKind.i64 (2))) (pr.ld y6 2) fun x7 =>
       (pr.bin .add false (pr.lit (.int Go.IntKind.i64 (3))) x7 fun x8 =>
        (pr.bnd (pr.call 26 [(pr.ld y6 5), (pr.lit (.int Go.IntKind.i64 (4)))]) [fun y9 => (pr.bin .add false (pr.lit (.int Go.IntKind.i64 (1))) (pr.ld y9 0) fun x10 =>
          (pr.bnd (pr.call 26 [(pr.ld y6 6), (pr.natD (pr.ln y6 11))]) [fun y11 => (pr.bin .sub false (pr.natD (pr.ln y6 11)) (pr.ld y11 0) fun x12 =>
            (pr.bnd (pr.call 26 [(pr.ld y6 7), x12]) [fun y13 => (pr.bin .add false (pr.ld y11 0) (pr.ld y13 0) fun x14 =>
              (pr.eqN (pr.natN 1) (pr.len (pr.rows [[x8, x10, (pr.ld y11 0), x14]])) (pr.eqN (pr.ln y6 1) (pr.len (pr.lr y6 8)) (pr.eqN (pr.ln y6 0) (pr.len (pr.lr y6 8)) (pr.fits 32 (pr.addN (pr.ln y6 0) (pr.len (pr.seg (pr.rows [[x8, x10, (pr.ld y11 0), x14]]) none (pr.natN 1))))
               (pr.bin .add false (pr.ld y6 2) (pr.lit (.int Go.IntKind.i64 (1))) fun x15 =>
               (J2 1 [.n (pr.addN (pr.ln y6 0) (pr.len (pr.seg (pr.rows [[x8, x10, (pr.ld y11 0), x14]]) none (pr.natN 1)))), .n (pr.addN (pr.ln y6 0) (pr.len (pr.seg (pr.rows [[x8, x10, (pr.ld y11 0), x14]]) none (pr.natN 1)))), .d x15, .r (pr.lr y6 3), .r (pr.lr y6 4), .r (pr.app (pr.lr y6 8) (pr.seg (pr.rows [[x8, x10, (pr.ld y11 0), x14]]) none (pr.natN 1))), .n (pr.ln y6 9), .n (pr.ln y6 10), .n (pr.ln y6 11), .n (pr.ln y6 12), .d (pr.ld y6 13), .d (pr.ld y6 14), .d (pr.ld y6 15)])))))))]))]))])))])
      (pr.bin .eql false (pr.ld y2 2) (pr.lit (.int Go.IntKind.i64 (0))) fun x6 =>
      (pr.cond x6
       (pr.bnd (pr.lenD (pr.ld y2 12) fun x7 =>
       (pr.bin .lss false (pr.ld y2 2) x7 fun x8 =>
        (pr.cond x8
         (pr.rowD 3 (pr.ld y2 12) (pr.ld y2 2) fun w9 =>
         (pr.out 0 [.n (pr.ln y2 0), .n (pr.ln y2 1), .d (pr.ld y2 2), .r (pr.lr y2 3), .r (pr.lr y2 4), .d (pr.cell w9 0), .d (pr.cell w9 1), .d (pr.cell w9 2), .r (pr.lr y2 5), .n (pr.ln y2 6), .n (pr.ln y2 7), .n (pr.ln y2 8), .n (pr.ln y2 9), .d (pr.ld y2 10), .d (pr.ld y2 11), .d (pr.ld y2 12)]))
         (pr.out 0 [.n (pr.ln y2 0), .n (pr.ln y2 1), .d (pr.ld y2 2), .r (pr.lr y2 3), .r (pr.lr y2 4), .d (pr.lit (.int Go.IntKind.i64 (0))), .d (pr.lit (.int Go.IntKind.i64 (0))), .d (pr.lit (.int Go.IntKind.i64 (0))), .r (pr.lr y2 5), .n (pr.ln y2 6), .n (pr.ln y2 7), .n (pr.ln y2 8), .n (pr.ln y2 9), .d (pr.ld y2 10), .d (pr.ld y2 11), .d (pr.ld y2 12)])))) [fun y7 => (pr.bin .mul false (pr.lit (.int Go.IntKind.i64 (2))) (pr.ld y7 2) fun x8 =>
        (pr.bin .add false (pr.lit (.int Go.IntKind.i64 (3))) x8 fun x9 =>
         (pr.bnd (pr.call 26 [(pr.ld y7 5), (pr.lit (.int Go.IntKind.i64 (4)))]) [fun y10 => (pr.bin .add false (pr.lit (.int Go.IntKind.i64 (1))) (pr.ld y10 0) fun x11 =>
           (pr.bnd (pr.call 26 [(pr.ld y7 6), (pr.natD (pr.ln y7 11))]) [fun y12 => (pr.bin .sub false (pr.natD (pr.ln y7 11)) (pr.ld y12 0) fun x13 =>
             (pr.bnd (pr.call 26 [(pr.ld y7 7), x13]) [fun y14 => (pr.bin .add false (pr.ld y12 0) (pr.ld y14 0) fun x15 =>
               (pr.eqN (pr.natN 1) (pr.len (pr.rows [[x9, x11, (pr.ld y12 0), x15]])) (pr.eqN (pr.ln y7 1) (pr.len (pr.lr y7 8)) (pr.eqN (pr.ln y7 0) (pr.len (pr.lr y7 8)) (pr.fits 32 (pr.addN (pr.ln y7 0) (pr.len (pr.seg (pr.rows [[x9, x11, (pr.ld y12 0), x15]]) none (pr.natN 1))))
                (pr.bin .add false (pr.ld y7 2) (pr.lit (.int Go.IntKind.i64 (1))) fun x16 =>
                (J2 1 [.n (pr.addN (pr.ln y7 0) (pr.len (pr.seg (pr.rows [[x9, x11, (pr.ld y12 0), x15]]) none (pr.natN 1)))), .n (pr.addN (pr.ln y7 0) (pr.len (pr.seg (pr.rows [[x9, x11, (pr.ld y12 0), x15]]) none (pr.natN 1)))), .d x16, .r (pr.lr y7 3), .r (pr.lr y7 4), .r (pr.app (pr.lr y7 8) (pr.seg (pr.rows [[x9, x11, (pr.ld y12 0), x15]]) none (pr.natN 1))), .n (pr.ln y7 9), .n (pr.ln y7 10), .n (pr.ln y7 11), .n (pr.ln y7 12), .d (pr.ld y7 13), .d (pr.ld y7 14), .d (pr.ld y7 15)])))))))]))]))])))])
       (pr.out 1 [.n (pr.ln y2 0), .n (pr.ln y2 1), .r (pr.lr y2 3), .r (pr.lr y2 4), .r (pr.lr y2 5), .n (pr.ln y2 6), .n (pr.ln y2 7), .n (pr.ln y2 8), .n (pr.ln y2 9)])))))
     (pr.bin .eql false (pr.ld y2 2) (pr.lit (.int Go.IntKind.i64 (0))) fun x5 =>
     (pr.cond x5
      (pr.bnd (pr.lenD (pr.ld y2 12) fun x6 =>
      (pr.bin .lss false (pr.ld y2 2) x6 fun x7 =>
       (pr.cond x7
        (pr.rowD 3 (pr.ld y2 12) (pr.ld y2 2) fun w8 =>
        (pr.out 0 [.n (pr.ln y2 0), .n (pr.ln y2 1), .d (pr.ld y2 2), .r (pr.lr y2 3), .r (pr.lr y2 4), .d (pr.cell w8 0), .d (pr.cell w8 1), .d (pr.cell w8 2), .r (pr.lr y2 5), .n (pr.ln y2 6), .n (pr.ln y2 7), .n (pr.ln y2 8), .n (pr.ln y2 9), .d (pr.ld y2 10), .d (pr.ld y2 11), .d (pr.ld y2 12)]))
        (pr.out 0 [.n (pr.ln y2 0), .n (pr.ln y2 1), .d (pr.ld y2 2), .r (pr.lr y2 3), .r (pr.lr y2 4), .d (pr.lit (.int Go.IntKind.i64 (0))), .d (pr.lit (.int Go.IntKind.i64 (0))), .d (pr.lit (.int Go.IntKind.i64 (0))), .r (pr.lr y2 5), .n (pr.ln y2 6), .n (pr.ln y2 7), .n (pr.ln y2 8), .n (pr.ln y2 9), .d (pr.ld y2 10), .d (pr.ld y2 11), .d (pr.ld y2 12)])))) [fun y6 => (pr.bin .mul false (pr.lit (.int Go.IntKind.i64 (2))) (pr.ld y6 2) fun x7 =>
       (pr.bin .add false (pr.lit (.int Go.IntKind.i64 (3))) x7 fun x8 =>
        (pr.bnd (pr.call 26 [(pr.ld y6 5), (pr.lit (.int Go.IntKind.i64 (4)))]) [fun y9 => (pr.bin .add false (pr.lit (.int Go.IntKind.i64 (1))) (pr.ld y9 0) fun x10 =>
          (pr.bnd (pr.call 26 [(pr.ld y6 6), (pr.natD (pr.ln y6 11))]) [fun y11 => (pr.bin .sub false (pr.natD (pr.ln y6 11)) (pr.ld y11 0) fun x12 =>
            (pr.bnd (pr.call 26 [(pr.ld y6 7), x12]) [fun y13 => (pr.bin .add false (pr.ld y11 0) (pr.ld y13 0) fun x14 =>
              (pr.eqN (pr.natN 1) (pr.len (pr.rows [[x8, x10, (pr.ld y11 0), x14]])) (pr.eqN (pr.ln y6 1) (pr.len (pr.lr y6 8)) (pr.eqN (pr.ln y6 0) (pr.len (pr.lr y6 8)) (pr.fits 32 (pr.addN (pr.ln y6 0) (pr.len (pr.seg (pr.rows [[x8, x10, (pr.ld y11 0), x14]]) none (pr.natN 1))))
               (pr.bin .add false (pr.ld y6 2) (pr.lit (.int Go.IntKind.i64 (1))) fun x15 =>
               (J2 1 [.n (pr.addN (pr.ln y6 0) (pr.len (pr.seg (pr.rows [[x8, x10, (pr.ld y11 0), x14]]) none (pr.natN 1)))), .n (pr.addN (pr.ln y6 0) (pr.len (pr.seg (pr.rows [[x8, x10, (pr.ld y11 0), x14]]) none (pr.natN 1)))), .d x15, .r (pr.lr y6 3), .r (pr.lr y6 4), .r (pr.app (pr.lr y6 8) (pr.seg (pr.rows [[x8, x10, (pr.ld y11 0), x14]]) none (pr.natN 1))), .n (pr.ln y6 9), .n (pr.ln y6 10), .n (pr.ln y6 11), .n (pr.ln y6 12), .d (pr.ld y6 13), .d (pr.ld y6 14), .d (pr.ld y6 15)])))))))]))]))])))])
      (pr.out 1 [.n (pr.ln y2 0), .n (pr.ln y2 1), .r (pr.lr y2 3), .r (pr.lr y2 4), .r (pr.lr y2 5), .n (pr.ln y2 6), .n (pr.ln y2 7), .n (pr.ln y2 8), .n (pr.ln y2 9)]))))))
def G25 (a0 a1 a2 : Δ) : Ω :=
 (pr.bnd (pr.loop [(L25_0 pr), (L25_1 pr)] 0 [.d (pr.lit (.int Go.IntKind.i64 (0))), .d a0, .d a1, .d a2]) [fun y0 => (pr.bnd (pr.loop [(L25_2 pr), (L25_3 pr)] 0 [.d (pr.lit (.int Go.IntKind.i64 (0))), .d (pr.ld y0 0), .d (pr.ld y0 1), .d (pr.ld y0 2)]) [fun y1 => (pr.bnd (pr.loop [(L25_4 pr), (L25_5 pr)] 0 [.d (pr.lit (.int Go.IntKind.i64 (0))), .d (pr.ld y1 0), .d (pr.ld y1 1), .d (pr.ld y1 2)]) [fun y2 => (pr.out 0 [.d (pr.lit (.slice none 0 0)), .d (pr.lit (.slice none 0 0)), .d (pr.lit (.slice none 0 0))]), fun y2 => (pr.eqN (pr.ln y2 1) (pr.len (pr.lr y2 2)) (pr.out 0 [.d (pr.lit (.slice none 0 0)), .d (pr.lit (.slice none 0 0)), .d (pr.slD 4 (pr.seg (pr.lr y2 2) none (pr.ln y2 0)))]))]), fun y1 => (pr.bnd (pr.loop [(L25_6 pr), (L25_7 pr)] 0 [.d (pr.lit (.int Go.IntKind.i64 (0))), .r (pr.lr y1 0), .n (pr.ln y1 1), .n (pr.ln y1 2), .d (pr.ld y1 3), .d (pr.ld y1 4), .d (pr.ld y1 5)]) [fun y2 => (pr.eqN (pr.ln y2 2) (pr.len (pr.lr y2 0)) (pr.out 0 [.d (pr.lit (.slice none 0 0)), .d (pr.slD 3 (pr.seg (pr.lr y2 0) none (pr.ln y2 1))), .d (pr.lit (.slice none 0 0))])), fun y2 => (pr.eqN (pr.ln y2 5) (pr.len (pr.lr y2 2)) (pr.eqN (pr.ln y2 1) (pr.len (pr.lr y2 3)) (pr.out 0 [.d (pr.lit (.slice none 0 0)), .d (pr.slD 3 (pr.seg (pr.lr y2 2) none (pr.ln y2 4))), .d (pr.slD 4 (pr.seg (pr.lr y2 3) none (pr.ln y2 0)))])))])]), fun y0 => (pr.bnd (pr.loop [(L25_8 pr), (L25_9 pr)] 0 [.d (pr.lit (.int Go.IntKind.i64 (0))), .r (pr.lr y0 0), .n (pr.ln y0 1), .n (pr.ln y0 2), .d (pr.ld y0 3), .d (pr.ld y0 4), .d (pr.ld y0 5)]) [fun y1 => (pr.bnd (pr.loop [(L25_10 pr), (L25_11 pr)] 0 [.d (pr.lit (.int Go.IntKind.i64 (0))), .r (pr.lr y1 0), .n (pr.ln y1 1), .n (pr.ln y1 2), .d (pr.ld y1 3), .d (pr.ld y1 4), .d (pr.ld y1 5)]) [fun y2 => (pr.eqN (pr.ln y2 2) (pr.len (pr.lr y2 0)) (pr.out 0 [.d (pr.slD 3 (pr.seg (pr.lr y2 0) none (pr.ln y2 1))), .d (pr.lit (.slice none 0 0)), .d (pr.lit (.slice none 0 0))])), fun y2 => (pr.eqN (pr.ln y2 5) (pr.len (pr.lr y2 2)) (pr.eqN (pr.ln y2 1) (pr.len (pr.lr y2 3)) (pr.out 0 [.d (pr.slD 3 (pr.seg (pr.lr y2 2) none (pr.ln y2 4))), .d (pr.lit (.slice none 0 0)), .d (pr.slD 4 (pr.seg (pr.lr y2 3) none (pr.ln y2 0)))])))]), fun y1 => (pr.bnd (pr.loop [(L25_12 pr), (L25_13 pr)] 0 [.d (pr.lit (.int Go.IntKind.i64 (0))), .r (pr.lr y1 0), .r (pr.lr y1 1), .n (pr.ln y1 2), .n (pr.ln y1 3), .n (pr.ln y1 4), .n (pr.ln y1 5), .d (pr.ld y1 6), .d (pr.ld y1 7), .d (pr.ld y1 8)]) [fun y2 => (pr.eqN (pr.ln y2 3) (pr.len (pr.lr y2 1)) (pr.eqN (pr.ln y2 5) (pr.len (pr.lr y2 0)) (pr.out 0 [.d (pr.slD 3 (pr.seg (pr.lr y2 1) none (pr.ln y2 2))), .d (pr.slD 3 (pr.seg (pr.lr y2 0) none (pr.ln y2 4))), .d (pr.lit (.slice none 0 0))]))), fun y2 => (pr.eqN (pr.ln y2 6) (pr.len (pr.lr y2 3)) (pr.eqN (pr.ln y2 8) (pr.len (pr.lr y2 2)) (pr.eqN (pr.ln y2 1) (pr.len (pr.lr y2 4)) (pr.out 0 [.d (pr.slD 3 (pr.seg (pr.lr y2 3) none (pr.ln y2 5))), .d (pr.slD 3 (pr.seg (pr.lr y2 2) none (pr.ln y2 7))), .d (pr.slD 4 (pr.seg (pr.lr y2 4) none (pr.ln y2 0)))]))))])])])
end
theorem G25_eq {Δ N R W M E Ω : Type} (pr : Pr Δ N R W M E Ω) (a0 a1 a2 : Δ) : fun3 pr tb Try.prog 400 25 [a0, a1, a2] = G25 pr a0 a1 a2 := by kernel_rfl
theorem F25 (n : Nat) (a0 a1 a2 : D) : FN (n + 1) 25 [a0, a1, a2] = G25 (RP n) a0 a1 a2 := G25_eq _ a0 a1 a2
end Go.VE
