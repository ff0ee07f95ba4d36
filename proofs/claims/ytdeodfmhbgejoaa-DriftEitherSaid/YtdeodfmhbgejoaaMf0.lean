/- What the functions of this program do, made by a program of ours out of the evaluator itself. -/
import Derived.Test.YtdeodfmhbgejoaaMt
import Derived.KernelRfl
namespace Go.VE
open Go.RowKit Go.Proofs
set_option maxRecDepth 100000
set_option maxHeartbeats 4000000
section
variable {Δ N R W M E Ω : Type} (pr : Pr Δ N R W M E Ω)
/-! leazing/leazinglaw04.DriftChecks -/
def G3 (a0 a1 a2 a3 a4 a5 a6 a7 a8 a9 a10 a11 a12 a13 : Δ) : Ω :=
 (pr.bnd (pr.call 11 []) [fun y0 => (pr.bnd (pr.call 12 [a0, a1, a2, a13]) [fun y1 => (pr.bnd (pr.call 13 [a0, a1, a2, a13]) [fun y2 => (pr.bnd (pr.call 14 [(pr.ld y1 0), (pr.ld y2 0)]) [fun y3 => (pr.un .not (pr.ld y0 0) fun x4 => (pr.cond x4
     (pr.out 0 [.d (pr.lit (.bool false))])
     (pr.un .not (pr.ld y3 0) fun x5 => (pr.cond x5
      (pr.out 0 [.d (pr.lit (.bool false))])
      (pr.bin .neq false (pr.ld y1 1) (pr.ld y2 1) fun x6 =>
      (pr.cond x6
       (pr.out 0 [.d (pr.lit (.bool false))])
       (pr.bnd (pr.call 15 [a0, a1]) [fun y7 => (pr.bnd (pr.call 16 [a0, a1]) [fun y8 => (pr.bin .neq false (pr.ld y7 0) (pr.ld y8 0) fun x9 =>
         (pr.cond x9
          (pr.out 0 [.d (pr.lit (.bool false))])
          (pr.bnd (pr.call 17 [a0, a1, a2]) [fun y10 => (pr.bnd (pr.call 18 [a0, a1, a2]) [fun y11 => (pr.bin .neq false (pr.ld y10 0) (pr.ld y11 0) fun x12 =>
            (pr.cond x12
             (pr.out 0 [.d (pr.lit (.bool false))])
             (pr.bnd (pr.call 19 [a3, a4, a5]) [fun y13 => (pr.bnd (pr.call 20 [a3, a4, a5]) [fun y14 => (pr.bin .eql false (pr.ld y13 0) (pr.ld y14 0) fun x15 =>
               (pr.cond x15
                (pr.bnd (pr.call 21 [a6, a7, a8]) [fun y16 => (pr.bnd (pr.call 22 [a6, a7, a8]) [fun y17 => (pr.bin .eql false (pr.ld y16 0) (pr.ld y17 0) fun x18 =>
                  (pr.cond x18
                   (pr.bnd (pr.call 23 [a9, a10, a11, a12]) [fun y19 => (pr.bnd (pr.call 24 [a9, a10, a11, a12]) [fun y20 => (pr.bin .eql false (pr.ld y19 0) (pr.ld y20 0) fun x21 =>
                     (pr.out 0 [.d x21]))])])
                   (pr.out 0 [.d (pr.lit (.bool false))])))])])
                (pr.out 0 [.d (pr.lit (.bool false))])))])])))])])))])])))))))])])])])
/-! leazing/leazinglaw04.DriftTurns -/
def L4_0  : (Nat → List (Y Δ N R M) → Ω) → E → Ω := fun J16 y16 =>
 (pr.lenD (pr.ld y16 1) fun x17 =>
                 (pr.bin .lss false (pr.ld y16 3) x17 fun x18 =>
                  (pr.cond x18
                   (pr.bin .add false (pr.ld y16 0) (pr.ld y16 3) fun x19 =>
                   (pr.bnd (pr.call 12 [(pr.ld y16 4), (pr.ld y16 5), (pr.ld y16 1), x19]) [fun y20 => (pr.bin .neq false (pr.ld y20 1) (pr.lit (.int Go.IntKind.i64 (0))) fun x21 =>
                     (pr.cond x21
                      (pr.out 0 [.d (pr.lit (.bool false))])
                      (pr.lenD (pr.ld y20 0) fun x22 =>
                      (pr.lenD (pr.ld y16 1) fun x23 =>
                       (pr.bin .neq false x22 x23 fun x24 =>
                        (pr.cond x24
                         (pr.out 0 [.d (pr.lit (.bool false))])
                         (pr.rowD 4 (pr.ld y20 0) (pr.lit (.int Go.IntKind.i64 (0))) fun w25 =>
                         (pr.rowD 4 (pr.ld y16 2) (pr.ld y16 3) fun w26 =>
                          (pr.eqs [true, true, true, true] true [(pr.cell w25 0), (pr.cell w25 1), (pr.cell w25 2), (pr.cell w25 3)] [(pr.cell w26 0), (pr.cell w26 1), (pr.cell w26 2), (pr.cell w26 3)] fun x27 => (pr.cond x27
                            (pr.out 0 [.d (pr.lit (.bool false))])
                            (pr.bin .add false (pr.ld y16 3) (pr.lit (.int Go.IntKind.i64 (1))) fun x28 =>
                            (J16 0 [.d (pr.ld y16 0), .d (pr.ld y16 1), .d (pr.ld y16 2), .d x28, .d (pr.ld y16 4), .d (pr.ld y16 5)]))))))))))))]))
                   (pr.out 1 []))))
def G4 (a0 a1 a2 a3 : Δ) : Ω :=
 (pr.bnd (pr.call 11 []) [fun y0 => (pr.bnd (pr.call 25 [a0, a1, a2]) [fun y1 => (pr.bnd (pr.call 26 [a3, (pr.lit (.int Go.IntKind.i64 (4000)))]) [fun y2 => (pr.bnd (pr.call 12 [(pr.ld y1 0), (pr.ld y1 1), (pr.ld y1 2), (pr.lit (.int Go.IntKind.i64 (0)))]) [fun y3 => (pr.bnd (pr.call 12 [(pr.ld y1 0), (pr.ld y1 1), (pr.ld y1 2), (pr.ld y2 0)]) [fun y4 => (pr.lenD (pr.ld y1 2) fun x5 =>
     (pr.bin .add false (pr.ld y2 0) x5 fun x6 =>
      (pr.bnd (pr.call 12 [(pr.ld y1 0), (pr.ld y1 1), (pr.ld y1 2), x6]) [fun y7 => (pr.bnd (pr.call 14 [(pr.ld y3 0), (pr.ld y1 2)]) [fun y8 => (pr.bnd (pr.call 14 [(pr.ld y4 0), (pr.ld y7 0)]) [fun y9 => (pr.un .not (pr.ld y0 0) fun x10 => (pr.cond x10
           (pr.out 0 [.d (pr.lit (.bool false))])
           (pr.bin .neq false (pr.ld y3 1) (pr.lit (.int Go.IntKind.i64 (0))) fun x11 =>
           (pr.cond x11
            (pr.out 0 [.d (pr.lit (.bool false))])
            (pr.bin .neq false (pr.ld y4 1) (pr.lit (.int Go.IntKind.i64 (0))) fun x12 =>
            (pr.cond x12
             (pr.out 0 [.d (pr.lit (.bool false))])
             (pr.bin .neq false (pr.ld y7 1) (pr.lit (.int Go.IntKind.i64 (0))) fun x13 =>
             (pr.cond x13
              (pr.out 0 [.d (pr.lit (.bool false))])
              (pr.un .not (pr.ld y8 0) fun x14 => (pr.cond x14
               (pr.out 0 [.d (pr.lit (.bool false))])
               (pr.un .not (pr.ld y9 0) fun x15 => (pr.cond x15
                (pr.out 0 [.d (pr.lit (.bool false))])
                (pr.bnd (pr.loop [(L4_0 pr)] 0 [.d (pr.ld y2 0), .d (pr.ld y1 2), .d (pr.ld y4 0), .d (pr.lit (.int Go.IntKind.i64 (0))), .d (pr.ld y1 0), .d (pr.ld y1 1)]) [fun y16 => (pr.out 0 [.d (pr.ld y16 0)]), fun y16 => (pr.out 0 [.d (pr.lit (.bool true))])])))))))))))))])])])))])])])])])
/-! leazing/leazinglaw04.DriftEither -/
def G7 (a0 a1 a2 a3 a4 a5 : Δ) : Ω :=
 (pr.bnd (pr.call 11 []) [fun y0 => (pr.bnd (pr.call 25 [a0, a1, a2]) [fun y1 => (pr.bnd (pr.call 33 [(pr.ld y1 0), (pr.ld y1 1), (pr.ld y1 2)]) [fun y2 => (pr.bnd (pr.call 34 [(pr.ld y1 0), (pr.ld y1 1), (pr.ld y1 2)]) [fun y3 => (pr.bnd (pr.call 35 [(pr.ld y1 0), (pr.ld y1 1), (pr.ld y1 2), a3, a4]) [fun y4 => (pr.bin .eql false (pr.ld y4 0) (pr.lit (.int Go.IntKind.i64 (0))) fun x5 =>
     (pr.bnd (pr.call 36 [(pr.ld y1 0), (pr.ld y1 1), (pr.ld y1 2), a5]) [fun y6 => (pr.bin .eql false (pr.ld y6 0) (pr.lit (.int Go.IntKind.i64 (0))) fun x7 =>
       (pr.un .not (pr.ld y0 0) fun x8 => (pr.cond x8
         (pr.out 0 [.d (pr.lit (.bool false))])
         (pr.bnd (pr.cond x5
         (pr.out 0 [.d (pr.ld y1 2), .d (pr.ld y2 0), .d (pr.ld y2 1), .d (pr.ld y3 2), .d x5, .d x7, .d x7, .d (pr.ld y3 0), .d (pr.ld y3 1), .d (pr.ld y1 0), .d (pr.ld y1 1)])
         (pr.out 0 [.d (pr.ld y1 2), .d (pr.ld y2 0), .d (pr.ld y2 1), .d (pr.ld y3 2), .d x5, .d x7, .d (pr.lit (.bool false)), .d (pr.ld y3 0), .d (pr.ld y3 1), .d (pr.ld y1 0), .d (pr.ld y1 1)])) [fun y9 => (pr.cond (pr.ld y9 6)
          (pr.out 0 [.d (pr.lit (.bool false))])
          (pr.bin .eql false (pr.ld y9 2) (pr.lit (.int Go.IntKind.i64 (0))) fun x10 =>
          (pr.cond x10
           (pr.bin .eql false (pr.ld y9 3) (pr.lit (.int Go.IntKind.i64 (48))) fun x11 =>
           (pr.cond x11
            (pr.un .not (pr.ld y9 4) fun x12 => (pr.cond x12
             (pr.bnd (pr.call 36 [(pr.ld y9 9), (pr.ld y9 10), (pr.ld y9 0), (pr.ld y9 1)]) [fun y13 => (pr.bin .eql false (pr.ld y13 0) (pr.lit (.int Go.IntKind.i64 (0))) fun x14 =>
              (pr.out 0 [.d x14]))])
             (pr.out 0 [.d (pr.lit (.bool false))])))
            (pr.out 0 [.d (pr.lit (.bool false))])))
           (pr.bin .eql false (pr.ld y9 2) (pr.lit (.int Go.IntKind.i64 (47))) fun x11 =>
           (pr.cond x11
            (pr.bin .eql false (pr.ld y9 3) (pr.lit (.int Go.IntKind.i64 (0))) fun x12 =>
            (pr.cond x12
             (pr.un .not (pr.ld y9 5) fun x13 => (pr.cond x13
              (pr.bnd (pr.call 35 [(pr.ld y9 9), (pr.ld y9 10), (pr.ld y9 0), (pr.ld y9 7), (pr.ld y9 8)]) [fun y14 => (pr.bin .eql false (pr.ld y14 0) (pr.lit (.int Go.IntKind.i64 (0))) fun x15 =>
               (pr.out 0 [.d x15]))])
              (pr.out 0 [.d (pr.lit (.bool false))])))
             (pr.out 0 [.d (pr.lit (.bool false))])))
            (pr.out 0 [.d (pr.lit (.bool false))]))))))]))))]))])])])])])
/-! leazing/leazinglaw04.DriftLengths -/
def G8 (a0 a1 a2 a3 a4 a5 a6 a7 a8 a9 a10 : Δ) : Ω :=
 (pr.bnd (pr.call 11 []) [fun y0 => (pr.bnd (pr.call 30 [a0, a1, a2, a3]) [fun y1 => (pr.bnd (pr.call 37 [a0, a1, a2, a3]) [fun y2 => (pr.bnd (pr.call 31 [a0, a1, a2, a3, a4, a5]) [fun y3 => (pr.bnd (pr.call 38 [a0, a1, a2, a3, a4, a5]) [fun y4 => (pr.bnd (pr.call 32 [a0, a1, a10, a2, a3]) [fun y5 => (pr.bnd (pr.call 39 [a0, a1, a10, a2, a3]) [fun y6 => (pr.bnd (pr.call 40 [a0, a1, a4, a5]) [fun y7 => (pr.bnd (pr.call 41 [a0, a1, a4, a5]) [fun y8 => (pr.bnd (pr.call 28 [a6, a7, a8, a9]) [fun y9 => (pr.bnd (pr.call 42 [a6, a7, a8, a9]) [fun y10 => (pr.cond (pr.ld y0 0)
           (pr.eqs [true, true] false [(pr.ld y1 0), (pr.ld y1 1)] [(pr.ld y2 0), (pr.ld y2 1)] fun x11 => (pr.cond x11
            (pr.bin .eql false (pr.ld y1 2) (pr.ld y2 2) fun x12 =>
            (pr.cond x12
             (pr.bin .eql false (pr.ld y3 0) (pr.ld y4 0) fun x13 =>
             (pr.cond x13
              (pr.bin .eql false (pr.ld y3 1) (pr.ld y4 1) fun x14 =>
              (pr.cond x14
               (pr.bin .eql false (pr.ld y5 0) (pr.ld y6 0) fun x15 =>
               (pr.cond x15
                (pr.bin .eql false (pr.ld y5 1) (pr.ld y6 1) fun x16 =>
                (pr.cond x16
                 (pr.bin .eql false (pr.ld y7 0) (pr.ld y8 0) fun x17 =>
                 (pr.cond x17
                  (pr.bin .eql false (pr.ld y7 1) (pr.ld y8 1) fun x18 =>
                  (pr.cond x18
                   (pr.bin .eql false (pr.ld y9 0) (pr.ld y10 0) fun x19 =>
                   (pr.cond x19
                    (pr.bin .eql false (pr.ld y9 1) (pr.ld y10 1) fun x20 =>
                    (pr.out 0 [.d x20]))
                    (pr.out 0 [.d (pr.lit (.bool false))])))
                   (pr.out 0 [.d (pr.lit (.bool false))])))
                  (pr.out 0 [.d (pr.lit (.bool false))])))
                 (pr.out 0 [.d (pr.lit (.bool false))])))
                (pr.out 0 [.d (pr.lit (.bool false))])))
               (pr.out 0 [.d (pr.lit (.bool false))])))
              (pr.out 0 [.d (pr.lit (.bool false))])))
             (pr.out 0 [.d (pr.lit (.bool false))])))
            (pr.out 0 [.d (pr.lit (.bool false))])))
           (pr.out 0 [.d (pr.lit (.bool false))]))])])])])])])])])])])])
/-! leazing/drift.Turn -/
def G12 (a0 a1 a2 a3 : Δ) : Ω :=
 (pr.bnd (pr.call 17 [a0, a1, a2]) [fun y0 => (pr.bin .neq false (pr.ld y0 0) (pr.lit (.int Go.IntKind.i64 (0))) fun x1 =>
 (pr.cond x1
  (pr.out 0 [.d (pr.lit (.slice none 0 0)), .d (pr.ld y0 0)])
  (pr.bnd (pr.call 59 [a3, (pr.lit (.int Go.IntKind.i64 (0))), (pr.lit (.int Go.IntKind.i64 (4166)))]) [fun y2 => (pr.un .not (pr.ld y2 0) fun x3 => (pr.cond x3
    (pr.out 0 [.d (pr.lit (.slice none 0 0)), .d (pr.lit (.int Go.IntKind.i64 (6)))])
    (pr.lenD a2 fun x4 =>
    (pr.bin .rem false a3 x4 fun x5 =>
     (pr.cutD 4 a2 (some x5) none fun x6 =>
      (pr.cutD 4 a2 none (some x5) fun x7 =>
       (pr.eqN (pr.natN 2) (pr.len (pr.rows [[x6], [x7]])) (pr.bnd (pr.call 60 [(pr.slD 1 (pr.seg (pr.rows [[x6], [x7]]) none (pr.natN 2)))]) [fun y8 => (pr.lits [.r (pr.lr y8 0)]
         (pr.eqN (pr.len (pr.lr y8 0)) (pr.len (pr.lr y8 0)) (pr.out 0 [.d (pr.slD 4 (pr.seg (pr.lr y8 0) none (pr.len (pr.lr y8 0)))), .d (pr.lit (.int Go.IntKind.i64 (0)))]))), fun y8 => (pr.lits [.d (pr.ld y8 0)]
         (pr.out 0 [.d (pr.ld y8 0), .d (pr.lit (.int Go.IntKind.i64 (0)))]))]))))))))])))])
/-! leazing/leazingref04.Turn -/
def G13 (a0 a1 a2 a3 : Δ) : Ω :=
 (pr.bnd (pr.call 18 [a0, a1, a2]) [fun y0 => (pr.bin .neq false (pr.ld y0 0) (pr.lit (.int Go.IntKind.i64 (0))) fun x1 =>
 (pr.cond x1
  (pr.out 0 [.d (pr.lit (.slice none 0 0)), .d (pr.ld y0 0)])
  (pr.bnd (pr.call 61 [a3, (pr.lit (.int Go.IntKind.i64 (0))), (pr.lit (.int Go.IntKind.i64 (4166)))]) [fun y2 => (pr.un .not (pr.ld y2 0) fun x3 => (pr.cond x3
    (pr.out 0 [.d (pr.lit (.slice none 0 0)), .d (pr.lit (.int Go.IntKind.i64 (6)))])
    (pr.lenD a2 fun x4 =>
    (pr.bin .rem false a3 x4 fun x5 =>
     (pr.cutD 4 a2 (some x5) none fun x6 =>
      (pr.rowsD 4 x6 fun r7 => (pr.eqN (pr.natN 0) (pr.len (pr.rows [])) (pr.eqN (pr.natN 0) (pr.len (pr.rows [])) (pr.fits 32 (pr.addN (pr.natN 0) (pr.len r7))
        (pr.cutD 4 a2 none (some x5) fun x8 =>
        (pr.rowsD 4 x8 fun r9 => (pr.eqN (pr.addN (pr.natN 0) (pr.len r7)) (pr.len (pr.app (pr.rows []) r7)) (pr.eqN (pr.addN (pr.natN 0) (pr.len r7)) (pr.len (pr.app (pr.rows []) r7)) (pr.fits 32 (pr.addN (pr.addN (pr.natN 0) (pr.len r7)) (pr.len r9))
          (pr.eqN (pr.addN (pr.addN (pr.natN 0) (pr.len r7)) (pr.len r9)) (pr.len (pr.app (pr.app (pr.rows []) r7) r9)) (pr.out 0 [.d (pr.slD 4 (pr.seg (pr.app (pr.app (pr.rows []) r7) r9) none (pr.addN (pr.addN (pr.natN 0) (pr.len r7)) (pr.len r9)))), .d (pr.lit (.int Go.IntKind.i64 (0)))]))))))))))))))))])))])
/-! leazing/leazingref04.SameClaims -/
def L14_0  : (Nat → List (Y Δ N R M) → Ω) → E → Ω := fun J3 y3 =>
 (pr.lenD (pr.ld y3 0) fun x4 =>
    (pr.bin .lss false (pr.ld y3 3) x4 fun x5 =>
     (pr.cond x5
      (pr.cond (pr.ld y3 2)
      (pr.rowD 4 (pr.ld y3 0) (pr.ld y3 3) fun w6 =>
      (pr.rowD 4 (pr.ld y3 1) (pr.ld y3 3) fun w7 =>
       (pr.eqs [true, true, true, true] false [(pr.cell w6 0), (pr.cell w6 1), (pr.cell w6 2), (pr.cell w6 3)] [(pr.cell w7 0), (pr.cell w7 1), (pr.cell w7 2), (pr.cell w7 3)] fun x8 => (pr.bin .add false (pr.ld y3 3) (pr.lit (.int Go.IntKind.i64 (1))) fun x9 =>
         (J3 0 [.d (pr.ld y3 0), .d (pr.ld y3 1), .d x8, .d x9])))))
      (pr.out 0 [.d (pr.ld y3 2)]))
      (pr.out 0 [.d (pr.ld y3 2)]))))
def G14 (a0 a1 : Δ) : Ω :=
 (pr.lenD a0 fun x0 =>
(pr.lenD a1 fun x1 =>
 (pr.bin .eql false x0 x1 fun x2 =>
  (pr.bnd (pr.loop [(L14_0 pr)] 0 [.d a0, .d a1, .d x2, .d (pr.lit (.int Go.IntKind.i64 (0)))]) [fun y3 => (pr.out 0 [.d (pr.ld y3 0)])]))))
/-! leazing/drift.Check -/
def L15_0  : (Nat → List (Y Δ N R M) → Ω) → E → Ω := fun J7 y7 =>
 (pr.bin .lss false (pr.ld y7 2) (pr.ld y7 1) fun x8 =>
        (pr.cond x8
         (pr.rowD 3 (pr.ld y7 0) (pr.ld y7 2) fun w9 =>
         (pr.bnd (pr.call 19 [(pr.cell w9 0), (pr.cell w9 1), (pr.cell w9 2)]) [fun y10 => (pr.bin .neq false (pr.ld y10 0) (pr.lit (.int Go.IntKind.i64 (0))) fun x11 =>
           (pr.cond x11
            (pr.out 0 [.d (pr.lit (.int Go.IntKind.i64 (42)))])
            (pr.bin .gtr false (pr.ld y7 2) (pr.lit (.int Go.IntKind.i64 (0))) fun x12 =>
            (pr.cond x12
             (pr.bin .sub false (pr.ld y7 2) (pr.lit (.int Go.IntKind.i64 (1))) fun x13 =>
             (pr.rowD 3 (pr.ld y7 3) x13 fun w14 =>
              (pr.bin .geq false (pr.cell w14 0) (pr.cell w9 0) fun x15 =>
               (pr.cond x15
                (pr.out 0 [.d (pr.lit (.int Go.IntKind.i64 (42)))])
                (pr.bin .add false (pr.ld y7 2) (pr.lit (.int Go.IntKind.i64 (1))) fun x16 =>
                (J7 0 [.d (pr.ld y7 0), .d (pr.ld y7 1), .d x16, .d (pr.ld y7 3), .d (pr.ld y7 4)]))))))
             (pr.bin .add false (pr.ld y7 2) (pr.lit (.int Go.IntKind.i64 (1))) fun x13 =>
             (J7 0 [.d (pr.ld y7 0), .d (pr.ld y7 1), .d x13, .d (pr.ld y7 3), .d (pr.ld y7 4)]))))))]))
         (pr.out 1 [.d (pr.ld y7 3), .d (pr.ld y7 4)])))
def L15_1  : (Nat → List (Y Δ N R M) → Ω) → E → Ω := fun J10 y10 =>
 (pr.bin .lss false (pr.ld y10 2) (pr.ld y10 1) fun x11 =>
           (pr.cond x11
            (pr.rowD 3 (pr.ld y10 0) (pr.ld y10 2) fun w12 =>
            (pr.look 0 [(.int Go.IntKind.i64 (0))] (pr.lm y10 3) (pr.cell w12 0) fun w13 x13 =>
             (pr.bnd (pr.call 21 [(pr.cell w12 0), (pr.cell w12 1), (pr.cell w12 2)]) [fun y14 => (pr.bin .neq false (pr.ld y14 0) (pr.lit (.int Go.IntKind.i64 (0))) fun x15 =>
               (pr.cond x15
                (pr.out 0 [.d (pr.lit (.int Go.IntKind.i64 (42)))])
                (pr.un .not x13 fun x16 => (pr.cond x16
                 (pr.out 0 [.d (pr.lit (.int Go.IntKind.i64 (42)))])
                 (pr.bin .add false (pr.ld y10 2) (pr.lit (.int Go.IntKind.i64 (1))) fun x17 =>
                 (J10 0 [.d (pr.ld y10 0), .d (pr.ld y10 1), .d x17, .m (pr.lm y10 3)]))))))])))
            (pr.out 1 [])))
def G15 (a0 a1 : Δ) : Ω :=
 (pr.lenD a0 fun x0 =>
(pr.bnd (pr.call 59 [x0, (pr.lit (.int Go.IntKind.i64 (1))), (pr.lit (.int Go.IntKind.i64 (6)))]) [fun y1 => (pr.un .not (pr.ld y1 0) fun x2 => (pr.cond x2
   (pr.out 0 [.d (pr.lit (.int Go.IntKind.i64 (42)))])
   (pr.lenD a1 fun x3 =>
   (pr.bnd (pr.call 59 [x3, (pr.lit (.int Go.IntKind.i64 (1))), (pr.lit (.int Go.IntKind.i64 (24)))]) [fun y4 => (pr.un .not (pr.ld y4 0) fun x5 => (pr.cond x5
      (pr.out 0 [.d (pr.lit (.int Go.IntKind.i64 (42)))])
      (pr.lenD a0 fun x6 =>
      (pr.bnd (pr.loop [(L15_0 pr)] 0 [.d a0, .d x6, .d (pr.lit (.int Go.IntKind.i64 (0))), .d a0, .d a1]) [fun y7 => (pr.out 0 [.d (pr.ld y7 0)]), fun y7 => (pr.bnd (pr.call 62 [(pr.ld y7 0), (pr.ld y7 1)]) [fun y8 => (pr.lenD (pr.ld y7 1) fun x9 =>
         (pr.bnd (pr.loop [(L15_1 pr)] 0 [.d (pr.ld y7 1), .d x9, .d (pr.lit (.int Go.IntKind.i64 (0))), .m (pr.lm y8 0)]) [fun y10 => (pr.out 0 [.d (pr.ld y10 0)]), fun y10 => (pr.out 0 [.d (pr.lit (.int Go.IntKind.i64 (0)))])]))])]))))]))))]))
/-! leazing/leazingref04.Check -/
def L16_0  : (Nat → List (Y Δ N R M) → Ω) → E → Ω := fun J6 y6 =>
 (pr.lenD (pr.ld y6 1) fun x7 =>
       (pr.bin .lss false (pr.ld y6 0) x7 fun x8 =>
        (pr.cond x8
         (pr.rowD 3 (pr.ld y6 1) (pr.ld y6 0) fun w9 =>
         (pr.bnd (pr.call 20 [(pr.cell w9 0), (pr.cell w9 1), (pr.cell w9 2)]) [fun y10 => (pr.bin .neq false (pr.ld y10 0) (pr.lit (.int Go.IntKind.i64 (0))) fun x11 =>
           (pr.cond x11
            (pr.out 0 [.d (pr.lit (.int Go.IntKind.i64 (42)))])
            (pr.bin .gtr false (pr.ld y6 0) (pr.lit (.int Go.IntKind.i64 (0))) fun x12 =>
            (pr.cond x12
             (pr.bin .sub false (pr.ld y6 0) (pr.lit (.int Go.IntKind.i64 (1))) fun x13 =>
             (pr.rowD 3 (pr.ld y6 1) x13 fun w14 =>
              (pr.rowD 3 (pr.ld y6 1) (pr.ld y6 0) fun w15 =>
               (pr.bin .geq false (pr.cell w14 0) (pr.cell w15 0) fun x16 =>
                (pr.cond x16
                 (pr.out 0 [.d (pr.lit (.int Go.IntKind.i64 (42)))])
                 (pr.bin .add false (pr.ld y6 0) (pr.lit (.int Go.IntKind.i64 (1))) fun x17 =>
                 (J6 0 [.d x17, .d (pr.ld y6 1), .d (pr.ld y6 2)])))))))
             (pr.bin .add false (pr.ld y6 0) (pr.lit (.int Go.IntKind.i64 (1))) fun x13 =>
             (J6 0 [.d x13, .d (pr.ld y6 1), .d (pr.ld y6 2)]))))))]))
         (pr.out 1 [.d (pr.ld y6 1), .d (pr.ld y6 2)]))))
def L16_1  : (Nat → List (Y Δ N R M) → Ω) → E → Ω := fun J7 y7 =>
 (pr.lenD (pr.ld y7 2) fun x8 =>
        (pr.bin .lss false (pr.ld y7 0) x8 fun x9 =>
         (pr.cond x9
          (pr.rowD 3 (pr.ld y7 2) (pr.ld y7 0) fun w10 =>
          (pr.bnd (pr.call 22 [(pr.cell w10 0), (pr.cell w10 1), (pr.cell w10 2)]) [fun y11 => (pr.bin .neq false (pr.ld y11 0) (pr.lit (.int Go.IntKind.i64 (0))) fun x12 =>
            (pr.cond x12
             (pr.out 0 [.d (pr.lit (.int Go.IntKind.i64 (42)))])
             (pr.rowD 3 (pr.ld y7 2) (pr.ld y7 0) fun w13 =>
             (pr.bnd (pr.call 63 [(pr.ld y7 1), (pr.ld y7 2), (pr.cell w13 0)]) [fun y14 => (pr.bin .lss false (pr.ld y14 0) (pr.lit (.int Go.IntKind.i64 (0))) fun x15 =>
               (pr.cond x15
                (pr.out 0 [.d (pr.lit (.int Go.IntKind.i64 (42)))])
                (pr.bin .add false (pr.ld y7 0) (pr.lit (.int Go.IntKind.i64 (1))) fun x16 =>
                (J7 0 [.d x16, .d (pr.ld y7 1), .d (pr.ld y7 2)]))))]))))]))
          (pr.out 1 []))))
def G16 (a0 a1 : Δ) : Ω :=
 (pr.lenD a0 fun x0 =>
(pr.bnd (pr.call 61 [x0, (pr.lit (.int Go.IntKind.i64 (1))), (pr.lit (.int Go.IntKind.i64 (6)))]) [fun y1 => (pr.un .not (pr.ld y1 0) fun x2 => (pr.cond x2
   (pr.out 0 [.d (pr.lit (.int Go.IntKind.i64 (42)))])
   (pr.lenD a1 fun x3 =>
   (pr.bnd (pr.call 61 [x3, (pr.lit (.int Go.IntKind.i64 (1))), (pr.lit (.int Go.IntKind.i64 (24)))]) [fun y4 => (pr.un .not (pr.ld y4 0) fun x5 => (pr.cond x5
      (pr.out 0 [.d (pr.lit (.int Go.IntKind.i64 (42)))])
      (pr.bnd (pr.loop [(L16_0 pr)] 0 [.d (pr.lit (.int Go.IntKind.i64 (0))), .d a0, .d a1]) [fun y6 => (pr.out 0 [.d (pr.ld y6 0)]), fun y6 => (pr.bnd (pr.loop [(L16_1 pr)] 0 [.d (pr.lit (.int Go.IntKind.i64 (0))), .d (pr.ld y6 0), .d (pr.ld y6 1)]) [fun y7 => (pr.out 0 [.d (pr.ld y7 0)]), fun y7 => (pr.out 0 [.d (pr.lit (.int Go.IntKind.i64 (0)))])])])))]))))]))
/-! leazing/drift.CheckClaims -/
def L17_0  : (Nat → List (Y Δ N R M) → Ω) → E → Ω := fun J6 y6 =>
 (pr.bin .lss false (pr.ld y6 3) (pr.ld y6 2) fun x7 =>
       (pr.cond x7
        (pr.rowD 4 (pr.ld y6 1) (pr.ld y6 3) fun w8 =>
        (pr.cutD 4 (pr.ld y6 0) none (some (pr.ld y6 3)) fun x9 =>
         (pr.bnd (pr.call 64 [x9, (pr.fnD 65 [(pr.dpD [(pr.cell w8 0), (pr.cell w8 1), (pr.cell w8 2), (pr.cell w8 3)] 0)])]) [fun y10 => (pr.lits [.d (pr.ld y10 0)]
           (pr.bnd (pr.call 23 [(pr.cell w8 0), (pr.cell w8 1), (pr.cell w8 2), (pr.cell w8 3)]) [fun y11 => (pr.bin .neq false (pr.ld y11 0) (pr.lit (.int Go.IntKind.i64 (0))) fun x12 =>
            (pr.cond x12
             (pr.out 0 [.d (pr.lit (.int Go.IntKind.i64 (44)))])
             (pr.cond (pr.ld y10 0)
             (pr.out 0 [.d (pr.lit (.int Go.IntKind.i64 (44)))])
             (pr.lenD (pr.ld y6 5) fun x13 =>
             (pr.bin .geq false (pr.cell w8 3) x13 fun x14 =>
              (pr.cond x14
               (pr.out 0 [.d (pr.lit (.int Go.IntKind.i64 (44)))])
               (pr.bin .add false (pr.ld y6 3) (pr.lit (.int Go.IntKind.i64 (1))) fun x15 =>
               (J6 0 [.d (pr.ld y6 0), .d (pr.ld y6 1), .d (pr.ld y6 2), .d x15, .d (pr.ld y6 4), .d (pr.ld y6 5)]))))))))]))])))
        (pr.out 1 [])))
def G17 (a0 a1 a2 : Δ) : Ω :=
 (pr.bnd (pr.call 15 [a0, a1]) [fun y0 => (pr.bin .neq false (pr.ld y0 0) (pr.lit (.int Go.IntKind.i64 (0))) fun x1 =>
 (pr.cond x1
  (pr.out 0 [.d (pr.ld y0 0)])
  (pr.lenD a2 fun x2 =>
  (pr.bnd (pr.call 59 [x2, (pr.lit (.int Go.IntKind.i64 (1))), (pr.lit (.int Go.IntKind.i64 (12)))]) [fun y3 => (pr.un .not (pr.ld y3 0) fun x4 => (pr.cond x4
     (pr.out 0 [.d (pr.lit (.int Go.IntKind.i64 (44)))])
     (pr.lenD a2 fun x5 =>
     (pr.bnd (pr.loop [(L17_0 pr)] 0 [.d a2, .d a2, .d x5, .d (pr.lit (.int Go.IntKind.i64 (0))), .d a0, .d a1]) [fun y6 => (pr.out 0 [.d (pr.ld y6 0)]), fun y6 => (pr.out 0 [.d (pr.lit (.int Go.IntKind.i64 (0)))])]))))]))))])
/-! leazing/leazingref04.CheckClaims -/
def G18 (a0 a1 a2 : Δ) : Ω :=
 (pr.bnd (pr.call 16 [a0, a1]) [fun y0 => (pr.bin .neq false (pr.ld y0 0) (pr.lit (.int Go.IntKind.i64 (0))) fun x1 =>
 (pr.cond x1
  (pr.out 0 [.d (pr.lit (.int Go.IntKind.i64 (42)))])
  (pr.bnd (pr.call 66 [a0, a1, a2]) [fun y2 => (pr.un .not (pr.ld y2 0) fun x3 => (pr.cond x3
    (pr.out 0 [.d (pr.lit (.int Go.IntKind.i64 (44)))])
    (pr.out 0 [.d (pr.lit (.int Go.IntKind.i64 (0)))])))])))])
/-! leazing/drift.CheckChain -/
def G19 (a0 a1 a2 : Δ) : Ω :=
 (pr.bnd (pr.call 59 [a0, (pr.lit (.int Go.IntKind.i64 (1))), (pr.lit (.int Go.IntKind.i64 (99)))]) [fun y0 => (pr.un .not (pr.ld y0 0) fun x1 => (pr.cond x1
  (pr.out 0 [.d (pr.lit (.int Go.IntKind.i64 (40)))])
  (pr.bin .lss false a1 (pr.lit (.int Go.IntKind.i64 (1))) fun x2 =>
  (pr.cond x2
   (pr.out 0 [.d (pr.lit (.int Go.IntKind.i64 (40)))])
   (pr.bin .lss false a2 a1 fun x3 =>
   (pr.cond x3
    (pr.out 0 [.d (pr.lit (.int Go.IntKind.i64 (40)))])
    (pr.bin .gtr false a2 (pr.lit (.int Go.IntKind.i64 (1000))) fun x4 =>
    (pr.cond x4
     (pr.out 0 [.d (pr.lit (.int Go.IntKind.i64 (40)))])
     (pr.out 0 [.d (pr.lit (.int Go.IntKind.i64 (0)))])))))))))])
/-! leazing/leazingref04.CheckChain -/
def G20 (a0 a1 a2 : Δ) : Ω :=
 (pr.bnd (pr.call 61 [a0, (pr.lit (.int Go.IntKind.i64 (1))), (pr.lit (.int Go.IntKind.i64 (99)))]) [fun y0 => (pr.un .not (pr.ld y0 0) fun x1 => (pr.cond x1
  (pr.out 0 [.d (pr.lit (.int Go.IntKind.i64 (40)))])
  (pr.bnd (pr.call 61 [a1, (pr.lit (.int Go.IntKind.i64 (1))), a2]) [fun y2 => (pr.un .not (pr.ld y2 0) fun x3 => (pr.cond x3
    (pr.out 0 [.d (pr.lit (.int Go.IntKind.i64 (40)))])
    (pr.bin .gtr false a2 (pr.lit (.int Go.IntKind.i64 (1000))) fun x4 =>
    (pr.cond x4
     (pr.out 0 [.d (pr.lit (.int Go.IntKind.i64 (40)))])
     (pr.out 0 [.d (pr.lit (.int Go.IntKind.i64 (0)))])))))])))])
/-! leazing/drift.CheckCell -/
def G21 (a0 a1 a2 : Δ) : Ω :=
 (pr.bnd (pr.call 59 [a0, (pr.lit (.int Go.IntKind.i64 (1))), (pr.lit (.int Go.IntKind.i64 (99)))]) [fun y0 => (pr.un .not (pr.ld y0 0) fun x1 => (pr.cond x1
  (pr.out 0 [.d (pr.lit (.int Go.IntKind.i64 (41)))])
  (pr.bnd (pr.call 59 [a1, (pr.lit (.int Go.IntKind.i64 (1))), (pr.lit (.int Go.IntKind.i64 (1000)))]) [fun y2 => (pr.un .not (pr.ld y2 0) fun x3 => (pr.cond x3
    (pr.out 0 [.d (pr.lit (.int Go.IntKind.i64 (41)))])
    (pr.bnd (pr.call 59 [a2, (pr.lit (.int Go.IntKind.i64 (0))), (pr.lit (.int Go.IntKind.i64 (10000)))]) [fun y4 => (pr.un .not (pr.ld y4 0) fun x5 => (pr.cond x5
      (pr.out 0 [.d (pr.lit (.int Go.IntKind.i64 (41)))])
      (pr.out 0 [.d (pr.lit (.int Go.IntKind.i64 (0)))])))])))])))])
/-! leazing/leazingref04.CheckCell -/
def G22 (a0 a1 a2 : Δ) : Ω :=
 (pr.bnd (pr.call 61 [a0, (pr.lit (.int Go.IntKind.i64 (1))), (pr.lit (.int Go.IntKind.i64 (99)))]) [fun y0 => (pr.un .not (pr.ld y0 0) fun x1 => (pr.cond x1
  (pr.out 0 [.d (pr.lit (.int Go.IntKind.i64 (41)))])
  (pr.bnd (pr.call 61 [a1, (pr.lit (.int Go.IntKind.i64 (1))), (pr.lit (.int Go.IntKind.i64 (1000)))]) [fun y2 => (pr.un .not (pr.ld y2 0) fun x3 => (pr.cond x3
    (pr.out 0 [.d (pr.lit (.int Go.IntKind.i64 (41)))])
    (pr.bnd (pr.call 61 [a2, (pr.lit (.int Go.IntKind.i64 (0))), (pr.lit (.int Go.IntKind.i64 (10000)))]) [fun y4 => (pr.un .not (pr.ld y4 0) fun x5 => (pr.cond x5
      (pr.out 0 [.d (pr.lit (.int Go.IntKind.i64 (41)))])
      (pr.out 0 [.d (pr.lit (.int Go.IntKind.i64 (0)))])))])))])))])
/-! leazing/drift.CheckClaim -/
def G23 (a0 a1 a2 a3 : Δ) : Ω :=
 (pr.bnd (pr.call 59 [a0, (pr.lit (.int Go.IntKind.i64 (1))), (pr.lit (.int Go.IntKind.i64 (99)))]) [fun y0 => (pr.un .not (pr.ld y0 0) fun x1 => (pr.cond x1
  (pr.out 0 [.d (pr.lit (.int Go.IntKind.i64 (43)))])
  (pr.bnd (pr.call 59 [a1, (pr.lit (.int Go.IntKind.i64 (1))), (pr.lit (.int Go.IntKind.i64 (20)))]) [fun y2 => (pr.un .not (pr.ld y2 0) fun x3 => (pr.cond x3
    (pr.out 0 [.d (pr.lit (.int Go.IntKind.i64 (43)))])
    (pr.bin .lss false a2 (pr.lit (.int Go.IntKind.i64 (0))) fun x4 =>
    (pr.cond x4
     (pr.out 0 [.d (pr.lit (.int Go.IntKind.i64 (43)))])
     (pr.bin .lss false a3 a2 fun x5 =>
     (pr.cond x5
      (pr.out 0 [.d (pr.lit (.int Go.IntKind.i64 (43)))])
      (pr.bin .geq false a3 (pr.lit (.int Go.IntKind.i64 (24))) fun x6 =>
      (pr.cond x6
       (pr.out 0 [.d (pr.lit (.int Go.IntKind.i64 (43)))])
       (pr.out 0 [.d (pr.lit (.int Go.IntKind.i64 (0)))])))))))))])))])
/-! leazing/leazingref04.CheckClaim -/
def G24 (a0 a1 a2 a3 : Δ) : Ω :=
 (pr.bnd (pr.call 61 [a0, (pr.lit (.int Go.IntKind.i64 (1))), (pr.lit (.int Go.IntKind.i64 (99)))]) [fun y0 => (pr.un .not (pr.ld y0 0) fun x1 => (pr.cond x1
  (pr.out 0 [.d (pr.lit (.int Go.IntKind.i64 (43)))])
  (pr.bnd (pr.call 61 [a1, (pr.lit (.int Go.IntKind.i64 (1))), (pr.lit (.int Go.IntKind.i64 (20)))]) [fun y2 => (pr.un .not (pr.ld y2 0) fun x3 => (pr.cond x3
    (pr.out 0 [.d (pr.lit (.int Go.IntKind.i64 (43)))])
    (pr.bnd (pr.call 61 [a2, (pr.lit (.int Go.IntKind.i64 (0))), a3]) [fun y4 => (pr.un .not (pr.ld y4 0) fun x5 => (pr.cond x5
      (pr.out 0 [.d (pr.lit (.int Go.IntKind.i64 (43)))])
      (pr.bin .geq false a3 (pr.lit (.int Go.IntKind.i64 (24))) fun x6 =>
      (pr.cond x6
       (pr.out 0 [.d (pr.lit (.int Go.IntKind.i64 (43)))])
       (pr.out 0 [.d (pr.lit (.int Go.IntKind.i64 (0)))])))))])))])))])
end
theorem G3_eq {Δ N R W M E Ω : Type} (pr : Pr Δ N R W M E Ω) (a0 a1 a2 a3 a4 a5 a6 a7 a8 a9 a10 a11 a12 a13 : Δ) : fun3 pr tb Try.prog 400 3 [a0, a1, a2, a3, a4, a5, a6, a7, a8, a9, a10, a11, a12, a13] = G3 pr a0 a1 a2 a3 a4 a5 a6 a7 a8 a9 a10 a11 a12 a13 := by kernel_rfl
theorem F3 (n : Nat) (a0 a1 a2 a3 a4 a5 a6 a7 a8 a9 a10 a11 a12 a13 : D) : FN (n + 1) 3 [a0, a1, a2, a3, a4, a5, a6, a7, a8, a9, a10, a11, a12, a13] = G3 (RP n) a0 a1 a2 a3 a4 a5 a6 a7 a8 a9 a10 a11 a12 a13 := G3_eq _ a0 a1 a2 a3 a4 a5 a6 a7 a8 a9 a10 a11 a12 a13
theorem G4_eq {Δ N R W M E Ω : Type} (pr : Pr Δ N R W M E Ω) (a0 a1 a2 a3 : Δ) : fun3 pr tb Try.prog 400 4 [a0, a1, a2, a3] = G4 pr a0 a1 a2 a3 := by kernel_rfl
theorem F4 (n : Nat) (a0 a1 a2 a3 : D) : FN (n + 1) 4 [a0, a1, a2, a3] = G4 (RP n) a0 a1 a2 a3 := G4_eq _ a0 a1 a2 a3
theorem G7_eq {Δ N R W M E Ω : Type} (pr : Pr Δ N R W M E Ω) (a0 a1 a2 a3 a4 a5 : Δ) : fun3 pr tb Try.prog 400 7 [a0, a1, a2, a3, a4, a5] = G7 pr a0 a1 a2 a3 a4 a5 := by kernel_rfl
theorem F7 (n : Nat) (a0 a1 a2 a3 a4 a5 : D) : FN (n + 1) 7 [a0, a1, a2, a3, a4, a5] = G7 (RP n) a0 a1 a2 a3 a4 a5 := G7_eq _ a0 a1 a2 a3 a4 a5
theorem G8_eq {Δ N R W M E Ω : Type} (pr : Pr Δ N R W M E Ω) (a0 a1 a2 a3 a4 a5 a6 a7 a8 a9 a10 : Δ) : fun3 pr tb Try.prog 400 8 [a0, a1, a2, a3, a4, a5, a6, a7, a8, a9, a10] = G8 pr a0 a1 a2 a3 a4 a5 a6 a7 a8 a9 a10 := by kernel_rfl
theorem F8 (n : Nat) (a0 a1 a2 a3 a4 a5 a6 a7 a8 a9 a10 : D) : FN (n + 1) 8 [a0, a1, a2, a3, a4, a5, a6, a7, a8, a9, a10] = G8 (RP n) a0 a1 a2 a3 a4 a5 a6 a7 a8 a9 a10 := G8_eq _ a0 a1 a2 a3 a4 a5 a6 a7 a8 a9 a10
theorem G12_eq {Δ N R W M E Ω : Type} (pr : Pr Δ N R W M E Ω) (a0 a1 a2 a3 : Δ) : fun3 pr tb Try.prog 400 12 [a0, a1, a2, a3] = G12 pr a0 a1 a2 a3 := by kernel_rfl
theorem F12 (n : Nat) (a0 a1 a2 a3 : D) : FN (n + 1) 12 [a0, a1, a2, a3] = G12 (RP n) a0 a1 a2 a3 := G12_eq _ a0 a1 a2 a3
theorem G13_eq {Δ N R W M E Ω : Type} (pr : Pr Δ N R W M E Ω) (a0 a1 a2 a3 : Δ) : fun3 pr tb Try.prog 400 13 [a0, a1, a2, a3] = G13 pr a0 a1 a2 a3 := by kernel_rfl
theorem F13 (n : Nat) (a0 a1 a2 a3 : D) : FN (n + 1) 13 [a0, a1, a2, a3] = G13 (RP n) a0 a1 a2 a3 := G13_eq _ a0 a1 a2 a3
theorem G14_eq {Δ N R W M E Ω : Type} (pr : Pr Δ N R W M E Ω) (a0 a1 : Δ) : fun3 pr tb Try.prog 400 14 [a0, a1] = G14 pr a0 a1 := by kernel_rfl
theorem F14 (n : Nat) (a0 a1 : D) : FN (n + 1) 14 [a0, a1] = G14 (RP n) a0 a1 := G14_eq _ a0 a1
theorem G15_eq {Δ N R W M E Ω : Type} (pr : Pr Δ N R W M E Ω) (a0 a1 : Δ) : fun3 pr tb Try.prog 400 15 [a0, a1] = G15 pr a0 a1 := by kernel_rfl
theorem F15 (n : Nat) (a0 a1 : D) : FN (n + 1) 15 [a0, a1] = G15 (RP n) a0 a1 := G15_eq _ a0 a1
theorem G16_eq {Δ N R W M E Ω : Type} (pr : Pr Δ N R W M E Ω) (a0 a1 : Δ) : fun3 pr tb Try.prog 400 16 [a0, a1] = G16 pr a0 a1 := by kernel_rfl
theorem F16 (n : Nat) (a0 a1 : D) : FN (n + 1) 16 [a0, a1] = G16 (RP n) a0 a1 := G16_eq _ a0 a1
theorem G17_eq {Δ N R W M E Ω : Type} (pr : Pr Δ N R W M E Ω) (a0 a1 a2 : Δ) : fun3 pr tb Try.prog 400 17 [a0, a1, a2] = G17 pr a0 a1 a2 := by kernel_rfl
theorem F17 (n : Nat) (a0 a1 a2 : D) : FN (n + 1) 17 [a0, a1, a2] = G17 (RP n) a0 a1 a2 := G17_eq _ a0 a1 a2
theorem G18_eq {Δ N R W M E Ω : Type} (pr : Pr Δ N R W M E Ω) (a0 a1 a2 : Δ) : fun3 pr tb Try.prog 400 18 [a0, a1, a2] = G18 pr a0 a1 a2 := by kernel_rfl
theorem F18 (n : Nat) (a0 a1 a2 : D) : FN (n + 1) 18 [a0, a1, a2] = G18 (RP n) a0 a1 a2 := G18_eq _ a0 a1 a2
theorem G19_eq {Δ N R W M E Ω : Type} (pr : Pr Δ N R W M E Ω) (a0 a1 a2 : Δ) : fun3 pr tb Try.prog 400 19 [a0, a1, a2] = G19 pr a0 a1 a2 := by kernel_rfl
theorem F19 (n : Nat) (a0 a1 a2 : D) : FN (n + 1) 19 [a0, a1, a2] = G19 (RP n) a0 a1 a2 := G19_eq _ a0 a1 a2
theorem G20_eq {Δ N R W M E Ω : Type} (pr : Pr Δ N R W M E Ω) (a0 a1 a2 : Δ) : fun3 pr tb Try.prog 400 20 [a0, a1, a2] = G20 pr a0 a1 a2 := by kernel_rfl
theorem F20 (n : Nat) (a0 a1 a2 : D) : FN (n + 1) 20 [a0, a1, a2] = G20 (RP n) a0 a1 a2 := G20_eq _ a0 a1 a2
theorem G21_eq {Δ N R W M E Ω : Type} (pr : Pr Δ N R W M E Ω) (a0 a1 a2 : Δ) : fun3 pr tb Try.prog 400 21 [a0, a1, a2] = G21 pr a0 a1 a2 := by kernel_rfl
theorem F21 (n : Nat) (a0 a1 a2 : D) : FN (n + 1) 21 [a0, a1, a2] = G21 (RP n) a0 a1 a2 := G21_eq _ a0 a1 a2
theorem G22_eq {Δ N R W M E Ω : Type} (pr : Pr Δ N R W M E Ω) (a0 a1 a2 : Δ) : fun3 pr tb Try.prog 400 22 [a0, a1, a2] = G22 pr a0 a1 a2 := by kernel_rfl
theorem F22 (n : Nat) (a0 a1 a2 : D) : FN (n + 1) 22 [a0, a1, a2] = G22 (RP n) a0 a1 a2 := G22_eq _ a0 a1 a2
theorem G23_eq {Δ N R W M E Ω : Type} (pr : Pr Δ N R W M E Ω) (a0 a1 a2 a3 : Δ) : fun3 pr tb Try.prog 400 23 [a0, a1, a2, a3] = G23 pr a0 a1 a2 a3 := by kernel_rfl
theorem F23 (n : Nat) (a0 a1 a2 a3 : D) : FN (n + 1) 23 [a0, a1, a2, a3] = G23 (RP n) a0 a1 a2 a3 := G23_eq _ a0 a1 a2 a3
theorem G24_eq {Δ N R W M E Ω : Type} (pr : Pr Δ N R W M E Ω) (a0 a1 a2 a3 : Δ) : fun3 pr tb Try.prog 400 24 [a0, a1, a2, a3] = G24 pr a0 a1 a2 a3 := by kernel_rfl
theorem F24 (n : Nat) (a0 a1 a2 a3 : D) : FN (n + 1) 24 [a0, a1, a2, a3] = G24 (RP n) a0 a1 a2 a3 := G24_eq _ a0 a1 a2 a3
end Go.VE
/- What the functions of this program do, made by a program of ours out of the evaluator itself. -/
namespace Go.VE
open Go.RowKit Go.Proofs
set_option maxRecDepth 100000
set_option maxHeartbeats 4000000
section
variable {Δ N R W M E Ω : Type} (pr : Pr Δ N R W M E Ω)
/-! leazing/leazingref04.Made -/
def L25_0  : (Nat → List (Y Δ N R M) → Ω) → E → Ω := fun J0 y0 =>
 (pr.lenD (pr.ld y0 1) fun x1 =>
 (pr.bin .lss false (pr.ld y0 0) x1 fun x2 =>
  (pr.cond x2
   (pr.bin .lss false (pr.ld y0 0) (pr.lit (.int Go.IntKind.i64 (3))) fun x3 =>
   (pr.cond x3
    (pr.bnd (pr.lenD (pr.ld y0 1) fun x4 =>
    (pr.bin .lss false (pr.ld y0 0) x4 fun x5 =>
     (pr.cond x5
      (pr.rowD 2 (pr.ld y0 1) (pr.ld y0 0) fun w6 =>
      (pr.out 0 [.d (pr.ld y0 0), .d (pr.cell w6 0), .d (pr.cell w6 1), .d (pr.ld y0 1), .d (pr.ld y0 2), .d (pr.ld y0 3)]))
      (pr.out 0 [.d (pr.ld y0 0), .d (pr.lit (.int Go.IntKind.i64 (0))), .d (pr.lit (.int Go.IntKind.i64 (0))), .d (pr.ld y0 1), .d (pr.ld y0 2), .d (pr.ld y0 3)])))) [fun y4 => (pr.bin .add false (pr.lit (.int Go.IntKind.i64 (1))) (pr.ld y4 0) fun x5 =>
     (pr.bnd (pr.call 26 [(pr.ld y4 1), (pr.lit (.int Go.IntKind.i64 (20)))]) [fun y6 => (pr.bin .add false (pr.lit (.int Go.IntKind.i64 (90))) (pr.ld y6 0) fun x7 =>
       (pr.bnd (pr.call 26 [(pr.ld y4 2), (pr.lit (.int Go.IntKind.i64 (12)))]) [fun y8 => (pr.bin .add false x7 (pr.ld y8 0) fun x9 =>
         (pr.eqN (pr.natN 1) (pr.len (pr.rows [[x5, x7, x9]])) (pr.isNil (pr.seg (pr.rows [[x5, x7, x9]]) none (pr.natN 1))
          (pr.bin .add false (pr.ld y4 0) (pr.lit (.int Go.IntKind.i64 (1))) fun x10 =>
          (J0 0 [.d x10, .d (pr.ld y4 3), .d (pr.ld y4 4), .d (pr.ld y4 5)]))
          (pr.fits 24 (pr.len (pr.seg (pr.rows [[x5, x7, x9]]) none (pr.natN 1)))
          (pr.bin .add false (pr.ld y4 0) (pr.lit (.int Go.IntKind.i64 (1))) fun x10 =>
          (J0 1 [.d x10, .r (pr.seg (pr.rows [[x5, x7, x9]]) none (pr.natN 1)), .n (pr.len (pr.seg (pr.rows [[x5, x7, x9]]) none (pr.natN 1))), .n (pr.len (pr.seg (pr.rows [[x5, x7, x9]]) none (pr.natN 1))), .d (pr.ld y4 3), .d (pr.ld y4 4), .d (pr.ld y4 5)]))))))]))]))])
    (pr.bin .eql false (pr.ld y0 0) (pr.lit (.int Go.IntKind.i64 (0))) fun x4 =>
    (pr.cond x4
     (pr.bnd (pr.lenD (pr.ld y0 1) fun x5 =>
     (pr.bin .lss false (pr.ld y0 0) x5 fun x6 =>
      (pr.cond x6
       (pr.rowD 2 (pr.ld y0 1) (pr.ld y0 0) fun w7 =>
       (pr.out 0 [.d (pr.ld y0 0), .d (pr.cell w7 0), .d (pr.cell w7 1), .d (pr.ld y0 1), .d (pr.ld y0 2), .d (pr.ld y0 3)]))
       (pr.out 0 [.d (pr.ld y0 0), .d (pr.lit (.int Go.IntKind.i64 (0))), .d (pr.lit (.int Go.IntKind.i64 (0))), .d (pr.ld y0 1), .d (pr.ld y0 2), .d (pr.ld y0 3)])))) [fun y5 => (pr.bin .add false (pr.lit (.int Go.IntKind.i64 (1))) (pr.ld y5 0) fun x6 =>
      (pr.bnd (pr.call 26 [(pr.ld y5 1), (pr.lit (.int Go.IntKind.i64 (20)))]) [fun y7 => (pr.bin .add false (pr.lit (.int Go.IntKind.i64 (90))) (pr.ld y7 0) fun x8 =>
        (pr.bnd (pr.call 26 [(pr.ld y5 2), (pr.lit (.int Go.IntKind.i64 (12)))]) [fun y9 => (pr.bin .add false x8 (pr.ld y9 0) fun x10 =>
          (pr.eqN (pr.natN 1) (pr.len (pr.rows [[x6, x8, x10]])) (pr.isNil (pr.seg (pr.rows [[x6, x8, x10]]) none (pr.natN 1))
           (pr.bin .add false (pr.ld y5 0) (pr.lit (.int Go.IntKind.i64 (1))) fun x11 =>
           (J0 0 [.d x11, .d (pr.ld y5 3), .d (pr.ld y5 4), .d (pr.ld y5 5)]))
           (pr.fits 24 (pr.len (pr.seg (pr.rows [[x6, x8, x10]]) none (pr.natN 1)))
           (pr.bin .add false (pr.ld y5 0) (pr.lit (.int Go.IntKind.i64 (1))) fun x11 =>
           (J0 1 [.d x11, .r (pr.seg (pr.rows [[x6, x8, x10]]) none (pr.natN 1)), .n (pr.len (pr.seg (pr.rows [[x6, x8, x10]]) none (pr.natN 1))), .n (pr.len (pr.seg (pr.rows [[x6, x8, x10]]) none (pr.natN 1))), .d (pr.ld y5 3), .d (pr.ld y5 4), .d (pr.ld y5 5)]))))))]))]))])
     (pr.out 0 [.d (pr.ld y0 1), .d (pr.ld y0 2), .d (pr.ld y0 3)])))))
   (pr.bin .eql false (pr.ld y0 0) (pr.lit (.int Go.IntKind.i64 (0))) fun x3 =>
   (pr.cond x3
    (pr.bnd (pr.lenD (pr.ld y0 1) fun x4 =>
    (pr.bin .lss false (pr.ld y0 0) x4 fun x5 =>
     (pr.cond x5
      (pr.rowD 2 (pr.ld y0 1) (pr.ld y0 0) fun w6 =>
      (pr.out 0 [.d (pr.ld y0 0), .d (pr.cell w6 0), .d (pr.cell w6 1), .d (pr.ld y0 1), .d (pr.ld y0 2), .d (pr.ld y0 3)]))
      (pr.out 0 [.d (pr.ld y0 0), .d (pr.lit (.int Go.IntKind.i64 (0))), .d (pr.lit (.int Go.IntKind.i64 (0))), .d (pr.ld y0 1), .d (pr.ld y0 2), .d (pr.ld y0 3)])))) [fun y4 => (pr.bin .add false (pr.lit (.int Go.IntKind.i64 (1))) (pr.ld y4 0) fun x5 =>
     (pr.bnd (pr.call 26 [(pr.ld y4 1), (pr.lit (.int Go.IntKind.i64 (20)))]) [fun y6 => (pr.bin .add false (pr.lit (.int Go.IntKind.i64 (90))) (pr.ld y6 0) fun x7 =>
       (pr.bnd (pr.call 26 [(pr.ld y4 2), (pr.lit (.int Go.IntKind.i64 (12)))]) [fun y8 => (pr.bin .add false x7 (pr.ld y8 0) fun x9 =>
         (pr.eqN (pr.natN 1) (pr.len (pr.rows [[x5, x7, x9]])) (pr.isNil (pr.seg (pr.rows [[x5, x7, x9]]) none (pr.natN 1))
          (pr.bin .add false (pr.ld y4 0) (pr.lit (.int Go.IntKind.i64 (1))) fun x10 =>
          (J0 0 [.d x10, .d (pr.ld y4 3), .d (pr.ld y4 4), .d (pr.ld y4 5)]))
          (pr.fits 24 (pr.len (pr.seg (pr.rows [[x5, x7, x9]]) none (pr.natN 1)))
          (pr.bin .add false (pr.ld y4 0) (pr.lit (.int Go.IntKind.i64 (1))) fun x10 =>
          (J0 1 [.d x10, .r (pr.seg (pr.rows [[x5, x7, x9]]) none (pr.natN 1)), .n (pr.len (pr.seg (pr.rows [[x5, x7, x9]]) none (pr.natN 1))), .n (pr.len (pr.seg (pr.rows [[x5, x7, x9]]) none (pr.natN 1))), .d (pr.ld y4 3), .d (pr.ld y4 4), .d (pr.ld y4 5)]))))))]))]))])
    (pr.out 0 [.d (pr.ld y0 1), .d (pr.ld y0 2), .d (pr.ld y0 3)]))))))
def L25_1  : (Nat → List (Y Δ N R M) → Ω) → E → Ω := fun J0 y0 =>
 (pr.lenD (pr.ld y0 4) fun x1 =>
 (pr.bin .lss false (pr.ld y0 0) x1 fun x2 =>
  (pr.cond x2
   (pr.bin .lss false (pr.ld y0 0) (pr.lit (.int Go.IntKind.i64 (3))) fun x3 =>
   (pr.cond x3
    (pr.bnd (pr.lenD (pr.ld y0 4) fun x4 =>
    (pr.bin .lss false (pr.ld y0 0) x4 fun x5 =>
     (pr.cond x5
      (pr.rowD 2 (pr.ld y0 4) (pr.ld y0 0) fun w6 =>
      (pr.out 0 [.d (pr.ld y0 0), .r (pr.lr y0 1), .d (pr.cell w6 0), .d (pr.cell w6 1), .n (pr.ln y0 2), .n (pr.ln y0 3), .d (pr.ld y0 4), .d (pr.ld y0 5), .d (pr.ld y0 6)]))
      (pr.out 0 [.d (pr.ld y0 0), .r (pr.lr y0 1), .d (pr.lit (.int Go.IntKind.i64 (0))), .d (pr.lit (.int Go.IntKind.i64 (0))), .n (pr.ln y0 2), .n (pr.ln y0 3), .d (pr.ld y0 4), .d (pr.ld y0 5), .d (pr.ld y0 6)])))) [fun y4 => (pr.bin .add false (pr.lit (.int Go.IntKind.i64 (1))) (pr.ld y4 0) fun x5 =>
     (pr.bnd (pr.call 26 [(pr.ld y4 2), (pr.lit (.int Go.IntKind.i64 (20)))]) [fun y6 => (pr.bin .add false (pr.lit (.int Go.IntKind.i64 (90))) (pr.ld y6 0) fun x7 =>
       (pr.bnd (pr.call 26 [(pr.ld y4 3), (pr.lit (.int Go.IntKind.i64 (12)))]) [fun y8 => (pr.bin .add false x7 (pr.ld y8 0) fun x9 =>
         (pr.eqN (pr.natN 1) (pr.len (pr.rows [[x5, x7, x9]])) (pr.eqN (pr.ln y4 5) (pr.len (pr.lr y4 1)) (pr.eqN (pr.ln y4 4) (pr.len (pr.lr y4 1)) (pr.fits 24 (pr.addN (pr.ln y4 4) (pr.len (pr.seg (pr.rows [[x5, x7, x9]]) none (pr.natN 1))))
          (pr.bin .add false (pr.ld y4 0) (pr.lit (.int Go.IntKind.i64 (1))) fun x10 =>
          (J0 1 [.d x10, .r (pr.app (pr.lr y4 1) (pr.seg (pr.rows [[x5, x7, x9]]) none (pr.natN 1))), .n (pr.addN (pr.ln y4 4) (pr.len (pr.seg (pr.rows [[x5, x7, x9]]) none (pr.natN 1)))), .n (pr.addN (pr.ln y4 4) (pr.len (pr.seg (pr.rows [[x5, x7, x9]]) none (pr.natN 1)))), .d (pr.ld y4 6), .d (pr.ld y4 7), .d (pr.ld y4 8)])))))))]))]))])
    (pr.bin .eql false (pr.ld y0 0) (pr.lit (.int Go.IntKind.i64 (0))) fun x4 =>
    (pr.cond x4
     (pr.bnd (pr.lenD (pr.ld y0 4) fun x5 =>
     (pr.bin .lss false (pr.ld y0 0) x5 fun x6 =>
      (pr.cond x6
       (pr.rowD 2 (pr.ld y0 4) (pr.ld y0 0) fun w7 =>
       (pr.out 0 [.d (pr.ld y0 0), .r (pr.lr y0 1), .d (pr.cell w7 0), .d (pr.cell w7 1), .n (pr.ln y0 2), .n (pr.ln y0 3), .d (pr.ld y0 4), .d (pr.ld y0 5), .d (pr.ld y0 6)]))
       (pr.out 0 [.d (pr.ld y0 0), .r (pr.lr y0 1), .d (pr.lit (.int Go.IntKind.i64 (0))), .d (pr.lit (.int Go.IntKind.i64 (0))), .n (pr.ln y0 2), .n (pr.ln y0 3), .d (pr.ld y0 4), .d (pr.ld y0 5), .d (pr.ld y0 6)])))) [fun y5 => (pr.bin .add false (pr.lit (.int Go.IntKind.i64 (1))) (pr.ld y5 0) fun x6 =>
      (pr.bnd (pr.call 26 [(pr.ld y5 2), (pr.lit (.int Go.IntKind.i64 (20)))]) [fun y7 => (pr.bin .add false (pr.lit (.int Go.IntKind.i64 (90))) (pr.ld y7 0) fun x8 =>
        (pr.bnd (pr.call 26 [(pr.ld y5 3), (pr.lit (.int Go.IntKind.i64 (12)))]) [fun y9 => (pr.bin .add false x8 (pr.ld y9 0) fun x10 =>
          (pr.eqN (pr.natN 1) (pr.len (pr.rows [[x6, x8, x10]])) (pr.eqN (pr.ln y5 5) (pr.len (pr.lr y5 1)) (pr.eqN (pr.ln y5 4) (pr.len (pr.lr y5 1)) (pr.fits 24 (pr.addN (pr.ln y5 4) (pr.len (pr.seg (pr.rows [[x6, x8, x10]]) none (pr.natN 1))))
           (pr.bin .add false (pr.ld y5 0) (pr.lit (.int Go.IntKind.i64 (1))) fun x11 =>
           (J0 1 [.d x11, .r (pr.app (pr.lr y5 1) (pr.seg (pr.rows [[x6, x8, x10]]) none (pr.natN 1))), .n (pr.addN (pr.ln y5 4) (pr.len (pr.seg (pr.rows [[x6, x8, x10]]) none (pr.natN 1)))), .n (pr.addN (pr.ln y5 4) (pr.len (pr.seg (pr.rows [[x6, x8, x10]]) none (pr.natN 1)))), .d (pr.ld y5 6), .d (pr.ld y5 7), .d (pr.ld y5 8)])))))))]))]))])
     (pr.out 1 [.r (pr.lr y0 1), .n (pr.ln y0 2), .n (pr.ln y0 3), .d (pr.ld y0 4), .d (pr.ld y0 5), .d (pr.ld y0 6)])))))
   (pr.bin .eql false (pr.ld y0 0) (pr.lit (.int Go.IntKind.i64 (0))) fun x3 =>
   (pr.cond x3
    (pr.bnd (pr.lenD (pr.ld y0 4) fun x4 =>
    (pr.bin .lss false (pr.ld y0 0) x4 fun x5 =>
     (pr.cond x5
      (pr.rowD 2 (pr.ld y0 4) (pr.ld y0 0) fun w6 =>
      (pr.out 0 [.d (pr.ld y0 0), .r (pr.lr y0 1), .d (pr.cell w6 0), .d (pr.cell w6 1), .n (pr.ln y0 2), .n (pr.ln y0 3), .d (pr.ld y0 4), .d (pr.ld y0 5), .d (pr.ld y0 6)]))
      (pr.out 0 [.d (pr.ld y0 0), .r (pr.lr y0 1), .d (pr.lit (.int Go.IntKind.i64 (0))), .d (pr.lit (.int Go.IntKind.i64 (0))), .n (pr.ln y0 2), .n (pr.ln y0 3), .d (pr.ld y0 4), .d (pr.ld y0 5), .d (pr.ld y0 6)])))) [fun y4 => (pr.bin .add false (pr.lit (.int Go.IntKind.i64 (1))) (pr.ld y4 0) fun x5 =>
     (pr.bnd (pr.call 26 [(pr.ld y4 2), (pr.lit (.int Go.IntKind.i64 (20)))]) [fun y6 => (pr.bin .add false (pr.lit (.int Go.IntKind.i64 (90))) (pr.ld y6 0) fun x7 =>
       (pr.bnd (pr.call 26 [(pr.ld y4 3), (pr.lit (.int Go.IntKind.i64 (12)))]) [fun y8 => (pr.bin .add false x7 (pr.ld y8 0) fun x9 =>
         (pr.eqN (pr.natN 1) (pr.len (pr.rows [[x5, x7, x9]])) (pr.eqN (pr.ln y4 5) (pr.len (pr.lr y4 1)) (pr.eqN (pr.ln y4 4) (pr.len (pr.lr y4 1)) (pr.fits 24 (pr.addN (pr.ln y4 4) (pr.len (pr.seg (pr.rows [[x5, x7, x9]]) none (pr.natN 1))))
          (pr.bin .add false (pr.ld y4 0) (pr.lit (.int Go.IntKind.i64 (1))) fun x10 =>
          (J0 1 [.d x10, .r (pr.app (pr.lr y4 1) (pr.seg (pr.rows [[x5, x7, x9]]) none (pr.natN 1))), .n (pr.addN (pr.ln y4 4) (pr.len (pr.seg (pr.rows [[x5, x7, x9]]) none (pr.natN 1)))), .n (pr.addN (pr.ln y4 4) (pr.len (pr.seg (pr.rows [[x5, x7, x9]]) none (pr.natN 1)))), .d (pr.ld y4 6), .d (pr.ld y4 7), .d (pr.ld y4 8)])))))))]))]))])
    (pr.out 1 [.r (pr.lr y0 1), .n (pr.ln y0 2), .n (pr.ln y0 3), .d (pr.ld y0 4), .d (pr.ld y0 5), .d (pr.ld y0 6)]))))))
def L25_2  : (Nat → List (Y Δ N R M) → Ω) → E → Ω := fun J1 y1 =>
 (pr.lenD (pr.ld y1 2) fun x2 =>
  (pr.bin .lss false (pr.ld y1 0) x2 fun x3 =>
   (pr.cond x3
    (pr.bin .lss false (pr.ld y1 0) (pr.lit (.int Go.IntKind.i64 (10))) fun x4 =>
    (pr.cond x4
     (pr.bnd (pr.lenD (pr.ld y1 2) fun x5 =>
     (pr.bin .lss false (pr.ld y1 0) x5 fun x6 =>
      (pr.cond x6
       (pr.rowD 3 (pr.ld y1 2) (pr.ld y1 0) fun w7 =>
       (pr.out 0 [.d (pr.ld y1 0), .d (pr.cell w7 0), .d (pr.cell w7 1), .d (pr.cell w7 2), .d (pr.ld y1 1), .d (pr.ld y1 2), .d (pr.ld y1 3)]))
       (pr.out 0 [.d (pr.ld y1 0), .d (pr.lit (.int Go.IntKind.i64 (0))), .d (pr.lit (.int Go.IntKind.i64 (0))), .d (pr.lit (.int Go.IntKind.i64 (0))), .d (pr.ld y1 1), .d (pr.ld y1 2), .d (pr.ld y1 3)])))) [fun y5 => (pr.bnd (pr.call 26 [(pr.ld y5 1), (pr.lit (.int Go.IntKind.i64 (0)))]) [fun y6 => (pr.bin .add false (pr.lit (.int Go.IntKind.i64 (1))) (pr.ld y6 0) fun x7 =>
       (pr.bnd (pr.call 26 [(pr.ld y5 2), (pr.lit (.int Go.IntKind.i64 (9)))]) [fun y8 => (pr.bin .add false (pr.lit (.int Go.IntKind.i64 (1))) (pr.ld y8 0) fun x9 =>
         (pr.bnd (pr.call 26 [(pr.ld y5 3), (pr.lit (.int Go.IntKind.i64 (12)))]) [fun y10 => (pr.eqN (pr.natN 1) (pr.len (pr.rows [[x7, x9, (pr.ld y10 0)]])) (pr.isNil (pr.seg (pr.rows [[x7, x9, (pr.ld y10 0)]]) none (pr.natN 1))
           (pr.bin .add false (pr.ld y5 0) (pr.lit (.int Go.IntKind.i64 (1))) fun x11 =>
           (J1 0 [.d x11, .d (pr.ld y5 4), .d (pr.ld y5 5), .d (pr.ld y5 6)]))
           (pr.fits 24 (pr.len (pr.seg (pr.rows [[x7, x9, (pr.ld y10 0)]]) none (pr.natN 1)))
           (pr.bin .add false (pr.ld y5 0) (pr.lit (.int Go.IntKind.i64 (1))) fun x11 =>
           (J1 1 [.d x11, .r (pr.seg (pr.rows [[x7, x9, (pr.ld y10 0)]]) none (pr.natN 1)), .n (pr.len (pr.seg (pr.rows [[x7, x9, (pr.ld y10 0)]]) none (pr.natN 1))), .n (pr.len (pr.seg (pr.rows [[x7, x9, (pr.ld y10 0)]]) none (pr.natN 1))), .d (pr.ld y5 4), .d (pr.ld y5 5), .d (pr.ld y5 6)])))))]))]))])])
     (pr.bin .eql false (pr.ld y1 0) (pr.lit (.int Go.IntKind.i64 (0))) fun x5 =>
     (pr.cond x5
      (pr.bnd (pr.lenD (pr.ld y1 2) fun x6 =>
      (pr.bin .lss false (pr.ld y1 0) x6 fun x7 =>
       (pr.cond x7
        (pr.rowD 3 (pr.ld y1 2) (pr.ld y1 0) fun w8 =>
        (pr.out 0 [.d (pr.ld y1 0), .d (pr.cell w8 0), .d (pr.cell w8 1), .d (pr.cell w8 2), .d (pr.ld y1 1), .d (pr.ld y1 2), .d (pr.ld y1 3)]))
        (pr.out 0 [.d (pr.ld y1 0), .d (pr.lit (.int Go.IntKind.i64 (0))), .d (pr.lit (.int Go.IntKind.i64 (0))), .d (pr.lit (.int Go.IntKind.i64 (0))), .d (pr.ld y1 1), .d (pr.ld y1 2), .d (pr.ld y1 3)])))) [fun y6 => (pr.bnd (pr.call 26 [(pr.ld y6 1), (pr.lit (.int Go.IntKind.i64 (0)))]) [fun y7 => (pr.bin .add false (pr.lit (.int Go.IntKind.i64 (1))) (pr.ld y7 0) fun x8 =>
        (pr.bnd (pr.call 26 [(pr.ld y6 2), (pr.lit (.int Go.IntKind.i64 (9)))]) [fun y9 => (pr.bin .add false (pr.lit (.int Go.IntKind.i64 (1))) (pr.ld y9 0) fun x10 =>
          (pr.bnd (pr.call 26 [(pr.ld y6 3), (pr.lit (.int Go.IntKind.i64 (12)))]) [fun y11 => (pr.eqN (pr.natN 1) (pr.len (pr.rows [[x8, x10, (pr.ld y11 0)]])) (pr.isNil (pr.seg (pr.rows [[x8, x10, (pr.ld y11 0)]]) none (pr.natN 1))
            (pr.bin .add false (pr.ld y6 0) (pr.lit (.int Go.IntKind.i64 (1))) fun x12 =>
            (J1 0 [.d x12, .d (pr.ld y6 4), .d (pr.ld y6 5), .d (pr.ld y6 6)]))
            (pr.fits 24 (pr.len (pr.seg (pr.rows [[x8, x10, (pr.ld y11 0)]]) none (pr.natN 1)))
            (pr.bin .add false (pr.ld y6 0) (pr.lit (.int Go.IntKind.i64 (1))) fun x12 =>
            (J1 1 [.d x12, .r (pr.seg (pr.rows [[x8, x10, (pr.ld y11 0)]]) none (pr.natN 1)), .n (pr.len (pr.seg (pr.rows [[x8, x10, (pr.ld y11 0)]]) none (pr.natN 1))), .n (pr.len (pr.seg (pr.rows [[x8, x10, (pr.ld y11 0)]]) none (pr.natN 1))), .d (pr.ld y6 4), .d (pr.ld y6 5), .d (pr.ld y6 6)])))))]))]))])])
      (pr.out 0 [.d (pr.ld y1 1), .d (pr.ld y1 2), .d (pr.ld y1 3)])))))
    (pr.bin .eql false (pr.ld y1 0) (pr.lit (.int Go.IntKind.i64 (0))) fun x4 =>
    (pr.cond x4
     (pr.bnd (pr.lenD (pr.ld y1 2) fun x5 =>
     (pr.bin .lss false (pr.ld y1 0) x5 fun x6 =>
      (pr.cond x6
       (pr.rowD 3 (pr.ld y1 2) (pr.ld y1 0) fun w7 =>
       (pr.out 0 [.d (pr.ld y1 0), .d (pr.cell w7 0), .d (pr.cell w7 1), .d (pr.cell w7 2), .d (pr.ld y1 1), .d (pr.ld y1 2), .d (pr.ld y1 3)]))
       (pr.out 0 [.d (pr.ld y1 0), .d (pr.lit (.int Go.IntKind.i64 (0))), .d (pr.lit (.int Go.IntKind.i64 (0))), .d (pr.lit (.int Go.IntKind.i64 (0))), .d (pr.ld y1 1), .d (pr.ld y1 2), .d (pr.ld y1 3)])))) [fun y5 => (pr.bnd (pr.call 26 [(pr.ld y5 1), (pr.lit (.int Go.IntKind.i64 (0)))]) [fun y6 => (pr.bin .add false (pr.lit (.int Go.IntKind.i64 (1))) (pr.ld y6 0) fun x7 =>
       (pr.bnd (pr.call 26 [(pr.ld y5 2), (pr.lit (.int Go.IntKind.i64 (9)))]) [fun y8 => (pr.bin .add false (pr.lit (.int Go.IntKind.i64 (1))) (pr.ld y8 0) fun x9 =>
         (pr.bnd (pr.call 26 [(pr.ld y5 3), (pr.lit (.int Go.IntKind.i64 (12)))]) [fun y10 => (pr.eqN (pr.natN 1) (pr.len (pr.rows [[x7, x9, (pr.ld y10 0)]])) (pr.isNil (pr.seg (pr.rows [[x7, x9, (pr.ld y10 0)]]) none (pr.natN 1))
           (pr.bin .add false (pr.ld y5 0) (pr.lit (.int Go.IntKind.i64 (1))) fun x11 =>
           (J1 0 [.d x11, .d (pr.ld y5 4), .d (pr.ld y5 5), .d (pr.ld y5 6)]))
           (pr.fits 24 (pr.len (pr.seg (pr.rows [[x7, x9, (pr.ld y10 0)]]) none (pr.natN 1)))
           (pr.bin .add false (pr.ld y5 0) (pr.lit (.int Go.IntKind.i64 (1))) fun x11 =>
           (J1 1 [.d x11, .r (pr.seg (pr.rows [[x7, x9, (pr.ld y10 0)]]) none (pr.natN 1)), .n (pr.len (pr.seg (pr.rows [[x7, x9, (pr.ld y10 0)]]) none (pr.natN 1))), .n (pr.len (pr.seg (pr.rows [[x7, x9, (pr.ld y10 0)]]) none (pr.natN 1))), .d (pr.ld y5 4), .d (pr.ld y5 5), .d (pr.ld y5 6)])))))]))]))])])
     (pr.out 0 [.d (pr.ld y1 1), .d (pr.ld y1 2), .d (pr.ld y1 3)]))))))
def L25_3  : (Nat → List (Y Δ N R M) → Ω) → E → Ω := fun J1 y1 =>
 (pr.lenD (pr.ld y1 5) fun x2 =>
  (pr.bin .lss false (pr.ld y1 0) x2 fun x3 =>
   (pr.cond x3
    (pr.bin .lss false (pr.ld y1 0) (pr.lit (.int Go.IntKind.i64 (10))) fun x4 =>
    (pr.cond x4
     (pr.bnd (pr.lenD (pr.ld y1 5) fun x5 =>
     (pr.bin .lss false (pr.ld y1 0) x5 fun x6 =>
      (pr.cond x6
       (pr.rowD 3 (pr.ld y1 5) (pr.ld y1 0) fun w7 =>
       (pr.out 0 [.d (pr.ld y1 0), .r (pr.lr y1 1), .d (pr.cell w7 0), .d (pr.cell w7 1), .d (pr.cell w7 2), .n (pr.ln y1 2), .n (pr.ln y1 3), .d (pr.ld y1 4), .d (pr.ld y1 5), .d (pr.ld y1 6)]))
       (pr.out 0 [.d (pr.ld y1 0), .r (pr.lr y1 1), .d (pr.lit (.int Go.IntKind.i64 (0))), .d (pr.lit (.int Go.IntKind.i64 (0))), .d (pr.lit (.int Go.IntKind.i64 (0))), .n (pr.ln y1 2), .n (pr.ln y1 3), .d (pr.ld y1 4), .d (pr.ld y1 5), .d (pr.ld y1 6)])))) [fun y5 => (pr.bnd (pr.call 26 [(pr.ld y5 2), (pr.lit (.int Go.IntKind.i64 (0)))]) [fun y6 => (pr.bin .add false (pr.lit (.int Go.IntKind.i64 (1))) (pr.ld y6 0) fun x7 =>
       (pr.bnd (pr.call 26 [(pr.ld y5 3), (pr.lit (.int Go.IntKind.i64 (9)))]) [fun y8 => (pr.bin .add false (pr.lit (.int Go.IntKind.i64 (1))) (pr.ld y8 0) fun x9 =>
         (pr.bnd (pr.call 26 [(pr.ld y5 4), (pr.lit (.int Go.IntKind.i64 (12)))]) [fun y10 => (pr.eqN (pr.natN 1) (pr.len (pr.rows [[x7, x9, (pr.ld y10 0)]])) (pr.eqN (pr.ln y5 6) (pr.len (pr.lr y5 1)) (pr.eqN (pr.ln y5 5) (pr.len (pr.lr y5 1)) (pr.fits 24 (pr.addN (pr.ln y5 5) (pr.len (pr.seg (pr.rows [[x7, x9, (pr.ld y10 0)]]) none (pr.natN 1))))
           (pr.bin .add false (pr.ld y5 0) (pr.lit (.int Go.IntKind.i64 (1))) fun x11 =>
           (J1 1 [.d x11, .r (pr.app (pr.lr y5 1) (pr.seg (pr.rows [[x7, x9, (pr.ld y10 0)]]) none (pr.natN 1))), .n (pr.addN (pr.ln y5 5) (pr.len (pr.seg (pr.rows [[x7, x9, (pr.ld y10 0)]]) none (pr.natN 1)))), .n (pr.addN (pr.ln y5 5) (pr.len (pr.seg (pr.rows [[x7, x9, (pr.ld y10 0)]]) none (pr.natN 1)))), .d (pr.ld y5 7), .d (pr.ld y5 8), .d (pr.ld y5 9)]))))))]))]))])])
     (pr.bin .eql false (pr.ld y1 0) (pr.lit (.int Go.IntKind.i64 (0))) fun x5 =>
     (pr.cond x5
      (pr.bnd (pr.lenD (pr.ld y1 5) fun x6 =>
      (pr.bin .lss false (pr.ld y1 0) x6 fun x7 =>
       (pr.cond x7
        (pr.rowD 3 (pr.ld y1 5) (pr.ld y1 0) fun w8 =>
        (pr.out 0 [.d (pr.ld y1 0), .r (pr.lr y1 1), .d (pr.cell w8 0), .d (pr.cell w8 1), .d (pr.cell w8 2), .n (pr.ln y1 2), .n (pr.ln y1 3), .d (pr.ld y1 4), .d (pr.ld y1 5), .d (pr.ld y1 6)]))
        (pr.out 0 [.d (pr.ld y1 0), .r (pr.lr y1 1), .d (pr.lit (.int Go.IntKind.i64 (0))), .d (pr.lit (.int Go.IntKind.i64 (0))), .d (pr.lit (.int Go.IntKind.i64 (0))), .n (pr.ln y1 2), .n (pr.ln y1 3), .d (pr.ld y1 4), .d (pr.ld y1 5), .d (pr.ld y1 6)])))) [fun y6 => (pr.bnd (pr.call 26 [(pr.ld y6 2), (pr.lit (.int Go.IntKind.i64 (0)))]) [fun y7 => (pr.bin .add false (pr.lit (.int Go.IntKind.i64 (1))) (pr.ld y7 0) fun x8 =>
        (pr.bnd (pr.call 26 [(pr.ld y6 3), (pr.lit (.int Go.IntKind.i64 (9)))]) [fun y9 => (pr.bin .add false (pr.lit (.int Go.IntKind.i64 (1))) (pr.ld y9 0) fun x10 =>
          (pr.bnd (pr.call 26 [(pr.ld y6 4), (pr.lit (.int Go.IntKind.i64 (12)))]) [fun y11 => (pr.eqN (pr.natN 1) (pr.len (pr.rows [[x8, x10, (pr.ld y11 0)]])) (pr.eqN (pr.ln y6 6) (pr.len (pr.lr y6 1)) (pr.eqN (pr.ln y6 5) (pr.len (pr.lr y6 1)) (pr.fits 24 (pr.addN (pr.ln y6 5) (pr.len (pr.seg (pr.rows [[x8, x10, (pr.ld y11 0)]]) none (pr.natN 1))))
            (pr.bin .add false (pr.ld y6 0) (pr.lit (.int Go.IntKind.i64 (1))) fun x12 =>
            (J1 1 [.d x12, .r (pr.app (pr.lr y6 1) (pr.seg (pr.rows [[x8, x10, (pr.ld y11 0)]]) none (pr.natN 1))), .n (pr.addN (pr.ln y6 5) (pr.len (pr.seg (pr.rows [[x8, x10, (pr.ld y11 0)]]) none (pr.natN 1)))), .n (pr.addN (pr.ln y6 5) (pr.len (pr.seg (pr.rows [[x8, x10, (pr.ld y11 0)]]) none (pr.natN 1)))), .d (pr.ld y6 7), .d (pr.ld y6 8), .d (pr.ld y6 9)]))))))]))]))])])
      (pr.out 1 [.r (pr.lr y1 1), .n (pr.ln y1 2), .n (pr.ln y1 3), .d (pr.ld y1 4), .d (pr.ld y1 5), .d (pr.ld y1 6)])))))
    (pr.bin .eql false (pr.ld y1 0) (pr.lit (.int Go.IntKind.i64 (0))) fun x4 =>
    (pr.cond x4
     (pr.bnd (pr.lenD (pr.ld y1 5) fun x5 =>
     (pr.bin .lss false (pr.ld y1 0) x5 fun x6 =>
      (pr.cond x6
       (pr.rowD 3 (pr.ld y1 5) (pr.ld y1 0) fun w7 =>
       (pr.out 0 [.d (pr.ld y1 0), .r (pr.lr y1 1), .d (pr.cell w7 0), .d (pr.cell w7 1), .d (pr.cell w7 2), .n (pr.ln y1 2), .n (pr.ln y1 3), .d (pr.ld y1 4), .d (pr.ld y1 5), .d (pr.ld y1 6)]))
       (pr.out 0 [.d (pr.ld y1 0), .r (pr.lr y1 1), .d (pr.lit (.int Go.IntKind.i64 (0))), .d (pr.lit (.int Go.IntKind.i64 (0))), .d (pr.lit (.int Go.IntKind.i64 (0))), .n (pr.ln y1 2), .n (pr.ln y1 3), .d (pr.ld y1 4), .d (pr.ld y1 5), .d (pr.ld y1 6)])))) [fun y5 => (pr.bnd (pr.call 26 [(pr.ld y5 2), (pr.lit (.int Go.IntKind.i64 (0)))]) [fun y6 => (pr.bin .add false (pr.lit (.int Go.IntKind.i64 (1))) (pr.ld y6 0) fun x7 =>
       (pr.bnd (pr.call 26 [(pr.ld y5 3), (pr.lit (.int Go.IntKind.i64 (9)))]) [fun y8 => (pr.bin .add false (pr.lit (.int Go.IntKind.i64 (1))) (pr.ld y8 0) fun x9 =>
         (pr.bnd (pr.call 26 [(pr.ld y5 4), (pr.lit (.int Go.IntKind.i64 (12)))]) [fun y10 => (pr.eqN (pr.natN 1) (pr.len (pr.rows [[x7, x9, (pr.ld y10 0)]])) (pr.eqN (pr.ln y5 6) (pr.len (pr.lr y5 1)) (pr.eqN (pr.ln y5 5) (pr.len (pr.lr y5 1)) (pr.fits 24 (pr.addN (pr.ln y5 5) (pr.len (pr.seg (pr.rows [[x7, x9, (pr.ld y10 0)]]) none (pr.natN 1))))
           (pr.bin .add false (pr.ld y5 0) (pr.lit (.int Go.IntKind.i64 (1))) fun x11 =>
           (J1 1 [.d x11, .r (pr.app (pr.lr y5 1) (pr.seg (pr.rows [[x7, x9, (pr.ld y10 0)]]) none (pr.natN 1))), .n (pr.addN (pr.ln y5 5) (pr.len (pr.seg (pr.rows [[x7, x9, (pr.ld y10 0)]]) none (pr.natN 1)))), .n (pr.addN (pr.ln y5 5) (pr.len (pr.seg (pr.rows [[x7, x9, (pr.ld y10 0)]]) none (pr.natN 1)))), .d (pr.ld y5 7), .d (pr.ld y5 8), .d (pr.ld y5 9)]))))))]))]))])])
     (pr.out 1 [.r (pr.lr y1 1), .n (pr.ln y1 2), .n (pr.ln y1 3), .d (pr.ld y1 4), .d (pr.ld y1 5), .d (pr.ld y1 6)]))))))
def L25_4  : (Nat → List (Y Δ N R M) → Ω) → E → Ω := fun J2 y2 =>
 (pr.lenD (pr.ld y2 3) fun x3 =>
   (pr.bin .lss false (pr.ld y2 0) x3 fun x4 =>
    (pr.cond x4
     (pr.bin .lss false (pr.ld y2 0) (pr.lit (.int Go.IntKind.i64 (6))) fun x5 =>
     (pr.cond x5
      (pr.bnd (pr.lenD (pr.ld y2 3) fun x6 =>
      (pr.bin .lss false (pr.ld y2 0) x6 fun x7 =>
       (pr.cond x7
        (pr.rowD 3 (pr.ld y2 3) (pr.ld y2 0) fun w8 =>
        (pr.out 0 [.d (pr.ld y2 0), .d (pr.cell w8 0), .d (pr.cell w8 1), .d (pr.cell w8 2), .d (pr.ld y2 1), .d (pr.ld y2 2), .d (pr.ld y2 3)]))
        (pr.out 0 [.d (pr.ld y2 0), .d (pr.lit (.int Go.IntKind.i64 (0))), .d (pr.lit (.int Go.IntKind.i64 (0))), .d (pr.lit (.int Go.IntKind.i64 (0))), .d (pr.ld y2 1), .d (pr.ld y2 2), .d (pr.ld y2 3)])))) [fun y6 => (pr.bin .mul false (pr.lit (.int Go.IntKind.i64 (2))) (pr.ld y6 0) fun x7 =>
       (pr.bin .add false (pr.lit (.int Go.IntKind.i64 (3))) x7 fun x8 =>
        (pr.bnd (pr.call 26 [(pr.ld y6 1), (pr.lit (.int Go.IntKind.i64 (4)))]) [fun y9 => (pr.bin .add false (pr.lit (.int Go.IntKind.i64 (1))) (pr.ld y9 0) fun x10 =>
          (pr.bnd (pr.call 26 [(pr.ld y6 2), (pr.lit (.int Go.IntKind.i64 (0)))]) [fun y11 => (pr.bin .sub false (pr.lit (.int Go.IntKind.i64 (0))) (pr.ld y11 0) fun x12 =>
            (pr.bnd (pr.call 26 [(pr.ld y6 3), x12]) [fun y13 => (pr.bin .add false (pr.ld y11 0) (pr.ld y13 0) fun x14 =>
              (pr.eqN (pr.natN 1) (pr.len (pr.rows [[x8, x10, (pr.ld y11 0), x14]])) (pr.isNil (pr.seg (pr.rows [[x8, x10, (pr.ld y11 0), x14]]) none (pr.natN 1))
               (pr.bin .add false (pr.ld y6 0) (pr.lit (.int Go.IntKind.i64 (1))) fun x15 =>
               (J2 0 [.d x15, .d (pr.ld y6 4), .d (pr.ld y6 5), .d (pr.ld y6 6)]))
               (pr.fits 32 (pr.len (pr.seg (pr.rows [[x8, x10, (pr.ld y11 0), x14]]) none (pr.natN 1)))
               (pr.bin .add false (pr.ld y6 0) (pr.lit (.int Go.IntKind.i64 (1))) fun x15 =>
               (J2 1 [.n (pr.len (pr.seg (pr.rows [[x8, x10, (pr.ld y11 0), x14]]) none (pr.natN 1))), .n (pr.len (pr.seg (pr.rows [[x8, x10, (pr.ld y11 0), x14]]) none (pr.natN 1))), .d x15, .r (pr.seg (pr.rows [[x8, x10, (pr.ld y11 0), x14]]) none (pr.natN 1)), .d (pr.ld y6 4), .d (pr.ld y6 5), .d (pr.ld y6 6)]))))))]))]))])))])
      (pr.bin .eql false (pr.ld y2 0) (pr.lit (.int Go.IntKind.i64 (0))) fun x6 =>
      (pr.cond x6
       (pr.bnd (pr.lenD (pr.ld y2 3) fun x7 =>
       (pr.bin .lss false (pr.ld y2 0) x7 fun x8 =>
        (pr.cond x8
         (pr.rowD 3 (pr.ld y2 3) (pr.ld y2 0) fun w9 =>
         (pr.out 0 [.d (pr.ld y2 0), .d (pr.cell w9 0), .d (pr.cell w9 1), .d (pr.cell w9 2), .d (pr.ld y2 1), .d (pr.ld y2 2), .d (pr.ld y2 3)]))
         (pr.out 0 [.d (pr.ld y2 0), .d (pr.lit (.int Go.IntKind.i64 (0))), .d (pr.lit (.int Go.IntKind.i64 (0))), .d (pr.lit (.int Go.IntKind.i64 (0))), .d (pr.ld y2 1), .d (pr.ld y2 2), .d (pr.ld y2 3)])))) [fun y7 => (pr.bin .mul false (pr.lit (.int Go.IntKind.i64 (2))) (pr.ld y7 0) fun x8 =>
        (pr.bin .add false (pr.lit (.int Go.IntKind.i64 (3))) x8 fun x9 =>
         (pr.bnd (pr.call 26 [(pr.ld y7 1), (pr.lit (.int Go.IntKind.i64 (4)))]) [fun y10 => (pr.bin .add false (pr.lit (.int Go.IntKind.i64 (1))) (pr.ld y10 0) fun x11 =>
           (pr.bnd (pr.call 26 [(pr.ld y7 2), (pr.lit (.int Go.IntKind.i64 (0)))]) [fun y12 => (pr.bin .sub false (pr.lit (.int Go.IntKind.i64 (0))) (pr.ld y12 0) fun x13 =>
             (pr.bnd (pr.call 26 [(pr.ld y7 3), x13]) [fun y14 => (pr.bin .add false (pr.ld y12 0) (pr.ld y14 0) fun x15 =>
               (pr.eqN (pr.natN 1) (pr.len (pr.rows [[x9, x11, (pr.ld y12 0), x15]])) (pr.isNil (pr.seg (pr.rows [[x9, x11, (pr.ld y12 0), x15]]) none (pr.natN 1))
                (pr.bin .add false (pr.ld y7 0) (pr.lit (.int Go.IntKind.i64 (1))) fun x16 =>
                (J2 0 [.d x16, .d (pr.ld y7 4), .d (pr.ld y7 5), .d (pr.ld y7 6)]))
                (pr.fits 32 (pr.len (pr.seg (pr.rows [[x9, x11, (pr.ld y12 0), x15]]) none (pr.natN 1)))
                (pr.bin .add false (pr.ld y7 0) (pr.lit (.int Go.IntKind.i64 (1))) fun x16 =>
                (J2 1 [.n (pr.len (pr.seg (pr.rows [[x9, x11, (pr.ld y12 0), x15]]) none (pr.natN 1))), .n (pr.len (pr.seg (pr.rows [[x9, x11, (pr.ld y12 0), x15]]) none (pr.natN 1))), .d x16, .r (pr.seg (pr.rows [[x9, x11, (pr.ld y12 0), x15]]) none (pr.natN 1)), .d (pr.ld y7 4), .d (pr.ld y7 5), .d (pr.ld y7 6)]))))))]))]))])))])
       (pr.out 0 [])))))
     (pr.bin .eql false (pr.ld y2 0) (pr.lit (.int Go.IntKind.i64 (0))) fun x5 =>
     (pr.cond x5
      (pr.bnd (pr.lenD (pr.ld y2 3) fun x6 =>
      (pr.bin .lss false (pr.ld y2 0) x6 fun x7 =>
       (pr.cond x7
        (pr.rowD 3 (pr.ld y2 3) (pr.ld y2 0) fun w8 =>
        (pr.out 0 [.d (pr.ld y2 0), .d (pr.cell w8 0), .d (pr.cell w8 1), .d (pr.cell w8 2), .d (pr.ld y2 1), .d (pr.ld y2 2), .d (pr.ld y2 3)]))
        (pr.out 0 [.d (pr.ld y2 0), .d (pr.lit (.int Go.IntKind.i64 (0))), .d (pr.lit (.int Go.IntKind.i64 (0))), .d (pr.lit (.int Go.IntKind.i64 (0))), .d (pr.ld y2 1), .d (pr.ld y2 2), .d (pr.ld y2 3)])))) [fun y6 => (pr.bin .mul false (pr.lit (.int Go.IntKind.i64 (2))) (pr.ld y6 0) fun x7 =>
       (pr.bin .add false (pr.lit (.int Go.IntKind.i64 (3))) x7 fun x8 =>
        (pr.bnd (pr.call 26 [(pr.ld y6 1), (pr.lit (.int Go.IntKind.i64 (4)))]) [fun y9 => (pr.bin .add false (pr.lit (.int Go.IntKind.i64 (1))) (pr.ld y9 0) fun x10 =>
          (pr.bnd (pr.call 26 [(pr.ld y6 2), (pr.lit (.int Go.IntKind.i64 (0)))]) [fun y11 => (pr.bin .sub false (pr.lit (.int Go.IntKind.i64 (0))) (pr.ld y11 0) fun x12 =>
            (pr.bnd (pr.call 26 [(pr.ld y6 3), x12]) [fun y13 => (pr.bin .add false (pr.ld y11 0) (pr.ld y13 0) fun x14 =>
              (pr.eqN (pr.natN 1) (pr.len (pr.rows [[x8, x10, (pr.ld y11 0), x14]])) (pr.isNil (pr.seg (pr.rows [[x8, x10, (pr.ld y11 0), x14]]) none (pr.natN 1))
               (pr.bin .add false (pr.ld y6 0) (pr.lit (.int Go.IntKind.i64 (1))) fun x15 =>
               (J2 0 [.d x15, .d (pr.ld y6 4), .d (pr.ld y6 5), .d (pr.ld y6 6)]))
               (pr.fits 32 (pr.len (pr.seg (pr.rows [[x8, x10, (pr.ld y11 0), x14]]) none (pr.natN 1)))
               (pr.bin .add false (pr.ld y6 0) (pr.lit (.int Go.IntKind.i64 (1))) fun x15 =>
               (J2 1 [.n (pr.len (pr.seg (pr.rows [[x8, x10, (pr.ld y11 0), x14]]) none (pr.natN 1))), .n (pr.len (pr.seg (pr.rows [[x8, x10, (pr.ld y11 0), x14]]) none (pr.natN 1))), .d x15, .r (pr.seg (pr.rows [[x8, x10, (pr.ld y11 0), x14]]) none (pr.natN 1)), .d (pr.ld y6 4), .d (pr.ld y6 5), .d (pr.ld y6 6)]))))))]))]))])))])
      (pr.out 0 []))))))
def L25_5  : (Nat → List (Y Δ N R M) → Ω) → E → Ω := fun J2 y2 =>
 (pr.lenD (pr.ld y2 6) fun x3 =>
   (pr.bin .lss false (pr.ld y2 2) x3 fun x4 =>
    (pr.cond x4
     (pr.bin .lss false (pr.ld y2 2) (pr.lit (.int Go.IntKind.i64 (6))) fun x5 =>
     (pr.cond x5
      (pr.bnd (pr.lenD (pr.ld y2 6) fun x6 =>
      (pr.bin .lss false (pr.ld y2 2) x6 fun x7 =>
       (pr.cond x7
        (pr.rowD 3 (pr.ld y2 6) (pr.ld y2 2) fun w8 =>
        (pr.out 0 [.n (pr.ln y2 0), .n (pr.ln y2 1), .d (pr.ld y2 2), .d (pr.cell w8 0), .d (pr.cell w8 1), .d (pr.cell w8 2), .r (pr.lr y2 3), .d (pr.ld y2 4), .d (pr.ld y2 5), .d (pr.ld y2 6)]))
        (pr.out 0 [.n (pr.ln y2 0), .n (pr.ln y2 1), .d (pr.ld y2 2), .d (pr.lit (.int Go.IntKind.i64 (0))), .d (pr.lit (.int Go.IntKind.i64 (0))), .d (pr.lit (.int Go.IntKind.i64 (0))), .r (pr.lr y2 3), .d (pr.ld y2 4), .d (pr.ld y2 5), .d (pr.ld y2 6)])))) [fun y6 => (pr.bin .mul false (pr.lit (.int Go.IntKind.i64 (2))) (pr.ld y6 2) fun x7 =>
       (pr.bin .add false (pr.lit (.int Go.IntKind.i64 (3))) x7 fun x8 =>
        (pr.bnd (pr.call 26 [(pr.ld y6 3), (pr.lit (.int Go.IntKind.i64 (4)))]) [fun y9 => (pr.bin .add false (pr.lit (.int Go.IntKind.i64 (1))) (pr.ld y9 0) fun x10 =>
          (pr.bnd (pr.call 26 [(pr.ld y6 4), (pr.lit (.int Go.IntKind.i64 (0)))]) [fun y11 => (pr.bin .sub false (pr.lit (.int Go.IntKind.i64 (0))) (pr.ld y11 0) fun x12 =>
            (pr.bnd (pr.call 26 [(pr.ld y6 5), x12]) [fun y13 => (pr.bin .add false (pr.ld y11 0) (pr.ld y13 0) fun x14 =>
              (pr.eqN (pr.natN 1) (pr.len (pr.rows [[x8, x10, (pr.ld y11 0), x14]])) (pr.eqN (pr.ln y6 1) (pr.len (pr.lr y6 6)) (pr.eqN (pr.ln y6 0) (pr.len (pr.lr y6 6)) (pr.fits 32 (pr.addN (pr.ln y6 0) (pr.len (pr.seg (pr.rows [[x8, x10, (pr.ld y11 0), x14]]) none (pr.natN 1))))
               (pr.bin .add false (pr.ld y6 2) (pr.lit (.int Go.IntKind.i64 (1))) fun x15 =>
               (J2 1 [.n (pr.addN (pr.ln y6 0) (pr.len (pr.seg (pr.rows [[x8, x10, (pr.ld y11 0), x14]]) none (pr.natN 1)))), .n (pr.addN (pr.ln y6 0) (pr.len (pr.seg (pr.rows [[x8, x10, (pr.ld y11 0), x14]]) none (pr.natN 1)))), .d x15, .r (pr.app (pr.lr y6 6) (pr.seg (pr.rows [[x8, x10, (pr.ld y11 0), x14]]) none (pr.natN 1))), .d (pr.ld y6 7), .d (pr.ld y6 8), .d (pr.ld y6 9)])))))))]))]))])))])
      (pr.bin .eql false (pr.ld y2 2) (pr.lit (.int Go.IntKind.i64 (0))) fun x6 =>
      (pr.cond x6
       (pr.bnd (pr.lenD (pr.ld y2 6) fun x7 =>
       (pr.bin .lss false (pr.ld y2 2) x7 fun x8 =>
        (pr.cond x8
         (pr.rowD 3 (pr.ld y2 6) (pr.ld y2 2) fun w9 =>
         (pr.out 0 [.n (pr.ln y2 0), .n (pr.ln y2 1), .d (pr.ld y2 2), .d (pr.cell w9 0), .d (pr.cell w9 1), .d (pr.cell w9 2), .r (pr.lr y2 3), .d (pr.ld y2 4), .d (pr.ld y2 5), .d (pr.ld y2 6)]))
         (pr.out 0 [.n (pr.ln y2 0), .n (pr.ln y2 1), .d (pr.ld y2 2), .d (pr.lit (.int Go.IntKind.i64 (0))), .d (pr.lit (.int Go.IntKind.i64 (0))), .d (pr.lit (.int Go.IntKind.i64 (0))), .r (pr.lr y2 3), .d (pr.ld y2 4), .d (pr.ld y2 5), .d (pr.ld y2 6)])))) [fun y7 => (pr.bin .mul false (pr.lit (.int Go.IntKind.i64 (2))) (pr.ld y7 2) fun x8 =>
        (pr.bin .add false (pr.lit (.int Go.IntKind.i64 (3))) x8 fun x9 =>
         (pr.bnd (pr.call 26 [(pr.ld y7 3), (pr.lit (.int Go.IntKind.i64 (4)))]) [fun y10 => (pr.bin .add false (pr.lit (.int Go.IntKind.i64 (1))) (pr.ld y10 0) fun x11 =>
           (pr.bnd (pr.call 26 [(pr.ld y7 4), (pr.lit (.int Go.IntKind.i64 (0)))]) [fun y12 => (pr.bin .sub false (pr.lit (.int Go.IntKind.i64 (0))) (pr.ld y12 0) fun x13 =>
             (pr.bnd (pr.call 26 [(pr.ld y7 5), x13]) [fun y14 => (pr.bin .add false (pr.ld y12 0) (pr.ld y14 0) fun x15 =>
               (pr.eqN (pr.natN 1) (pr.len (pr.rows [[x9, x11, (pr.ld y12 0), x15]])) (pr.eqN (pr.ln y7 1) (pr.len (pr.lr y7 6)) (pr.eqN (pr.ln y7 0) (pr.len (pr.lr y7 6)) (pr.fits 32 (pr.addN (pr.ln y7 0) (pr.len (pr.seg (pr.rows [[x9, x11, (pr.ld y12 0), x15]]) none (pr.natN 1))))
                (pr.bin .add false (pr.ld y7 2) (pr.lit (.int Go.IntKind.i64 (1))) fun x16 =>
                (J2 1 [.n (pr.addN (pr.ln y7 0) (pr.len (pr.seg (pr.rows [[x9, x11, (pr.ld y12 0), x15]]) none (pr.natN 1)))), .n (pr.addN (pr.ln y7 0) (pr.len (pr.seg (pr.rows [[x9, x11, (pr.ld y12 0), x15]]) none (pr.natN 1)))), .d x16, .r (pr.app (pr.lr y7 6) (pr.seg (pr.rows [[x9, x11, (pr.ld y12 0), x15]]) none (pr.natN 1))), .d (pr.ld y7 7), .d (pr.ld y7 8), .d (pr.ld y7 9)])))))))]))]))])))])
       (pr.out 1 [.n (pr.ln y2 0), .n (pr.ln y2 1), .r (pr.lr y2 3)])))))
     (pr.bin .eql false (pr.ld y2 2) (pr.lit (.int Go.IntKind.i64 (0))) fun x5 =>
     (pr.cond x5
      (pr.bnd (pr.lenD (pr.ld y2 6) fun x6 =>
      (pr.bin .lss false (pr.ld y2 2) x6 fun x7 =>
       (pr.cond x7
        (pr.rowD 3 (pr.ld y2 6) (pr.ld y2 2) fun w8 =>
        (pr.out 0 [.n (pr.ln y2 0), .n (pr.ln y2 1), .d (pr.ld y2 2), .d (pr.cell w8 0), .d (pr.cell w8 1), .d (pr.cell w8 2), .r (pr.lr y2 3), .d (pr.ld y2 4), .d (pr.ld y2 5), .d (pr.ld y2 6)]))
        (pr.out 0 [.n (pr.ln y2 0), .n (pr.ln y2 1), .d (pr.ld y2 2), .d (pr.lit (.int Go.IntKind.i64 (0))), .d (pr.lit (.int Go.IntKind.i64 (0))), .d (pr.lit (.int Go.IntKind.i64 (0))), .r (pr.lr y2 3), .d (pr.ld y2 4), .d (pr.ld y2 5), .d (pr.ld y2 6)])))) [fun y6 => (pr.bin .mul false (pr.lit (.int Go.IntKind.i64 (2))) (pr.ld y6 2) fun x7 =>
       (pr.bin .add false (pr.lit (.int Go.IntKind.i64 (3))) x7 fun x8 =>
        (pr.bnd (pr.call 26 [(pr.ld y6 3), (pr.lit (.int Go.IntKind.i64 (4)))]) [fun y9 => (pr.bin .add false (pr.lit (.int Go.IntKind.i64 (1))) (pr.ld y9 0) fun x10 =>
          (pr.bnd (pr.call 26 [(pr.ld y6 4), (pr.lit (.int Go.IntKind.i64 (0)))]) [fun y11 => (pr.bin .sub false (pr.lit (.int Go.IntKind.i64 (0))) (pr.ld y11 0) fun x12 =>
            (pr.bnd (pr.call 26 [(pr.ld y6 5), x12]) [fun y13 => (pr.bin .add false (pr.ld y11 0) (pr.ld y13 0) fun x14 =>
              (pr.eqN (pr.natN 1) (pr.len (pr.rows [[x8, x10, (pr.ld y11 0), x14]])) (pr.eqN (pr.ln y6 1) (pr.len (pr.lr y6 6)) (pr.eqN (pr.ln y6 0) (pr.len (pr.lr y6 6)) (pr.fits 32 (pr.addN (pr.ln y6 0) (pr.len (pr.seg (pr.rows [[x8, x10, (pr.ld y11 0), x14]]) none (pr.natN 1))))
               (pr.bin .add false (pr.ld y6 2) (pr.lit (.int Go.IntKind.i64 (1))) fun x15 =>
               (J2 1 [.n (pr.addN (pr.ln y6 0) (pr.len (pr.seg (pr.rows [[x8, x10, (pr.ld y11 0), x14]]) none (pr.natN 1)))), .n (pr.addN (pr.ln y6 0) (pr.len (pr.seg (pr.rows [[x8, x10, (pr.ld y11 0), x14]]) none (pr.natN 1)))), .d x15, .r (pr.app (pr.lr y6 6) (pr.seg (pr.rows [[x8, x10, (pr.ld y11 0), x14]]) none (pr.natN 1))), .d (pr.ld y6 7), .d (pr.ld y6 8), .d (pr.ld y6 9)])))))))]))]))])))])
      (pr.out 1 [.n (pr.ln y2 0), .n (pr.ln y2 1), .r (pr.lr y2 3)]))))))
def L25_6  : (Nat → List (Y Δ N R M) → Ω) → E → Ω := fun J2 y2 =>
 (pr.lenD (pr.ld y2 6) fun x3 =>
   (pr.bin .lss false (pr.ld y2 0) x3 fun x4 =>
    (pr.cond x4
     (pr.bin .lss false (pr.ld y2 0) (pr.lit (.int Go.IntKind.i64 (6))) fun x5 =>
     (pr.cond x5
      (pr.bnd (pr.lenD (pr.ld y2 6) fun x6 =>
      (pr.bin .lss false (pr.ld y2 0) x6 fun x7 =>
       (pr.cond x7
        (pr.rowD 3 (pr.ld y2 6) (pr.ld y2 0) fun w8 =>
        (pr.out 0 [.d (pr.ld y2 0), .r (pr.lr y2 1), .d (pr.cell w8 0), .d (pr.cell w8 1), .d (pr.cell w8 2), .n (pr.ln y2 2), .n (pr.ln y2 3), .d (pr.ld y2 4), .d (pr.ld y2 5), .d (pr.ld y2 6)]))
        (pr.out 0 [.d (pr.ld y2 0), .r (pr.lr y2 1), .d (pr.lit (.int Go.IntKind.i64 (0))), .d (pr.lit (.int Go.IntKind.i64 (0))), .d (pr.lit (.int Go.IntKind.i64 (0))), .n (pr.ln y2 2), .n (pr.ln y2 3), .d (pr.ld y2 4), .d (pr.ld y2 5), .d (pr.ld y2 6)])))) [fun y6 => (pr.bin .mul false (pr.lit (.int Go.IntKind.i64 (2))) (pr.ld y6 0) fun x7 =>
       (pr.bin .add false (pr.lit (.int Go.IntKind.i64 (3))) x7 fun x8 =>
        (pr.bnd (pr.call 26 [(pr.ld y6 2), (pr.lit (.int Go.IntKind.i64 (4)))]) [fun y9 => (pr.bin .add false (pr.lit (.int Go.IntKind.i64 (1))) (pr.ld y9 0) fun x10 =>
          (pr.bnd (pr.call 26 [(pr.ld y6 3), (pr.natD (pr.ln y6 5))]) [fun y11 => (pr.bin .sub false (pr.natD (pr.ln y6 5)) (pr.ld y11 0) fun x12 =>
            (pr.bnd (pr.call 26 [(pr.ld y6 4), x12]) [fun y13 => (pr.bin .add false (pr.ld y11 0) (pr.ld y13 0) fun x14 =>
              (pr.eqN (pr.natN 1) (pr.len (pr.rows [[x8, x10, (pr.ld y11 0), x14]])) (pr.isNil (pr.seg (pr.rows [[x8, x10, (pr.ld y11 0), x14]]) none (pr.natN 1))
               (pr.bin .add false (pr.ld y6 0) (pr.lit (.int Go.IntKind.i64 (1))) fun x15 =>
               (J2 0 [.d x15, .r (pr.lr y6 1), .n (pr.ln y6 5), .n (pr.ln y6 6), .d (pr.ld y6 7), .d (pr.ld y6 8), .d (pr.ld y6 9)]))
               (pr.fits 32 (pr.len (pr.seg (pr.rows [[x8, x10, (pr.ld y11 0), x14]]) none (pr.natN 1)))
               (pr.bin .add false (pr.ld y6 0) (pr.lit (.int Go.IntKind.i64 (1))) fun x15 =>
               (J2 1 [.n (pr.len (pr.seg (pr.rows [[x8, x10, (pr.ld y11 0), x14]]) none (pr.natN 1))), .n (pr.len (pr.seg (pr.rows [[x8, x10, (pr.ld y11 0), x14]]) none (pr.natN 1))), .d x15, .r (pr.lr y6 1), .r (pr.seg (pr.rows [[x8, x10, (pr.ld y11 0), x14]]) none (pr.natN 1)), .n (pr.ln y6 5), .n (pr.ln y6 6), .d (pr.ld y6 7), .d (pr.ld y6 8), .d (pr.ld y6 9)]))))))]))]))])))])
      (pr.bin .eql false (pr.ld y2 0) (pr.lit (.int Go.IntKind.i64 (0))) fun x6 =>
      (pr.cond x6
       (pr.bnd (pr.lenD (pr.ld y2 6) fun x7 =>
       (pr.bin .lss false (pr.ld y2 0) x7 fun x8 =>
        (pr.cond x8
         (pr.rowD 3 (pr.ld y2 6) (pr.ld y2 0) fun w9 =>
         (pr.out 0 [.d (pr.ld y2 0), .r (pr.lr y2 1), .d (pr.cell w9 0), .d (pr.cell w9 1), .d (pr.cell w9 2), .n (pr.ln y2 2), .n (pr.ln y2 3), .d (pr.ld y2 4), .d (pr.ld y2 5), .d (pr.ld y2 6)]))
         (pr.out 0 [.d (pr.ld y2 0), .r (pr.lr y2 1), .d (pr.lit (.int Go.IntKind.i64 (0))), .d (pr.lit (.int Go.IntKind.i64 (0))), .d (pr.lit (.int Go.IntKind.i64 (0))), .n (pr.ln y2 2), .n (pr.ln y2 3), .d (pr.ld y2 4), .d (pr.ld y2 5), .d (pr.ld y2 6)])))) [fun y7 => (pr.bin .mul false (pr.lit (.int Go.IntKind.i64 (2))) (pr.ld y7 0) fun x8 =>
        (pr.bin .add false (pr.lit (.int Go.IntKind.i64 (3))) x8 fun x9 =>
         (pr.bnd (pr.call 26 [(pr.ld y7 2), (pr.lit (.int Go.IntKind.i64 (4)))]) [fun y10 => (pr.bin .add false (pr.lit (.int Go.IntKind.i64 (1))) (pr.ld y10 0) fun x11 =>
           (pr.bnd (pr.call 26 [(pr.ld y7 3), (pr.natD (pr.ln y7 5))]) [fun y12 => (pr.bin .sub false (pr.natD (pr.ln y7 5)) (pr.ld y12 0) fun x13 =>
             (pr.bnd (pr.call 26 [(pr.ld y7 4), x13]) [fun y14 => (pr.bin .add false (pr.ld y12 0) (pr.ld y14 0) fun x15 =>
               (pr.eqN (pr.natN 1) (pr.len (pr.rows [[x9, x11, (pr.ld y12 0), x15]])) (pr.isNil (pr.seg (pr.rows [[x9, x11, (pr.ld y12 0), x15]]) none (pr.natN 1))
                (pr.bin .add false (pr.ld y7 0) (pr.lit (.int Go.IntKind.i64 (1))) fun x16 =>
                (J2 0 [.d x16, .r (pr.lr y7 1), .n (pr.ln y7 5), .n (pr.ln y7 6), .d (pr.ld y7 7), .d (pr.ld y7 8), .d (pr.ld y7 9)]))
                (pr.fits 32 (pr.len (pr.seg (pr.rows [[x9, x11, (pr.ld y12 0), x15]]) none (pr.natN 1)))
                (pr.bin .add false (pr.ld y7 0) (pr.lit (.int Go.IntKind.i64 (1))) fun x16 =>
                (J2 1 [.n (pr.len (pr.seg (pr.rows [[x9, x11, (pr.ld y12 0), x15]]) none (pr.natN 1))), .n (pr.len (pr.seg (pr.rows [[x9, x11, (pr.ld y12 0), x15]]) none (pr.natN 1))), .d x16, .r (pr.lr y7 1), .r (pr.seg (pr.rows [[x9, x11, (pr.ld y12 0), x15]]) none (pr.natN 1)), .n (pr.ln y7 5), .n (pr.ln y7 6), .d (pr.ld y7 7), .d (pr.ld y7 8), .d (pr.ld y7 9)]))))))]))]))])))])
       (pr.out 0 [.r (pr.lr y2 1), .n (pr.ln y2 2), .n (pr.ln y2 3)])))))
     (pr.bin .eql false (pr.ld y2 0) (pr.lit (.int Go.IntKind.i64 (0))) fun x5 =>
     (pr.cond x5
      (pr.bnd (pr.lenD (pr.ld y2 6) fun x6 =>
      (pr.bin .lss false (pr.ld y2 0) x6 fun x7 =>
       (pr.cond x7
        (pr.rowD 3 (pr.ld y2 6) (pr.ld y2 0) fun w8 =>
        (pr.out 0 [.d (pr.ld y2 0), .r (pr.lr y2 1), .d (pr.cell w8 0), .d (pr.cell w8 1), .d (pr.cell w8 2), .n (pr.ln y2 2), .n (pr.ln y2 3), .d (pr.ld y2 4), .d (pr.ld y2 5), .d (pr.ld y2 6)]))
        (pr.out 0 [.d (pr.ld y2 0), .r (pr.lr y2 1), .d (pr.lit (.int Go.IntKind.i64 (0))), .d (pr.lit (.int Go.IntKind.i64 (0))), .d (pr.lit (.int Go.IntKind.i64 (0))), .n (pr.ln y2 2), .n (pr.ln y2 3), .d (pr.ld y2 4), .d (pr.ld y2 5), .d (pr.ld y2 6)])))) [fun y6 => (pr.bin .mul false (pr.lit (.int Go.IntKind.i64 (2))) (pr.ld y6 0) fun x7 =>
       (pr.bin .add false (pr.lit (.int Go.IntKind.i64 (3))) x7 fun x8 =>
        (pr.bnd (pr.call 26 [(pr.ld y6 2), (pr.lit (.int Go.IntKind.i64 (4)))]) [fun y9 => (pr.bin .add false (pr.lit (.int Go.IntKind.i64 (1))) (pr.ld y9 0) fun x10 =>
          (pr.bnd (pr.call 26 [(pr.ld y6 3), (pr.natD (pr.ln y6 5))]) [fun y11 => (pr.bin .sub false (pr.natD (pr.ln y6 5)) (pr.ld y11 0) fun x12 =>
            (pr.bnd (pr.call 26 [(pr.ld y6 4), x12]) [fun y13 => (pr.bin .add false (pr.ld y11 0) (pr.ld y13 0) fun x14 =>
              (pr.eqN (pr.natN 1) (pr.len (pr.rows [[x8, x10, (pr.ld y11 0), x14]])) (pr.isNil (pr.seg (pr.rows [[x8, x10, (pr.ld y11 0), x14]]) none (pr.natN 1))
               (pr.bin .add false (pr.ld y6 0) (pr.lit (.int Go.IntKind.i64 (1))) fun x15 =>
               (J2 0 [.d x15, .r (pr.lr y6 1), .n (pr.ln y6 5), .n (pr.ln y6 6), .d (pr.ld y6 7), .d (pr.ld y6 8), .d (pr.ld y6 9)]))
               (pr.fits 32 (pr.len (pr.seg (pr.rows [[x8, x10, (pr.ld y11 0), x14]]) none (pr.natN 1)))
               (pr.bin .add false (pr.ld y6 0) (pr.lit (.int Go.IntKind.i64 (1))) fun x15 =>
               (J2 1 [.n (pr.len (pr.seg (pr.rows [[x8, x10, (pr.ld y11 0), x14]]) none (pr.natN 1))), .n (pr.len (pr.seg (pr.rows [[x8, x10, (pr.ld y11 0), x14]]) none (pr.natN 1))), .d x15, .r (pr.lr y6 1), .r (pr.seg (pr.rows [[x8, x10, (pr.ld y11 0), x14]]) none (pr.natN 1)), .n (pr.ln y6 5), .n (pr.ln y6 6), .d (pr.ld y6 7), .d (pr.ld y6 8), .d (pr.ld y6 9)]))))))]))]))])))])
      (pr.out 0 [.r (pr.lr y2 1), .n (pr.ln y2 2), .n (pr.ln y2 3)]))))))
def L25_7  : (Nat → List (Y Δ N R M) → Ω) → E → Ω := fun J2 y2 =>
 (pr.lenD (pr.ld y2 9) fun x3 =>
   (pr.bin .lss false (pr.ld y2 2) x3 fun x4 =>
    (pr.cond x4
     (pr.bin .lss false (pr.ld y2 2) (pr.lit (.int Go.IntKind.i64 (6))) fun x5 =>
     (pr.cond x5
      (pr.bnd (pr.lenD (pr.ld y2 9) fun x6 =>
      (pr.bin .lss false (pr.ld y2 2) x6 fun x7 =>
       (pr.cond x7
        (pr.rowD 3 (pr.ld y2 9) (pr.ld y2 2) fun w8 =>
        (pr.out 0 [.n (pr.ln y2 0), .n (pr.ln y2 1), .d (pr.ld y2 2), .r (pr.lr y2 3), .d (pr.cell w8 0), .d (pr.cell w8 1), .d (pr.cell w8 2), .r (pr.lr y2 4), .n (pr.ln y2 5), .n (pr.ln y2 6), .d (pr.ld y2 7), .d (pr.ld y2 8), .d (pr.ld y2 9)]))
        (pr.out 0 [.n (pr.ln y2 0), .n (pr.ln y2 1), .d (pr.ld y2 2), .r (pr.lr y2 3), .d (pr.lit (.int Go.IntKind.i64 (0))), .d (pr.lit (.int Go.IntKind.i64 (0))), .d (pr.lit (.int Go.IntKind.i64 (0))), .r (pr.lr y2 4), .n (pr.ln y2 5), .n (pr.ln y2 6), .d (pr.ld y2 7), .d (pr.ld y2 8), .d (pr.ld y2 9)])))) [fun y6 => (pr.bin .mul false (pr.lit (.int Go.IntKind.i64 (2))) (pr.ld y6 2) fun x7 =>
       (pr.bin .add false (pr.lit (.int Go.IntKind.i64 (3))) x7 fun x8 =>
        (pr.bnd (pr.call 26 [(pr.ld y6 4), (pr.lit (.int Go.IntKind.i64 (4)))]) [fun y9 => (pr.bin .add false (pr.lit (.int Go.IntKind.i64 (1))) (pr.ld y9 0) fun x10 =>
          (pr.bnd (pr.call 26 [(pr.ld y6 5), (pr.natD (pr.ln y6 8))]) [fun y11 => (pr.bin .sub false (pr.natD (pr.ln y6 8)) (pr.ld y11 0) fun x12 =>
            (pr.bnd (pr.call 26 [(pr.ld y6 6), x12]) [fun y13 => (pr.bin .add false (pr.ld y11 0) (pr.ld y13 0) fun x14 =>
              (pr.eqN (pr.natN 1) (pr.len (pr.rows [[x8, x10, (pr.ld y11 0), x14]])) (pr.eqN (pr.ln y6 1) (pr.len (pr.lr y6 7)) (pr.eqN (pr.ln y6 0) (pr.len (pr.lr y6 7)) (pr.fits 32 (pr.addN (pr.ln y6 0) (pr.len (pr.seg (pr.rows [[x8, x10, (pr.ld y11 0), x14]]) none (pr.natN 1))))
               (pr.bin .add false (pr.ld y6 2) (pr.lit (.int Go.IntKind.i64 (1))) fun x15 =>
               (J2 1 [.n (pr.addN (pr.ln y6 0) (pr.len (pr.seg (pr.rows [[x8, x10, (pr.ld y11 0), x14]]) none (pr.natN 1)))), .n (pr.addN (pr.ln y6 0) (pr.len (pr.seg (pr.rows [[x8, x10, (pr.ld y11 0), x14]]) none (pr.natN 1)))), .d x15, .r (pr.lr y6 3), .r (pr.app (pr.lr y6 7) (pr.seg (pr.rows [[x8, x10, (pr.ld y11 0), x14]]) none (pr.natN 1))), .n (pr.ln y6 8), .n (pr.ln y6 9), .d (pr.ld y6 10), .d (pr.ld y6 11), .d (pr.ld y6 12)])))))))]))]))])))])
      (pr.bin .eql false (pr.ld y2 2) (pr.lit (.int Go.IntKind.i64 (0))) fun x6 =>
      (pr.cond x6
       (pr.bnd (pr.lenD (pr.ld y2 9) fun x7 =>
       (pr.bin .lss false (pr.ld y2 2) x7 fun x8 =>
        (pr.cond x8
         (pr.rowD 3 (pr.ld y2 9) (pr.ld y2 2) fun w9 =>
         (pr.out 0 [.n (pr.ln y2 0), .n (pr.ln y2 1), .d (pr.ld y2 2), .r (pr.lr y2 3), .d (pr.cell w9 0), .d (pr.cell w9 1), .d (pr.cell w9 2), .r (pr.lr y2 4), .n (pr.ln y2 5), .n (pr.ln y2 6), .d (pr.ld y2 7), .d (pr.ld y2 8), .d (pr.ld y2 9)]))
         (pr.out 0 [.n (pr.ln y2 0), .n (pr.ln y2 1), .d (pr.ld y2 2), .r (pr.lr y2 3), .d (pr.lit (.int Go.IntKind.i64 (0))), .d (pr.lit (.int Go.IntKind.i64 (0))), .d (pr.lit (.int Go.IntKind.i64 (0))), .r (pr.lr y2 4), .n (pr.ln y2 5), .n (pr.ln y2 6), .d (pr.ld y2 7), .d (pr.ld y2 8), .d (pr.ld y2 9)])))) [fun y7 => (pr.bin .mul false (pr.lit (.int Go.IntKind.i64 (2))) (pr.ld y7 2) fun x8 =>
        (pr.bin .add false (pr.lit (.int Go.IntKind.i64 (3))) x8 fun x9 =>
         (pr.bnd (pr.call 26 [(pr.ld y7 4), (pr.lit (.int Go.IntKind.i64 (4)))]) [fun y10 => (pr.bin .add false (pr.lit (.int Go.IntKind.i64 (1))) (pr.ld y10 0) fun x11 =>
           (pr.bnd (pr.call 26 [(pr.ld y7 5), (pr.natD (pr.ln y7 8))]) [fun y12 => (pr.bin .sub false (pr.natD (pr.ln y7 8)) (pr.ld y12 0) fun x13 =>
             (pr.bnd (pr.call 26 [(pr.ld y7 6), x13]) [fun y14 => (pr.bin .add false (pr.ld y12 0) (pr.ld y14 0) fun x15 =>
               (pr.eqN (pr.natN 1) (pr.len (pr.rows [[x9, x11, (pr.ld y12 0), x15]])) (pr.eqN (pr.ln y7 1) (pr.len (pr.lr y7 7)) (pr.eqN (pr.ln y7 0) (pr.len (pr.lr y7 7)) (pr.fits 32 (pr.addN (pr.ln y7 0) (pr.len (pr.seg (pr.rows [[x9, x11, (pr.ld y12 0), x15]]) none (pr.natN 1))))
                (pr.bin .add false (pr.ld y7 2) (pr.lit (.int Go.IntKind.i64 (1))) fun x16 =>
                (J2 1 [.n (pr.addN (pr.ln y7 0) (pr.len (pr.seg (pr.rows [[x9, x11, (pr.ld y12 0), x15]]) none (pr.natN 1)))), .n (pr.addN (pr.ln y7 0) (pr.len (pr.seg (pr.rows [[x9, x11, (pr.ld y12 0), x15]]) none (pr.natN 1)))), .d x16, .r (pr.lr y7 3), .r (pr.app (pr.lr y7 7) (pr.seg (pr.rows [[x9, x11, (pr.ld y12 0), x15]]) none (pr.natN 1))), .n (pr.ln y7 8), .n (pr.ln y7 9), .d (pr.ld y7 10), .d (pr.ld y7 11), .d (pr.ld y7 12)])))))))]))]))])))])
       (pr.out 1 [.n (pr.ln y2 0), .n (pr.ln y2 1), .r (pr.lr y2 3), .r (pr.lr y2 4), .n (pr.ln y2 5), .n (pr.ln y2 6)])))))
     (pr.bin .eql false (pr.ld y2 2) (pr.lit (.int Go.IntKind.i64 (0))) fun x5 =>
     (pr.cond x5
      (pr.bnd (pr.lenD (pr.ld y2 9) fun x6 =>
      (pr.bin .lss false (pr.ld y2 2) x6 fun x7 =>
       (pr.cond x7
        (pr.rowD 3 (pr.ld y2 9) (pr.ld y2 2) fun w8 =>
        (pr.out 0 [.n (pr.ln y2 0), .n (pr.ln y2 1), .d (pr.ld y2 2), .r (pr.lr y2 3), .d (pr.cell w8 0), .d (pr.cell w8 1), .d (pr.cell w8 2), .r (pr.lr y2 4), .n (pr.ln y2 5), .n (pr.ln y2 6), .d (pr.ld y2 7), .d (pr.ld y2 8), .d (pr.ld y2 9)]))
        (pr.out 0 [.n (pr.ln y2 0), .n (pr.ln y2 1), .d (pr.ld y2 2), .r (pr.lr y2 3), .d (pr.lit (.int Go.IntKind.i64 (0))), .d (pr.lit (.int Go.IntKind.i64 (0))), .d (pr.lit (.int Go.IntKind.i64 (0))), .r (pr.lr y2 4), .n (pr.ln y2 5), .n (pr.ln y2 6), .d (pr.ld y2 7), .d (pr.ld y2 8), .d (pr.ld y2 9)])))) [fun y6 => (pr.bin .mul false (pr.lit (.int Go.IntKind.i64 (2))) (pr.ld y6 2) fun x7 =>
       (pr.bin .add false (pr.lit (.int Go.IntKind.i64 (3))) x7 fun x8 =>
        (pr.bnd (pr.call 26 [(pr.ld y6 4), (pr.lit (.int Go.IntKind.i64 (4)))]) [fun y9 => (pr.bin .add false (pr.lit (.int Go.IntKind.i64 (1))) (pr.ld y9 0) fun x10 =>
          (pr.bnd (pr.call 26 [(pr.ld y6 5), (pr.natD (pr.ln y6 8))]) [fun y11 => (pr.bin .sub false (pr.natD (pr.ln y6 8)) (pr.ld y11 0) fun x12 =>
            (pr.bnd (pr.call 26 [(pr.ld y6 6), x12]) [fun y13 => (pr.bin .add false (pr.ld y11 0) (pr.ld y13 0) fun x14 =>
              (pr.eqN (pr.natN 1) (pr.len (pr.rows [[x8, x10, (pr.ld y11 0), x14]])) (pr.eqN (pr.ln y6 1) (pr.len (pr.lr y6 7)) (pr.eqN (pr.ln y6 0) (pr.len (pr.lr y6 7)) (pr.fits 32 (pr.addN (pr.ln y6 0) (pr.len (pr.seg (pr.rows [[x8, x10, (pr.ld y11 0), x14]]) none (pr.natN 1))))
               (pr.bin .add false (pr.ld y6 2) (pr.lit (.int Go.IntKind.i64 (1))) fun x15 =>
               (J2 1 [.n (pr.addN (pr.ln y6 0) (pr.len (pr.seg (pr.rows [[x8, x10, (pr.ld y11 0), x14]]) none (pr.natN 1)))), .n (pr.addN (pr.ln y6 0) (pr.len (pr.seg (pr.rows [[x8, x10, (pr.ld y11 0), x14]]) none (pr.natN 1)))), .d x15, .r (pr.lr y6 3), .r (pr.app (pr.lr y6 7) (pr.seg (pr.rows [[x8, x10, (pr.ld y11 0), x14]]) none (pr.natN 1))), .n (pr.ln y6 8), .n (pr.ln y6 9), .d (pr.ld y6 10), .d (pr.ld y6 11), .d (pr.ld y6 12)])))))))]))]))])))])
      (pr.out 1 [.n (pr.ln y2 0), .n (pr.ln y2 1), .r (pr.lr y2 3), .r (pr.lr y2 4), .n (pr.ln y2 5), .n (pr.ln y2 6)]))))))
def L25_8  : (Nat → List (Y Δ N R M) → Ω) → E → Ω := fun J1 y1 =>
 (pr.lenD (pr.ld y1 5) fun x2 =>
  (pr.bin .lss false (pr.ld y1 0) x2 fun x3 =>
   (pr.cond x3
    (pr.bin .lss false (pr.ld y1 0) (pr.lit (.int Go.IntKind.i64 (10))) fun x4 =>
    (pr.cond x4
     (pr.bnd (pr.lenD (pr.ld y1 5) fun x5 =>
     (pr.bin .lss false (pr.ld y1 0) x5 fun x6 =>
      (pr.cond x6
       (pr.rowD 3 (pr.ld y1 5) (pr.ld y1 0) fun w7 =>
       (pr.out 0 [.d (pr.ld y1 0), .r (pr.lr y1 1), .d (pr.cell w7 0), .d (pr.cell w7 1), .d (pr.cell w7 2), .n (pr.ln y1 2), .n (pr.ln y1 3), .d (pr.ld y1 4), .d (pr.ld y1 5), .d (pr.ld y1 6)]))
       (pr.out 0 [.d (pr.ld y1 0), .r (pr.lr y1 1), .d (pr.lit (.int Go.IntKind.i64 (0))), .d (pr.lit (.int Go.IntKind.i64 (0))), .d (pr.lit (.int Go.IntKind.i64 (0))), .n (pr.ln y1 2), .n (pr.ln y1 3), .d (pr.ld y1 4), .d (pr.ld y1 5), .d (pr.ld y1 6)])))) [fun y5 => (pr.bnd (pr.call 26 [(pr.ld y5 2), (pr.natD (pr.ln y5 5))]) [fun y6 => (pr.bin .add false (pr.lit (.int Go.IntKind.i64 (1))) (pr.ld y6 0) fun x7 =>
       (pr.bnd (pr.call 26 [(pr.ld y5 3), (pr.lit (.int Go.IntKind.i64 (9)))]) [fun y8 => (pr.bin .add false (pr.lit (.int Go.IntKind.i64 (1))) (pr.ld y8 0) fun x9 =>
         (pr.bnd (pr.call 26 [(pr.ld y5 4), (pr.lit (.int Go.IntKind.i64 (12)))]) [fun y10 => (pr.eqN (pr.natN 1) (pr.len (pr.rows [[x7, x9, (pr.ld y10 0)]])) (pr.isNil (pr.seg (pr.rows [[x7, x9, (pr.ld y10 0)]]) none (pr.natN 1))
           (pr.bin .add false (pr.ld y5 0) (pr.lit (.int Go.IntKind.i64 (1))) fun x11 =>
           (J1 0 [.d x11, .r (pr.lr y5 1), .n (pr.ln y5 5), .n (pr.ln y5 6), .d (pr.ld y5 7), .d (pr.ld y5 8), .d (pr.ld y5 9)]))
           (pr.fits 24 (pr.len (pr.seg (pr.rows [[x7, x9, (pr.ld y10 0)]]) none (pr.natN 1)))
           (pr.bin .add false (pr.ld y5 0) (pr.lit (.int Go.IntKind.i64 (1))) fun x11 =>
           (J1 1 [.d x11, .r (pr.seg (pr.rows [[x7, x9, (pr.ld y10 0)]]) none (pr.natN 1)), .r (pr.lr y5 1), .n (pr.ln y5 5), .n (pr.ln y5 6), .n (pr.len (pr.seg (pr.rows [[x7, x9, (pr.ld y10 0)]]) none (pr.natN 1))), .n (pr.len (pr.seg (pr.rows [[x7, x9, (pr.ld y10 0)]]) none (pr.natN 1))), .d (pr.ld y5 7), .d (pr.ld y5 8), .d (pr.ld y5 9)])))))]))]))])])
     (pr.bin .eql false (pr.ld y1 0) (pr.lit (.int Go.IntKind.i64 (0))) fun x5 =>
     (pr.cond x5
      (pr.bnd (pr.lenD (pr.ld y1 5) fun x6 =>
      (pr.bin .lss false (pr.ld y1 0) x6 fun x7 =>
       (pr.cond x7
        (pr.rowD 3 (pr.ld y1 5) (pr.ld y1 0) fun w8 =>
        (pr.out 0 [.d (pr.ld y1 0), .r (pr.lr y1 1), .d (pr.cell w8 0), .d (pr.cell w8 1), .d (pr.cell w8 2), .n (pr.ln y1 2), .n (pr.ln y1 3), .d (pr.ld y1 4), .d (pr.ld y1 5), .d (pr.ld y1 6)]))
        (pr.out 0 [.d (pr.ld y1 0), .r (pr.lr y1 1), .d (pr.lit (.int Go.IntKind.i64 (0))), .d (pr.lit (.int Go.IntKind.i64 (0))), .d (pr.lit (.int Go.IntKind.i64 (0))), .n (pr.ln y1 2), .n (pr.ln y1 3), .d (pr.ld y1 4), .d (pr.ld y1 5), .d (pr.ld y1 6)])))) [fun y6 => (pr.bnd (pr.call 26 [(pr.ld y6 2), (pr.natD (pr.ln y6 5))]) [fun y7 => (pr.bin .add false (pr.lit (.int Go.IntKind.i64 (1))) (pr.ld y7 0) fun x8 =>
        (pr.bnd (pr.call 26 [(pr.ld y6 3), (pr.lit (.int Go.IntKind.i64 (9)))]) [fun y9 => (pr.bin .add false (pr.lit (.int Go.IntKind.i64 (1))) (pr.ld y9 0) fun x10 =>
          (pr.bnd (pr.call 26 [(pr.ld y6 4), (pr.lit (.int Go.IntKind.i64 (12)))]) [fun y11 => (pr.eqN (pr.natN 1) (pr.len (pr.rows [[x8, x10, (pr.ld y11 0)]])) (pr.isNil (pr.seg (pr.rows [[x8, x10, (pr.ld y11 0)]]) none (pr.natN 1))
            (pr.bin .add false (pr.ld y6 0) (pr.lit (.int Go.IntKind.i64 (1))) fun x12 =>
            (J1 0 [.d x12, .r (pr.lr y6 1), .n (pr.ln y6 5), .n (pr.ln y6 6), .d (pr.ld y6 7), .d (pr.ld y6 8), .d (pr.ld y6 9)]))
            (pr.fits 24 (pr.len (pr.seg (pr.rows [[x8, x10, (pr.ld y11 0)]]) none (pr.natN 1)))
            (pr.bin .add false (pr.ld y6 0) (pr.lit (.int Go.IntKind.i64 (1))) fun x12 =>
            (J1 1 [.d x12, .r (pr.seg (pr.rows [[x8, x10, (pr.ld y11 0)]]) none (pr.natN 1)), .r (pr.lr y6 1), .n (pr.ln y6 5), .n (pr.ln y6 6), .n (pr.len (pr.seg (pr.rows [[x8, x10, (pr.ld y11 0)]]) none (pr.natN 1))), .n (pr.len (pr.seg (pr.rows [[x8, x10, (pr.ld y11 0)]]) none (pr.natN 1))), .d (pr.ld y6 7), .d (pr.ld y6 8), .d (pr.ld y6 9)])))))]))]))])])
      (pr.out 0 [.r (pr.lr y1 1), .n (pr.ln y1 2), .n (pr.ln y1 3), .d (pr.ld y1 4), .d (pr.ld y1 5), .d (pr.ld y1 6)])))))
    (pr.bin .eql false (pr.ld y1 0) (pr.lit (.int Go.IntKind.i64 (0))) fun x4 =>
    (pr.cond x4
     (pr.bnd (pr.lenD (pr.ld y1 5) fun x5 =>
     (pr.bin .lss false (pr.ld y1 0) x5 fun x6 =>
      (pr.cond x6
       (pr.rowD 3 (pr.ld y1 5) (pr.ld y1 0) fun w7 =>
       (pr.out 0 [.d (pr.ld y1 0), .r (pr.lr y1 1), .d (pr.cell w7 0), .d (pr.cell w7 1), .d (pr.cell w7 2), .n (pr.ln y1 2), .n (pr.ln y1 3), .d (pr.ld y1 4), .d (pr.ld y1 5), .d (pr.ld y1 6)]))
       (pr.out 0 [.d (pr.ld y1 0), .r (pr.lr y1 1), .d (pr.lit (.int Go.IntKind.i64 (0))), .d (pr.lit (.int Go.IntKind.i64 (0))), .d (pr.lit (.int Go.IntKind.i64 (0))), .n (pr.ln y1 2), .n (pr.ln y1 3), .d (pr.ld y1 4), .d (pr.ld y1 5), .d (pr.ld y1 6)])))) [fun y5 => (pr.bnd (pr.call 26 [(pr.ld y5 2), (pr.natD (pr.ln y5 5))]) [fun y6 => (pr.bin .add false (pr.lit (.int Go.IntKind.i64 (1))) (pr.ld y6 0) fun x7 =>
       (pr.bnd (pr.call 26 [(pr.ld y5 3), (pr.lit (.int Go.IntKind.i64 (9)))]) [fun y8 => (pr.bin .add false (pr.lit (.int Go.IntKind.i64 (1))) (pr.ld y8 0) fun x9 =>
         (pr.bnd (pr.call 26 [(pr.ld y5 4), (pr.lit (.int Go.IntKind.i64 (12)))]) [fun y10 => (pr.eqN (pr.natN 1) (pr.len (pr.rows [[x7, x9, (pr.ld y10 0)]])) (pr.isNil (pr.seg (pr.rows [[x7, x9, (pr.ld y10 0)]]) none (pr.natN 1))
           (pr.bin .add false (pr.ld y5 0) (pr.lit (.int Go.IntKind.i64 (1))) fun x11 =>
           (J1 0 [.d x11, .r (pr.lr y5 1), .n (pr.ln y5 5), .n (pr.ln y5 6), .d (pr.ld y5 7), .d (pr.ld y5 8), .d (pr.ld y5 9)]))
           (pr.fits 24 (pr.len (pr.seg (pr.rows [[x7, x9, (pr.ld y10 0)]]) none (pr.natN 1)))
           (pr.bin .add false (pr.ld y5 0) (pr.lit (.int Go.IntKind.i64 (1))) fun x11 =>
           (J1 1 [.d x11, .r (pr.seg (pr.rows [[x7, x9, (pr.ld y10 0)]]) none (pr.natN 1)), .r (pr.lr y5 1), .n (pr.ln y5 5), .n (pr.ln y5 6), .n (pr.len (pr.seg (pr.rows [[x7, x9, (pr.ld y10 0)]]) none (pr.natN 1))), .n (pr.len (pr.seg (pr.rows [[x7, x9, (pr.ld y10 0)]]) none (pr.natN 1))), .d (pr.ld y5 7), .d (pr.ld y5 8), .d (pr.ld y5 9)])))))]))]))])])
     (pr.out 0 [.r (pr.lr y1 1), .n (pr.ln y1 2), .n (pr.ln y1 3), .d (pr.ld y1 4), .d (pr.ld y1 5), .d (pr.ld y1 6)]))))))
def L25_9  : (Nat → List (Y Δ N R M) → Ω) → E → Ω := fun J1 y1 =>
 (pr.lenD (pr.ld y1 8) fun x2 =>
  (pr.bin .lss false (pr.ld y1 0) x2 fun x3 =>
   (pr.cond x3
    (pr.bin .lss false (pr.ld y1 0) (pr.lit (.int Go.IntKind.i64 (10))) fun x4 =>
    (pr.cond x4
     (pr.bnd (pr.lenD (pr.ld y1 8) fun x5 =>
     (pr.bin .lss false (pr.ld y1 0) x5 fun x6 =>
      (pr.cond x6
       (pr.rowD 3 (pr.ld y1 8) (pr.ld y1 0) fun w7 =>
       (pr.out 0 [.d (pr.ld y1 0), .r (pr.lr y1 1), .r (pr.lr y1 2), .d (pr.cell w7 0), .d (pr.cell w7 1), .d (pr.cell w7 2), .n (pr.ln y1 3), .n (pr.ln y1 4), .n (pr.ln y1 5), .n (pr.ln y1 6), .d (pr.ld y1 7), .d (pr.ld y1 8), .d (pr.ld y1 9)]))
       (pr.out 0 [.d (pr.ld y1 0), .r (pr.lr y1 1), .r (pr.lr y1 2), .d (pr.lit (.int Go.IntKind.i64 (0))), .d (pr.lit (.int Go.IntKind.i64 (0))), .d (pr.lit (.int Go.IntKind.i64 (0))), .n (pr.ln y1 3), .n (pr.ln y1 4), .n (pr.ln y1 5), .n (pr.ln y1 6), .d (pr.ld y1 7), .d (pr.ld y1 8), .d (pr.ld y1 9)])))) [fun y5 => (pr.bnd (pr.call 26 [(pr.ld y5 3), (pr.natD (pr.ln y5 6))]) [fun y6 => (pr.bin .add false (pr.lit (.int Go.IntKind.i64 (1))) (pr.ld y6 0) fun x7 =>
       (pr.bnd (pr.call 26 [(pr.ld y5 4), (pr.lit (.int Go.IntKind.i64 (9)))]) [fun y8 => (pr.bin .add false (pr.lit (.int Go.IntKind.i64 (1))) (pr.ld y8 0) fun x9 =>
         (pr.bnd (pr.call 26 [(pr.ld y5 5), (pr.lit (.int Go.IntKind.i64 (12)))]) [fun y10 => (pr.eqN (pr.natN 1) (pr.len (pr.rows [[x7, x9, (pr.ld y10 0)]])) (pr.eqN (pr.ln y5 9) (pr.len (pr.lr y5 1)) (pr.eqN (pr.ln y5 8) (pr.len (pr.lr y5 1)) (pr.fits 24 (pr.addN (pr.ln y5 8) (pr.len (pr.seg (pr.rows [[x7, x9, (pr.ld y10 0)]]) none (pr.natN 1))))
           (pr.bin .add false (pr.ld y5 0) (pr.lit (.int Go.IntKind.i64 (1))) fun x11 =>
           (J1 1 [.d x11, .r (pr.app (pr.lr y5 1) (pr.seg (pr.rows [[x7, x9, (pr.ld y10 0)]]) none (pr.natN 1))), .r (pr.lr y5 2), .n (pr.ln y5 6), .n (pr.ln y5 7), .n (pr.addN (pr.ln y5 8) (pr.len (pr.seg (pr.rows [[x7, x9, (pr.ld y10 0)]]) none (pr.natN 1)))), .n (pr.addN (pr.ln y5 8) (pr.len (pr.seg (pr.rows [[x7, x9, (pr.ld y10 0)]]) none (pr.natN 1)))), .d (pr.ld y5 10), .d (pr.ld y5 11), .d (pr.ld y5 12)]))))))]))]))])])
     (pr.bin .eql false (pr.ld y1 0) (pr.lit (.int Go.IntKind.i64 (0))) fun x5 =>
     (pr.cond x5
      (pr.bnd (pr.lenD (pr.ld y1 8) fun x6 =>
      (pr.bin .lss false (pr.ld y1 0) x6 fun x7 =>
       (pr.cond x7
        (pr.rowD 3 (pr.ld y1 8) (pr.ld y1 0) fun w8 =>
        (pr.out 0 [.d (pr.ld y1 0), .r (pr.lr y1 1), .r (pr.lr y1 2), .d (pr.cell w8 0), .d (pr.cell w8 1), .d (pr.cell w8 2), .n (pr.ln y1 3), .n (pr.ln y1 4), .n (pr.ln y1 5), .n (pr.ln y1 6), .d (pr.ld y1 7), .d (pr.ld y1 8), .d (pr.ld y1 9)]))
        (pr.out 0 [.d (pr.ld y1 0), .r (pr.lr y1 1), .r (pr.lr y1 2), .d (pr.lit (.int Go.IntKind.i64 (0))), .d (pr.lit (.int Go.IntKind.i64 (0))), .d (pr.lit (.int Go.IntKind.i64 (0))), .n (pr.ln y1 3), .n (pr.ln y1 4), .n (pr.ln y1 5), .n (pr.ln y1 6), .d (pr.ld y1 7), .d (pr.ld y1 8), .d (pr.ld y1 9)])))) [fun y6 => (pr.bnd (pr.call 26 [(pr.ld y6 3), (pr.natD (pr.ln y6 6))]) [fun y7 => (pr.bin .add false (pr.lit (.int Go.IntKind.i64 (1))) (pr.ld y7 0) fun x8 =>
        (pr.bnd (pr.call 26 [(pr.ld y6 4), (pr.lit (.int Go.IntKind.i64 (9)))]) [fun y9 => (pr.bin .add false (pr.lit (.int Go.IntKind.i64 (1))) (pr.ld y9 0) fun x10 =>
          (pr.bnd (pr.call 26 [(pr.ld y6 5), (pr.lit (.int Go.IntKind.i64 (12)))]) [fun y11 => (pr.eqN (pr.natN 1) (pr.len (pr.rows [[x8, x10, (pr.ld y11 0)]])) (pr.eqN (pr.ln y6 9) (pr.len (pr.lr y6 1)) (pr.eqN (pr.ln y6 8) (pr.len (pr.lr y6 1)) (pr.fits 24 (pr.addN (pr.ln y6 8) (pr.len (pr.seg (pr.rows [[x8, x10, (pr.ld y11 0)]]) none (pr.natN 1))))
            (pr.bin .add false (pr.ld y6 0) (pr.lit (.int Go.IntKind.i64 (1))) fun x12 =>
            (J1 1 [.d x12, .r (pr.app (pr.lr y6 1) (pr.seg (pr.rows [[x8, x10, (pr.ld y11 0)]]) none (pr.natN 1))), .r (pr.lr y6 2), .n (pr.ln y6 6), .n (pr.ln y6 7), .n (pr.addN (pr.ln y6 8) (pr.len (pr.seg (pr.rows [[x8, x10, (pr.ld y11 0)]]) none (pr.natN 1)))), .n (pr.addN (pr.ln y6 8) (pr.len (pr.seg (pr.rows [[x8, x10, (pr.ld y11 0)]]) none (pr.natN 1)))), .d (pr.ld y6 10), .d (pr.ld y6 11), .d (pr.ld y6 12)]))))))]))]))])])
      (pr.out 1 [.r (pr.lr y1 1), .r (pr.lr y1 2), .n (pr.ln y1 3), .n (pr.ln y1 4), .n (pr.ln y1 5), .n (pr.ln y1 6), .d (pr.ld y1 7), .d (pr.ld y1 8), .d (pr.ld y1 9)])))))
    (pr.bin .eql false (pr.ld y1 0) (pr.lit (.int Go.IntKind.i64 (0))) fun x4 =>
    (pr.cond x4
     (pr.bnd (pr.lenD (pr.ld y1 8) fun x5 =>
     (pr.bin .lss false (pr.ld y1 0) x5 fun x6 =>
      (pr.cond x6
       (pr.rowD 3 (pr.ld y1 8) (pr.ld y1 0) fun w7 =>
       (pr.out 0 [.d (pr.ld y1 0), .r (pr.lr y1 1), .r (pr.lr y1 2), .d (pr.cell w7 0), .d (pr.cell w7 1), .d (pr.cell w7 2), .n (pr.ln y1 3), .n (pr.ln y1 4), .n (pr.ln y1 5), .n (pr.ln y1 6), .d (pr.ld y1 7), .d (pr.ld y1 8), .d (pr.ld y1 9)]))
       (pr.out 0 [.d (pr.ld y1 0), .r (pr.lr y1 1), .r (pr.lr y1 2), .d (pr.lit (.int Go.IntKind.i64 (0))), .d (pr.lit (.int Go.IntKind.i64 (0))), .d (pr.lit (.int Go.IntKind.i64 (0))), .n (pr.ln y1 3), .n (pr.ln y1 4), .n (pr.ln y1 5), .n (pr.ln y1 6), .d (pr.ld y1 7), .d (pr.ld y1 8), .d (pr.ld y1 9)])))) [fun y5 => (pr.bnd (pr.call 26 [(pr.ld y5 3), (pr.natD (pr.ln y5 6))]) [fun y6 => (pr.bin .add false (pr.lit (.int Go.IntKind.i64 (1))) (pr.ld y6 0) fun x7 =>
       (pr.bnd (pr.call 26 [(pr.ld y5 4), (pr.lit (.int Go.IntKind.i64 (9)))]) [fun y8 => (pr.bin .add false (pr.lit (.int Go.IntKind.i64 (1))) (pr.ld y8 0) fun x9 =>
         (pr.bnd (pr.call 26 [(pr.ld y5 5), (pr.lit (.int Go.IntKind.i64 (12)))]) [fun y10 => (pr.eqN (pr.natN 1) (pr.len (pr.rows [[x7, x9, (pr.ld y10 0)]])) (pr.eqN (pr.ln y5 9) (pr.len (pr.lr y5 1)) (pr.eqN (pr.ln y5 8) (pr.len (pr.lr y5 1)) (pr.fits 24 (pr.addN (pr.ln y5 8) (pr.len (pr.seg (pr.rows [[x7, x9, (pr.ld y10 0)]]) none (pr.natN 1))))
           (pr.bin .add false (pr.ld y5 0) (pr.lit (.int Go.IntKind.i64 (1))) fun x11 =>
           (J1 1 [.d x11, .r (pr.app (pr.lr y5 1) (pr.seg (pr.rows [[x7, x9, (pr.ld y10 0)]]) none (pr.natN 1))), .r (pr.lr y5 2), .n (pr.ln y5 6), .n (pr.ln y5 7), .n (pr.addN (pr.ln y5 8) (pr.len (pr.seg (pr.rows [[x7, x9, (pr.ld y10 0)]]) none (pr.natN 1)))), .n (pr.addN (pr.ln y5 8) (pr.len (pr.seg (pr.rows [[x7, x9, (pr.ld y10 0)]]) none (pr.natN 1)))), .d (pr.ld y5 10), .d (pr.ld y5 11), .d (pr.ld y5 12)]))))))]))]))])])
     (pr.out 1 [.r (pr.lr y1 1), .r (pr.lr y1 2), .n (pr.ln y1 3), .n (pr.ln y1 4), .n (pr.ln y1 5), .n (pr.ln y1 6), .d (pr.ld y1 7), .d (pr.ld y1 8), .d (pr.ld y1 9)]))))))
def L25_10  : (Nat → List (Y Δ N R M) → Ω) → E → Ω := fun J2 y2 =>
 (pr.lenD (pr.ld y2 6) fun x3 =>
   (pr.bin .lss false (pr.ld y2 0) x3 fun x4 =>
    (pr.cond x4
     (pr.bin .lss false (pr.ld y2 0) (pr.lit (.int Go.IntKind.i64 (6))) fun x5 =>
     (pr.cond x5
      (pr.bnd (pr.lenD (pr.ld y2 6) fun x6 =>
      (pr.bin .lss false (pr.ld y2 0) x6 fun x7 =>
       (pr.cond x7
        (pr.rowD 3 (pr.ld y2 6) (pr.ld y2 0) fun w8 =>
        (pr.out 0 [.d (pr.ld y2 0), .r (pr.lr y2 1), .d (pr.cell w8 0), .d (pr.cell w8 1), .d (pr.cell w8 2), .n (pr.ln y2 2), .n (pr.ln y2 3), .d (pr.ld y2 4), .d (pr.ld y2 5), .d (pr.ld y2 6)]))
        (pr.out 0 [.d (pr.ld y2 0), .r (pr.lr y2 1), .d (pr.lit (.int Go.IntKind.i64 (0))), .d (pr.lit (.int Go.IntKind.i64 (0))), .d (pr.lit (.int Go.IntKind.i64 (0))), .n (pr.ln y2 2), .n (pr.ln y2 3), .d (pr.ld y2 4), .d (pr.ld y2 5), .d (pr.ld y2 6)])))) [fun y6 => (pr.bin .mul false (pr.lit (.int Go.IntKind.i64 (2))) (pr.ld y6 0) fun x7 =>
       (pr.bin .add false (pr.lit (.int Go.IntKind.i64 (3))) x7 fun x8 =>
        (pr.bnd (pr.call 26 [(pr.ld y6 2), (pr.lit (.int Go.IntKind.i64 (4)))]) [fun y9 => (pr.bin .add false (pr.lit (.int Go.IntKind.i64 (1))) (pr.ld y9 0) fun x10 =>
          (pr.bnd (pr.call 26 [(pr.ld y6 3), (pr.lit (.int Go.IntKind.i64 (0)))]) [fun y11 => (pr.bin .sub false (pr.lit (.int Go.IntKind.i64 (0))) (pr.ld y11 0) fun x12 =>
            (pr.bnd (pr.call 26 [(pr.ld y6 4), x12]) [fun y13 => (pr.bin .add false (pr.ld y11 0) (pr.ld y13 0) fun x14 =>
              (pr.eqN (pr.natN 1) (pr.len (pr.rows [[x8, x10, (pr.ld y11 0), x14]])) (pr.isNil (pr.seg (pr.rows [[x8, x10, (pr.ld y11 0), x14]]) none (pr.natN 1))
               (pr.bin .add false (pr.ld y6 0) (pr.lit (.int Go.IntKind.i64 (1))) fun x15 =>
               (J2 0 [.d x15, .r (pr.lr y6 1), .n (pr.ln y6 5), .n (pr.ln y6 6), .d (pr.ld y6 7), .d (pr.ld y6 8), .d (pr.ld y6 9)]))
               (pr.fits 32 (pr.len (pr.seg (pr.rows [[x8, x10, (pr.ld y11 0), x14]]) none (pr.natN 1)))
               (pr.bin .add false (pr.ld y6 0) (pr.lit (.int Go.IntKind.i64 (1))) fun x15 =>
               (J2 1 [.n (pr.len (pr.seg (pr.rows [[x8, x10, (pr.ld y11 0), x14]]) none (pr.natN 1))), .n (pr.len (pr.seg (pr.rows [[x8, x10, (pr.ld y11 0), x14]]) none (pr.natN 1))), .d x15, .r (pr.lr y6 1), .r (pr.seg (pr.rows [[x8, x10, (pr.ld y11 0), x14]]) none (pr.natN 1)), .n (pr.ln y6 5), .n (pr.ln y6 6), .d (pr.ld y6 7), .d (pr.ld y6 8), .d (pr.ld y6 9)]))))))]))]))])))])
      (pr.bin .eql false (pr.ld y2 0) (pr.lit (.int Go.IntKind.i64 (0))) fun x6 =>
      (pr.cond x6
       (pr.bnd (pr.lenD (pr.ld y2 6) fun x7 =>
       (pr.bin .lss false (pr.ld y2 0) x7 fun x8 =>
        (pr.cond x8
         (pr.rowD 3 (pr.ld y2 6) (pr.ld y2 0) fun w9 =>
         (pr.out 0 [.d (pr.ld y2 0), .r (pr.lr y2 1), .d (pr.cell w9 0), .d (pr.cell w9 1), .d (pr.cell w9 2), .n (pr.ln y2 2), .n (pr.ln y2 3), .d (pr.ld y2 4), .d (pr.ld y2 5), .d (pr.ld y2 6)]))
         (pr.out 0 [.d (pr.ld y2 0), .r (pr.lr y2 1), .d (pr.lit (.int Go.IntKind.i64 (0))), .d (pr.lit (.int Go.IntKind.i64 (0))), .d (pr.lit (.int Go.IntKind.i64 (0))), .n (pr.ln y2 2), .n (pr.ln y2 3), .d (pr.ld y2 4), .d (pr.ld y2 5), .d (pr.ld y2 6)])))) [fun y7 => (pr.bin .mul false (pr.lit (.int Go.IntKind.i64 (2))) (pr.ld y7 0) fun x8 =>
        (pr.bin .add false (pr.lit (.int Go.IntKind.i64 (3))) x8 fun x9 =>
         (pr.bnd (pr.call 26 [(pr.ld y7 2), (pr.lit (.int Go.IntKind.i64 (4)))]) [fun y10 => (pr.bin .add false (pr.lit (.int Go.IntKind.i64 (1))) (pr.ld y10 0) fun x11 =>
           (pr.bnd (pr.call 26 [(pr.ld y7 3), (pr.lit (.int Go.IntKind.i64 (0)))]) [fun y12 => (pr.bin .sub false (pr.lit (.int Go.IntKind.i64 (0))) (pr.ld y12 0) fun x13 =>
             (pr.bnd (pr.call 26 [(pr.ld y7 4), x13]) [fun y14 => (pr.bin .add false (pr.ld y12 0) (pr.ld y14 0) fun x15 =>
               (pr.eqN (pr.natN 1) (pr.len (pr.rows [[x9, x11, (pr.ld y12 0), x15]])) (pr.isNil (pr.seg (pr.rows [[x9, x11, (pr.ld y12 0), x15]]) none (pr.natN 1))
                (pr.bin .add false (pr.ld y7 0) (pr.lit (.int Go.IntKind.i64 (1))) fun x16 =>
                (J2 0 [.d x16, .r (pr.lr y7 1), .n (pr.ln y7 5), .n (pr.ln y7 6), .d (pr.ld y7 7), .d (pr.ld y7 8), .d (pr.ld y7 9)]))
                (pr.fits 32 (pr.len (pr.seg (pr.rows [[x9, x11, (pr.ld y12 0), x15]]) none (pr.natN 1)))
                (pr.bin .add false (pr.ld y7 0) (pr.lit (.int Go.IntKind.i64 (1))) fun x16 =>
                (J2 1 [.n (pr.len (pr.seg (pr.rows [[x9, x11, (pr.ld y12 0), x15]]) none (pr.natN 1))), .n (pr.len (pr.seg (pr.rows [[x9, x11, (pr.ld y12 0), x15]]) none (pr.natN 1))), .d x16, .r (pr.lr y7 1), .r (pr.seg (pr.rows [[x9, x11, (pr.ld y12 0), x15]]) none (pr.natN 1)), .n (pr.ln y7 5), .n (pr.ln y7 6), .d (pr.ld y7 7), .d (pr.ld y7 8), .d (pr.ld y7 9)]))))))]))]))])))])
       (pr.out 0 [.r (pr.lr y2 1), .n (pr.ln y2 2), .n (pr.ln y2 3)])))))
     (pr.bin .eql false (pr.ld y2 0) (pr.lit (.int Go.IntKind.i64 (0))) fun x5 =>
     (pr.cond x5
      (pr.bnd (pr.lenD (pr.ld y2 6) fun x6 =>
      (pr.bin .lss false (pr.ld y2 0) x6 fun x7 =>
       (pr.cond x7
        (pr.rowD 3 (pr.ld y2 6) (pr.ld y2 0) fun w8 =>
        (pr.out 0 [.d (pr.ld y2 0), .r (pr.lr y2 1), .d (pr.cell w8 0), .d (pr.cell w8 1), .d (pr.cell w8 2), .n (pr.ln y2 2), .n (pr.ln y2 3), .d (pr.ld y2 4), .d (pr.ld y2 5), .d (pr.ld y2 6)]))
        (pr.out 0 [.d (pr.ld y2 0), .r (pr.lr y2 1), .d (pr.lit (.int Go.IntKind.i64 (0))), .d (pr.lit (.int Go.IntKind.i64 (0))), .d (pr.lit (.int Go.IntKind.i64 (0))), .n (pr.ln y2 2), .n (pr.ln y2 3), .d (pr.ld y2 4), .d (pr.ld y2 5), .d (pr.ld y2 6)])))) [fun y6 => (pr.bin .mul false (pr.lit (.int Go.IntKind.i64 (2))) (pr.ld y6 0) fun x7 =>
       (pr.bin .add false (pr.lit (.int Go.IntKind.i64 (3))) x7 fun x8 =>
        (pr.bnd (pr.call 26 [(pr.ld y6 2), (pr.lit (.int Go.IntKind.i64 (4)))]) [fun y9 => (pr.bin .add false (pr.lit (.int Go.IntKind.i64 (1))) (pr.ld y9 0) fun x10 =>
          (pr.bnd (pr.call 26 [(pr.ld y6 3), (pr.lit (.int Go.IntKind.i64 (0)))]) [fun y11 => (pr.bin .sub false (pr.lit (.int Go.IntKind.i64 (0))) (pr.ld y11 0) fun x12 =>
            (pr.bnd (pr.call 26 [(pr.ld y6 4), x12]) [fun y13 => (pr.bin .add false (pr.ld y11 0) (pr.ld y13 0) fun x14 =>
              (pr.eqN (pr.natN 1) (pr.len (pr.rows [[x8, x10, (pr.ld y11 0), x14]])) (pr.isNil (pr.seg (pr.rows [[x8, x10, (pr.ld y11 0), x14]]) none (pr.natN 1))
               (pr.bin .add false (pr.ld y6 0) (pr.lit (.int Go.IntKind.i64 (1))) fun x15 =>
               (J2 0 [.d x15, .r (pr.lr y6 1), .n (pr.ln y6 5), .n (pr.ln y6 6), .d (pr.ld y6 7), .d (pr.ld y6 8), .d (pr.ld y6 9)]))
               (pr.fits 32 (pr.len (pr.seg (pr.rows [[x8, x10, (pr.ld y11 0), x14]]) none (pr.natN 1)))
               (pr.bin .add false (pr.ld y6 0) (pr.lit (.int Go.IntKind.i64 (1))) fun x15 =>
               (J2 1 [.n (pr.len (pr.seg (pr.rows [[x8, x10, (pr.ld y11 0), x14]]) none (pr.natN 1))), .n (pr.len (pr.seg (pr.rows [[x8, x10, (pr.ld y11 0), x14]]) none (pr.natN 1))), .d x15, .r (pr.lr y6 1), .r (pr.seg (pr.rows [[x8, x10, (pr.ld y11 0), x14]]) none (pr.natN 1)), .n (pr.ln y6 5), .n (pr.ln y6 6), .d (pr.ld y6 7), .d (pr.ld y6 8), .d (pr.ld y6 9)]))))))]))]))])))])
      (pr.out 0 [.r (pr.lr y2 1), .n (pr.ln y2 2), .n (pr.ln y2 3)]))))))
def L25_11  : (Nat → List (Y Δ N R M) → Ω) → E → Ω := fun J2 y2 =>
 (pr.lenD (pr.ld y2 9) fun x3 =>
   (pr.bin .lss false (pr.ld y2 2) x3 fun x4 =>
    (pr.cond x4
     (pr.bin .lss false (pr.ld y2 2) (pr.lit (.int Go.IntKind.i64 (6))) fun x5 =>
     (pr.cond x5
      (pr.bnd (pr.lenD (pr.ld y2 9) fun x6 =>
      (pr.bin .lss false (pr.ld y2 2) x6 fun x7 =>
       (pr.cond x7
        (pr.rowD 3 (pr.ld y2 9) (pr.ld y2 2) fun w8 =>
        (pr.out 0 [.n (pr.ln y2 0), .n (pr.ln y2 1), .d (pr.ld y2 2), .r (pr.lr y2 3), .d (pr.cell w8 0), .d (pr.cell w8 1), .d (pr.cell w8 2), .r (pr.lr y2 4), .n (pr.ln y2 5), .n (pr.ln y2 6), .d (pr.ld y2 7), .d (pr.ld y2 8), .d (pr.ld y2 9)]))
        (pr.out 0 [.n (pr.ln y2 0), .n (pr.ln y2 1), .d (pr.ld y2 2), .r (pr.lr y2 3), .d (pr.lit (.int Go.IntKind.i64 (0))), .d (pr.lit (.int Go.IntKind.i64 (0))), .d (pr.lit (.int Go.IntKind.i64 (0))), .r (pr.lr y2 4), .n (pr.ln y2 5), .n (pr.ln y2 6), .d (pr.ld y2 7), .d (pr.ld y2 8), .d (pr.ld y2 9)])))) [fun y6 => (pr.bin .mul false (pr.lit (.int Go.IntKind.i64 (2))) (pr.ld y6 2) fun x7 =>
       (pr.bin .add false (pr.lit (.int Go.IntKind.i64 (3))) x7 fun x8 =>
        (pr.bnd (pr.call 26 [(pr.ld y6 4), (pr.lit (.int Go.IntKind.i64 (4)))]) [fun y9 => (pr.bin .add false (pr.lit (.int Go.IntKind.i64 (1))) (pr.ld y9 0) fun x10 =>
          (pr.bnd (pr.call 26 [(pr.ld y6 5), (pr.lit (.int Go.IntKind.i64 (0)))]) [fun y11 => (pr.bin .sub false (pr.lit (.int Go.IntKind.i64 (0))) (pr.ld y11 0) fun x12 =>
            (pr.bnd (pr.call 26 [(pr.ld y6 6), x12]) [fun y13 => (pr.bin .add false (pr.ld y11 0) (pr.ld y13 0) fun x14 =>
              (pr.eqN (pr.natN 1) (pr.len (pr.rows [[x8, x10, (pr.ld y11 0), x14]])) (pr.eqN (pr.ln y6 1) (pr.len (pr.lr y6 7)) (pr.eqN (pr.ln y6 0) (pr.len (pr.lr y6 7)) (pr.fits 32 (pr.addN (pr.ln y6 0) (pr.len (pr.seg (pr.rows [[x8, x10, (pr.ld y11 0), x14]]) none (pr.natN 1))))
               (pr.bin .add false (pr.ld y6 2) (pr.lit (.int Go.IntKind.i64 (1))) fun x15 =>
               (J2 1 [.n (pr.addN (pr.ln y6 0) (pr.len (pr.seg (pr.rows [[x8, x10, (pr.ld y11 0), x14]]) none (pr.natN 1)))), .n (pr.addN (pr.ln y6 0) (pr.len (pr.seg (pr.rows [[x8, x10, (pr.ld y11 0), x14]]) none (pr.natN 1)))), .d x15, .r (pr.lr y6 3), .r (pr.app (pr.lr y6 7) (pr.seg (pr.rows [[x8, x10, (pr.ld y11 0), x14]]) none (pr.natN 1))), .n (pr.ln y6 8), .n (pr.ln y6 9), .d (pr.ld y6 10), .d (pr.ld y6 11), .d (pr.ld y6 12)])))))))]))]))])))])
      (pr.bin .eql false (pr.ld y2 2) (pr.lit (.int Go.IntKind.i64 (0))) fun x6 =>
      (pr.cond x6
       (pr.bnd (pr.lenD (pr.ld y2 9) fun x7 =>
       (pr.bin .lss false (pr.ld y2 2) x7 fun x8 =>
        (pr.cond x8
         (pr.rowD 3 (pr.ld y2 9) (pr.ld y2 2) fun w9 =>
         (pr.out 0 [.n (pr.ln y2 0), .n (pr.ln y2 1), .d (pr.ld y2 2), .r (pr.lr y2 3), .d (pr.cell w9 0), .d (pr.cell w9 1), .d (pr.cell w9 2), .r (pr.lr y2 4), .n (pr.ln y2 5), .n (pr.ln y2 6), .d (pr.ld y2 7), .d (pr.ld y2 8), .d (pr.ld y2 9)]))
         (pr.out 0 [.n (pr.ln y2 0), .n (pr.ln y2 1), .d (pr.ld y2 2), .r (pr.lr y2 3), .d (pr.lit (.int Go.IntKind.i64 (0))), .d (pr.lit (.int Go.IntKind.i64 (0))), .d (pr.lit (.int Go.IntKind.i64 (0))), .r (pr.lr y2 4), .n (pr.ln y2 5), .n (pr.ln y2 6), .d (pr.ld y2 7), .d (pr.ld y2 8), .d (pr.ld y2 9)])))) [fun y7 => (pr.bin .mul false (pr.lit (.int Go.IntKind.i64 (2))) (pr.ld y7 2) fun x8 =>
        (pr.bin .add false (pr.lit (.int Go.IntKind.i64 (3))) x8 fun x9 =>
         (pr.bnd (pr.call 26 [(pr.ld y7 4), (pr.lit (.int Go.IntKind.i64 (4)))]) [fun y10 => (pr.bin .add false (pr.lit (.int Go.IntKind.i64 (1))) (pr.ld y10 0) fun x11 =>
           (pr.bnd (pr.call 26 [(pr.ld y7 5), (pr.lit (.int Go.IntKind.i64 (0)))]) [fun y12 => (pr.bin .sub false (pr.lit (.int Go.IntKind.i64 (0))) (pr.ld y12 0) fun x13 =>
             (pr.bnd (pr.call 26 [(pr.ld y7 6), x13]) [fun y14 => (pr.bin .add false (pr.ld y12 0) (pr.ld y14 0) fun x15 =>
               (pr.eqN (pr.natN 1) (pr.len (pr.rows [[x9, x11, (pr.ld y12 0), x15]])) (pr.eqN (pr.ln y7 1) (pr.len (pr.lr y7 7)) (pr.eqN (pr.ln y7 0) (pr.len (pr.lr y7 7)) (pr.fits 32 (pr.addN (pr.ln y7 0) (pr.len (pr.seg (pr.rows [[x9, x11, (pr.ld y12 0), x15]]) none (pr.natN 1))))
                (pr.bin .add false (pr.ld y7 2) (pr.lit (.int Go.IntKind.i64 (1))) fun x16 =>
                (J2 1 [.n (pr.addN (pr.ln y7 0) (pr.len (pr.seg (pr.rows [[x9, x11, (pr.ld y12 0), x15]]) none (pr.natN 1)))), .n (pr.addN (pr.ln y7 0) (pr.len (pr.seg (pr.rows [[x9, x11, (pr.ld y12 0), x15]]) none (pr.natN 1)))), .d x16, .r (pr.lr y7 3), .r (pr.app (pr.lr y7 7) (pr.seg (pr.rows [[x9, x11, (pr.ld y12 0), x15]]) none (pr.natN 1))), .n (pr.ln y7 8), .n (pr.ln y7 9), .d (pr.ld y7 10), .d (pr.ld y7 11), .d (pr.ld y7 12)])))))))]))]))])))])
       (pr.out 1 [.n (pr.ln y2 0), .n (pr.ln y2 1), .r (pr.lr y2 3), .r (pr.lr y2 4), .n (pr.ln y2 5), .n (pr.ln y2 6)])))))
     (pr.bin .eql false (pr.ld y2 2) (pr.lit (.int Go.IntKind.i64 (0))) fun x5 =>
     (pr.cond x5
      (pr.bnd (pr.lenD (pr.ld y2 9) fun x6 =>
      (pr.bin .lss false (pr.ld y2 2) x6 fun x7 =>
       (pr.cond x7
        (pr.rowD 3 (pr.ld y2 9) (pr.ld y2 2) fun w8 =>
        (pr.out 0 [.n (pr.ln y2 0), .n (pr.ln y2 1), .d (pr.ld y2 2), .r (pr.lr y2 3), .d (pr.cell w8 0), .d (pr.cell w8 1), .d (pr.cell w8 2), .r (pr.lr y2 4), .n (pr.ln y2 5), .n (pr.ln y2 6), .d (pr.ld y2 7), .d (pr.ld y2 8), .d (pr.ld y2 9)]))
        (pr.out 0 [.n (pr.ln y2 0), .n (pr.ln y2 1), .d (pr.ld y2 2), .r (pr.lr y2 3), .d (pr.lit (.int Go.IntKind.i64 (0))), .d (pr.lit (.int Go.IntKind.i64 (0))), .d (pr.lit (.int Go.IntKind.i64 (0))), .r (pr.lr y2 4), .n (pr.ln y2 5), .n (pr.ln y2 6), .d (pr.ld y2 7), .d (pr.ld y2 8), .d (pr.ld y2 9)])))) [fun y6 => (pr.bin .mul false (pr.lit (.int Go.IntKind.i64 (2))) (pr.ld y6 2) fun x7 =>
       (pr.bin .add false (pr.lit (.int Go.IntKind.i64 (3))) x7 fun x8 =>
        (pr.bnd (pr.call 26 [(pr.ld y6 4), (pr.lit (.int Go.IntKind.i64 (4)))]) [fun y9 => (pr.bin .add false (pr.lit (.int Go.IntKind.i64 (1))) (pr.ld y9 0) fun x10 =>
          (pr.bnd (pr.call 26 [(pr.ld y6 5), (pr.lit (.int Go.IntKind.i64 (0)))]) [fun y11 => (pr.bin .sub false (pr.lit (.int Go.IntKind.i64 (0))) (pr.ld y11 0) fun x12 =>
            (pr.bnd (pr.call 26 [(pr.ld y6 6), x12]) [fun y13 => (pr.bin .add false (pr.ld y11 0) (pr.ld y13 0) fun x14 =>
              (pr.eqN (pr.natN 1) (pr.len (pr.rows [[x8, x10, (pr.ld y11 0), x14]])) (pr.eqN (pr.ln y6 1) (pr.len (pr.lr y6 7)) (pr.eqN (pr.ln y6 0) (pr.len (pr.lr y6 7)) (pr.fits 32 (pr.addN (pr.ln y6 0) (pr.len (pr.seg (pr.rows [[x8, x10, (pr.ld y11 0), x14]]) none (pr.natN 1))))
               (pr.bin .add false (pr.ld y6 2) (pr.lit (.int Go.IntKind.i64 (1))) fun x15 =>
               (J2 1 [.n (pr.addN (pr.ln y6 0) (pr.len (pr.seg (pr.rows [[x8, x10, (pr.ld y11 0), x14]]) none (pr.natN 1)))), .n (pr.addN (pr.ln y6 0) (pr.len (pr.seg (pr.rows [[x8, x10, (pr.ld y11 0), x14]]) none (pr.natN 1)))), .d x15, .r (pr.lr y6 3), .r (pr.app (pr.lr y6 7) (pr.seg (pr.rows [[x8, x10, (pr.ld y11 0), x14]]) none (pr.natN 1))), .n (pr.ln y6 8), .n (pr.ln y6 9), .d (pr.ld y6 10), .d (pr.ld y6 11), .d (pr.ld y6 12)])))))))]))]))])))])
      (pr.out 1 [.n (pr.ln y2 0), .n (pr.ln y2 1), .r (pr.lr y2 3), .r (pr.lr y2 4), .n (pr.ln y2 5), .n (pr.ln y2 6)]))))))
def L25_12  : (Nat → List (Y Δ N R M) → Ω) → E → Ω := fun J2 y2 =>
 (pr.lenD (pr.ld y2 9) fun x3 =>
   (pr.bin .lss false (pr.ld y2 0) x3 fun x4 =>
    (pr.cond x4
     (pr.bin .lss false (pr.ld y2 0) (pr.lit (.int Go.IntKind.i64 (6))) fun x5 =>
     (pr.cond x5
      (pr.bnd (pr.lenD (pr.ld y2 9) fun x6 =>
      (pr.bin .lss false (pr.ld y2 0) x6 fun x7 =>
       (pr.cond x7
        (pr.rowD 3 (pr.ld y2 9) (pr.ld y2 0) fun w8 =>
        (pr.out 0 [.d (pr.ld y2 0), .r (pr.lr y2 1), .r (pr.lr y2 2), .d (pr.cell w8 0), .d (pr.cell w8 1), .d (pr.cell w8 2), .n (pr.ln y2 3), .n (pr.ln y2 4), .n (pr.ln y2 5), .n (pr.ln y2 6), .d (pr.ld y2 7), .d (pr.ld y2 8), .d (pr.ld y2 9)]))
        (pr.out 0 [.d (pr.ld y2 0), .r (pr.lr y2 1), .r (pr.lr y2 2), .d (pr.lit (.int Go.IntKind.i64 (0))), .d (pr.lit (.int Go.IntKind.i64 (0))), .d (pr.lit (.int Go.IntKind.i64 (0))), .n (pr.ln y2 3), .n (pr.ln y2 4), .n (pr.ln y2 5), .n (pr.ln y2 6), .d (pr.ld y2 7), .d (pr.ld y2 8), .d (pr.ld y2 9)])))) [fun y6 => (pr.bin .mul false (pr.lit (.int Go.IntKind.i64 (2))) (pr.ld y6 0) fun x7 =>
       (pr.bin .add false (pr.lit (.int Go.IntKind.i64 (3))) x7 fun x8 =>
        (pr.bnd (pr.call 26 [(pr.ld y6 3), (pr.lit (.int Go.IntKind.i64 (4)))]) [fun y9 => (pr.bin .add false (pr.lit (.int Go.IntKind.i64 (1))) (pr.ld y9 0) fun x10 =>
          (pr.bnd (pr.call 26 [(pr.ld y6 4), (pr.natD (pr.ln y6 8))]) [fun y11 => (pr.bin .sub false (pr.natD (pr.ln y6 8)) (pr.ld y11 0) fun x12 =>
            (pr.bnd (pr.call 26 [(pr.ld y6 5), x12]) [fun y13 => (pr.bin .add false (pr.ld y11 0) (pr.ld y13 0) fun x14 =>
              (pr.eqN (pr.natN 1) (pr.len (pr.rows [[x8, x10, (pr.ld y11 0), x14]])) (pr.isNil (pr.seg (pr.rows [[x8, x10, (pr.ld y11 0), x14]]) none (pr.natN 1))
               (pr.bin .add false (pr.ld y6 0) (pr.lit (.int Go.IntKind.i64 (1))) fun x15 =>
               (J2 0 [.d x15, .r (pr.lr y6 1), .r (pr.lr y6 2), .n (pr.ln y6 6), .n (pr.ln y6 7), .n (pr.ln y6 8), .n (pr.ln y6 9), .d (pr.ld y6 10), .d (pr.ld y6 11), .d (pr.ld y6 12)]))
               (pr.fits 32 (pr.len (pr.seg (pr.rows [[x8, x10, (pr.ld y11 0), x14]]) none (pr.natN 1)))
               (pr.bin .add false (pr.ld y6 0) (pr.lit (.int Go.IntKind.i64 (1))) fun x15 =>
               (J2 1 [.n (pr.len (pr.seg (pr.rows [[x8, x10, (pr.ld y11 0), x14]]) none (pr.natN 1))), .n (pr.len (pr.seg (pr.rows [[x8, x10, (pr.ld y11 0), x14]]) none (pr.natN 1))), .d x15, .r (pr.lr y6 1), .r (pr.lr y6 2), .r (pr.seg (pr.rows [[x8, x10, (pr.ld y11 0), x14]]) none (pr.natN 1)), .n (pr.ln y6 6), .n (pr.ln y6 7), .n (pr.ln y6 8), .n (pr.ln y6 9), .d (pr.ld y6 10), .d (pr.ld y6 11), .d (pr.ld y6 12)]))))))]))]))])))])
      (pr.bin .eql false (pr.ld y2 0) (pr.lit (.int Go.IntKind.i64 (0))) fun x6 =>
      (pr.cond x6
       (pr.bnd (pr.lenD (pr.ld y2 9) fun x7 =>
       (pr.bin .lss false (pr.ld y2 0) x7 fun x8 =>
        (pr.cond x8
         (pr.rowD 3 (pr.ld y2 9) (pr.ld y2 0) fun w9 =>
         (pr.out 0 [.d (pr.ld y2 0), .r (pr.lr y2 1), .r (pr.lr y2 2), .d (pr.cell w9 0), .d (pr.cell w9 1), .d (pr.cell w9 2), .n (pr.ln y2 3), .n (pr.ln y2 4), .n (pr.ln y2 5), .n (pr.ln y2 6), .d (pr.ld y2 7), .d (pr.ld y2 8), .d (pr.ld y2 9)]))
         (pr.out 0 [.d (pr.ld y2 0), .r (pr.lr y2 1), .r (pr.lr y2 2), .d (pr.lit (.int Go.IntKind.i64 (0))), .d (pr.lit (.int Go.IntKind.i64 (0))), .d (pr.lit (.int Go.IntKind.i64 (0))), .n (pr.ln y2 3), .n (pr.ln y2 4), .n (pr.ln y2 5), .n (pr.ln y2 6), .d (pr.ld y2 7), .d (pr.ld y2 8), .d (pr.ld y2 9)])))) [fun y7 => (pr.bin .mul false (pr.lit (.int Go.IntKind.i64 (2))) (pr.ld y7 0) fun x8 =>
        (pr.bin .add false (pr.lit (.int Go.IntKind.i64 (3))) x8 fun x9 =>
         (pr.bnd (pr.call 26 [(pr.ld y7 3), (pr.lit (.int Go.IntKind.i64 (4)))]) [fun y10 => (pr.bin .add false (pr.lit (.int Go.IntKind.i64 (1))) (pr.ld y10 0) fun x11 =>
           (pr.bnd (pr.call 26 [(pr.ld y7 4), (pr.natD (pr.ln y7 8))]) [fun y12 => (pr.bin .sub false (pr.natD (pr.ln y7 8)) (pr.ld y12 0) fun x13 =>
             (pr.bnd (pr.call 26 [(pr.ld y7 5), x13]) [fun y14 => (pr.bin .add false (pr.ld y12 0) (pr.ld y14 0) fun x15 =>
               (pr.eqN (pr.natN 1) (pr.len (pr.rows [[x9, x11, (pr.ld y12 0), x15]])) (pr.isNil (pr.seg (pr.rows [[x9, x11, (pr.ld y12 0), x15]]) none (pr.natN 1))
                (pr.bin .add false (pr.ld y7 0) (pr.lit (.int Go.IntKind.i64 (1))) fun x16 =>
                (J2 0 [.d x16, .r (pr.lr y7 1), .r (pr.lr y7 2), .n (pr.ln y7 6), .n (pr.ln y7 7), .n (pr.ln y7 8), .n (pr.ln y7 9), .d (pr.ld y7 10), .d (pr.ld y7 11), .d (pr.ld y7 12)]))
                (pr.fits 32 (pr.len (pr.seg (pr.rows [[x9, x11, (pr.ld y12 0), x15]]) none (pr.natN 1)))
                (pr.bin .add false (pr.ld y7 0) (pr.lit (.int Go.IntKind.i64 (1))) fun x16 =>
                (J2 1 [.n (pr.len (pr.seg (pr.rows [[x9, x11, (pr.ld y12 0), x15]]) none (pr.natN 1))), .n (pr.len (pr.seg (pr.rows [[x9, x11, (pr.ld y12 0), x15]]) none (pr.natN 1))), .d x16, .r (pr.lr y7 1), .r (pr.lr y7 2), .r (pr.seg (pr.rows [[x9, x11, (pr.ld y12 0), x15]]) none (pr.natN 1)), .n (pr.ln y7 6), .n (pr.ln y7 7), .n (pr.ln y7 8), .n (pr.ln y7 9), .d (pr.ld y7 10), .d (pr.ld y7 11), .d (pr.ld y7 12)]))))))]))]))])))])
       (pr.out 0 [.r (pr.lr y2 1), .r (pr.lr y2 2), .n (pr.ln y2 3), .n (pr.ln y2 4), .n (pr.ln y2 5), .n (pr.ln y2 6)])))))
     (pr.bin .eql false (pr.ld y2 0) (pr.lit (.int Go.IntKind.i64 (0))) fun x5 =>
     (pr.cond x5
      (pr.bnd (pr.lenD (pr.ld y2 9) fun x6 =>
      (pr.bin .lss false (pr.ld y2 0) x6 fun x7 =>
       (pr.cond x7
        (pr.rowD 3 (pr.ld y2 9) (pr.ld y2 0) fun w8 =>
        (pr.out 0 [.d (pr.ld y2 0), .r (pr.lr y2 1), .r (pr.lr y2 2), .d (pr.cell w8 0), .d (pr.cell w8 1), .d (pr.cell w8 2), .n (pr.ln y2 3), .n (pr.ln y2 4), .n (pr.ln y2 5), .n (pr.ln y2 6), .d (pr.ld y2 7), .d (pr.ld y2 8), .d (pr.ld y2 9)]))
        (pr.out 0 [.d (pr.ld y2 0), .r (pr.lr y2 1), .r (pr.lr y2 2), .d (pr.lit (.int Go.IntKind.i64 (0))), .d (pr.lit (.int Go.IntKind.i64 (0))), .d (pr.lit (.int Go.IntKind.i64 (0))), .n (pr.ln y2 3), .n (pr.ln y2 4), .n (pr.ln y2 5), .n (pr.ln y2 6), .d (pr.ld y2 7), .d (pr.ld y2 8), .d (pr.ld y2 9)])))) [fun y6 => (pr.bin .mul false (pr.lit (.int Go.IntKind.i64 (2))) (pr.ld y6 0) fun x7 =>
       (pr.bin .add false (pr.lit (.int Go.IntKind.i64 (3))) x7 fun x8 =>
        (pr.bnd (pr.call 26 [(pr.ld y6 3), (pr.lit (.int Go.IntKind.i64 (4)))]) [fun y9 => (pr.bin .add false (pr.lit (.int Go.IntKind.i64 (1))) (pr.ld y9 0) fun x10 =>
          (pr.bnd (pr.call 26 [(pr.ld y6 4), (pr.natD (pr.ln y6 8))]) [fun y11 => (pr.bin .sub false (pr.natD (pr.ln y6 8)) (pr.ld y11 0) fun x12 =>
            (pr.bnd (pr.call 26 [(pr.ld y6 5), x12]) [fun y13 => (pr.bin .add false (pr.ld y11 0) (pr.ld y13 0) fun x14 =>
              (pr.eqN (pr.natN 1) (pr.len (pr.rows [[x8, x10, (pr.ld y11 0), x14]])) (pr.isNil (pr.seg (pr.rows [[x8, x10, (pr.ld y11 0), x14]]) none (pr.natN 1))
               (pr.bin .add false (pr.ld y6 0) (pr.lit (.int Go.IntKind.i64 (1))) fun x15 =>
               (J2 0 [.d x15, .r (pr.lr y6 1), .r (pr.lr y6 2), .n (pr.ln y6 6), .n (pr.ln y6 7), .n (pr.ln y6 8), .n (pr.ln y6 9), .d (pr.ld y6 10), .d (pr.ld y6 11), .d (pr.ld y6 12)]))
               (pr.fits 32 (pr.len (pr.seg (pr.rows [[x8, x10, (pr.ld y11 0), x14]]) none (pr.natN 1)))
               (pr.bin .add false (pr.ld y6 0) (pr.lit (.int Go.IntKind.i64 (1))) fun x15 =>
               (J2 1 [.n (pr.len (pr.seg (pr.rows [[x8, x10, (pr.ld y11 0), x14]]) none (pr.natN 1))), .n (pr.len (pr.seg (pr.rows [[x8, x10, (pr.ld y11 0), x14]]) none (pr.natN 1))), .d x15, .r (pr.lr y6 1), .r (pr.lr y6 2), .r (pr.seg (pr.rows [[x8, x10, (pr.ld y11 0), x14]]) none (pr.natN 1)), .n (pr.ln y6 6), .n (pr.ln y6 7), .n (pr.ln y6 8), .n (pr.ln y6 9), .d (pr.ld y6 10), .d (pr.ld y6 11), .d (pr.ld y6 12)]))))))]))]))])))])
      (pr.out 0 [.r (pr.lr y2 1), .r (pr.lr y2 2), .n (pr.ln y2 3), .n (pr.ln y2 4), .n (pr.ln y2 5), .n (pr.ln y2 6)]))))))
def L25_13  : (Nat → List (Y Δ N R M) → Ω) → E → Ω := fun J2 y2 =>
 (pr.lenD (pr.ld y2 12) fun x3 =>
   (pr.bin .lss false (pr.ld y2 2) x3 fun x4 =>
    (pr.cond x4
     (pr.bin .lss false (pr.ld y2 2) (pr.lit (.int Go.IntKind.i64 (6))) fun x5 =>
     (pr.cond x5
      (pr.bnd (pr.lenD (pr.ld y2 12) fun x6 =>
      (pr.bin .lss false (pr.ld y2 2) x6 fun x7 =>
       (pr.cond x7
        (pr.rowD 3 (pr.ld y2 12) (pr.ld y2 2) fun w8 =>
        (pr.out 0 [.n (pr.ln y2 0), .n (pr.ln y2 1), .d (pr.ld y2 2), .r (pr.lr y2 3), .r (pr.lr y2 4), .d (pr.cell w8 0), .d (pr.cell w8 1), .d (pr.cell w8 2), .r (pr.lr y2 5), .n (pr.ln y2 6), .n (pr.ln y2 7), .n (pr.ln y2 8), .n (pr.ln y2 9), .d (pr.ld y2 10), .d (pr.ld y2 11), .d (pr.ld y2 12)]))
        (pr.out 0 [.n (pr.ln y2 0), .n (pr.ln y2 1), .d (pr.ld y2 2), .r (pr.lr y2 3), .r (pr.lr y2 4), .d (pr.lit (.int Go.IntKind.i64 (0))), .d (pr.lit (.int Go.IntKind.i64 (0))), .d (pr.lit (.int Go.IntKind.i64 (0))), .r (pr.lr y2 5), .n (pr.ln y2 6), .n (pr.ln y2 7), .n (pr.ln y2 8), .n (pr.ln y2 9), .d (pr.ld y2 10), .d (pr.ld y2 11), .d (pr.ld y2 12)])))) [fun y6 => (pr.bin .mul false (pr.lit (.int Go.IntKind.i64 (2))) (pr.ld y6 2) fun x7 =>
       (pr.bin .add false (pr.lit (.int Go.IntKind.i64 (3))) x7 fun x8 =>
        (pr.bnd (pr.call 26 [(pr.ld y6 5), (pr.lit (.int Go.IntKind.i64 (4)))]) [fun y9 => (pr.bin .add false (pr.lit (.int Go.IntKind.i64 (1))) (pr.ld y9 0) fun x10 =>
          (pr.bnd (pr.call 26 [(pr.ld y6 6), (pr.natD (pr.ln y6 11))]) [fun y11 => (pr.bin .sub false (pr.natD (pr.ln y6 11)) (pr.ld y11 0) fun x12 =>
            (pr.bnd (pr.call 26 [(pr.ld y6 7), x12]) [fun y13 => (pr.bin .add false (pr.ld y11 0) (pr.ld y13 0) fun x14 =>
              (pr.eqN (pr.natN 1) (pr.len (pr.rows [[x8, x10, (pr.ld y11 0), x14]])) (pr.eqN (pr.ln y6 1) (pr.len (pr.lr y6 8)) (pr.eqN (pr.ln y6 0) (pr.len (pr.lr y6 8)) (pr.fits 32 (pr.addN (pr.ln y6 0) (pr.len (pr.seg (pr.rows [[x8, x10, (pr.ld y11 0), x14]]) none (pr.natN 1))))
               (pr.bin .add false (pr.ld y6 2) (pr.lit (.int Go.IntKind.i64 (1))) fun x15 =>
               (J2 1 [.n (pr.addN (pr.ln y6 0) (pr.len (pr.seg (pr.rows [[x8, x10, (pr.ld y11 0), x14]]) none (pr.natN 1)))), .n (pr.addN (pr.ln y6 0) (pr.len (pr.seg (pr.rows [[x8, x10, (pr.ld y11 0), x14]]) none (pr.natN 1)))), .d x15, .r (pr.lr y6 3), .r (pr.lr y6 4), .r (pr.app (pr.lr y6 8) (pr.seg (pr.rows [[x8, x10, (pr.ld y11 0), x14]]) none (pr.natN 1))), .n (pr.ln y6 9), .n (pr.ln y6 10), .n (pr.ln y6 11), .n (pr.ln y6 12), .d (pr.ld y6 13), .d (pr.ld y6 14), .d (pr.ld y6 15)])))))))]))]))])))])
      (pr.bin .eql false (pr.ld y2 2) (pr.lit (.int Go.IntKind.i64 (0))) fun x6 =>
      (pr.cond x6
       (pr.bnd (pr.lenD (pr.ld y2 12) fun x7 =>
       (pr.bin .lss false (pr.ld y2 2) x7 fun x8 =>
        (pr.cond x8
         (pr.rowD 3 (pr.ld y2 12) (pr.ld y2 2) fun w9 =>
         (pr.out 0 [.n (pr.ln y2 0), .n (pr.ln y2 1), .d (pr.ld y2 2), .r (pr.lr y2 3), .r (pr.lr y2 4), .d (pr.cell w9 0), .d (pr.cell w9 1), .d (pr.cell w9 2), .r (pr.lr y2 5), .n (pr.ln y2 6), .n (pr.ln y2 7), .n (pr.ln y2 8), .n (pr.ln y2 9), .d (pr.ld y2 10), .d (pr.ld y2 11), .d (pr.ld y2 12)]))
         (pr.out 0 [.n (pr.ln y2 0), .n (pr.ln y2 1), .d (pr.ld y2 2), .r (pr.lr y2 3), .r (pr.lr y2 4), .d (pr.lit (.int Go.IntKind.i64 (0))), .d (pr.lit (.int Go.IntKind.i64 (0))), .d (pr.lit (.int Go.IntKind.i64 (0))), .r (pr.lr y2 5), .n (pr.ln y2 6), .n (pr.ln y2 7), .n (pr.ln y2 8), .n (pr.ln y2 9), .d (pr.ld y2 10), .d (pr.ld y2 11), .d (pr.ld y2 12)])))) [fun y7 => (pr.bin .mul false (pr.lit (.int Go.IntKind.i64 (2))) (pr.ld y7 2) fun x8 =>
        (pr.bin .add false (pr.lit (.int Go.IntKind.i64 (3))) x8 fun x9 =>
         (pr.bnd (pr.call 26 [(pr.ld y7 5), (pr.lit (.int Go.IntKind.i64 (4)))]) [fun y10 => (pr.bin .add false (pr.lit (.int Go.IntKind.i64 (1))) (pr.ld y10 0) fun x11 =>
           (pr.bnd (pr.call 26 [(pr.ld y7 6), (pr.natD (pr.ln y7 11))]) [fun y12 => (pr.bin .sub false (pr.natD (pr.ln y7 11)) (pr.ld y12 0) fun x13 =>
             (pr.bnd (pr.call 26 [(pr.ld y7 7), x13]) [fun y14 => (pr.bin .add false (pr.ld y12 0) (pr.ld y14 0) fun x15 =>
               (pr.eqN (pr.natN 1) (pr.len (pr.rows [[x9, x11, (pr.ld y12 0), x15]])) (pr.eqN (pr.ln y7 1) (pr.len (pr.lr y7 8)) (pr.eqN (pr.ln y7 0) (pr.len (pr.lr y7 8)) (pr.fits 32 (pr.addN (pr.ln y7 0) (pr.len (pr.seg (pr.rows [[x9, x11, (pr.ld y12 0), x15]]) none (pr.natN 1))))
                (pr.bin .add false (pr.ld y7 2) (pr.lit (.int Go.IntKind.i64 (1))) fun x16 =>
                (J2 1 [.n (pr.addN (pr.ln y7 0) (pr.len (pr.seg (pr.rows [[x9, x11, (pr.ld y12 0), x15]]) none (pr.natN 1)))), .n (pr.addN (pr.ln y7 0) (pr.len (pr.seg (pr.rows [[x9, x11, (pr.ld y12 0), x15]]) none (pr.natN 1)))), .d x16, .r (pr.lr y7 3), .r (pr.lr y7 4), .r (pr.app (pr.lr y7 8) (pr.seg (pr.rows [[x9, x11, (pr.ld y12 0), x15]]) none (pr.natN 1))), .n (pr.ln y7 9), .n (pr.ln y7 10), .n (pr.ln y7 11), .n (pr.ln y7 12), .d (pr.ld y7 13), .d (pr.ld y7 14), .d (pr.ld y7 15)])))))))]))]))])))])
       (pr.out 1 [.n (pr.ln y2 0), .n (pr.ln y2 1), .r (pr.lr y2 3), .r (pr.lr y2 4), .r (pr.lr y2 5), .n (pr.ln y2 6), .n (pr.ln y2 7), .n (pr.ln y2 8), .n (pr.ln y2 9)])))))
     (pr.bin .eql false (pr.ld y2 2) (pr.lit (.int Go.IntKind.i64 (0))) fun x5 =>
     (pr.cond x5
      (pr.bnd (pr.lenD (pr.ld y2 12) fun x6 =>
      (pr.bin .lss false (pr.ld y2 2) x6 fun x7 =>
       (pr.cond x7
        (pr.rowD 3 (pr.ld y2 12) (pr.ld y2 2) fun w8 =>
        (pr.out 0 [.n (pr.ln y2 0), .n (pr.ln y2 1), .d (pr.ld y2 2), .r (pr.lr y2 3), .r (pr.lr y2 4), .d (pr.cell w8 0), .d (pr.cell w8 1), .d (pr.cell w8 2), .r (pr.lr y2 5), .n (pr.ln y2 6), .n (pr.ln y2 7), .n (pr.ln y2 8), .n (pr.ln y2 9), .d (pr.ld y2 10), .d (pr.ld y2 11), .d (pr.ld y2 12)]))
        (pr.out 0 [.n (pr.ln y2 0), .n (pr.ln y2 1), .d (pr.ld y2 2), .r (pr.lr y2 3), .r (pr.lr y2 4), .d (pr.lit (.int Go.IntKind.i64 (0))), .d (pr.lit (.int Go.IntKind.i64 (0))), .d (pr.lit (.int Go.IntKind.i64 (0))), .r (pr.lr y2 5), .n (pr.ln y2 6), .n (pr.ln y2 7), .n (pr.ln y2 8), .n (pr.ln y2 9), .d (pr.ld y2 10), .d (pr.ld y2 11), .d (pr.ld y2 12)])))) [fun y6 => (pr.bin .mul false (pr.lit (.int Go.IntKind.i64 (2))) (pr.ld y6 2) fun x7 =>
       (pr.bin .add false (pr.lit (.int Go.IntKind.i64 (3))) x7 fun x8 =>
        (pr.bnd (pr.call 26 [(pr.ld y6 5), (pr.lit (.int Go.IntKind.i64 (4)))]) [fun y9 => (pr.bin .add false (pr.lit (.int Go.IntKind.i64 (1))) (pr.ld y9 0) fun x10 =>
          (pr.bnd (pr.call 26 [(pr.ld y6 6), (pr.natD (pr.ln y6 11))]) [fun y11 => (pr.bin .sub false (pr.natD (pr.ln y6 11)) (pr.ld y11 0) fun x12 =>
            (pr.bnd (pr.call 26 [(pr.ld y6 7), x12]) [fun y13 => (pr.bin .add false (pr.ld y11 0) (pr.ld y13 0) fun x14 =>
              (pr.eqN (pr.natN 1) (pr.len (pr.rows [[x8, x10, (pr.ld y11 0), x14]])) (pr.eqN (pr.ln y6 1) (pr.len (pr.lr y6 8)) (pr.eqN (pr.ln y6 0) (pr.len (pr.lr y6 8)) (pr.fits 32 (pr.addN (pr.ln y6 0) (pr.len (pr.seg (pr.rows [[x8, x10, (pr.ld y11 0), x14]]) none (pr.natN 1))))
               (pr.bin .add false (pr.ld y6 2) (pr.lit (.int Go.IntKind.i64 (1))) fun x15 =>
               (J2 1 [.n (pr.addN (pr.ln y6 0) (pr.len (pr.seg (pr.rows [[x8, x10, (pr.ld y11 0), x14]]) none (pr.natN 1)))), .n (pr.addN (pr.ln y6 0) (pr.len (pr.seg (pr.rows [[x8, x10, (pr.ld y11 0), x14]]) none (pr.natN 1)))), .d x15, .r (pr.lr y6 3), .r (pr.lr y6 4), .r (pr.app (pr.lr y6 8) (pr.seg (pr.rows [[x8, x10, (pr.ld y11 0), x14]]) none (pr.natN 1))), .n (pr.ln y6 9), .n (pr.ln y6 10), .n (pr.ln y6 11), .n (pr.ln y6 12), .d (pr.ld y6 13), .d (pr.ld y6 14), .d (pr.ld y6 15)])))))))]))]))])))])
      (pr.out 1 [.n (pr.ln y2 0), .n (pr.ln y2 1), .r (pr.lr y2 3), .r (pr.lr y2 4), .r (pr.lr y2 5), .n (pr.ln y2 6), .n (pr.ln y2 7), .n (pr.ln y2 8), .n (pr.ln y2 9)]))))))
def G25 (a0 a1 a2 : Δ) : Ω :=
 (pr.bnd (pr.loop [(L25_0 pr), (L25_1 pr)] 0 [.d (pr.lit (.int Go.IntKind.i64 (0))), .d a0, .d a1, .d a2]) [fun y0 => (pr.bnd (pr.loop [(L25_2 pr), (L25_3 pr)] 0 [.d (pr.lit (.int Go.IntKind.i64 (0))), .d (pr.ld y0 0), .d (pr.ld y0 1), .d (pr.ld y0 2)]) [fun y1 => (pr.bnd (pr.loop [(L25_4 pr), (L25_5 pr)] 0 [.d (pr.lit (.int Go.IntKind.i64 (0))), .d (pr.ld y1 0), .d (pr.ld y1 1), .d (pr.ld y1 2)]) [fun y2 => (pr.out 0 [.d (pr.lit (.slice none 0 0)), .d (pr.lit (.slice none 0 0)), .d (pr.lit (.slice none 0 0))]), fun y2 => (pr.eqN (pr.ln y2 1) (pr.len (pr.lr y2 2)) (pr.out 0 [.d (pr.lit (.slice none 0 0)), .d (pr.lit (.slice none 0 0)), .d (pr.slD 4 (pr.seg (pr.lr y2 2) none (pr.ln y2 0)))]))]), fun y1 => (pr.bnd (pr.loop [(L25_6 pr), (L25_7 pr)] 0 [.d (pr.lit (.int Go.IntKind.i64 (0))), .r (pr.lr y1 0), .n (pr.ln y1 1), .n (pr.ln y1 2), .d (pr.ld y1 3), .d (pr.ld y1 4), .d (pr.ld y1 5)]) [fun y2 => (pr.eqN (pr.ln y2 2) (pr.len (pr.lr y2 0)) (pr.out 0 [.d (pr.lit (.slice none 0 0)), .d (pr.slD 3 (pr.seg (pr.lr y2 0) none (pr.ln y2 1))), .d (pr.lit (.slice none 0 0))])), fun y2 => (pr.eqN (pr.ln y2 5) (pr.len (pr.lr y2 2)) (pr.eqN (pr.ln y2 1) (pr.len (pr.lr y2 3)) (pr.out 0 [.d (pr.lit (.slice none 0 0)), .d (pr.slD 3 (pr.seg (pr.lr y2 2) none (pr.ln y2 4))), .d (pr.slD 4 (pr.seg (pr.lr y2 3) none (pr.ln y2 0)))])))])]), fun y0 => (pr.bnd (pr.loop [(L25_8 pr), (L25_9 pr)] 0 [.d (pr.lit (.int Go.IntKind.i64 (0))), .r (pr.lr y0 0), .n (pr.ln y0 1), .n (pr.ln y0 2), .d (pr.ld y0 3), .d (pr.ld y0 4), .d (pr.ld y0 5)]) [fun y1 => (pr.bnd (pr.loop [(L25_10 pr), (L25_11 pr)] 0 [.d (pr.lit (.int Go.IntKind.i64 (0))), .r (pr.lr y1 0), .n (pr.ln y1 1), .n (pr.ln y1 2), .d (pr.ld y1 3), .d (pr.ld y1 4), .d (pr.ld y1 5)]) [fun y2 => (pr.eqN (pr.ln y2 2) (pr.len (pr.lr y2 0)) (pr.out 0 [.d (pr.slD 3 (pr.seg (pr.lr y2 0) none (pr.ln y2 1))), .d (pr.lit (.slice none 0 0)), .d (pr.lit (.slice none 0 0))])), fun y2 => (pr.eqN (pr.ln y2 5) (pr.len (pr.lr y2 2)) (pr.eqN (pr.ln y2 1) (pr.len (pr.lr y2 3)) (pr.out 0 [.d (pr.slD 3 (pr.seg (pr.lr y2 2) none (pr.ln y2 4))), .d (pr.lit (.slice none 0 0)), .d (pr.slD 4 (pr.seg (pr.lr y2 3) none (pr.ln y2 0)))])))]), fun y1 => (pr.bnd (pr.loop [(L25_12 pr), (L25_13 pr)] 0 [.d (pr.lit (.int Go.IntKind.i64 (0))), .r (pr.lr y1 0), .r (pr.lr y1 1), .n (pr.ln y1 2), .n (pr.ln y1 3), .n (pr.ln y1 4), .n (pr.ln y1 5), .d (pr.ld y1 6), .d (pr.ld y1 7), .d (pr.ld y1 8)]) [fun y2 => (pr.eqN (pr.ln y2 3) (pr.len (pr.lr y2 1)) (pr.eqN (pr.ln y2 5) (pr.len (pr.lr y2 0)) (pr.out 0 [.d (pr.slD 3 (pr.seg (pr.lr y2 1) none (pr.ln y2 2))), .d (pr.slD 3 (pr.seg (pr.lr y2 0) none (pr.ln y2 4))), .d (pr.lit (.slice none 0 0))]))), fun y2 => (pr.eqN (pr.ln y2 6) (pr.len (pr.lr y2 3)) (pr.eqN (pr.ln y2 8) (pr.len (pr.lr y2 2)) (pr.eqN (pr.ln y2 1) (pr.len (pr.lr y2 4)) (pr.out 0 [.d (pr.slD 3 (pr.seg (pr.lr y2 3) none (pr.ln y2 5))), .d (pr.slD 3 (pr.seg (pr.lr y2 2) none (pr.ln y2 7))), .d (pr.slD 4 (pr.seg (pr.lr y2 4) none (pr.ln y2 0)))]))))])])])
end
theorem G25_eq {Δ N R W M E Ω : Type} (pr : Pr Δ N R W M E Ω) (a0 a1 a2 : Δ) : fun3 pr tb Try.prog 400 25 [a0, a1, a2] = G25 pr a0 a1 a2 := by kernel_rfl
theorem F25 (n : Nat) (a0 a1 a2 : D) : FN (n + 1) 25 [a0, a1, a2] = G25 (RP n) a0 a1 a2 := G25_eq _ a0 a1 a2
end Go.VE
/- What the functions of this program do, made by a program of ours out of the evaluator itself. -/
namespace Go.VE
open Go.RowKit Go.Proofs
set_option maxRecDepth 100000
set_option maxHeartbeats 4000000
section
variable {Δ N R W M E Ω : Type} (pr : Pr Δ N R W M E Ω)
/-! leazing/leazingref04.Mod -/
def G26 (a0 a1 : Δ) : Ω :=
 (pr.bin .rem false a0 a1 fun x0 =>
(pr.bin .add false x0 a1 fun x1 =>
 (pr.bin .rem false x1 a1 fun x2 =>
  (pr.out 0 [.d x2]))))
/-! leazing/drift.Compare -/
def G28 (a0 a1 a2 a3 : Δ) : Ω :=
 (pr.bnd (pr.call 69 [a0, a1]) [fun y0 => (pr.un .not (pr.ld y0 0) fun x1 => (pr.cond x1
  (pr.out 0 [.d (pr.lit (.int Go.IntKind.i64 (0))), .d (pr.lit (.int Go.IntKind.i64 (1)))])
  (pr.bnd (pr.call 69 [a2, a3]) [fun y2 => (pr.un .not (pr.ld y2 0) fun x3 => (pr.cond x3
    (pr.out 0 [.d (pr.lit (.int Go.IntKind.i64 (0))), .d (pr.lit (.int Go.IntKind.i64 (1)))])
    (pr.bnd (pr.call 70 [a0, a1, a2, a3]) [fun y4 => (pr.out 0 [.d (pr.ld y4 0), .d (pr.lit (.int Go.IntKind.i64 (0)))])])))])))])
/-! leazing/drift.Length -/
def G30 (a0 a1 a2 a3 : Δ) : Ω :=
 (pr.bnd (pr.call 15 [a0, a1]) [fun y0 => (pr.bin .neq false (pr.ld y0 0) (pr.lit (.int Go.IntKind.i64 (0))) fun x1 =>
 (pr.cond x1
  (pr.out 0 [.d (pr.lit (.int Go.IntKind.i64 (0))), .d (pr.lit (.int Go.IntKind.i64 (0))), .d (pr.ld y0 0)])
  (pr.eqN (pr.natN 1) (pr.len (pr.rows [[a2, a3]])) (pr.bnd (pr.call 71 [a0, a1, (pr.slD 2 (pr.seg (pr.rows [[a2, a3]]) none (pr.natN 1)))]) [fun y2 => (pr.lits [.d (pr.ld y2 0)]
   (pr.un .not (pr.ld y2 0) fun x3 => (pr.cond x3
    (pr.out 0 [.d (pr.lit (.int Go.IntKind.i64 (0))), .d (pr.lit (.int Go.IntKind.i64 (0))), .d (pr.lit (.int Go.IntKind.i64 (45)))])
    (pr.bnd (pr.call 73 [a0, a1, a2, a3]) [fun y4 => (pr.eqN (pr.len (pr.lr y4 0)) (pr.len (pr.lr y4 0)) (pr.bnd (pr.call 72 [a0, a1, (pr.slD 1 (pr.seg (pr.lr y4 0) none (pr.len (pr.lr y4 0))))]) [fun y5 => (pr.lits [.d (pr.ld y5 0), .d (pr.ld y5 1)]
      (pr.out 0 [.d (pr.ld y5 0), .d (pr.ld y5 1), .d (pr.lit (.int Go.IntKind.i64 (0)))]))]))]))))]))))])
/-! leazing/drift.Longer -/
def L31_0  : (Nat → List (Y Δ N R M) → Ω) → E → Ω := fun J6 y6 =>
 (pr.bin .lss false (pr.ld y6 5) (pr.ld y6 4) fun x7 =>
       (pr.cond x7
        (pr.eqN (pr.ln y6 1) (pr.len (pr.lr y6 7)) (pr.inx (pr.ld y6 5) (pr.ln y6 0) fun n8 => (pr.eqN (pr.ln y6 1) (pr.len (pr.lr y6 7)) (pr.rowAt 1 (pr.lr y6 7) n8 fun w9 => (pr.eqN (pr.ln y6 3) (pr.len (pr.lr y6 6)) (pr.inx (pr.ld y6 5) (pr.ln y6 2) fun n10 => (pr.eqN (pr.ln y6 3) (pr.len (pr.lr y6 6)) (pr.rowAt 1 (pr.lr y6 6) n10 fun w11 => (pr.bin .sub false (pr.cell w9 0) (pr.cell w11 0) fun x12 =>
            (pr.eqN (pr.ln y6 1) (pr.len (pr.lr y6 7)) (pr.inx (pr.ld y6 5) (pr.ln y6 0) fun n13 => (pr.eqN (pr.ln y6 1) (pr.len (pr.lr y6 7)) (pr.rowAt 1 (pr.lr y6 7) n13 fun w14 => (pr.bin .add false (pr.ld y6 5) (pr.lit (.int Go.IntKind.i64 (1))) fun x15 =>
               (J6 0 [.n (pr.ln y6 0), .n (pr.ln y6 1), .n (pr.ln y6 2), .n (pr.ln y6 3), .d (pr.ld y6 4), .d x15, .r (pr.lr y6 6), .r (pr.setR (pr.lr y6 7) n13 [x12]), .d (pr.ld y6 8), .d (pr.ld y6 9)])))))))))))))))
        (pr.out 0 [.n (pr.ln y6 0), .n (pr.ln y6 1), .r (pr.lr y6 7), .d (pr.ld y6 8), .d (pr.ld y6 9)])))
def G31 (a0 a1 a2 a3 a4 a5 : Δ) : Ω :=
 (pr.bnd (pr.call 15 [a0, a1]) [fun y0 => (pr.bin .neq false (pr.ld y0 0) (pr.lit (.int Go.IntKind.i64 (0))) fun x1 =>
 (pr.cond x1
  (pr.out 0 [.d (pr.lit (.int Go.IntKind.i64 (0))), .d (pr.ld y0 0)])
  (pr.eqN (pr.natN 2) (pr.len (pr.rows [[a2, a3], [a4, a5]])) (pr.bnd (pr.call 71 [a0, a1, (pr.slD 2 (pr.seg (pr.rows [[a2, a3], [a4, a5]]) none (pr.natN 2)))]) [fun y2 => (pr.lits [.d (pr.ld y2 0)]
   (pr.un .not (pr.ld y2 0) fun x3 => (pr.cond x3
    (pr.out 0 [.d (pr.lit (.int Go.IntKind.i64 (0))), .d (pr.lit (.int Go.IntKind.i64 (45)))])
    (pr.bnd (pr.call 73 [a0, a1, a2, a3]) [fun y4 => (pr.bnd (pr.call 73 [a0, a1, a4, a5]) [fun y5 => (pr.bnd (pr.loop [(L31_0 pr)] 0 [.n (pr.len (pr.lr y4 0)), .n (pr.len (pr.lr y4 0)), .n (pr.len (pr.lr y5 0)), .n (pr.len (pr.lr y5 0)), .d (pr.natD (pr.len (pr.lr y4 0))), .d (pr.lit (.int Go.IntKind.i64 (0))), .r (pr.lr y5 0), .r (pr.lr y4 0), .d a0, .d a1]) [fun y6 => (pr.eqN (pr.ln y6 1) (pr.len (pr.lr y6 2)) (pr.bnd (pr.call 72 [(pr.ld y6 3), (pr.ld y6 4), (pr.slD 1 (pr.seg (pr.lr y6 2) none (pr.ln y6 0)))]) [fun y7 => (pr.lits [.d (pr.ld y7 0), .d (pr.ld y7 1)]
        (pr.bin .gtr false (pr.ld y7 0) (pr.lit (.int Go.IntKind.i64 (0))) fun x8 =>
        (pr.cond x8
         (pr.out 0 [.d (pr.lit (.int Go.IntKind.i64 (1))), .d (pr.lit (.int Go.IntKind.i64 (0)))])
         (pr.bin .leq false (pr.ld y7 1) (pr.lit (.int Go.IntKind.i64 (0))) fun x9 =>
         (pr.cond x9
          (pr.out 0 [.d (pr.lit (.int Go.IntKind.i64 (0))), .d (pr.lit (.int Go.IntKind.i64 (0)))])
          (pr.out 0 [.d (pr.lit (.int Go.IntKind.i64 (2))), .d (pr.lit (.int Go.IntKind.i64 (0)))]))))))]))])])]))))]))))])
/-! leazing/drift.Truly -/
def L32_0  : (Nat → List (Y Δ N R M) → Ω) → E → Ω := fun J6 y6 =>
 (pr.bin .lss false (pr.ld y6 3) (pr.ld y6 2) fun x7 =>
       (pr.cond x7
        (pr.rowD 3 (pr.ld y6 1) (pr.ld y6 3) fun w8 =>
        (pr.rowD 1 (pr.ld y6 0) (pr.ld y6 3) fun w9 =>
         (pr.bnd (pr.call 59 [(pr.cell w9 0), (pr.cell w8 1), (pr.cell w8 2)]) [fun y10 => (pr.un .not (pr.ld y10 0) fun x11 => (pr.cond x11
            (pr.out 0 [.d (pr.lit (.int Go.IntKind.i64 (0))), .d (pr.lit (.int Go.IntKind.i64 (1)))])
            (pr.bin .add false (pr.ld y6 3) (pr.lit (.int Go.IntKind.i64 (1))) fun x12 =>
            (J6 0 [.d (pr.ld y6 0), .d (pr.ld y6 1), .d (pr.ld y6 2), .d x12, .d (pr.ld y6 4), .d (pr.ld y6 5), .d (pr.ld y6 6), .d (pr.ld y6 7)]))))])))
        (pr.out 1 [.d (pr.ld y6 0), .d (pr.ld y6 4), .d (pr.ld y6 5), .d (pr.ld y6 6), .d (pr.ld y6 7)])))
def L32_1  : (Nat → List (Y Δ N R M) → Ω) → E → Ω := fun J10 y10 =>
 (pr.bin .lss false (pr.ld y10 5) (pr.ld y10 4) fun x11 =>
           (pr.cond x11
            (pr.eqN (pr.ln y10 3) (pr.len (pr.lr y10 6)) (pr.inx (pr.ld y10 5) (pr.ln y10 2) fun n12 => (pr.eqN (pr.ln y10 3) (pr.len (pr.lr y10 6)) (pr.rowAt 1 (pr.lr y10 6) n12 fun w13 => (pr.rowD 1 (pr.ld y10 0) (pr.ld y10 5) fun w14 =>
              (pr.bin .mul false (pr.cell w13 0) (pr.cell w14 0) fun x15 =>
               (pr.bin .add false (pr.ld y10 1) x15 fun x16 =>
                (pr.bin .add false (pr.ld y10 5) (pr.lit (.int Go.IntKind.i64 (1))) fun x17 =>
                 (J10 0 [.d (pr.ld y10 0), .d x16, .n (pr.ln y10 2), .n (pr.ln y10 3), .d (pr.ld y10 4), .d x17, .r (pr.lr y10 6)])))))))))
            (pr.out 0 [.d (pr.ld y10 1)])))
def G32 (a0 a1 a2 a3 a4 : Δ) : Ω :=
 (pr.bnd (pr.call 15 [a0, a1]) [fun y0 => (pr.bin .neq false (pr.ld y0 0) (pr.lit (.int Go.IntKind.i64 (0))) fun x1 =>
 (pr.cond x1
  (pr.out 0 [.d (pr.lit (.int Go.IntKind.i64 (0))), .d (pr.ld y0 0)])
  (pr.lenD a2 fun x2 =>
  (pr.lenD a0 fun x3 =>
   (pr.bin .neq false x2 x3 fun x4 =>
    (pr.cond x4
     (pr.out 0 [.d (pr.lit (.int Go.IntKind.i64 (0))), .d (pr.lit (.int Go.IntKind.i64 (1)))])
     (pr.lenD a0 fun x5 =>
     (pr.bnd (pr.loop [(L32_0 pr)] 0 [.d a2, .d a0, .d x5, .d (pr.lit (.int Go.IntKind.i64 (0))), .d a3, .d a4, .d a0, .d a1]) [fun y6 => (pr.out 0 [.d (pr.ld y6 0), .d (pr.ld y6 1)]), fun y6 => (pr.eqN (pr.natN 1) (pr.len (pr.rows [[(pr.ld y6 1), (pr.ld y6 2)]])) (pr.bnd (pr.call 71 [(pr.ld y6 3), (pr.ld y6 4), (pr.slD 2 (pr.seg (pr.rows [[(pr.ld y6 1), (pr.ld y6 2)]]) none (pr.natN 1)))]) [fun y7 => (pr.lits [.d (pr.ld y7 0)]
        (pr.un .not (pr.ld y7 0) fun x8 => (pr.cond x8
         (pr.out 0 [.d (pr.lit (.int Go.IntKind.i64 (0))), .d (pr.lit (.int Go.IntKind.i64 (45)))])
         (pr.bnd (pr.call 73 [(pr.ld y6 3), (pr.ld y6 4), (pr.ld y6 1), (pr.ld y6 2)]) [fun y9 => (pr.bnd (pr.loop [(L32_1 pr)] 0 [.d (pr.ld y6 0), .d (pr.lit (.int Go.IntKind.i64 (0))), .n (pr.len (pr.lr y9 0)), .n (pr.len (pr.lr y9 0)), .d (pr.natD (pr.len (pr.lr y9 0))), .d (pr.lit (.int Go.IntKind.i64 (0))), .r (pr.lr y9 0)]) [fun y10 => (pr.out 0 [.d (pr.ld y10 0), .d (pr.lit (.int Go.IntKind.i64 (0)))])])]))))]))]))))))))])
/-! leazing/drift.Share -/
def G33 (a0 a1 a2 : Δ) : Ω :=
 (pr.bnd (pr.call 67 [a0, a1, a2]) [fun y0 => (pr.bin .neq false (pr.ld y0 1) (pr.lit (.int Go.IntKind.i64 (0))) fun x1 =>
 (pr.cond x1
  (pr.out 0 [.d (pr.lit (.slice none 0 0)), .d (pr.ld y0 1)])
  (pr.ptrW 3 (pr.ld y0 0) fun w2 => (pr.bnd (pr.call 68 [(pr.cell w2 0), (pr.cell w2 1), (pr.cell w2 2)]) [fun y3 => (pr.un .not (pr.ld y3 6) fun x4 => (pr.cond x4
     (pr.out 0 [.d (pr.lit (.slice none 0 0)), .d (pr.lit (.int Go.IntKind.i64 (47)))])
     (pr.out 0 [.d (pr.ld y3 0), .d (pr.lit (.int Go.IntKind.i64 (0)))]))), fun y3 => (pr.un .not (pr.ld y3 6) fun x4 => (pr.cond x4
     (pr.out 0 [.d (pr.lit (.slice none 0 0)), .d (pr.lit (.int Go.IntKind.i64 (47)))])
     (pr.out 0 [.d (pr.ld y3 0), .d (pr.lit (.int Go.IntKind.i64 (0)))])))]))))])
/-! leazing/drift.Crowded -/
def L34_0  : (Nat → List (Y Δ N R M) → Ω) → E → Ω := fun J5 y5 =>
 (pr.eqN (pr.ln y5 6) (pr.len (pr.lr y5 1)) (pr.inx (pr.ld y5 2) (pr.ln y5 5) fun n6 => (pr.eqN (pr.ln y5 6) (pr.len (pr.lr y5 1)) (pr.rowAt 1 (pr.lr y5 1) n6 fun w7 => (pr.rowD 4 (pr.ld y5 0) (pr.ld y5 2) fun w8 =>
        (pr.bin .gtr false (pr.cell w7 0) (pr.cell w8 2) fun x9 =>
         (pr.cond x9
          (pr.bin .sub false (pr.ld y5 2) (pr.lit (.int Go.IntKind.i64 (1))) fun x10 =>
          (J5 0 [.d (pr.ld y5 0), .r (pr.lr y5 1), .d x10, .d (pr.ld y5 3), .d (pr.ld y5 4), .n (pr.ln y5 5), .n (pr.ln y5 6), .d (pr.ld y5 7), .d (pr.ld y5 8), .d (pr.ld y5 9)]))
          (pr.out 0 [.d (pr.ld y5 2), .d (pr.ld y5 3), .d (pr.ld y5 8), .d (pr.ld y5 9)]))))))))
def L34_1  : (Nat → List (Y Δ N R M) → Ω) → E → Ω := fun J6 y6 =>
 (pr.rowD 1 (pr.ld y6 4) (pr.ld y6 1) fun w7 =>
       (pr.rowD 4 (pr.ld y6 0) (pr.ld y6 1) fun w8 =>
        (pr.bin .gtr false (pr.cell w7 0) (pr.cell w8 2) fun x9 =>
         (pr.cond x9
          (pr.bin .sub false (pr.ld y6 1) (pr.lit (.int Go.IntKind.i64 (1))) fun x10 =>
          (J6 0 [.d (pr.ld y6 0), .d x10, .d (pr.ld y6 2), .d (pr.ld y6 3), .d (pr.ld y6 4), .d (pr.ld y6 5), .d (pr.ld y6 6), .d (pr.ld y6 7)]))
          (pr.out 0 [.d (pr.ld y6 1), .d (pr.ld y6 2), .d (pr.ld y6 6), .d (pr.ld y6 7)])))))
def G34 (a0 a1 a2 : Δ) : Ω :=
 (pr.bnd (pr.call 67 [a0, a1, a2]) [fun y0 => (pr.bin .neq false (pr.ld y0 1) (pr.lit (.int Go.IntKind.i64 (0))) fun x1 =>
 (pr.cond x1
  (pr.out 0 [.d (pr.lit (.int Go.IntKind.i64 (0))), .d (pr.lit (.int Go.IntKind.i64 (0))), .d (pr.ld y0 1)])
  (pr.ptrW 3 (pr.ld y0 0) fun w2 => (pr.bnd (pr.call 74 [(pr.cell w2 0), (pr.cell w2 1), (pr.cell w2 2), (pr.fnD 75 [])]) [fun y3 => (pr.cond (pr.ld y3 2)
    (pr.out 0 [.d (pr.lit (.int Go.IntKind.i64 (0))), .d (pr.lit (.int Go.IntKind.i64 (0))), .d (pr.lit (.int Go.IntKind.i64 (48)))])
    (pr.bin .sub false (pr.natD (pr.len (pr.lr y3 1))) (pr.lit (.int Go.IntKind.i64 (1))) fun x4 =>
    (pr.bnd (pr.loop [(L34_0 pr)] 0 [.d a2, .r (pr.lr y3 1), .d x4, .d x4, .d (pr.ld y3 0), .n (pr.len (pr.lr y3 1)), .n (pr.len (pr.lr y3 1)), .d (pr.ld y3 2), .d (pr.lit (.int Go.IntKind.i64 (0))), .d (pr.lit (.int Go.IntKind.i64 (0)))]) [fun y5 => (pr.out 0 [.d (pr.ld y5 0), .d (pr.ld y5 1), .d (pr.lit (.int Go.IntKind.i64 (0)))])]))), fun y3 => (pr.cond (pr.ld y3 2)
    (pr.out 0 [.d (pr.lit (.int Go.IntKind.i64 (0))), .d (pr.lit (.int Go.IntKind.i64 (0))), .d (pr.lit (.int Go.IntKind.i64 (48)))])
    (pr.lenD (pr.ld y3 1) fun x4 =>
    (pr.bin .sub false x4 (pr.lit (.int Go.IntKind.i64 (1))) fun x5 =>
     (pr.bnd (pr.loop [(L34_1 pr)] 0 [.d a2, .d x5, .d x5, .d (pr.ld y3 0), .d (pr.ld y3 1), .d (pr.ld y3 2), .d (pr.lit (.int Go.IntKind.i64 (0))), .d (pr.lit (.int Go.IntKind.i64 (0)))]) [fun y6 => (pr.out 0 [.d (pr.ld y6 0), .d (pr.ld y6 1), .d (pr.lit (.int Go.IntKind.i64 (0)))])]))))]))))])
/-! leazing/drift.CheckCrowd -/
def G35 (a0 a1 a2 a3 a4 : Δ) : Ω :=
 (pr.bnd (pr.call 67 [a0, a1, a2]) [fun y0 => (pr.bin .neq false (pr.ld y0 1) (pr.lit (.int Go.IntKind.i64 (0))) fun x1 =>
 (pr.cond x1
  (pr.out 0 [.d (pr.ld y0 1)])
  (pr.bin .lss false a3 (pr.lit (.int Go.IntKind.i64 (0))) fun x2 =>
  (pr.cond x2
   (pr.out 0 [.d (pr.lit (.int Go.IntKind.i64 (48)))])
   (pr.bin .lss false a4 a3 fun x3 =>
   (pr.cond x3
    (pr.out 0 [.d (pr.lit (.int Go.IntKind.i64 (48)))])
    (pr.lenD a2 fun x4 =>
    (pr.bin .geq false a4 x4 fun x5 =>
     (pr.cond x5
      (pr.out 0 [.d (pr.lit (.int Go.IntKind.i64 (48)))])
      (pr.rowD 4 a2 a4 fun w6 =>
      (pr.rowD 4 a2 a3 fun w7 =>
       (pr.bin .sub false (pr.cell w6 3) (pr.cell w7 2) fun x8 =>
        (pr.bin .add false x8 (pr.lit (.int Go.IntKind.i64 (1))) fun x9 =>
         (pr.mm true (pr.lit (.int Go.IntKind.i64 (0))) x9 fun x10 => (pr.bin .sub false a4 a3 fun x11 =>
           (pr.bin .gtr false x10 x11 fun x12 =>
            (pr.cond x12
             (pr.out 0 [.d (pr.lit (.int Go.IntKind.i64 (48)))])
             (pr.out 0 [.d (pr.lit (.int Go.IntKind.i64 (0)))]))))))))))))))))))])
/-! leazing/drift.CheckDrifts -/
def G36 (a0 a1 a2 a3 : Δ) : Ω :=
 (pr.bnd (pr.call 67 [a0, a1, a2]) [fun y0 => (pr.bin .neq false (pr.ld y0 1) (pr.lit (.int Go.IntKind.i64 (0))) fun x1 =>
 (pr.cond x1
  (pr.out 0 [.d (pr.ld y0 1)])
  (pr.ptrW 3 (pr.ld y0 0) fun w2 => (pr.bnd (pr.call 76 [(pr.cell w2 0), (pr.cell w2 1), (pr.cell w2 2), a3]) [fun y3 => (pr.un .not (pr.ld y3 0) fun x4 => (pr.cond x4
     (pr.out 0 [.d (pr.lit (.int Go.IntKind.i64 (46)))])
     (pr.out 0 [.d (pr.lit (.int Go.IntKind.i64 (0)))])))]))))])
/-! leazing/leazingref04.Length -/
def G37 (a0 a1 a2 a3 : Δ) : Ω :=
 (pr.bnd (pr.call 16 [a0, a1]) [fun y0 => (pr.bin .neq false (pr.ld y0 0) (pr.lit (.int Go.IntKind.i64 (0))) fun x1 =>
 (pr.cond x1
  (pr.out 0 [.d (pr.lit (.int Go.IntKind.i64 (0))), .d (pr.lit (.int Go.IntKind.i64 (0))), .d (pr.lit (.int Go.IntKind.i64 (42)))])
  (pr.bnd (pr.call 77 [a0, a1, a2, a3]) [fun y2 => (pr.un .not (pr.ld y2 0) fun x3 => (pr.cond x3
    (pr.out 0 [.d (pr.lit (.int Go.IntKind.i64 (0))), .d (pr.lit (.int Go.IntKind.i64 (0))), .d (pr.lit (.int Go.IntKind.i64 (45)))])
    (pr.bnd (pr.call 79 [a0, a1, a2, a3]) [fun y4 => (pr.eqN (pr.len (pr.lr y4 0)) (pr.len (pr.lr y4 0)) (pr.bnd (pr.call 78 [a0, a1, (pr.slD 1 (pr.seg (pr.lr y4 0) none (pr.len (pr.lr y4 0))))]) [fun y5 => (pr.lits [.d (pr.ld y5 0), .d (pr.ld y5 1)]
      (pr.out 0 [.d (pr.ld y5 0), .d (pr.ld y5 1), .d (pr.lit (.int Go.IntKind.i64 (0)))]))]))])))])))])
/-! leazing/leazingref04.Longer -/
def L38_0  : (Nat → List (Y Δ N R M) → Ω) → E → Ω := fun J8 y8 =>
 (pr.bin .lss false (pr.ld y8 4) (pr.natD (pr.ln y8 0)) fun x9 =>
         (pr.cond x9
          (pr.eqN (pr.ln y8 1) (pr.len (pr.lr y8 6)) (pr.inx (pr.ld y8 4) (pr.ln y8 0) fun n10 => (pr.eqN (pr.ln y8 1) (pr.len (pr.lr y8 6)) (pr.rowAt 1 (pr.lr y8 6) n10 fun w11 => (pr.eqN (pr.ln y8 3) (pr.len (pr.lr y8 5)) (pr.inx (pr.ld y8 4) (pr.ln y8 2) fun n12 => (pr.eqN (pr.ln y8 3) (pr.len (pr.lr y8 5)) (pr.rowAt 1 (pr.lr y8 5) n12 fun w13 => (pr.bin .sub false (pr.cell w11 0) (pr.cell w13 0) fun x14 =>
              (pr.eqN (pr.ln y8 1) (pr.len (pr.lr y8 6)) (pr.inx (pr.ld y8 4) (pr.ln y8 0) fun n15 => (pr.eqN (pr.ln y8 1) (pr.len (pr.lr y8 6)) (pr.rowAt 1 (pr.lr y8 6) n15 fun w16 => (pr.bin .add false (pr.ld y8 4) (pr.lit (.int Go.IntKind.i64 (1))) fun x17 =>
                 (J8 0 [.n (pr.ln y8 0), .n (pr.ln y8 1), .n (pr.ln y8 2), .n (pr.ln y8 3), .d x17, .r (pr.lr y8 5), .r (pr.setR (pr.lr y8 6) n15 [x14]), .d (pr.ld y8 7), .d (pr.ld y8 8)])))))))))))))))
          (pr.out 0 [.n (pr.ln y8 0), .n (pr.ln y8 1), .r (pr.lr y8 6), .d (pr.ld y8 7), .d (pr.ld y8 8)])))
def G38 (a0 a1 a2 a3 a4 a5 : Δ) : Ω :=
 (pr.bnd (pr.call 16 [a0, a1]) [fun y0 => (pr.bin .neq false (pr.ld y0 0) (pr.lit (.int Go.IntKind.i64 (0))) fun x1 =>
 (pr.cond x1
  (pr.out 0 [.d (pr.lit (.int Go.IntKind.i64 (0))), .d (pr.lit (.int Go.IntKind.i64 (42)))])
  (pr.bnd (pr.call 77 [a0, a1, a2, a3]) [fun y2 => (pr.un .not (pr.ld y2 0) fun x3 => (pr.cond x3
    (pr.out 0 [.d (pr.lit (.int Go.IntKind.i64 (0))), .d (pr.lit (.int Go.IntKind.i64 (45)))])
    (pr.bnd (pr.call 77 [a0, a1, a4, a5]) [fun y4 => (pr.un .not (pr.ld y4 0) fun x5 => (pr.cond x5
      (pr.out 0 [.d (pr.lit (.int Go.IntKind.i64 (0))), .d (pr.lit (.int Go.IntKind.i64 (45)))])
      (pr.bnd (pr.call 79 [a0, a1, a2, a3]) [fun y6 => (pr.bnd (pr.call 79 [a0, a1, a4, a5]) [fun y7 => (pr.bnd (pr.loop [(L38_0 pr)] 0 [.n (pr.len (pr.lr y6 0)), .n (pr.len (pr.lr y6 0)), .n (pr.len (pr.lr y7 0)), .n (pr.len (pr.lr y7 0)), .d (pr.lit (.int Go.IntKind.i64 (0))), .r (pr.lr y7 0), .r (pr.lr y6 0), .d a0, .d a1]) [fun y8 => (pr.eqN (pr.ln y8 1) (pr.len (pr.lr y8 2)) (pr.bnd (pr.call 78 [(pr.ld y8 3), (pr.ld y8 4), (pr.slD 1 (pr.seg (pr.lr y8 2) none (pr.ln y8 0)))]) [fun y9 => (pr.lits [.d (pr.ld y9 0), .d (pr.ld y9 1)]
          (pr.bin .gtr false (pr.ld y9 0) (pr.lit (.int Go.IntKind.i64 (0))) fun x10 =>
          (pr.cond x10
           (pr.out 0 [.d (pr.lit (.int Go.IntKind.i64 (1))), .d (pr.lit (.int Go.IntKind.i64 (0)))])
           (pr.bin .leq false (pr.ld y9 1) (pr.lit (.int Go.IntKind.i64 (0))) fun x11 =>
           (pr.cond x11
            (pr.out 0 [.d (pr.lit (.int Go.IntKind.i64 (0))), .d (pr.lit (.int Go.IntKind.i64 (0)))])
            (pr.out 0 [.d (pr.lit (.int Go.IntKind.i64 (2))), .d (pr.lit (.int Go.IntKind.i64 (0)))]))))))]))])])])))])))])))])
/-! leazing/leazingref04.Truly -/
def L39_0  : (Nat → List (Y Δ N R M) → Ω) → E → Ω := fun J7 y7 =>
 (pr.bin .lss false (pr.ld y7 4) (pr.natD (pr.ln y7 1)) fun x8 =>
        (pr.cond x8
         (pr.eqN (pr.ln y7 2) (pr.len (pr.lr y7 5)) (pr.inx (pr.ld y7 4) (pr.ln y7 1) fun n9 => (pr.eqN (pr.ln y7 2) (pr.len (pr.lr y7 5)) (pr.rowAt 1 (pr.lr y7 5) n9 fun w10 => (pr.rowD 1 (pr.ld y7 0) (pr.ld y7 4) fun w11 =>
           (pr.bin .mul false (pr.cell w10 0) (pr.cell w11 0) fun x12 =>
            (pr.bin .add false (pr.ld y7 3) x12 fun x13 =>
             (pr.bin .add false (pr.ld y7 4) (pr.lit (.int Go.IntKind.i64 (1))) fun x14 =>
              (J7 0 [.d (pr.ld y7 0), .n (pr.ln y7 1), .n (pr.ln y7 2), .d x13, .d x14, .r (pr.lr y7 5)])))))))))
         (pr.out 0 [.d (pr.ld y7 3)])))
def G39 (a0 a1 a2 a3 a4 : Δ) : Ω :=
 (pr.bnd (pr.call 16 [a0, a1]) [fun y0 => (pr.bin .neq false (pr.ld y0 0) (pr.lit (.int Go.IntKind.i64 (0))) fun x1 =>
 (pr.cond x1
  (pr.out 0 [.d (pr.lit (.int Go.IntKind.i64 (0))), .d (pr.lit (.int Go.IntKind.i64 (42)))])
  (pr.bnd (pr.call 80 [a0, a1, a2]) [fun y2 => (pr.un .not (pr.ld y2 0) fun x3 => (pr.cond x3
    (pr.out 0 [.d (pr.lit (.int Go.IntKind.i64 (0))), .d (pr.lit (.int Go.IntKind.i64 (1)))])
    (pr.bnd (pr.call 77 [a0, a1, a3, a4]) [fun y4 => (pr.un .not (pr.ld y4 0) fun x5 => (pr.cond x5
      (pr.out 0 [.d (pr.lit (.int Go.IntKind.i64 (0))), .d (pr.lit (.int Go.IntKind.i64 (45)))])
      (pr.bnd (pr.call 79 [a0, a1, a3, a4]) [fun y6 => (pr.bnd (pr.loop [(L39_0 pr)] 0 [.d a2, .n (pr.len (pr.lr y6 0)), .n (pr.len (pr.lr y6 0)), .d (pr.lit (.int Go.IntKind.i64 (0))), .d (pr.lit (.int Go.IntKind.i64 (0))), .r (pr.lr y6 0)]) [fun y7 => (pr.out 0 [.d (pr.ld y7 0), .d (pr.lit (.int Go.IntKind.i64 (0)))])])])))])))])))])
/-! leazing/drift.Worth -/
def G40 (a0 a1 a2 a3 : Δ) : Ω :=
 (pr.bnd (pr.call 15 [a0, a1]) [fun y0 => (pr.bin .neq false (pr.ld y0 0) (pr.lit (.int Go.IntKind.i64 (0))) fun x1 =>
 (pr.cond x1
  (pr.out 0 [.d (pr.lit (.int Go.IntKind.i64 (0))), .d (pr.ld y0 0)])
  (pr.eqN (pr.natN 1) (pr.len (pr.rows [[a2, a3]])) (pr.bnd (pr.call 71 [a0, a1, (pr.slD 2 (pr.seg (pr.rows [[a2, a3]]) none (pr.natN 1)))]) [fun y2 => (pr.lits [.d (pr.ld y2 0)]
   (pr.un .not (pr.ld y2 0) fun x3 => (pr.cond x3
    (pr.out 0 [.d (pr.lit (.int Go.IntKind.i64 (0))), .d (pr.lit (.int Go.IntKind.i64 (45)))])
    (pr.bnd (pr.call 81 [a0, a1, a2, a3]) [fun y4 => (pr.out 0 [.d (pr.ld y4 0), .d (pr.lit (.int Go.IntKind.i64 (0)))])]))))]))))])
/-! leazing/leazingref04.Worth -/
def G41 (a0 a1 a2 a3 : Δ) : Ω :=
 (pr.bnd (pr.call 16 [a0, a1]) [fun y0 => (pr.bin .neq false (pr.ld y0 0) (pr.lit (.int Go.IntKind.i64 (0))) fun x1 =>
 (pr.cond x1
  (pr.out 0 [.d (pr.lit (.int Go.IntKind.i64 (0))), .d (pr.lit (.int Go.IntKind.i64 (42)))])
  (pr.bnd (pr.call 77 [a0, a1, a2, a3]) [fun y2 => (pr.un .not (pr.ld y2 0) fun x3 => (pr.cond x3
    (pr.out 0 [.d (pr.lit (.int Go.IntKind.i64 (0))), .d (pr.lit (.int Go.IntKind.i64 (45)))])
    (pr.bnd (pr.call 82 [a0, a1, a2, a3]) [fun y4 => (pr.out 0 [.d (pr.ld y4 0), .d (pr.lit (.int Go.IntKind.i64 (0)))])])))])))])
/-! leazing/leazingref04.Compare -/
def G42 (a0 a1 a2 a3 : Δ) : Ω :=
 (pr.bnd (pr.call 83 [a0, a1]) [fun y0 => (pr.un .not (pr.ld y0 0) fun x1 => (pr.cond x1
  (pr.out 0 [.d (pr.lit (.int Go.IntKind.i64 (0))), .d (pr.lit (.int Go.IntKind.i64 (1)))])
  (pr.bnd (pr.call 83 [a2, a3]) [fun y2 => (pr.un .not (pr.ld y2 0) fun x3 => (pr.cond x3
    (pr.out 0 [.d (pr.lit (.int Go.IntKind.i64 (0))), .d (pr.lit (.int Go.IntKind.i64 (1)))])
    (pr.bnd (pr.call 56 [a0, a1, a2, a3]) [fun y4 => (pr.cond (pr.ld y4 0)
     (pr.out 0 [.d (pr.lit (.int Go.IntKind.i64 (-1))), .d (pr.lit (.int Go.IntKind.i64 (0)))])
     (pr.bnd (pr.call 56 [a2, a3, a0, a1]) [fun y5 => (pr.cond (pr.ld y5 0)
      (pr.out 0 [.d (pr.lit (.int Go.IntKind.i64 (1))), .d (pr.lit (.int Go.IntKind.i64 (0)))])
      (pr.out 0 [.d (pr.lit (.int Go.IntKind.i64 (0))), .d (pr.lit (.int Go.IntKind.i64 (0)))]))]))])))])))])
/-! leazing/leazingref04.Less -/
def G56 (a0 a1 a2 a3 : Δ) : Ω :=
 (pr.bin .mul false a0 a3 fun x0 =>
(pr.bin .mul false a2 a1 fun x1 =>
 (pr.bin .lss false x0 x1 fun x2 =>
  (pr.out 0 [.d x2]))))
/-! leazing/drift.within -/
def G59 (a0 a1 a2 : Δ) : Ω :=
 (pr.bin .leq false a1 a0 fun x0 =>
(pr.cond x0
 (pr.bin .leq false a0 a2 fun x1 =>
 (pr.out 0 [.d x1]))
 (pr.out 0 [.d (pr.lit (.bool false))])))
/-! slices.Concat[[]leazing/api.Claim,leazing/api.Claim] -/
def L60_0  : (Nat → List (Y Δ N R M) → Ω) → E → Ω := fun J1 y1 =>
 (pr.bin .lss false (pr.ld y1 4) (pr.ld y1 3) fun x2 =>
  (pr.cond x2
   (pr.rowD 1 (pr.ld y1 2) (pr.ld y1 4) fun w3 =>
   (pr.lenD (pr.cell w3 0) fun x4 =>
    (pr.bin .add false (pr.ld y1 1) x4 fun x5 =>
     (pr.bin .lss false x5 (pr.lit (.int Go.IntKind.i64 (0))) fun x6 =>
      (pr.cond x6
       pr.fail
       (pr.bin .add false (pr.ld y1 4) (pr.lit (.int Go.IntKind.i64 (1))) fun x7 =>
       (J1 0 [.d (pr.ld y1 0), .d x5, .d (pr.ld y1 2), .d (pr.ld y1 3), .d x7])))))))
   (pr.out 0 [.d (pr.ld y1 0), .d (pr.ld y1 1)])))
def L60_1  : (Nat → List (Y Δ N R M) → Ω) → E → Ω := fun J4 y4 =>
 (pr.bin .lss false (pr.ld y4 4) (pr.ld y4 3) fun x5 =>
     (pr.cond x5
      (pr.rowD 1 (pr.ld y4 2) (pr.ld y4 4) fun w6 =>
      (pr.rowsD 4 (pr.cell w6 0) fun r7 => (pr.eqN (pr.ln y4 1) (pr.len (pr.lr y4 5)) (pr.eqN (pr.ln y4 0) (pr.len (pr.lr y4 5)) (pr.fits 32 (pr.addN (pr.ln y4 0) (pr.len r7))
        (pr.bin .add false (pr.ld y4 4) (pr.lit (.int Go.IntKind.i64 (1))) fun x8 =>
        (J4 0 [.n (pr.addN (pr.ln y4 0) (pr.len r7)), .n (pr.addN (pr.ln y4 0) (pr.len r7)), .d (pr.ld y4 2), .d (pr.ld y4 3), .d x8, .r (pr.app (pr.lr y4 5) r7)])))))))
      (pr.out 0 [.n (pr.ln y4 0), .n (pr.ln y4 1), .r (pr.lr y4 5)])))
def L60_2  : (Nat → List (Y Δ N R M) → Ω) → E → Ω := fun J4 y4 =>
 (pr.bin .lss false (pr.ld y4 3) (pr.ld y4 2) fun x5 =>
     (pr.cond x5
      (pr.rowD 1 (pr.ld y4 1) (pr.ld y4 3) fun w6 =>
      (pr.rowsD 4 (pr.cell w6 0) fun r7 => (pr.nilD (pr.ld y4 0) (pr.isNil r7
        (pr.bin .add false (pr.ld y4 3) (pr.lit (.int Go.IntKind.i64 (1))) fun x8 =>
        (J4 0 [.d (pr.lit (.slice none 0 0)), .d (pr.ld y4 1), .d (pr.ld y4 2), .d x8]))
        (pr.fits 32 (pr.len r7)
        (pr.bin .add false (pr.ld y4 3) (pr.lit (.int Go.IntKind.i64 (1))) fun x8 =>
        (J4 1 [.n (pr.len r7), .n (pr.len r7), .d (pr.ld y4 1), .d (pr.ld y4 2), .d x8, .r r7])))))))
      (pr.out 0 [.d (pr.ld y4 0)])))
def L60_3  : (Nat → List (Y Δ N R M) → Ω) → E → Ω := fun J4 y4 =>
 (pr.bin .lss false (pr.ld y4 4) (pr.ld y4 3) fun x5 =>
     (pr.cond x5
      (pr.rowD 1 (pr.ld y4 2) (pr.ld y4 4) fun w6 =>
      (pr.rowsD 4 (pr.cell w6 0) fun r7 => (pr.eqN (pr.ln y4 1) (pr.len (pr.lr y4 5)) (pr.eqN (pr.ln y4 0) (pr.len (pr.lr y4 5)) (pr.fits 32 (pr.addN (pr.ln y4 0) (pr.len r7))
        (pr.bin .add false (pr.ld y4 4) (pr.lit (.int Go.IntKind.i64 (1))) fun x8 =>
        (J4 1 [.n (pr.addN (pr.ln y4 0) (pr.len r7)), .n (pr.addN (pr.ln y4 0) (pr.len r7)), .d (pr.ld y4 2), .d (pr.ld y4 3), .d x8, .r (pr.app (pr.lr y4 5) r7)])))))))
      (pr.out 1 [.n (pr.ln y4 0), .n (pr.ln y4 1), .r (pr.lr y4 5)])))
def G60 (a0 : Δ) : Ω :=
 (pr.lenD a0 fun x0 =>
(pr.bnd (pr.loop [(L60_0 pr)] 0 [.d a0, .d (pr.lit (.int Go.IntKind.i64 (0))), .d a0, .d x0, .d (pr.lit (.int Go.IntKind.i64 (0)))]) [fun y1 => (pr.bnd (pr.call 89 [(pr.lit (.slice none 0 0)), (pr.ld y1 1)]) [fun y2 => (pr.lenD (pr.ld y1 0) fun x3 =>
   (pr.bnd (pr.loop [(L60_1 pr)] 0 [.n (pr.len (pr.lr y2 0)), .n (pr.len (pr.lr y2 0)), .d (pr.ld y1 0), .d x3, .d (pr.lit (.int Go.IntKind.i64 (0))), .r (pr.lr y2 0)]) [fun y4 => (pr.eqN (pr.ln y4 1) (pr.len (pr.lr y4 2)) (pr.leN (pr.ln y4 0) (pr.len (pr.lr y4 2)) (pr.out 0 [.r (pr.seg (pr.lr y4 2) none (pr.ln y4 0))])))])), fun y2 => (pr.lenD (pr.ld y1 0) fun x3 =>
   (pr.bnd (pr.loop [(L60_2 pr), (L60_3 pr)] 0 [.d (pr.ld y2 0), .d (pr.ld y1 0), .d x3, .d (pr.lit (.int Go.IntKind.i64 (0)))]) [fun y4 => (pr.out 1 [.d (pr.ld y4 0)]), fun y4 => (pr.eqN (pr.ln y4 1) (pr.len (pr.lr y4 2)) (pr.leN (pr.ln y4 0) (pr.len (pr.lr y4 2)) (pr.out 0 [.r (pr.seg (pr.lr y4 2) none (pr.ln y4 0))])))]))])]))
/-! leazing/leazingref04.In -/
def G61 (a0 a1 a2 : Δ) : Ω :=
 (pr.bin .geq false a0 a1 fun x0 =>
(pr.cond x0
 (pr.bin .leq false a0 a2 fun x1 =>
 (pr.out 0 [.d x1]))
 (pr.out 0 [.d (pr.lit (.bool false))])))
/-! leazing/drift.chains -/
def L62_0  : (Nat → List (Y Δ N R M) → Ω) → E → Ω := fun J1 y1 =>
 (pr.bin .lss false (pr.ld y1 2) (pr.ld y1 1) fun x2 =>
  (pr.cond x2
   (pr.rowD 3 (pr.ld y1 0) (pr.ld y1 2) fun w3 =>
   (pr.upd 0 (pr.lm y1 3) (pr.cell w3 0) [(pr.ld y1 2)] fun q4 => (pr.bin .add false (pr.ld y1 2) (pr.lit (.int Go.IntKind.i64 (1))) fun x5 =>
     (J1 0 [.d (pr.ld y1 0), .d (pr.ld y1 1), .d x5, .m q4]))))
   (pr.out 0 [.m (pr.lm y1 3)])))
def G62 (a0 a1 : Δ) : Ω :=
 (pr.lenD a0 fun x0 =>
(pr.bnd (pr.loop [(L62_0 pr)] 0 [.d a0, .d x0, .d (pr.lit (.int Go.IntKind.i64 (0))), .m pr.emp]) [fun y1 => (pr.out 0 [.m (pr.lm y1 0)])]))
/-! leazing/leazingref04.chain -/
def L63_0  : (Nat → List (Y Δ N R M) → Ω) → E → Ω := fun J0 y0 =>
 (pr.lenD (pr.ld y0 2) fun x1 =>
 (pr.bin .lss false (pr.ld y0 1) x1 fun x2 =>
  (pr.cond x2
   (pr.rowD 3 (pr.ld y0 2) (pr.ld y0 1) fun w3 =>
   (pr.bin .eql false (pr.cell w3 0) (pr.ld y0 0) fun x4 =>
    (pr.cond x4
     (pr.out 0 [.d (pr.ld y0 1)])
     (pr.bin .add false (pr.ld y0 1) (pr.lit (.int Go.IntKind.i64 (1))) fun x5 =>
     (J0 0 [.d (pr.ld y0 0), .d x5, .d (pr.ld y0 2), .d (pr.ld y0 3)])))))
   (pr.out 1 []))))
def G63 (a0 a1 a2 : Δ) : Ω :=
 (pr.bnd (pr.loop [(L63_0 pr)] 0 [.d a2, .d (pr.lit (.int Go.IntKind.i64 (0))), .d a0, .d a1]) [fun y0 => (pr.out 0 [.d (pr.ld y0 0)]), fun y0 => (pr.out 0 [.d (pr.lit (.int Go.IntKind.i64 (-1)))])])
/-! slices.ContainsFunc[[]leazing/api.Claim,leazing/api.Claim] -/
def G64 (a0 a1 : Δ) : Ω :=
 (pr.bnd (pr.call 90 [a0, a1]) [fun y0 => (pr.bin .geq false (pr.ld y0 0) (pr.lit (.int Go.IntKind.i64 (0))) fun x1 =>
 (pr.out 0 [.d x1]))])
/-! leazing/drift.CheckClaims$1 -/
def G65 (a0 a1 a2 a3 a4 a5 a6 a7 : Δ) : Ω :=
 (pr.bin .eql false a0 a4 fun x0 =>
(pr.out 0 [.d x0]))
/-! leazing/leazingref04.areClaims -/
def L66_0  : (Nat → List (Y Δ N R M) → Ω) → E → Ω := fun J9 y9 =>
 (pr.bin .lss false (pr.ld y9 2) (pr.ld y9 1) fun x10 =>
          (pr.cond x10
           (pr.rowD 4 (pr.ld y9 0) (pr.ld y9 2) fun w11 =>
           (pr.rowD 4 (pr.ld y9 0) (pr.ld y9 1) fun w12 =>
            (pr.bin .eql false (pr.cell w11 0) (pr.cell w12 0) fun x13 =>
             (pr.cond x13
              (pr.out 0 [.d (pr.lit (.bool false))])
              (pr.bin .add false (pr.ld y9 2) (pr.lit (.int Go.IntKind.i64 (1))) fun x14 =>
              (J9 0 [.d (pr.ld y9 0), .d (pr.ld y9 1), .d x14, .d (pr.ld y9 3), .d (pr.ld y9 4)]))))))
           (pr.out 1 [.d (pr.ld y9 0), .d (pr.ld y9 1), .d (pr.ld y9 3), .d (pr.ld y9 4)])))
def L66_1  : (Nat → List (Y Δ N R M) → Ω) → E → Ω := fun J0 y0 =>
 (pr.lenD (pr.ld y0 0) fun x1 =>
 (pr.bin .lss false (pr.ld y0 1) x1 fun x2 =>
  (pr.cond x2
   (pr.rowD 4 (pr.ld y0 0) (pr.ld y0 1) fun w3 =>
   (pr.bnd (pr.call 24 [(pr.cell w3 0), (pr.cell w3 1), (pr.cell w3 2), (pr.cell w3 3)]) [fun y4 => (pr.bin .neq false (pr.ld y4 0) (pr.lit (.int Go.IntKind.i64 (0))) fun x5 =>
     (pr.cond x5
      (pr.out 0 [.d (pr.lit (.bool false))])
      (pr.rowD 4 (pr.ld y0 0) (pr.ld y0 1) fun w6 =>
      (pr.lenD (pr.ld y0 3) fun x7 =>
       (pr.bin .geq false (pr.cell w6 3) x7 fun x8 =>
        (pr.cond x8
         (pr.out 0 [.d (pr.lit (.bool false))])
         (pr.bnd (pr.loop [(L66_0 pr)] 0 [.d (pr.ld y0 0), .d (pr.ld y0 1), .d (pr.lit (.int Go.IntKind.i64 (0))), .d (pr.ld y0 2), .d (pr.ld y0 3)]) [fun y9 => (pr.out 0 [.d (pr.ld y9 0)]), fun y9 => (pr.bin .add false (pr.ld y9 1) (pr.lit (.int Go.IntKind.i64 (1))) fun x10 =>
          (J0 0 [.d (pr.ld y9 0), .d x10, .d (pr.ld y9 2), .d (pr.ld y9 3)]))])))))))]))
   (pr.out 1 [.d (pr.ld y0 0)]))))
def G66 (a0 a1 a2 : Δ) : Ω :=
 (pr.bnd (pr.loop [(L66_1 pr)] 0 [.d a2, .d (pr.lit (.int Go.IntKind.i64 (0))), .d a0, .d a1]) [fun y0 => (pr.out 0 [.d (pr.ld y0 0)]), fun y0 => (pr.lenD (pr.ld y0 0) fun x1 =>
 (pr.bnd (pr.call 61 [x1, (pr.lit (.int Go.IntKind.i64 (1))), (pr.lit (.int Go.IntKind.i64 (12)))]) [fun y2 => (pr.out 0 [.d (pr.ld y2 0)])]))])
/-! leazing/drift.look -/
def G67 (a0 a1 a2 : Δ) : Ω :=
 (pr.bnd (pr.call 17 [a0, a1, a2]) [fun y0 => (pr.bin .neq false (pr.ld y0 0) (pr.lit (.int Go.IntKind.i64 (0))) fun x1 =>
 (pr.cond x1
  (pr.out 0 [.d (pr.lit (.pointer none)), .d (pr.ld y0 0)])
  (pr.out 0 [.d (pr.dpD [a0, a1, a2] 0), .d (pr.lit (.int Go.IntKind.i64 (0)))])))])
/-! (*leazing/drift.parted).fairest -/
def L68_0  : (Nat → List (Y Δ N R M) → Ω) → E → Ω := fun J1 y1 =>
 (pr.cond (pr.ld y1 8)
  (pr.bnd (pr.call 85 [(pr.ld y1 0), (pr.ld y1 1), (pr.ld y1 2), (pr.ld y1 5)]) [fun y2 => (pr.bnd (pr.call 91 [(pr.ld y2 0)]) [fun y3 => (pr.bnd (pr.call 92 [(pr.ld y3 0), (pr.ld y3 1)]) [fun y4 => (pr.bnd (pr.call 74 [(pr.ld y1 0), (pr.ld y1 1), (pr.ld y1 2), (pr.ld y4 0)]) [fun y5 => (J1 1 [.d (pr.ld y1 0), .d (pr.ld y1 1), .d (pr.ld y1 2), .d (pr.ld y1 5), .d (pr.lit (.bool true)), .r (pr.lr y5 1), .d (pr.ld y5 0), .n (pr.len (pr.lr y5 1)), .n (pr.len (pr.lr y5 1)), .d (pr.ld y5 2), .d (pr.ld y3 0), .d (pr.ld y3 1)]), fun y5 => (J1 2 [.d (pr.ld y1 0), .d (pr.ld y1 1), .d (pr.ld y1 2), .d (pr.ld y1 5), .d (pr.lit (.bool true)), .d (pr.ld y5 0), .d (pr.ld y5 1), .d (pr.ld y5 2), .d (pr.ld y3 0), .d (pr.ld y3 1)])])])])])
  (pr.out 0 [.d (pr.ld y1 3), .r (pr.lr y1 4), .d (pr.ld y1 5), .n (pr.ln y1 6), .n (pr.ln y1 7), .d (pr.ld y1 8), .d (pr.ld y1 9), .d (pr.ld y1 10)]))
def L68_1  : (Nat → List (Y Δ N R M) → Ω) → E → Ω := fun J1 y1 =>
 (pr.cond (pr.ld y1 9)
  (pr.bnd (pr.call 85 [(pr.ld y1 0), (pr.ld y1 1), (pr.ld y1 2), (pr.ld y1 6)]) [fun y2 => (pr.bnd (pr.call 91 [(pr.ld y2 0)]) [fun y3 => (pr.bnd (pr.call 92 [(pr.ld y3 0), (pr.ld y3 1)]) [fun y4 => (pr.bnd (pr.call 74 [(pr.ld y1 0), (pr.ld y1 1), (pr.ld y1 2), (pr.ld y4 0)]) [fun y5 => (J1 3 [.d (pr.ld y1 0), .d (pr.ld y1 1), .d (pr.ld y1 2), .d (pr.ld y1 6), .d (pr.lit (.bool true)), .r (pr.lr y5 1), .d (pr.ld y5 0), .n (pr.len (pr.lr y5 1)), .n (pr.len (pr.lr y5 1)), .d (pr.ld y5 2), .d (pr.ld y3 0), .d (pr.ld y3 1)]), fun y5 => (J1 2 [.d (pr.ld y1 0), .d (pr.ld y1 1), .d (pr.ld y1 2), .d (pr.ld y1 6), .d (pr.lit (.bool true)), .d (pr.ld y5 0), .d (pr.ld y5 1), .d (pr.ld y5 2), .d (pr.ld y3 0), .d (pr.ld y3 1)])])])])])
  (pr.out 1 [.d (pr.ld y1 3), .d (pr.ld y1 4), .r (pr.lr y1 5), .d (pr.ld y1 6), .n (pr.ln y1 7), .n (pr.ln y1 8), .d (pr.ld y1 9), .d (pr.ld y1 10), .d (pr.ld y1 11)]))
def L68_2  : (Nat → List (Y Δ N R M) → Ω) → E → Ω := fun J1 y1 =>
 (pr.cond (pr.ld y1 7)
  (pr.bnd (pr.call 85 [(pr.ld y1 0), (pr.ld y1 1), (pr.ld y1 2), (pr.ld y1 5)]) [fun y2 => (pr.bnd (pr.call 91 [(pr.ld y2 0)]) [fun y3 => (pr.bnd (pr.call 92 [(pr.ld y3 0), (pr.ld y3 1)]) [fun y4 => (pr.bnd (pr.call 74 [(pr.ld y1 0), (pr.ld y1 1), (pr.ld y1 2), (pr.ld y4 0)]) [fun y5 => (J1 1 [.d (pr.ld y1 0), .d (pr.ld y1 1), .d (pr.ld y1 2), .d (pr.ld y1 5), .d (pr.lit (.bool true)), .r (pr.lr y5 1), .d (pr.ld y5 0), .n (pr.len (pr.lr y5 1)), .n (pr.len (pr.lr y5 1)), .d (pr.ld y5 2), .d (pr.ld y3 0), .d (pr.ld y3 1)]), fun y5 => (J1 2 [.d (pr.ld y1 0), .d (pr.ld y1 1), .d (pr.ld y1 2), .d (pr.ld y1 5), .d (pr.lit (.bool true)), .d (pr.ld y5 0), .d (pr.ld y5 1), .d (pr.ld y5 2), .d (pr.ld y3 0), .d (pr.ld y3 1)])])])])])
  (pr.out 2 [.d (pr.ld y1 3), .d (pr.ld y1 4), .d (pr.ld y1 5), .d (pr.ld y1 6), .d (pr.ld y1 7), .d (pr.ld y1 8), .d (pr.ld y1 9)]))
def L68_3  : (Nat → List (Y Δ N R M) → Ω) → E → Ω := fun J1 y1 =>
 (pr.cond (pr.ld y1 9)
  (pr.bnd (pr.call 85 [(pr.ld y1 0), (pr.ld y1 1), (pr.ld y1 2), (pr.ld y1 6)]) [fun y2 => (pr.bnd (pr.call 91 [(pr.ld y2 0)]) [fun y3 => (pr.bnd (pr.call 92 [(pr.ld y3 0), (pr.ld y3 1)]) [fun y4 => (pr.bnd (pr.call 74 [(pr.ld y1 0), (pr.ld y1 1), (pr.ld y1 2), (pr.ld y4 0)]) [fun y5 => (J1 1 [.d (pr.ld y1 0), .d (pr.ld y1 1), .d (pr.ld y1 2), .d (pr.ld y1 6), .d (pr.lit (.bool true)), .r (pr.lr y5 1), .d (pr.ld y5 0), .n (pr.len (pr.lr y5 1)), .n (pr.len (pr.lr y5 1)), .d (pr.ld y5 2), .d (pr.ld y3 0), .d (pr.ld y3 1)]), fun y5 => (J1 2 [.d (pr.ld y1 0), .d (pr.ld y1 1), .d (pr.ld y1 2), .d (pr.ld y1 6), .d (pr.lit (.bool true)), .d (pr.ld y5 0), .d (pr.ld y5 1), .d (pr.ld y5 2), .d (pr.ld y3 0), .d (pr.ld y3 1)])])])])])
  (pr.out 3 [.d (pr.ld y1 3), .d (pr.ld y1 4), .r (pr.lr y1 5), .d (pr.ld y1 6), .n (pr.ln y1 7), .n (pr.ln y1 8), .d (pr.ld y1 9), .d (pr.ld y1 10), .d (pr.ld y1 11)]))
def L68_4  : (Nat → List (Y Δ N R M) → Ω) → E → Ω := fun J1 y1 =>
 (pr.cond (pr.ld y1 6)
  (pr.bnd (pr.call 85 [(pr.ld y1 0), (pr.ld y1 1), (pr.ld y1 2), (pr.ld y1 4)]) [fun y2 => (pr.bnd (pr.call 91 [(pr.ld y2 0)]) [fun y3 => (pr.bnd (pr.call 92 [(pr.ld y3 0), (pr.ld y3 1)]) [fun y4 => (pr.bnd (pr.call 74 [(pr.ld y1 0), (pr.ld y1 1), (pr.ld y1 2), (pr.ld y4 0)]) [fun y5 => (J1 1 [.d (pr.ld y1 0), .d (pr.ld y1 1), .d (pr.ld y1 2), .d (pr.ld y1 4), .d (pr.lit (.bool true)), .r (pr.lr y5 1), .d (pr.ld y5 0), .n (pr.len (pr.lr y5 1)), .n (pr.len (pr.lr y5 1)), .d (pr.ld y5 2), .d (pr.ld y3 0), .d (pr.ld y3 1)]), fun y5 => (J1 2 [.d (pr.ld y1 0), .d (pr.ld y1 1), .d (pr.ld y1 2), .d (pr.ld y1 4), .d (pr.lit (.bool true)), .d (pr.ld y5 0), .d (pr.ld y5 1), .d (pr.ld y5 2), .d (pr.ld y3 0), .d (pr.ld y3 1)])])])])])
  (pr.out 0 [.d (pr.ld y1 3), .d (pr.ld y1 4), .d (pr.ld y1 5), .d (pr.ld y1 6), .d (pr.ld y1 7), .d (pr.ld y1 8)]))
def L68_5  : (Nat → List (Y Δ N R M) → Ω) → E → Ω := fun J1 y1 =>
 (pr.cond (pr.ld y1 9)
  (pr.bnd (pr.call 85 [(pr.ld y1 0), (pr.ld y1 1), (pr.ld y1 2), (pr.ld y1 6)]) [fun y2 => (pr.bnd (pr.call 91 [(pr.ld y2 0)]) [fun y3 => (pr.bnd (pr.call 92 [(pr.ld y3 0), (pr.ld y3 1)]) [fun y4 => (pr.bnd (pr.call 74 [(pr.ld y1 0), (pr.ld y1 1), (pr.ld y1 2), (pr.ld y4 0)]) [fun y5 => (J1 3 [.d (pr.ld y1 0), .d (pr.ld y1 1), .d (pr.ld y1 2), .d (pr.ld y1 6), .d (pr.lit (.bool true)), .r (pr.lr y5 1), .d (pr.ld y5 0), .n (pr.len (pr.lr y5 1)), .n (pr.len (pr.lr y5 1)), .d (pr.ld y5 2), .d (pr.ld y3 0), .d (pr.ld y3 1)]), fun y5 => (J1 2 [.d (pr.ld y1 0), .d (pr.ld y1 1), .d (pr.ld y1 2), .d (pr.ld y1 6), .d (pr.lit (.bool true)), .d (pr.ld y5 0), .d (pr.ld y5 1), .d (pr.ld y5 2), .d (pr.ld y3 0), .d (pr.ld y3 1)])])])])])
  (pr.out 1 [.d (pr.ld y1 3), .d (pr.ld y1 4), .r (pr.lr y1 5), .d (pr.ld y1 6), .n (pr.ln y1 7), .n (pr.ln y1 8), .d (pr.ld y1 9), .d (pr.ld y1 10), .d (pr.ld y1 11)]))
def L68_6  : (Nat → List (Y Δ N R M) → Ω) → E → Ω := fun J1 y1 =>
 (pr.cond (pr.ld y1 7)
  (pr.bnd (pr.call 85 [(pr.ld y1 0), (pr.ld y1 1), (pr.ld y1 2), (pr.ld y1 5)]) [fun y2 => (pr.bnd (pr.call 91 [(pr.ld y2 0)]) [fun y3 => (pr.bnd (pr.call 92 [(pr.ld y3 0), (pr.ld y3 1)]) [fun y4 => (pr.bnd (pr.call 74 [(pr.ld y1 0), (pr.ld y1 1), (pr.ld y1 2), (pr.ld y4 0)]) [fun y5 => (J1 1 [.d (pr.ld y1 0), .d (pr.ld y1 1), .d (pr.ld y1 2), .d (pr.ld y1 5), .d (pr.lit (.bool true)), .r (pr.lr y5 1), .d (pr.ld y5 0), .n (pr.len (pr.lr y5 1)), .n (pr.len (pr.lr y5 1)), .d (pr.ld y5 2), .d (pr.ld y3 0), .d (pr.ld y3 1)]), fun y5 => (J1 2 [.d (pr.ld y1 0), .d (pr.ld y1 1), .d (pr.ld y1 2), .d (pr.ld y1 5), .d (pr.lit (.bool true)), .d (pr.ld y5 0), .d (pr.ld y5 1), .d (pr.ld y5 2), .d (pr.ld y3 0), .d (pr.ld y3 1)])])])])])
  (pr.out 2 [.d (pr.ld y1 3), .d (pr.ld y1 4), .d (pr.ld y1 5), .d (pr.ld y1 6), .d (pr.ld y1 7), .d (pr.ld y1 8), .d (pr.ld y1 9)]))
def L68_7  : (Nat → List (Y Δ N R M) → Ω) → E → Ω := fun J1 y1 =>
 (pr.cond (pr.ld y1 9)
  (pr.bnd (pr.call 85 [(pr.ld y1 0), (pr.ld y1 1), (pr.ld y1 2), (pr.ld y1 6)]) [fun y2 => (pr.bnd (pr.call 91 [(pr.ld y2 0)]) [fun y3 => (pr.bnd (pr.call 92 [(pr.ld y3 0), (pr.ld y3 1)]) [fun y4 => (pr.bnd (pr.call 74 [(pr.ld y1 0), (pr.ld y1 1), (pr.ld y1 2), (pr.ld y4 0)]) [fun y5 => (J1 1 [.d (pr.ld y1 0), .d (pr.ld y1 1), .d (pr.ld y1 2), .d (pr.ld y1 6), .d (pr.lit (.bool true)), .r (pr.lr y5 1), .d (pr.ld y5 0), .n (pr.len (pr.lr y5 1)), .n (pr.len (pr.lr y5 1)), .d (pr.ld y5 2), .d (pr.ld y3 0), .d (pr.ld y3 1)]), fun y5 => (J1 2 [.d (pr.ld y1 0), .d (pr.ld y1 1), .d (pr.ld y1 2), .d (pr.ld y1 6), .d (pr.lit (.bool true)), .d (pr.ld y5 0), .d (pr.ld y5 1), .d (pr.ld y5 2), .d (pr.ld y3 0), .d (pr.ld y3 1)])])])])])
  (pr.out 3 [.d (pr.ld y1 3), .d (pr.ld y1 4), .r (pr.lr y1 5), .d (pr.ld y1 6), .n (pr.ln y1 7), .n (pr.ln y1 8), .d (pr.ld y1 9), .d (pr.ld y1 10), .d (pr.ld y1 11)]))
def G68 (a0 a1 a2 : Δ) : Ω :=
 (pr.bnd (pr.call 74 [a0, a1, a2, (pr.fnD 75 [])]) [fun y0 => (pr.bnd (pr.loop [(L68_0 pr), (L68_1 pr), (L68_2 pr), (L68_3 pr)] 0 [.d a0, .d a1, .d a2, .d (pr.lit (.bool false)), .r (pr.lr y0 1), .d (pr.ld y0 0), .n (pr.len (pr.lr y0 1)), .n (pr.len (pr.lr y0 1)), .d (pr.ld y0 2), .d (pr.lit (.int Go.IntKind.i64 (0))), .d (pr.lit (.int Go.IntKind.i64 (0)))]) [fun y1 => (pr.eqN (pr.ln y1 4) (pr.len (pr.lr y1 1)) (pr.leN (pr.ln y1 3) (pr.len (pr.lr y1 1)) (pr.out 0 [.d (pr.lit (.slice none 0 0)), .d (pr.ld y1 6), .d (pr.ld y1 7), .d (pr.ld y1 2), .r (pr.seg (pr.lr y1 1) none (pr.ln y1 3)), .d (pr.ld y1 5), .d (pr.ld y1 0)]))), fun y1 => (pr.eqN (pr.ln y1 5) (pr.len (pr.lr y1 2)) (pr.leN (pr.ln y1 4) (pr.len (pr.lr y1 2)) (pr.out 0 [.d (pr.ld y1 0), .d (pr.ld y1 7), .d (pr.ld y1 8), .d (pr.ld y1 3), .r (pr.seg (pr.lr y1 2) none (pr.ln y1 4)), .d (pr.ld y1 6), .d (pr.ld y1 1)]))), fun y1 => (pr.out 1 [.d (pr.ld y1 0), .d (pr.ld y1 5), .d (pr.ld y1 6), .d (pr.ld y1 2), .d (pr.ld y1 3), .d (pr.ld y1 4), .d (pr.ld y1 1)]), fun y1 => (pr.eqN (pr.ln y1 5) (pr.len (pr.lr y1 2)) (pr.leN (pr.ln y1 4) (pr.len (pr.lr y1 2)) (pr.out 0 [.d (pr.ld y1 0), .d (pr.ld y1 7), .d (pr.ld y1 8), .d (pr.ld y1 3), .r (pr.seg (pr.lr y1 2) none (pr.ln y1 4)), .d (pr.ld y1 6), .d (pr.ld y1 1)])))]), fun y0 => (pr.bnd (pr.loop [(L68_4 pr), (L68_5 pr), (L68_6 pr), (L68_7 pr)] 0 [.d a0, .d a1, .d a2, .d (pr.lit (.bool false)), .d (pr.ld y0 0), .d (pr.ld y0 1), .d (pr.ld y0 2), .d (pr.lit (.int Go.IntKind.i64 (0))), .d (pr.lit (.int Go.IntKind.i64 (0)))]) [fun y1 => (pr.out 1 [.d (pr.lit (.slice none 0 0)), .d (pr.ld y1 4), .d (pr.ld y1 5), .d (pr.ld y1 1), .d (pr.ld y1 2), .d (pr.ld y1 3), .d (pr.ld y1 0)]), fun y1 => (pr.eqN (pr.ln y1 5) (pr.len (pr.lr y1 2)) (pr.leN (pr.ln y1 4) (pr.len (pr.lr y1 2)) (pr.out 0 [.d (pr.ld y1 0), .d (pr.ld y1 7), .d (pr.ld y1 8), .d (pr.ld y1 3), .r (pr.seg (pr.lr y1 2) none (pr.ln y1 4)), .d (pr.ld y1 6), .d (pr.ld y1 1)]))), fun y1 => (pr.out 1 [.d (pr.ld y1 0), .d (pr.ld y1 5), .d (pr.ld y1 6), .d (pr.ld y1 2), .d (pr.ld y1 3), .d (pr.ld y1 4), .d (pr.ld y1 1)]), fun y1 => (pr.eqN (pr.ln y1 5) (pr.len (pr.lr y1 2)) (pr.leN (pr.ln y1 4) (pr.len (pr.lr y1 2)) (pr.out 0 [.d (pr.ld y1 0), .d (pr.ld y1 7), .d (pr.ld y1 8), .d (pr.ld y1 3), .r (pr.seg (pr.lr y1 2) none (pr.ln y1 4)), .d (pr.ld y1 6), .d (pr.ld y1 1)])))])])
/-! leazing/drift.isGain -/
def G69 (a0 a1 : Δ) : Ω :=
 (pr.bnd (pr.call 59 [a0, (pr.lit (.int Go.IntKind.i64 (0))), (pr.lit (.int Go.IntKind.i64 (1000000)))]) [fun y0 => (pr.cond (pr.ld y0 0)
 (pr.bnd (pr.call 59 [a1, (pr.lit (.int Go.IntKind.i64 (1))), (pr.lit (.int Go.IntKind.i64 (1000000)))]) [fun y1 => (pr.out 0 [.d (pr.ld y1 0)])])
 (pr.out 0 [.d (pr.lit (.bool false))]))])
/-! (leazing/drift.gain).against -/
def G70 (a0 a1 a2 a3 : Δ) : Ω :=
 (pr.bin .mul false a0 a3 fun x0 =>
(pr.bin .mul false a2 a1 fun x1 =>
 (pr.bnd (pr.call 93 [x0, x1]) [fun y2 => (pr.out 0 [.d (pr.ld y2 0)])])))
/-! leazing/drift.areDrifts -/
def G71 (a0 a1 a2 : Δ) : Ω :=
 (pr.bnd (pr.call 94 [a2, (pr.fnD 95 [(pr.dpD [a0, a1] 0)])]) [fun y0 => (pr.lits [.d (pr.ld y0 0)]
 (pr.un .not (pr.ld y0 0) fun x1 => (pr.out 0 [.d x1])))])
/-! leazing/drift.span -/
def L72_0  : (Nat → List (Y Δ N R M) → Ω) → E → Ω := fun J1 y1 =>
 (pr.bin .lss false (pr.ld y1 3) (pr.ld y1 2) fun x2 =>
  (pr.cond x2
   (pr.rowD 3 (pr.ld y1 1) (pr.ld y1 3) fun w3 =>
   (pr.rowD 1 (pr.ld y1 0) (pr.ld y1 3) fun w4 =>
    (pr.bin .mul false (pr.cell w4 0) (pr.cell w3 1) fun x5 =>
     (pr.rowD 1 (pr.ld y1 0) (pr.ld y1 3) fun w6 =>
      (pr.bin .mul false (pr.cell w6 0) (pr.cell w3 2) fun x7 =>
       (pr.mm false x5 x7 fun x8 => (pr.bin .add false (pr.ld y1 4) x8 fun x9 =>
         (pr.rowD 1 (pr.ld y1 0) (pr.ld y1 3) fun w10 =>
          (pr.bin .mul false (pr.cell w10 0) (pr.cell w3 1) fun x11 =>
           (pr.rowD 1 (pr.ld y1 0) (pr.ld y1 3) fun w12 =>
            (pr.bin .mul false (pr.cell w12 0) (pr.cell w3 2) fun x13 =>
             (pr.mm true x11 x13 fun x14 => (pr.bin .add false (pr.ld y1 5) x14 fun x15 =>
               (pr.bin .add false (pr.ld y1 3) (pr.lit (.int Go.IntKind.i64 (1))) fun x16 =>
                (J1 0 [.d (pr.ld y1 0), .d (pr.ld y1 1), .d (pr.ld y1 2), .d x16, .d x9, .d x15, .d (pr.ld y1 6), .d (pr.ld y1 7)])))))))))))))))
   (pr.out 0 [.d (pr.ld y1 4), .d (pr.ld y1 5), .d (pr.ld y1 6), .d (pr.ld y1 7)])))
def G72 (a0 a1 a2 : Δ) : Ω :=
 (pr.lenD a0 fun x0 =>
(pr.bnd (pr.loop [(L72_0 pr)] 0 [.d a2, .d a0, .d x0, .d (pr.lit (.int Go.IntKind.i64 (0))), .d (pr.lit (.int Go.IntKind.i64 (0))), .d (pr.lit (.int Go.IntKind.i64 (0))), .d (pr.lit (.int Go.IntKind.i64 (0))), .d (pr.lit (.int Go.IntKind.i64 (0)))]) [fun y1 => (pr.out 0 [.d (pr.ld y1 0), .d (pr.ld y1 1)])]))
/-! leazing/drift.links -/
def L73_0  : (Nat → List (Y Δ N R M) → Ω) → E → Ω := fun J6 y6 =>
 (pr.bin .lss false (pr.ld y6 4) (pr.ld y6 3) fun x7 =>
       (pr.cond x7
        (pr.rowD 3 (pr.ld y6 2) (pr.ld y6 4) fun w8 =>
        (pr.look 0 [(.int Go.IntKind.i64 (0))] (pr.lm y6 5) (pr.cell w8 0) fun w9 x9 =>
         (pr.eqN (pr.ln y6 1) (pr.len (pr.lr y6 6)) (pr.inx (pr.cell w9 0) (pr.ln y6 0) fun n10 => (pr.eqN (pr.ln y6 1) (pr.len (pr.lr y6 6)) (pr.rowAt 1 (pr.lr y6 6) n10 fun w11 => (pr.bin .add false (pr.cell w11 0) (pr.cell w8 1) fun x12 =>
            (pr.eqN (pr.ln y6 1) (pr.len (pr.lr y6 6)) (pr.inx (pr.cell w9 0) (pr.ln y6 0) fun n13 => (pr.eqN (pr.ln y6 1) (pr.len (pr.lr y6 6)) (pr.rowAt 1 (pr.lr y6 6) n13 fun w14 => (pr.bin .add false (pr.ld y6 4) (pr.lit (.int Go.IntKind.i64 (1))) fun x15 =>
               (J6 0 [.n (pr.ln y6 0), .n (pr.ln y6 1), .d (pr.ld y6 2), .d (pr.ld y6 3), .d x15, .m (pr.lm y6 5), .r (pr.setR (pr.lr y6 6) n13 [x12])])))))))))))))
        (pr.out 0 [.n (pr.ln y6 0), .n (pr.ln y6 1), .r (pr.lr y6 6)])))
def G73 (a0 a1 a2 a3 : Δ) : Ω :=
 (pr.lenD a0 fun x0 =>
(pr.mkN 8 x0 x0 fun n1 => (pr.bnd (pr.call 62 [a0, a1]) [fun y2 => (pr.bin .add false a3 (pr.lit (.int Go.IntKind.i64 (1))) fun x3 =>
   (pr.cutD 3 a1 (some a2) (some x3) fun x4 =>
    (pr.lenD x4 fun x5 =>
     (pr.bnd (pr.loop [(L73_0 pr)] 0 [.n n1, .n n1, .d x4, .d x5, .d (pr.lit (.int Go.IntKind.i64 (0))), .m (pr.lm y2 0), .r (pr.repl n1 [(pr.lit (.int Go.IntKind.i64 (0)))])]) [fun y6 => (pr.eqN (pr.ln y6 1) (pr.len (pr.lr y6 2)) (pr.leN (pr.ln y6 0) (pr.len (pr.lr y6 2)) (pr.out 0 [.r (pr.seg (pr.lr y6 2) none (pr.ln y6 0))])))]))))])))
end
theorem G26_eq {Δ N R W M E Ω : Type} (pr : Pr Δ N R W M E Ω) (a0 a1 : Δ) : fun3 pr tb Try.prog 400 26 [a0, a1] = G26 pr a0 a1 := by kernel_rfl
theorem F26 (n : Nat) (a0 a1 : D) : FN (n + 1) 26 [a0, a1] = G26 (RP n) a0 a1 := G26_eq _ a0 a1
theorem G28_eq {Δ N R W M E Ω : Type} (pr : Pr Δ N R W M E Ω) (a0 a1 a2 a3 : Δ) : fun3 pr tb Try.prog 400 28 [a0, a1, a2, a3] = G28 pr a0 a1 a2 a3 := by kernel_rfl
theorem F28 (n : Nat) (a0 a1 a2 a3 : D) : FN (n + 1) 28 [a0, a1, a2, a3] = G28 (RP n) a0 a1 a2 a3 := G28_eq _ a0 a1 a2 a3
theorem G30_eq {Δ N R W M E Ω : Type} (pr : Pr Δ N R W M E Ω) (a0 a1 a2 a3 : Δ) : fun3 pr tb Try.prog 400 30 [a0, a1, a2, a3] = G30 pr a0 a1 a2 a3 := by kernel_rfl
theorem F30 (n : Nat) (a0 a1 a2 a3 : D) : FN (n + 1) 30 [a0, a1, a2, a3] = G30 (RP n) a0 a1 a2 a3 := G30_eq _ a0 a1 a2 a3
theorem G31_eq {Δ N R W M E Ω : Type} (pr : Pr Δ N R W M E Ω) (a0 a1 a2 a3 a4 a5 : Δ) : fun3 pr tb Try.prog 400 31 [a0, a1, a2, a3, a4, a5] = G31 pr a0 a1 a2 a3 a4 a5 := by kernel_rfl
theorem F31 (n : Nat) (a0 a1 a2 a3 a4 a5 : D) : FN (n + 1) 31 [a0, a1, a2, a3, a4, a5] = G31 (RP n) a0 a1 a2 a3 a4 a5 := G31_eq _ a0 a1 a2 a3 a4 a5
theorem G32_eq {Δ N R W M E Ω : Type} (pr : Pr Δ N R W M E Ω) (a0 a1 a2 a3 a4 : Δ) : fun3 pr tb Try.prog 400 32 [a0, a1, a2, a3, a4] = G32 pr a0 a1 a2 a3 a4 := by kernel_rfl
theorem F32 (n : Nat) (a0 a1 a2 a3 a4 : D) : FN (n + 1) 32 [a0, a1, a2, a3, a4] = G32 (RP n) a0 a1 a2 a3 a4 := G32_eq _ a0 a1 a2 a3 a4
theorem G33_eq {Δ N R W M E Ω : Type} (pr : Pr Δ N R W M E Ω) (a0 a1 a2 : Δ) : fun3 pr tb Try.prog 400 33 [a0, a1, a2] = G33 pr a0 a1 a2 := by kernel_rfl
theorem F33 (n : Nat) (a0 a1 a2 : D) : FN (n + 1) 33 [a0, a1, a2] = G33 (RP n) a0 a1 a2 := G33_eq _ a0 a1 a2
theorem G34_eq {Δ N R W M E Ω : Type} (pr : Pr Δ N R W M E Ω) (a0 a1 a2 : Δ) : fun3 pr tb Try.prog 400 34 [a0, a1, a2] = G34 pr a0 a1 a2 := by kernel_rfl
theorem F34 (n : Nat) (a0 a1 a2 : D) : FN (n + 1) 34 [a0, a1, a2] = G34 (RP n) a0 a1 a2 := G34_eq _ a0 a1 a2
theorem G35_eq {Δ N R W M E Ω : Type} (pr : Pr Δ N R W M E Ω) (a0 a1 a2 a3 a4 : Δ) : fun3 pr tb Try.prog 400 35 [a0, a1, a2, a3, a4] = G35 pr a0 a1 a2 a3 a4 := by kernel_rfl
theorem F35 (n : Nat) (a0 a1 a2 a3 a4 : D) : FN (n + 1) 35 [a0, a1, a2, a3, a4] = G35 (RP n) a0 a1 a2 a3 a4 := G35_eq _ a0 a1 a2 a3 a4
theorem G36_eq {Δ N R W M E Ω : Type} (pr : Pr Δ N R W M E Ω) (a0 a1 a2 a3 : Δ) : fun3 pr tb Try.prog 400 36 [a0, a1, a2, a3] = G36 pr a0 a1 a2 a3 := by kernel_rfl
theorem F36 (n : Nat) (a0 a1 a2 a3 : D) : FN (n + 1) 36 [a0, a1, a2, a3] = G36 (RP n) a0 a1 a2 a3 := G36_eq _ a0 a1 a2 a3
theorem G37_eq {Δ N R W M E Ω : Type} (pr : Pr Δ N R W M E Ω) (a0 a1 a2 a3 : Δ) : fun3 pr tb Try.prog 400 37 [a0, a1, a2, a3] = G37 pr a0 a1 a2 a3 := by kernel_rfl
theorem F37 (n : Nat) (a0 a1 a2 a3 : D) : FN (n + 1) 37 [a0, a1, a2, a3] = G37 (RP n) a0 a1 a2 a3 := G37_eq _ a0 a1 a2 a3
theorem G38_eq {Δ N R W M E Ω : Type} (pr : Pr Δ N R W M E Ω) (a0 a1 a2 a3 a4 a5 : Δ) : fun3 pr tb Try.prog 400 38 [a0, a1, a2, a3, a4, a5] = G38 pr a0 a1 a2 a3 a4 a5 := by kernel_rfl
theorem F38 (n : Nat) (a0 a1 a2 a3 a4 a5 : D) : FN (n + 1) 38 [a0, a1, a2, a3, a4, a5] = G38 (RP n) a0 a1 a2 a3 a4 a5 := G38_eq _ a0 a1 a2 a3 a4 a5
theorem G39_eq {Δ N R W M E Ω : Type} (pr : Pr Δ N R W M E Ω) (a0 a1 a2 a3 a4 : Δ) : fun3 pr tb Try.prog 400 39 [a0, a1, a2, a3, a4] = G39 pr a0 a1 a2 a3 a4 := by kernel_rfl
theorem F39 (n : Nat) (a0 a1 a2 a3 a4 : D) : FN (n + 1) 39 [a0, a1, a2, a3, a4] = G39 (RP n) a0 a1 a2 a3 a4 := G39_eq _ a0 a1 a2 a3 a4
theorem G40_eq {Δ N R W M E Ω : Type} (pr : Pr Δ N R W M E Ω) (a0 a1 a2 a3 : Δ) : fun3 pr tb Try.prog 400 40 [a0, a1, a2, a3] = G40 pr a0 a1 a2 a3 := by kernel_rfl
theorem F40 (n : Nat) (a0 a1 a2 a3 : D) : FN (n + 1) 40 [a0, a1, a2, a3] = G40 (RP n) a0 a1 a2 a3 := G40_eq _ a0 a1 a2 a3
theorem G41_eq {Δ N R W M E Ω : Type} (pr : Pr Δ N R W M E Ω) (a0 a1 a2 a3 : Δ) : fun3 pr tb Try.prog 400 41 [a0, a1, a2, a3] = G41 pr a0 a1 a2 a3 := by kernel_rfl
theorem F41 (n : Nat) (a0 a1 a2 a3 : D) : FN (n + 1) 41 [a0, a1, a2, a3] = G41 (RP n) a0 a1 a2 a3 := G41_eq _ a0 a1 a2 a3
theorem G42_eq {Δ N R W M E Ω : Type} (pr : Pr Δ N R W M E Ω) (a0 a1 a2 a3 : Δ) : fun3 pr tb Try.prog 400 42 [a0, a1, a2, a3] = G42 pr a0 a1 a2 a3 := by kernel_rfl
theorem F42 (n : Nat) (a0 a1 a2 a3 : D) : FN (n + 1) 42 [a0, a1, a2, a3] = G42 (RP n) a0 a1 a2 a3 := G42_eq _ a0 a1 a2 a3
theorem G56_eq {Δ N R W M E Ω : Type} (pr : Pr Δ N R W M E Ω) (a0 a1 a2 a3 : Δ) : fun3 pr tb Try.prog 400 56 [a0, a1, a2, a3] = G56 pr a0 a1 a2 a3 := by kernel_rfl
theorem F56 (n : Nat) (a0 a1 a2 a3 : D) : FN (n + 1) 56 [a0, a1, a2, a3] = G56 (RP n) a0 a1 a2 a3 := G56_eq _ a0 a1 a2 a3
theorem G59_eq {Δ N R W M E Ω : Type} (pr : Pr Δ N R W M E Ω) (a0 a1 a2 : Δ) : fun3 pr tb Try.prog 400 59 [a0, a1, a2] = G59 pr a0 a1 a2 := by kernel_rfl
theorem F59 (n : Nat) (a0 a1 a2 : D) : FN (n + 1) 59 [a0, a1, a2] = G59 (RP n) a0 a1 a2 := G59_eq _ a0 a1 a2
theorem G60_eq {Δ N R W M E Ω : Type} (pr : Pr Δ N R W M E Ω) (a0 : Δ) : fun3 pr tb Try.prog 400 60 [a0] = G60 pr a0 := by kernel_rfl
theorem F60 (n : Nat) (a0 : D) : FN (n + 1) 60 [a0] = G60 (RP n) a0 := G60_eq _ a0
theorem G61_eq {Δ N R W M E Ω : Type} (pr : Pr Δ N R W M E Ω) (a0 a1 a2 : Δ) : fun3 pr tb Try.prog 400 61 [a0, a1, a2] = G61 pr a0 a1 a2 := by kernel_rfl
theorem F61 (n : Nat) (a0 a1 a2 : D) : FN (n + 1) 61 [a0, a1, a2] = G61 (RP n) a0 a1 a2 := G61_eq _ a0 a1 a2
theorem G62_eq {Δ N R W M E Ω : Type} (pr : Pr Δ N R W M E Ω) (a0 a1 : Δ) : fun3 pr tb Try.prog 400 62 [a0, a1] = G62 pr a0 a1 := by kernel_rfl
theorem F62 (n : Nat) (a0 a1 : D) : FN (n + 1) 62 [a0, a1] = G62 (RP n) a0 a1 := G62_eq _ a0 a1
theorem G63_eq {Δ N R W M E Ω : Type} (pr : Pr Δ N R W M E Ω) (a0 a1 a2 : Δ) : fun3 pr tb Try.prog 400 63 [a0, a1, a2] = G63 pr a0 a1 a2 := by kernel_rfl
theorem F63 (n : Nat) (a0 a1 a2 : D) : FN (n + 1) 63 [a0, a1, a2] = G63 (RP n) a0 a1 a2 := G63_eq _ a0 a1 a2
theorem G64_eq {Δ N R W M E Ω : Type} (pr : Pr Δ N R W M E Ω) (a0 a1 : Δ) : fun3 pr tb Try.prog 400 64 [a0, a1] = G64 pr a0 a1 := by kernel_rfl
theorem F64 (n : Nat) (a0 a1 : D) : FN (n + 1) 64 [a0, a1] = G64 (RP n) a0 a1 := G64_eq _ a0 a1
theorem G65_eq {Δ N R W M E Ω : Type} (pr : Pr Δ N R W M E Ω) (a0 a1 a2 a3 a4 a5 a6 a7 : Δ) : fun3 pr tb Try.prog 400 65 [a0, a1, a2, a3, a4, a5, a6, a7] = G65 pr a0 a1 a2 a3 a4 a5 a6 a7 := by kernel_rfl
theorem F65 (n : Nat) (a0 a1 a2 a3 a4 a5 a6 a7 : D) : FN (n + 1) 65 [a0, a1, a2, a3, a4, a5, a6, a7] = G65 (RP n) a0 a1 a2 a3 a4 a5 a6 a7 := G65_eq _ a0 a1 a2 a3 a4 a5 a6 a7
theorem G66_eq {Δ N R W M E Ω : Type} (pr : Pr Δ N R W M E Ω) (a0 a1 a2 : Δ) : fun3 pr tb Try.prog 400 66 [a0, a1, a2] = G66 pr a0 a1 a2 := by kernel_rfl
theorem F66 (n : Nat) (a0 a1 a2 : D) : FN (n + 1) 66 [a0, a1, a2] = G66 (RP n) a0 a1 a2 := G66_eq _ a0 a1 a2
theorem G67_eq {Δ N R W M E Ω : Type} (pr : Pr Δ N R W M E Ω) (a0 a1 a2 : Δ) : fun3 pr tb Try.prog 400 67 [a0, a1, a2] = G67 pr a0 a1 a2 := by kernel_rfl
theorem F67 (n : Nat) (a0 a1 a2 : D) : FN (n + 1) 67 [a0, a1, a2] = G67 (RP n) a0 a1 a2 := G67_eq _ a0 a1 a2
theorem G68_eq {Δ N R W M E Ω : Type} (pr : Pr Δ N R W M E Ω) (a0 a1 a2 : Δ) : fun3 pr tb Try.prog 400 68 [a0, a1, a2] = G68 pr a0 a1 a2 := by kernel_rfl
theorem F68 (n : Nat) (a0 a1 a2 : D) : FN (n + 1) 68 [a0, a1, a2] = G68 (RP n) a0 a1 a2 := G68_eq _ a0 a1 a2
theorem G69_eq {Δ N R W M E Ω : Type} (pr : Pr Δ N R W M E Ω) (a0 a1 : Δ) : fun3 pr tb Try.prog 400 69 [a0, a1] = G69 pr a0 a1 := by kernel_rfl
theorem F69 (n : Nat) (a0 a1 : D) : FN (n + 1) 69 [a0, a1] = G69 (RP n) a0 a1 := G69_eq _ a0 a1
theorem G70_eq {Δ N R W M E Ω : Type} (pr : Pr Δ N R W M E Ω) (a0 a1 a2 a3 : Δ) : fun3 pr tb Try.prog 400 70 [a0, a1, a2, a3] = G70 pr a0 a1 a2 a3 := by kernel_rfl
theorem F70 (n : Nat) (a0 a1 a2 a3 : D) : FN (n + 1) 70 [a0, a1, a2, a3] = G70 (RP n) a0 a1 a2 a3 := G70_eq _ a0 a1 a2 a3
theorem G71_eq {Δ N R W M E Ω : Type} (pr : Pr Δ N R W M E Ω) (a0 a1 a2 : Δ) : fun3 pr tb Try.prog 400 71 [a0, a1, a2] = G71 pr a0 a1 a2 := by kernel_rfl
theorem F71 (n : Nat) (a0 a1 a2 : D) : FN (n + 1) 71 [a0, a1, a2] = G71 (RP n) a0 a1 a2 := G71_eq _ a0 a1 a2
theorem G72_eq {Δ N R W M E Ω : Type} (pr : Pr Δ N R W M E Ω) (a0 a1 a2 : Δ) : fun3 pr tb Try.prog 400 72 [a0, a1, a2] = G72 pr a0 a1 a2 := by kernel_rfl
theorem F72 (n : Nat) (a0 a1 a2 : D) : FN (n + 1) 72 [a0, a1, a2] = G72 (RP n) a0 a1 a2 := G72_eq _ a0 a1 a2
theorem G73_eq {Δ N R W M E Ω : Type} (pr : Pr Δ N R W M E Ω) (a0 a1 a2 a3 : Δ) : fun3 pr tb Try.prog 400 73 [a0, a1, a2, a3] = G73 pr a0 a1 a2 a3 := by kernel_rfl
theorem F73 (n : Nat) (a0 a1 a2 a3 : D) : FN (n + 1) 73 [a0, a1, a2, a3] = G73 (RP n) a0 a1 a2 a3 := G73_eq _ a0 a1 a2 a3
end Go.VE
