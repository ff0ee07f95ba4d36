/- What the functions of this program do, made by a program of ours out of the evaluator itself. -/
import Derived.Test.YtdeodfmhbgejoaaMt
import Derived.KernelRfl
namespace Go.VE
open Go.RowKit Go.Proofs
set_option maxRecDepth 100000
set_option maxHeartbeats 4000000
section
variable {Δ N R W M E Ω : Type} (pr : Pr Δ N R W M E Ω)
/-! leazing/leazinglaw04.DriftMore -/
def G5 (a0 a1 a2 a3 a4 : Δ) : Ω :=
 (pr.bnd (pr.call 11 []) [fun y0 => (pr.bnd (pr.call 25 [a0, a1, a2]) [fun y1 => (pr.eqN (pr.len (pr.lr y1 1)) (pr.len (pr.lr y1 1)) (pr.bnd (pr.call 27 [(pr.ld y1 0), (pr.slD 3 (pr.seg (pr.lr y1 1) none (pr.len (pr.lr y1 1)))), (pr.ld y1 2)]) [fun y2 => (pr.lits [.d (pr.ld y2 0), .d (pr.ld y2 1), .d (pr.ld y2 2)]
   (pr.un .not (pr.ld y0 0) fun x3 => (pr.cond x3
    (pr.cond (pr.ld y0 0)
    (pr.bin .eql false (pr.ld y2 2) (pr.lit (.int Go.IntKind.i64 (47))) fun x4 =>
    (pr.out 0 [.d x4]))
    (pr.out 0 [.d (pr.lit (.bool false))]))
    (pr.bin .neq false (pr.ld y2 2) (pr.lit (.int Go.IntKind.i64 (0))) fun x4 =>
    (pr.cond x4
     (pr.cond (pr.ld y0 0)
     (pr.bin .eql false (pr.ld y2 2) (pr.lit (.int Go.IntKind.i64 (47))) fun x5 =>
     (pr.out 0 [.d x5]))
     (pr.out 0 [.d (pr.lit (.bool false))]))
     (pr.lenD (pr.ld y1 2) fun x5 =>
     (pr.bnd (pr.call 26 [a4, x5]) [fun y6 => (pr.rowsD 4 (pr.ld y1 2) fun r7 => (pr.eqN (pr.natN 0) (pr.len (pr.rows [])) (pr.eqN (pr.natN 0) (pr.len (pr.rows [])) (pr.fits 32 (pr.addN (pr.natN 0) (pr.len r7))
        (pr.bnd (pr.bnd (pr.call 26 [a3, (pr.lit (.int Go.IntKind.i64 (4)))]) [fun y8 => (pr.bin .eql false (pr.ld y8 0) (pr.lit (.int Go.IntKind.i64 (0))) fun x9 =>
         (pr.cond x9
          (pr.eqN (pr.addN (pr.natN 0) (pr.len r7)) (pr.len (pr.app (pr.rows []) r7)) (pr.inx (pr.ld y6 0) (pr.addN (pr.natN 0) (pr.len r7)) fun n10 => (pr.eqN (pr.addN (pr.natN 0) (pr.len r7)) (pr.len (pr.app (pr.rows []) r7)) (pr.rowAt 4 (pr.app (pr.rows []) r7) n10 fun w11 => (pr.bin .sub false (pr.natD (pr.len (pr.lr y1 1))) (pr.lit (.int Go.IntKind.i64 (1))) fun x12 =>
            (pr.eqN (pr.addN (pr.natN 0) (pr.len r7)) (pr.len (pr.setR (pr.app (pr.rows []) r7) n10 [(pr.cell w11 0), (pr.cell w11 1), (pr.lit (.int Go.IntKind.i64 (0))), (pr.cell w11 3)])) (pr.inx (pr.ld y6 0) (pr.addN (pr.natN 0) (pr.len r7)) fun n13 => (pr.eqN (pr.addN (pr.natN 0) (pr.len r7)) (pr.len (pr.setR (pr.app (pr.rows []) r7) n10 [(pr.cell w11 0), (pr.cell w11 1), (pr.lit (.int Go.IntKind.i64 (0))), (pr.cell w11 3)])) (pr.rowAt 4 (pr.setR (pr.app (pr.rows []) r7) n10 [(pr.cell w11 0), (pr.cell w11 1), (pr.lit (.int Go.IntKind.i64 (0))), (pr.cell w11 3)]) n13 fun w14 => (pr.out 0 [.n (pr.addN (pr.natN 0) (pr.len r7)), .n (pr.addN (pr.natN 0) (pr.len r7)), .r (pr.lr y1 1), .r (pr.setR (pr.setR (pr.app (pr.rows []) r7) n10 [(pr.cell w11 0), (pr.cell w11 1), (pr.lit (.int Go.IntKind.i64 (0))), (pr.cell w11 3)]) n13 [(pr.cell w14 0), (pr.cell w14 1), (pr.cell w14 2), x12]), .d (pr.ld y2 0), .d (pr.ld y2 1), .d (pr.ld y1 0), .n (pr.len (pr.lr y1 1)), .n (pr.len (pr.lr y1 1))]))))))))))
          (pr.bin .eql false (pr.ld y8 0) (pr.lit (.int Go.IntKind.i64 (1))) fun x10 =>
          (pr.cond x10
           (pr.eqN (pr.addN (pr.natN 0) (pr.len r7)) (pr.len (pr.app (pr.rows []) r7)) (pr.inx (pr.ld y6 0) (pr.addN (pr.natN 0) (pr.len r7)) fun n11 => (pr.eqN (pr.addN (pr.natN 0) (pr.len r7)) (pr.len (pr.app (pr.rows []) r7)) (pr.rowAt 4 (pr.app (pr.rows []) r7) n11 fun w12 => (pr.out 0 [.n (pr.addN (pr.natN 0) (pr.len r7)), .n (pr.addN (pr.natN 0) (pr.len r7)), .r (pr.lr y1 1), .r (pr.setR (pr.app (pr.rows []) r7) n11 [(pr.cell w12 0), (pr.lit (.int Go.IntKind.i64 (1))), (pr.cell w12 2), (pr.cell w12 3)]), .d (pr.ld y2 0), .d (pr.ld y2 1), .d (pr.ld y1 0), .n (pr.len (pr.lr y1 1)), .n (pr.len (pr.lr y1 1))])))))
           (pr.bin .eql false (pr.ld y8 0) (pr.lit (.int Go.IntKind.i64 (2))) fun x11 =>
           (pr.cond x11
            (pr.cutD 4 (pr.ld y1 2) none (some (pr.ld y6 0)) fun x12 =>
            (pr.rowsD 4 x12 fun r13 => (pr.eqN (pr.natN 0) (pr.len (pr.rows [])) (pr.eqN (pr.natN 0) (pr.len (pr.rows [])) (pr.fits 32 (pr.addN (pr.natN 0) (pr.len r13))
              (pr.bin .add false (pr.ld y6 0) (pr.lit (.int Go.IntKind.i64 (1))) fun x14 =>
              (pr.cutD 4 (pr.ld y1 2) (some x14) none fun x15 =>
               (pr.rowsD 4 x15 fun r16 => (pr.eqN (pr.addN (pr.natN 0) (pr.len r13)) (pr.len (pr.app (pr.rows []) r13)) (pr.eqN (pr.addN (pr.natN 0) (pr.len r13)) (pr.len (pr.app (pr.rows []) r13)) (pr.fits 32 (pr.addN (pr.addN (pr.natN 0) (pr.len r13)) (pr.len r16))
                 (pr.bin .eql false (pr.natD (pr.addN (pr.addN (pr.natN 0) (pr.len r13)) (pr.len r16))) (pr.lit (.int Go.IntKind.i64 (0))) fun x17 =>
                 (pr.cond x17
                  (pr.out 1 [.d (pr.lit (.bool true))])
                  (pr.out 2 [.n (pr.addN (pr.addN (pr.natN 0) (pr.len r13)) (pr.len r16)), .n (pr.addN (pr.addN (pr.natN 0) (pr.len r13)) (pr.len r16)), .r (pr.lr y1 1), .r (pr.app (pr.app (pr.rows []) r13) r16), .d (pr.ld y2 0), .d (pr.ld y2 1), .d (pr.ld y1 0), .n (pr.len (pr.lr y1 1)), .n (pr.len (pr.lr y1 1))]))))))))))))))
            (pr.bin .eql false (pr.ld y8 0) (pr.lit (.int Go.IntKind.i64 (3))) fun x12 =>
            (pr.cond x12
             (pr.bnd (pr.call 26 [a4, (pr.natD (pr.len (pr.lr y1 1)))]) [fun y13 => (pr.eqN (pr.len (pr.lr y1 1)) (pr.len (pr.lr y1 1)) (pr.inx (pr.ld y13 0) (pr.len (pr.lr y1 1)) fun n14 => (pr.eqN (pr.len (pr.lr y1 1)) (pr.len (pr.lr y1 1)) (pr.rowAt 3 (pr.lr y1 1) n14 fun w15 => (pr.bin .add false (pr.cell w15 2) (pr.lit (.int Go.IntKind.i64 (1))) fun x16 =>
                (pr.bnd (pr.call 26 [a4, (pr.lit (.int Go.IntKind.i64 (7)))]) [fun y17 => (pr.bin .add false x16 (pr.ld y17 0) fun x18 =>
                  (pr.eqN (pr.len (pr.lr y1 1)) (pr.len (pr.lr y1 1)) (pr.inx (pr.ld y13 0) (pr.len (pr.lr y1 1)) fun n19 => (pr.eqN (pr.len (pr.lr y1 1)) (pr.len (pr.lr y1 1)) (pr.rowAt 3 (pr.lr y1 1) n19 fun w20 => (pr.out 0 [.n (pr.addN (pr.natN 0) (pr.len r7)), .n (pr.addN (pr.natN 0) (pr.len r7)), .r (pr.setR (pr.lr y1 1) n19 [(pr.cell w20 0), (pr.cell w20 1), x18]), .r (pr.app (pr.rows []) r7), .d (pr.ld y2 0), .d (pr.ld y2 1), .d (pr.ld y1 0), .n (pr.len (pr.lr y1 1)), .n (pr.len (pr.lr y1 1))]))))))]))))))])
             (pr.out 0 [.n (pr.addN (pr.natN 0) (pr.len r7)), .n (pr.addN (pr.natN 0) (pr.len r7)), .r (pr.lr y1 1), .r (pr.app (pr.rows []) r7), .d (pr.ld y2 0), .d (pr.ld y2 1), .d (pr.ld y1 0), .n (pr.len (pr.lr y1 1)), .n (pr.len (pr.lr y1 1))])))))))))]) [fun y8 => (pr.eqN (pr.ln y8 8) (pr.len (pr.lr y8 2)) (pr.eqN (pr.ln y8 1) (pr.len (pr.lr y8 3)) (pr.bnd (pr.call 27 [(pr.ld y8 6), (pr.slD 3 (pr.seg (pr.lr y8 2) none (pr.ln y8 7))), (pr.slD 4 (pr.seg (pr.lr y8 3) none (pr.ln y8 0)))]) [fun y9 => (pr.lits [.d (pr.ld y9 0), .d (pr.ld y9 1), .d (pr.ld y9 2)]
          (pr.bnd (pr.call 28 [(pr.ld y8 4), (pr.ld y8 5), (pr.ld y9 0), (pr.ld y9 1)]) [fun y10 => (pr.bin .eql false (pr.ld y9 2) (pr.lit (.int Go.IntKind.i64 (0))) fun x11 =>
           (pr.cond x11
            (pr.bin .eql false (pr.ld y10 1) (pr.lit (.int Go.IntKind.i64 (0))) fun x12 =>
            (pr.cond x12
             (pr.bin .leq false (pr.ld y10 0) (pr.lit (.int Go.IntKind.i64 (0))) fun x13 =>
             (pr.out 0 [.d x13]))
             (pr.out 0 [.d (pr.lit (.bool false))])))
            (pr.out 0 [.d (pr.lit (.bool false))])))]))]))), fun y8 => (pr.out 0 [.d (pr.ld y8 0)]), fun y8 => (pr.eqN (pr.ln y8 8) (pr.len (pr.lr y8 2)) (pr.eqN (pr.ln y8 1) (pr.len (pr.lr y8 3)) (pr.bnd (pr.call 27 [(pr.ld y8 6), (pr.slD 3 (pr.seg (pr.lr y8 2) none (pr.ln y8 7))), (pr.slD 4 (pr.seg (pr.lr y8 3) none (pr.ln y8 0)))]) [fun y9 => (pr.lits [.d (pr.ld y9 0), .d (pr.ld y9 1), .d (pr.ld y9 2)]
          (pr.bnd (pr.call 28 [(pr.ld y8 4), (pr.ld y8 5), (pr.ld y9 0), (pr.ld y9 1)]) [fun y10 => (pr.bin .eql false (pr.ld y9 2) (pr.lit (.int Go.IntKind.i64 (0))) fun x11 =>
           (pr.cond x11
            (pr.bin .eql false (pr.ld y10 1) (pr.lit (.int Go.IntKind.i64 (0))) fun x12 =>
            (pr.cond x12
             (pr.bin .leq false (pr.ld y10 0) (pr.lit (.int Go.IntKind.i64 (0))) fun x13 =>
             (pr.out 0 [.d x13]))
             (pr.out 0 [.d (pr.lit (.bool false))])))
            (pr.out 0 [.d (pr.lit (.bool false))])))]))])))])))))])))))))])), fun y1 => (pr.bnd (pr.call 27 [(pr.ld y1 0), (pr.ld y1 1), (pr.ld y1 2)]) [fun y2 => (pr.un .not (pr.ld y0 0) fun x3 => (pr.cond x3
    (pr.cond (pr.ld y0 0)
    (pr.bin .eql false (pr.ld y2 2) (pr.lit (.int Go.IntKind.i64 (47))) fun x4 =>
    (pr.out 0 [.d x4]))
    (pr.out 0 [.d (pr.lit (.bool false))]))
    (pr.bin .neq false (pr.ld y2 2) (pr.lit (.int Go.IntKind.i64 (0))) fun x4 =>
    (pr.cond x4
     (pr.cond (pr.ld y0 0)
     (pr.bin .eql false (pr.ld y2 2) (pr.lit (.int Go.IntKind.i64 (47))) fun x5 =>
     (pr.out 0 [.d x5]))
     (pr.out 0 [.d (pr.lit (.bool false))]))
     (pr.lenD (pr.ld y1 2) fun x5 =>
     (pr.bnd (pr.call 26 [a4, x5]) [fun y6 => (pr.rowsD 4 (pr.ld y1 2) fun r7 => (pr.eqN (pr.natN 0) (pr.len (pr.rows [])) (pr.eqN (pr.natN 0) (pr.len (pr.rows [])) (pr.fits 32 (pr.addN (pr.natN 0) (pr.len r7))
        (pr.bnd (pr.bnd (pr.call 26 [a3, (pr.lit (.int Go.IntKind.i64 (4)))]) [fun y8 => (pr.bin .eql false (pr.ld y8 0) (pr.lit (.int Go.IntKind.i64 (0))) fun x9 =>
         (pr.cond x9
          (pr.eqN (pr.addN (pr.natN 0) (pr.len r7)) (pr.len (pr.app (pr.rows []) r7)) (pr.inx (pr.ld y6 0) (pr.addN (pr.natN 0) (pr.len r7)) fun n10 => (pr.eqN (pr.addN (pr.natN 0) (pr.len r7)) (pr.len (pr.app (pr.rows []) r7)) (pr.rowAt 4 (pr.app (pr.rows []) r7) n10 fun w11 => (pr.lenD (pr.ld y1 1) fun x12 =>
            (pr.bin .sub false x12 (pr.lit (.int Go.IntKind.i64 (1))) fun x13 =>
             (pr.eqN (pr.addN (pr.natN 0) (pr.len r7)) (pr.len (pr.setR (pr.app (pr.rows []) r7) n10 [(pr.cell w11 0), (pr.cell w11 1), (pr.lit (.int Go.IntKind.i64 (0))), (pr.cell w11 3)])) (pr.inx (pr.ld y6 0) (pr.addN (pr.natN 0) (pr.len r7)) fun n14 => (pr.eqN (pr.addN (pr.natN 0) (pr.len r7)) (pr.len (pr.setR (pr.app (pr.rows []) r7) n10 [(pr.cell w11 0), (pr.cell w11 1), (pr.lit (.int Go.IntKind.i64 (0))), (pr.cell w11 3)])) (pr.rowAt 4 (pr.setR (pr.app (pr.rows []) r7) n10 [(pr.cell w11 0), (pr.cell w11 1), (pr.lit (.int Go.IntKind.i64 (0))), (pr.cell w11 3)]) n14 fun w15 => (pr.out 0 [.n (pr.addN (pr.natN 0) (pr.len r7)), .n (pr.addN (pr.natN 0) (pr.len r7)), .r (pr.setR (pr.setR (pr.app (pr.rows []) r7) n10 [(pr.cell w11 0), (pr.cell w11 1), (pr.lit (.int Go.IntKind.i64 (0))), (pr.cell w11 3)]) n14 [(pr.cell w15 0), (pr.cell w15 1), (pr.cell w15 2), x13]), .d (pr.ld y2 0), .d (pr.ld y2 1), .d (pr.ld y1 0), .d (pr.ld y1 1)])))))))))))
          (pr.bin .eql false (pr.ld y8 0) (pr.lit (.int Go.IntKind.i64 (1))) fun x10 =>
          (pr.cond x10
           (pr.eqN (pr.addN (pr.natN 0) (pr.len r7)) (pr.len (pr.app (pr.rows []) r7)) (pr.inx (pr.ld y6 0) (pr.addN (pr.natN 0) (pr.len r7)) fun n11 => (pr.eqN (pr.addN (pr.natN 0) (pr.len r7)) (pr.len (pr.app (pr.rows []) r7)) (pr.rowAt 4 (pr.app (pr.rows []) r7) n11 fun w12 => (pr.out 0 [.n (pr.addN (pr.natN 0) (pr.len r7)), .n (pr.addN (pr.natN 0) (pr.len r7)), .r (pr.setR (pr.app (pr.rows []) r7) n11 [(pr.cell w12 0), (pr.lit (.int Go.IntKind.i64 (1))), (pr.cell w12 2), (pr.cell w12 3)]), .d (pr.ld y2 0), .d (pr.ld y2 1), .d (pr.ld y1 0), .d (pr.ld y1 1)])))))
           (pr.bin .eql false (pr.ld y8 0) (pr.lit (.int Go.IntKind.i64 (2))) fun x11 =>
           (pr.cond x11
            (pr.cutD 4 (pr.ld y1 2) none (some (pr.ld y6 0)) fun x12 =>
            (pr.rowsD 4 x12 fun r13 => (pr.eqN (pr.natN 0) (pr.len (pr.rows [])) (pr.eqN (pr.natN 0) (pr.len (pr.rows [])) (pr.fits 32 (pr.addN (pr.natN 0) (pr.len r13))
              (pr.bin .add false (pr.ld y6 0) (pr.lit (.int Go.IntKind.i64 (1))) fun x14 =>
              (pr.cutD 4 (pr.ld y1 2) (some x14) none fun x15 =>
               (pr.rowsD 4 x15 fun r16 => (pr.eqN (pr.addN (pr.natN 0) (pr.len r13)) (pr.len (pr.app (pr.rows []) r13)) (pr.eqN (pr.addN (pr.natN 0) (pr.len r13)) (pr.len (pr.app (pr.rows []) r13)) (pr.fits 32 (pr.addN (pr.addN (pr.natN 0) (pr.len r13)) (pr.len r16))
                 (pr.bin .eql false (pr.natD (pr.addN (pr.addN (pr.natN 0) (pr.len r13)) (pr.len r16))) (pr.lit (.int Go.IntKind.i64 (0))) fun x17 =>
                 (pr.cond x17
                  (pr.out 1 [.d (pr.lit (.bool true))])
                  (pr.out 2 [.n (pr.addN (pr.addN (pr.natN 0) (pr.len r13)) (pr.len r16)), .n (pr.addN (pr.addN (pr.natN 0) (pr.len r13)) (pr.len r16)), .r (pr.app (pr.app (pr.rows []) r13) r16), .d (pr.ld y2 0), .d (pr.ld y2 1), .d (pr.ld y1 0), .d (pr.ld y1 1)]))))))))))))))
            (pr.bin .eql false (pr.ld y8 0) (pr.lit (.int Go.IntKind.i64 (3))) fun x12 =>
            (pr.cond x12
             (pr.lenD (pr.ld y1 1) fun x13 =>
             (pr.bnd (pr.call 26 [a4, x13]) [fun y14 => (pr.rowD 3 (pr.ld y1 1) (pr.ld y14 0) fun w15 =>
               (pr.bin .add false (pr.cell w15 2) (pr.lit (.int Go.IntKind.i64 (1))) fun x16 =>
                (pr.bnd (pr.call 26 [a4, (pr.lit (.int Go.IntKind.i64 (7)))]) [fun y17 => (pr.bin .add false x16 (pr.ld y17 0) fun x18 =>
                  (pr.rowD 3 (pr.ld y1 1) (pr.ld y14 0) fun w19 =>
                   pr.fail))])))]))
             (pr.out 0 [.n (pr.addN (pr.natN 0) (pr.len r7)), .n (pr.addN (pr.natN 0) (pr.len r7)), .r (pr.app (pr.rows []) r7), .d (pr.ld y2 0), .d (pr.ld y2 1), .d (pr.ld y1 0), .d (pr.ld y1 1)])))))))))]) [fun y8 => (pr.eqN (pr.ln y8 1) (pr.len (pr.lr y8 2)) (pr.bnd (pr.call 27 [(pr.ld y8 5), (pr.ld y8 6), (pr.slD 4 (pr.seg (pr.lr y8 2) none (pr.ln y8 0)))]) [fun y9 => (pr.lits [.d (pr.ld y9 0), .d (pr.ld y9 1), .d (pr.ld y9 2)]
          (pr.bnd (pr.call 28 [(pr.ld y8 3), (pr.ld y8 4), (pr.ld y9 0), (pr.ld y9 1)]) [fun y10 => (pr.bin .eql false (pr.ld y9 2) (pr.lit (.int Go.IntKind.i64 (0))) fun x11 =>
           (pr.cond x11
            (pr.bin .eql false (pr.ld y10 1) (pr.lit (.int Go.IntKind.i64 (0))) fun x12 =>
            (pr.cond x12
             (pr.bin .leq false (pr.ld y10 0) (pr.lit (.int Go.IntKind.i64 (0))) fun x13 =>
             (pr.out 0 [.d x13]))
             (pr.out 0 [.d (pr.lit (.bool false))])))
            (pr.out 0 [.d (pr.lit (.bool false))])))]))])), fun y8 => (pr.out 0 [.d (pr.ld y8 0)]), fun y8 => (pr.eqN (pr.ln y8 1) (pr.len (pr.lr y8 2)) (pr.bnd (pr.call 27 [(pr.ld y8 5), (pr.ld y8 6), (pr.slD 4 (pr.seg (pr.lr y8 2) none (pr.ln y8 0)))]) [fun y9 => (pr.lits [.d (pr.ld y9 0), .d (pr.ld y9 1), .d (pr.ld y9 2)]
          (pr.bnd (pr.call 28 [(pr.ld y8 3), (pr.ld y8 4), (pr.ld y9 0), (pr.ld y9 1)]) [fun y10 => (pr.bin .eql false (pr.ld y9 2) (pr.lit (.int Go.IntKind.i64 (0))) fun x11 =>
           (pr.cond x11
            (pr.bin .eql false (pr.ld y10 1) (pr.lit (.int Go.IntKind.i64 (0))) fun x12 =>
            (pr.cond x12
             (pr.bin .leq false (pr.ld y10 0) (pr.lit (.int Go.IntKind.i64 (0))) fun x13 =>
             (pr.out 0 [.d x13]))
             (pr.out 0 [.d (pr.lit (.bool false))])))
            (pr.out 0 [.d (pr.lit (.bool false))])))]))]))])))))]))))))])])])
/-! leazing/drift.Check -/
def L15_0  : (Nat → List (Y Δ N R M) → Ω) → E → Ω := fun J7 y7 =>
 (pr.bin .lss false (pr.ld y7 2) (pr.ld y7 1) fun x8 =>
        (pr.cond x8
         (pr.rowD 3 (pr.ld y7 0) (pr.ld y7 2) fun w9 =>
         (pr.bnd (pr.call 19 [(pr.cell w9 0), (pr.cell w9 1), (pr.cell w9 2)]) [fun y10 => (pr.bin .neq false (pr.ld y10 0) (pr.lit (.int Go.IntKind.i64 (0))) fun x11 =>
           (pr.cond x11
            (pr.out 0 [.d (pr.lit (.int Go.IntKind.i64 (42)))])
            (pr.bin .gtr false (pr.ld y7 2) (pr.lit (.int Go.IntKind.i64 (0))) fun x12 =>
            (pr.cond x12
             (pr.bin .sub false (pr.ld y7 2) (pr.lit (.int Go.IntKind.i64 (1))) fun x13 =>
             (pr.rowD 3 (pr.ld y7 3) x13 fun w14 =>
              (pr.bin .geq false (pr.cell w14 0) (pr.cell w9 0) fun x15 =>
               (pr.cond x15
                (pr.out 0 [.d (pr.lit (.int Go.IntKind.i64 (42)))])
                (pr.bin .add false (pr.ld y7 2) (pr.lit (.int Go.IntKind.i64 (1))) fun x16 =>
                (J7 0 [.d (pr.ld y7 0), .d (pr.ld y7 1), .d x16, .d (pr.ld y7 3), .d (pr.ld y7 4)]))))))
             (pr.bin .add false (pr.ld y7 2) (pr.lit (.int Go.IntKind.i64 (1))) fun x13 =>
             (J7 0 [.d (pr.ld y7 0), .d (pr.ld y7 1), .d x13, .d (pr.ld y7 3), .d (pr.ld y7 4)]))))))]))
         (pr.out 1 [.d (pr.ld y7 3), .d (pr.ld y7 4)])))
def L15_1  : (Nat → List (Y Δ N R M) → Ω) → E → Ω := fun J10 y10 =>
 (pr.bin .lss false (pr.ld y10 2) (pr.ld y10 1) fun x11 =>
           (pr.cond x11
            (pr.rowD 3 (pr.ld y10 0) (pr.ld y10 2) fun w12 =>
            (pr.look 0 [(.int Go.IntKind.i64 (0))] (pr.lm y10 3) (pr.cell w12 0) fun w13 x13 =>
             (pr.bnd (pr.call 21 [(pr.cell w12 0), (pr.cell w12 1), (pr.cell w12 2)]) [fun y14 => (pr.bin .neq false (pr.ld y14 0) (pr.lit (.int Go.IntKind.i64 (0))) fun x15 =>
               (pr.cond x15
                (pr.out 0 [.d (pr.lit (.int Go.IntKind.i64 (42)))])
                (pr.un .not x13 fun x16 => (pr.cond x16
                 (pr.out 0 [.d (pr.lit (.int Go.IntKind.i64 (42)))])
                 (pr.bin .add false (pr.ld y10 2) (pr.lit (.int Go.IntKind.i64 (1))) fun x17 =>
                 (J10 0 [.d (pr.ld y10 0), .d (pr.ld y10 1), .d x17, .m (pr.lm y10 3)]))))))])))
            (pr.out 1 [])))
def G15 (a0 a1 : Δ) : Ω :=
 (pr.lenD a0 fun x0 =>
(pr.bnd (pr.call 59 [x0, (pr.lit (.int Go.IntKind.i64 (1))), (pr.lit (.int Go.IntKind.i64 (6)))]) [fun y1 => (pr.un .not (pr.ld y1 0) fun x2 => (pr.cond x2
   (pr.out 0 [.d (pr.lit (.int Go.IntKind.i64 (42)))])
   (pr.lenD a1 fun x3 =>
   (pr.bnd (pr.call 59 [x3, (pr.lit (.int Go.IntKind.i64 (1))), (pr.lit (.int Go.IntKind.i64 (24)))]) [fun y4 => (pr.un .not (pr.ld y4 0) fun x5 => (pr.cond x5
      (pr.out 0 [.d (pr.lit (.int Go.IntKind.i64 (42)))])
      (pr.lenD a0 fun x6 =>
      (pr.bnd (pr.loop [(L15_0 pr)] 0 [.d a0, .d x6, .d (pr.lit (.int Go.IntKind.i64 (0))), .d a0, .d a1]) [fun y7 => (pr.out 0 [.d (pr.ld y7 0)]), fun y7 => (pr.bnd (pr.call 62 [(pr.ld y7 0), (pr.ld y7 1)]) [fun y8 => (pr.lenD (pr.ld y7 1) fun x9 =>
         (pr.bnd (pr.loop [(L15_1 pr)] 0 [.d (pr.ld y7 1), .d x9, .d (pr.lit (.int Go.IntKind.i64 (0))), .m (pr.lm y8 0)]) [fun y10 => (pr.out 0 [.d (pr.ld y10 0)]), fun y10 => (pr.out 0 [.d (pr.lit (.int Go.IntKind.i64 (0)))])]))])]))))]))))]))
/-! leazing/drift.CheckClaims -/
def L17_0  : (Nat → List (Y Δ N R M) → Ω) → E → Ω := fun J6 y6 =>
 (pr.bin .lss false (pr.ld y6 3) (pr.ld y6 2) fun x7 =>
       (pr.cond x7
        (pr.rowD 4 (pr.ld y6 1) (pr.ld y6 3) fun w8 =>
        (pr.cutD 4 (pr.ld y6 0) none (some (pr.ld y6 3)) fun x9 =>
         (pr.bnd (pr.call 64 [x9, (pr.fnD 65 [(pr.dpD [(pr.cell w8 0), (pr.cell w8 1), (pr.cell w8 2), (pr.cell w8 3)] 0)])]) [fun y10 => (pr.lits [.d (pr.ld y10 0)]
           (pr.bnd (pr.call 23 [(pr.cell w8 0), (pr.cell w8 1), (pr.cell w8 2), (pr.cell w8 3)]) [fun y11 => (pr.bin .neq false (pr.ld y11 0) (pr.lit (.int Go.IntKind.i64 (0))) fun x12 =>
            (pr.cond x12
             (pr.out 0 [.d (pr.lit (.int Go.IntKind.i64 (44)))])
             (pr.cond (pr.ld y10 0)
             (pr.out 0 [.d (pr.lit (.int Go.IntKind.i64 (44)))])
             (pr.lenD (pr.ld y6 5) fun x13 =>
             (pr.bin .geq false (pr.cell w8 3) x13 fun x14 =>
              (pr.cond x14
               (pr.out 0 [.d (pr.lit (.int Go.IntKind.i64 (44)))])
               (pr.bin .add false (pr.ld y6 3) (pr.lit (.int Go.IntKind.i64 (1))) fun x15 =>
               (J6 0 [.d (pr.ld y6 0), .d (pr.ld y6 1), .d (pr.ld y6 2), .d x15, .d (pr.ld y6 4), .d (pr.ld y6 5)]))))))))]))])))
        (pr.out 1 [])))
def G17 (a0 a1 a2 : Δ) : Ω :=
 (pr.bnd (pr.call 15 [a0, a1]) [fun y0 => (pr.bin .neq false (pr.ld y0 0) (pr.lit (.int Go.IntKind.i64 (0))) fun x1 =>
 (pr.cond x1
  (pr.out 0 [.d (pr.ld y0 0)])
  (pr.lenD a2 fun x2 =>
  (pr.bnd (pr.call 59 [x2, (pr.lit (.int Go.IntKind.i64 (1))), (pr.lit (.int Go.IntKind.i64 (12)))]) [fun y3 => (pr.un .not (pr.ld y3 0) fun x4 => (pr.cond x4
     (pr.out 0 [.d (pr.lit (.int Go.IntKind.i64 (44)))])
     (pr.lenD a2 fun x5 =>
     (pr.bnd (pr.loop [(L17_0 pr)] 0 [.d a2, .d a2, .d x5, .d (pr.lit (.int Go.IntKind.i64 (0))), .d a0, .d a1]) [fun y6 => (pr.out 0 [.d (pr.ld y6 0)]), fun y6 => (pr.out 0 [.d (pr.lit (.int Go.IntKind.i64 (0)))])]))))]))))])
/-! leazing/drift.CheckChain -/
def G19 (a0 a1 a2 : Δ) : Ω :=
 (pr.bnd (pr.call 59 [a0, (pr.lit (.int Go.IntKind.i64 (1))), (pr.lit (.int Go.IntKind.i64 (99)))]) [fun y0 => (pr.un .not (pr.ld y0 0) fun x1 => (pr.cond x1
  (pr.out 0 [.d (pr.lit (.int Go.IntKind.i64 (40)))])
  (pr.bin .lss false a1 (pr.lit (.int Go.IntKind.i64 (1))) fun x2 =>
  (pr.cond x2
   (pr.out 0 [.d (pr.lit (.int Go.IntKind.i64 (40)))])
   (pr.bin .lss false a2 a1 fun x3 =>
   (pr.cond x3
    (pr.out 0 [.d (pr.lit (.int Go.IntKind.i64 (40)))])
    (pr.bin .gtr false a2 (pr.lit (.int Go.IntKind.i64 (1000))) fun x4 =>
    (pr.cond x4
     (pr.out 0 [.d (pr.lit (.int Go.IntKind.i64 (40)))])
     (pr.out 0 [.d (pr.lit (.int Go.IntKind.i64 (0)))])))))))))])
/-! leazing/drift.CheckCell -/
def G21 (a0 a1 a2 : Δ) : Ω :=
 (pr.bnd (pr.call 59 [a0, (pr.lit (.int Go.IntKind.i64 (1))), (pr.lit (.int Go.IntKind.i64 (99)))]) [fun y0 => (pr.un .not (pr.ld y0 0) fun x1 => (pr.cond x1
  (pr.out 0 [.d (pr.lit (.int Go.IntKind.i64 (41)))])
  (pr.bnd (pr.call 59 [a1, (pr.lit (.int Go.IntKind.i64 (1))), (pr.lit (.int Go.IntKind.i64 (1000)))]) [fun y2 => (pr.un .not (pr.ld y2 0) fun x3 => (pr.cond x3
    (pr.out 0 [.d (pr.lit (.int Go.IntKind.i64 (41)))])
    (pr.bnd (pr.call 59 [a2, (pr.lit (.int Go.IntKind.i64 (0))), (pr.lit (.int Go.IntKind.i64 (10000)))]) [fun y4 => (pr.un .not (pr.ld y4 0) fun x5 => (pr.cond x5
      (pr.out 0 [.d (pr.lit (.int Go.IntKind.i64 (41)))])
      (pr.out 0 [.d (pr.lit (.int Go.IntKind.i64 (0)))])))])))])))])
/-! leazing/drift.CheckClaim -/
def G23 (a0 a1 a2 a3 : Δ) : Ω :=
 (pr.bnd (pr.call 59 [a0, (pr.lit (.int Go.IntKind.i64 (1))), (pr.lit (.int Go.IntKind.i64 (99)))]) [fun y0 => (pr.un .not (pr.ld y0 0) fun x1 => (pr.cond x1
  (pr.out 0 [.d (pr.lit (.int Go.IntKind.i64 (43)))])
  (pr.bnd (pr.call 59 [a1, (pr.lit (.int Go.IntKind.i64 (1))), (pr.lit (.int Go.IntKind.i64 (20)))]) [fun y2 => (pr.un .not (pr.ld y2 0) fun x3 => (pr.cond x3
    (pr.out 0 [.d (pr.lit (.int Go.IntKind.i64 (43)))])
    (pr.bin .lss false a2 (pr.lit (.int Go.IntKind.i64 (0))) fun x4 =>
    (pr.cond x4
     (pr.out 0 [.d (pr.lit (.int Go.IntKind.i64 (43)))])
     (pr.bin .lss false a3 a2 fun x5 =>
     (pr.cond x5
      (pr.out 0 [.d (pr.lit (.int Go.IntKind.i64 (43)))])
      (pr.bin .geq false a3 (pr.lit (.int Go.IntKind.i64 (24))) fun x6 =>
      (pr.cond x6
       (pr.out 0 [.d (pr.lit (.int Go.IntKind.i64 (43)))])
       (pr.out 0 [.d (pr.lit (.int Go.IntKind.i64 (0)))])))))))))])))])
end
theorem G5_eq {Δ N R W M E Ω : Type} (pr : Pr Δ N R W M E Ω) (a0 a1 a2 a3 a4 : Δ) : fun3 pr tb Try.prog 400 5 [a0, a1, a2, a3, a4] = G5 pr a0 a1 a2 a3 a4 := by kernel_rfl
theorem F5 (n : Nat) (a0 a1 a2 a3 a4 : D) : FN (n + 1) 5 [a0, a1, a2, a3, a4] = G5 (RP n) a0 a1 a2 a3 a4 := G5_eq _ a0 a1 a2 a3 a4
theorem G15_eq {Δ N R W M E Ω : Type} (pr : Pr Δ N R W M E Ω) (a0 a1 : Δ) : fun3 pr tb Try.prog 400 15 [a0, a1] = G15 pr a0 a1 := by kernel_rfl
theorem F15 (n : Nat) (a0 a1 : D) : FN (n + 1) 15 [a0, a1] = G15 (RP n) a0 a1 := G15_eq _ a0 a1
theorem G17_eq {Δ N R W M E Ω : Type} (pr : Pr Δ N R W M E Ω) (a0 a1 a2 : Δ) : fun3 pr tb Try.prog 400 17 [a0, a1, a2] = G17 pr a0 a1 a2 := by kernel_rfl
theorem F17 (n : Nat) (a0 a1 a2 : D) : FN (n + 1) 17 [a0, a1, a2] = G17 (RP n) a0 a1 a2 := G17_eq _ a0 a1 a2
theorem G19_eq {Δ N R W M E Ω : Type} (pr : Pr Δ N R W M E Ω) (a0 a1 a2 : Δ) : fun3 pr tb Try.prog 400 19 [a0, a1, a2] = G19 pr a0 a1 a2 := by kernel_rfl
theorem F19 (n : Nat) (a0 a1 a2 : D) : FN (n + 1) 19 [a0, a1, a2] = G19 (RP n) a0 a1 a2 := G19_eq _ a0 a1 a2
theorem G21_eq {Δ N R W M E Ω : Type} (pr : Pr Δ N R W M E Ω) (a0 a1 a2 : Δ) : fun3 pr tb Try.prog 400 21 [a0, a1, a2] = G21 pr a0 a1 a2 := by kernel_rfl
theorem F21 (n : Nat) (a0 a1 a2 : D) : FN (n + 1) 21 [a0, a1, a2] = G21 (RP n) a0 a1 a2 := G21_eq _ a0 a1 a2
theorem G23_eq {Δ N R W M E Ω : Type} (pr : Pr Δ N R W M E Ω) (a0 a1 a2 a3 : Δ) : fun3 pr tb Try.prog 400 23 [a0, a1, a2, a3] = G23 pr a0 a1 a2 a3 := by kernel_rfl
theorem F23 (n : Nat) (a0 a1 a2 a3 : D) : FN (n + 1) 23 [a0, a1, a2, a3] = G23 (RP n) a0 a1 a2 a3 := G23_eq _ a0 a1 a2 a3
end Go.VE
/- What the functions of this program do, made by a program of ours out of the evaluator itself. -/
namespace Go.VE
open Go.RowKit Go.Proofs
set_option maxRecDepth 100000
set_option maxHeartbeats 4000000
section
variable {Δ N R W M E Ω : Type} (pr : Pr Δ N R W M E Ω)
/-! leazing/leazingref04.Made -/
def L25_0  : (Nat → List (Y Δ N R M) → Ω) → E → Ω := fun J0 y0 =>
 (pr.lenD (pr.ld y0 1) fun x1 =>
 (pr.bin .lss false (pr.ld y0 0) x1 fun x2 =>
  (pr.cond x2
   (pr.bin .lss false (pr.ld y0 0) (pr.lit (.int Go.IntKind.i64 (3))) fun x3 =>
   (pr.cond x3
    (pr.bnd (pr.lenD (pr.ld y0 1) fun x4 =>
    (pr.bin .lss false (pr.ld y0 0) x4 fun x5 =>
     (pr.cond x5
      (pr.rowD 2 (pr.ld y0 1) (pr.ld y0 0) fun w6 =>
      (pr.out 0 [.d (pr.ld y0 0), .d (pr.cell w6 0), .d (pr.cell w6 1), .d (pr.ld y0 1), .d (pr.ld y0 2), .d (pr.ld y0 3)]))
      (pr.out 0 [.d (pr.ld y0 0), .d (pr.lit (.int Go.IntKind.i64 (0))), .d (pr.lit (.int Go.IntKind.i64 (0))), .d (pr.ld y0 1), .d (pr.ld y0 2), .d (pr.ld y0 3)])))) [fun y4 => (pr.bin .add false (pr.lit (.int Go.IntKind.i64 (1))) (pr.ld y4 0) fun x5 =>
     (pr.bnd (pr.call 26 [(pr.ld y4 1), (pr.lit (.int Go.IntKind.i64 (20)))]) [fun y6 => (pr.bin .add false (pr.lit (.int Go.IntKind.i64 (90))) (pr.ld y6 0) fun x7 =>
       (pr.bnd (pr.call 26 [(pr.ld y4 2), (pr.lit (.int Go.IntKind.i64 (12)))]) [fun y8 => (pr.bin .add false x7 (pr.ld y8 0) fun x9 =>
         (pr.eqN (pr.natN 1) (pr.len (pr.rows [[x5, x7, x9]])) (pr.isNil (pr.seg (pr.rows [[x5, x7, x9]]) none (pr.natN 1))
          (pr.bin .add false (pr.ld y4 0) (pr.lit (.int Go.IntKind.i64 (1))) fun x10 =>
          (J0 0 [.d x10, .d (pr.ld y4 3), .d (pr.ld y4 4), .d (pr.ld y4 5)]))
          (pr.fits 24 (pr.len (pr.seg (pr.rows [[x5, x7, x9]]) none (pr.natN 1)))
          (pr.bin .add false (pr.ld y4 0) (pr.lit (.int Go.IntKind.i64 (1))) fun x10 =>
          (J0 1 [.d x10, .r (pr.seg (pr.rows [[x5, x7, x9]]) none (pr.natN 1)), .n (pr.len (pr.seg (pr.rows [[x5, x7, x9]]) none (pr.natN 1))), .n (pr.len (pr.seg (pr.rows [[x5, x7, x9]]) none (pr.natN 1))), .d (pr.ld y4 3), .d (pr.ld y4 4), .d (pr.ld y4 5)]))))))]))]))])
    (pr.bin .eql false (pr.ld y0 0) (pr.lit (.int Go.IntKind.i64 (0))) fun x4 =>
    (pr.cond x4
     (pr.bnd (pr.lenD (pr.ld y0 1) fun x5 =>
     (pr.bin .lss false (pr.ld y0 0) x5 fun x6 =>
      (pr.cond x6
       (pr.rowD 2 (pr.ld y0 1) (pr.ld y0 0) fun w7 =>
       (pr.out 0 [.d (pr.ld y0 0), .d (pr.cell w7 0), .d (pr.cell w7 1), .d (pr.ld y0 1), .d (pr.ld y0 2), .d (pr.ld y0 3)]))
       (pr.out 0 [.d (pr.ld y0 0), .d (pr.lit (.int Go.IntKind.i64 (0))), .d (pr.lit (.int Go.IntKind.i64 (0))), .d (pr.ld y0 1), .d (pr.ld y0 2), .d (pr.ld y0 3)])))) [fun y5 => (pr.bin .add false (pr.lit (.int Go.IntKind.i64 (1))) (pr.ld y5 0) fun x6 =>
      (pr.bnd (pr.call 26 [(pr.ld y5 1), (pr.lit (.int Go.IntKind.i64 (20)))]) [fun y7 => (pr.bin .add false (pr.lit (.int Go.IntKind.i64 (90))) (pr.ld y7 0) fun x8 =>
        (pr.bnd (pr.call 26 [(pr.ld y5 2), (pr.lit (.int Go.IntKind.i64 (12)))]) [fun y9 => (pr.bin .add false x8 (pr.ld y9 0) fun x10 =>
          (pr.eqN (pr.natN 1) (pr.len (pr.rows [[x6, x8, x10]])) (pr.isNil (pr.seg (pr.rows [[x6, x8, x10]]) none (pr.natN 1))
           (pr.bin .add false (pr.ld y5 0) (pr.lit (.int Go.IntKind.i64 (1))) fun x11 =>
           (J0 0 [.d x11, .d (pr.ld y5 3), .d (pr.ld y5 4), .d (pr.ld y5 5)]))
           (pr.fits 24 (pr.len (pr.seg (pr.rows [[x6, x8, x10]]) none (pr.natN 1)))
           (pr.bin .add false (pr.ld y5 0) (pr.lit (.int Go.IntKind.i64 (1))) fun x11 =>
           (J0 1 [.d x11, .r (pr.seg (pr.rows [[x6, x8, x10]]) none (pr.natN 1)), .n (pr.len (pr.seg (pr.rows [[x6, x8, x10]]) none (pr.natN 1))), .n (pr.len (pr.seg (pr.rows [[x6, x8, x10]]) none (pr.natN 1))), .d (pr.ld y5 3), .d (pr.ld y5 4), .d (pr.ld y5 5)]))))))]))]))])
     (pr.out 0 [.d (pr.ld y0 1), .d (pr.ld y0 2), .d (pr.ld y0 3)])))))
   (pr.bin .eql false (pr.ld y0 0) (pr.lit (.int Go.IntKind.i64 (0))) fun x3 =>
   (pr.cond x3
    (pr.bnd (pr.lenD (pr.ld y0 1) fun x4 =>
    (pr.bin .lss false (pr.ld y0 0) x4 fun x5 =>
     (pr.cond x5
      (pr.rowD 2 (pr.ld y0 1) (pr.ld y0 0) fun w6 =>
      (pr.out 0 [.d (pr.ld y0 0), .d (pr.cell w6 0), .d (pr.cell w6 1), .d (pr.ld y0 1), .d (pr.ld y0 2), .d (pr.ld y0 3)]))
      (pr.out 0 [.d (pr.ld y0 0), .d (pr.lit (.int Go.IntKind.i64 (0))), .d (pr.lit (.int Go.IntKind.i64 (0))), .d (pr.ld y0 1), .d (pr.ld y0 2), .d (pr.ld y0 3)])))) [fun y4 => (pr.bin .add false (pr.lit (.int Go.IntKind.i64 (1))) (pr.ld y4 0) fun x5 =>
     (pr.bnd (pr.call 26 [(pr.ld y4 1), (pr.lit (.int Go.IntKind.i64 (20)))]) [fun y6 => (pr.bin .add false (pr.lit (.int Go.IntKind.i64 (90))) (pr.ld y6 0) fun x7 =>
       (pr.bnd (pr.call 26 [(pr.ld y4 2), (pr.lit (.int Go.IntKind.i64 (12)))]) [fun y8 => (pr.bin .add false x7 (pr.ld y8 0) fun x9 =>
         (pr.eqN (pr.natN 1) (pr.len (pr.rows [[x5, x7, x9]])) (pr.isNil (pr.seg (pr.rows [[x5, x7, x9]]) none (pr.natN 1))
          (pr.bin .add false (pr.ld y4 0) (pr.lit (.int Go.IntKind.i64 (1))) fun x10 =>
          (J0 0 [.d x10, .d (pr.ld y4 3), .d (pr.ld y4 4), .d (pr.ld y4 5)]))
          (pr.fits 24 (pr.len (pr.seg (pr.rows [[x5, x7, x9]]) none (pr.natN 1)))
          (pr.bin .add false (pr.ld y4 0) (pr.lit (.int Go.IntKind.i64 (1))) fun x10 =>
          (J0 1 [.d x10, .r (pr.seg (pr.rows [[x5, x7, x9]]) none (pr.natN 1)), .n (pr.len (pr.seg (pr.rows [[x5, x7, x9]]) none (pr.natN 1))), .n (pr.len (pr.seg (pr.rows [[x5, x7, x9]]) none (pr.natN 1))), .d (pr.ld y4 3), .d (pr.ld y4 4), .d (pr.ld y4 5)]))))))]))]))])
    (pr.out 0 [.d (pr.ld y0 1), .d (pr.ld y0 2), .d (pr.ld y0 3)]))))))
def L25_1  : (Nat → List (Y Δ N R M) → Ω) → E → Ω := fun J0 y0 =>
 (pr.lenD (pr.ld y0 4) fun x1 =>
 (pr.bin .lss false (pr.ld y0 0) x1 fun x2 =>
  (pr.cond x2
   (pr.bin .lss false (pr.ld y0 0) (pr.lit (.int Go.IntKind.i64 (3))) fun x3 =>
   (pr.cond x3
    (pr.bnd (pr.lenD (pr.ld y0 4) fun x4 =>
    (pr.bin .lss false (pr.ld y0 0) x4 fun x5 =>
     (pr.cond x5
      (pr.rowD 2 (pr.ld y0 4) (pr.ld y0 0) fun w6 =>
      (pr.out 0 [.d (pr.ld y0 0), .r (pr.lr y0 1), .d (pr.cell w6 0), .d (pr.cell w6 1), .n (pr.ln y0 2), .n (pr.ln y0 3), .d (pr.ld y0 4), .d (pr.ld y0 5), .d (pr.ld y0 6)]))
      (pr.out 0 [.d (pr.ld y0 0), .r (pr.lr y0 1), .d (pr.lit (.int Go.IntKind.i64 (0))), .d (pr.lit (.int Go.IntKind.i64 (0))), .n (pr.ln y0 2), .n (pr.ln y0 3), .d (pr.ld y0 4), .d (pr.ld y0 5), .d (pr.ld y0 6)])))) [fun y4 => (pr.bin .add false (pr.lit (.int Go.IntKind.i64 (1))) (pr.ld y4 0) fun x5 =>
     (pr.bnd (pr.call 26 [(pr.ld y4 2), (pr.lit (.int Go.IntKind.i64 (20)))]) [fun y6 => (pr.bin .add false (pr.lit (.int Go.IntKind.i64 (90))) (pr.ld y6 0) fun x7 =>
       (pr.bnd (pr.call 26 [(pr.ld y4 3), (pr.lit (.int Go.IntKind.i64 (12)))]) [fun y8 => (pr.bin .add false x7 (pr.ld y8 0) fun x9 =>
         (pr.eqN (pr.natN 1) (pr.len (pr.rows [[x5, x7, x9]])) (pr.eqN (pr.ln y4 5) (pr.len (pr.lr y4 1)) (pr.eqN (pr.ln y4 4) (pr.len (pr.lr y4 1)) (pr.fits 24 (pr.addN (pr.ln y4 4) (pr.len (pr.seg (pr.rows [[x5, x7, x9]]) none (pr.natN 1))))
          (pr.bin .add false (pr.ld y4 0) (pr.lit (.int Go.IntKind.i64 (1))) fun x10 =>
          (J0 1 [.d x10, .r (pr.app (pr.lr y4 1) (pr.seg (pr.rows [[x5, x7, x9]]) none (pr.natN 1))), .n (pr.addN (pr.ln y4 4) (pr.len (pr.seg (pr.rows [[x5, x7, x9]]) none (pr.natN 1)))), .n (pr.addN (pr.ln y4 4) (pr.len (pr.seg (pr.rows [[x5, x7, x9]]) none (pr.natN 1)))), .d (pr.ld y4 6), .d (pr.ld y4 7), .d (pr.ld y4 8)])))))))]))]))])
    (pr.bin .eql false (pr.ld y0 0) (pr.lit (.int Go.IntKind.i64 (0))) fun x4 =>
    (pr.cond x4
     (pr.bnd (pr.lenD (pr.ld y0 4) fun x5 =>
     (pr.bin .lss false (pr.ld y0 0) x5 fun x6 =>
      (pr.cond x6
       (pr.rowD 2 (pr.ld y0 4) (pr.ld y0 0) fun w7 =>
       (pr.out 0 [.d (pr.ld y0 0), .r (pr.lr y0 1), .d (pr.cell w7 0), .d (pr.cell w7 1), .n (pr.ln y0 2), .n (pr.ln y0 3), .d (pr.ld y0 4), .d (pr.ld y0 5), .d (pr.ld y0 6)]))
       (pr.out 0 [.d (pr.ld y0 0), .r (pr.lr y0 1), .d (pr.lit (.int Go.IntKind.i64 (0))), .d (pr.lit (.int Go.IntKind.i64 (0))), .n (pr.ln y0 2), .n (pr.ln y0 3), .d (pr.ld y0 4), .d (pr.ld y0 5), .d (pr.ld y0 6)])))) [fun y5 => (pr.bin .add false (pr.lit (.int Go.IntKind.i64 (1))) (pr.ld y5 0) fun x6 =>
      (pr.bnd (pr.call 26 [(pr.ld y5 2), (pr.lit (.int Go.IntKind.i64 (20)))]) [fun y7 => (pr.bin .add false (pr.lit (.int Go.IntKind.i64 (90))) (pr.ld y7 0) fun x8 =>
        (pr.bnd (pr.call 26 [(pr.ld y5 3), (pr.lit (.int Go.IntKind.i64 (12)))]) [fun y9 => (pr.bin .add false x8 (pr.ld y9 0) fun x10 =>
          (pr.eqN (pr.natN 1) (pr.len (pr.rows [[x6, x8, x10]])) (pr.eqN (pr.ln y5 5) (pr.len (pr.lr y5 1)) (pr.eqN (pr.ln y5 4) (pr.len (pr.lr y5 1)) (pr.fits 24 (pr.addN (pr.ln y5 4) (pr.len (pr.seg (pr.rows [[x6, x8, x10]]) none (pr.natN 1))))
           (pr.bin .add false (pr.ld y5 0) (pr.lit (.int Go.IntKind.i64 (1))) fun x11 =>
           (J0 1 [.d x11, .r (pr.app (pr.lr y5 1) (pr.seg (pr.rows [[x6, x8, x10]]) none (pr.natN 1))), .n (pr.addN (pr.ln y5 4) (pr.len (pr.seg (pr.rows [[x6, x8, x10]]) none (pr.natN 1)))), .n (pr.addN (pr.ln y5 4) (pr.len (pr.seg (pr.rows [[x6, x8, x10]]) none (pr.natN 1)))), .d (pr.ld y5 6), .d (pr.ld y5 7), .d (pr.ld y5 8)])))))))]))]))])
     (pr.out 1 [.r (pr.lr y0 1), .n (pr.ln y0 2), .n (pr.ln y0 3), .d (pr.ld y0 4), .d (pr.ld y0 5), .d (pr.ld y0 6)])))))
   (pr.bin .eql false (pr.ld y0 0) (pr.lit (.int Go.IntKind.i64 (0))) fun x3 =>
   (pr.cond x3
    (pr.bnd (pr.lenD (pr.ld y0 4) fun x4 =>
    (pr.bin .lss false (pr.ld y0 0) x4 fun x5 =>
     (pr.cond x5
      (pr.rowD 2 (pr.ld y0 4) (pr.ld y0 0) fun w6 =>
      (pr.out 0 [.d (pr.ld y0 0), .r (pr.lr y0 1), .d (pr.cell w6 0), .d (pr.cell w6 1), .n (pr.ln y0 2), .n (pr.ln y0 3), .d (pr.ld y0 4), .d (pr.ld y0 5), .d (pr.ld y0 6)]))
      (pr.out 0 [.d (pr.ld y0 0), .r (pr.lr y0 1), .d (pr.lit (.int Go.IntKind.i64 (0))), .d (pr.lit (.int Go.IntKind.i64 (0))), .n (pr.ln y0 2), .n (pr.ln y0 3), .d (pr.ld y0 4), .d (pr.ld y0 5), .d (pr.ld y0 6)])))) [fun y4 => (pr.bin .add false (pr.lit (.int Go.IntKind.i64 (1))) (pr.ld y4 0) fun x5 =>
     (pr.bnd (pr.call 26 [(pr.ld y4 2), (pr.lit (.int Go.IntKind.i64 (20)))]) [fun y6 => (pr.bin .add false (pr.lit (.int Go.IntKind.i64 (90))) (pr.ld y6 0) fun x7 =>
       (pr.bnd (pr.call 26 [(pr.ld y4 3), (pr.lit (.int Go.IntKind.i64 (12)))]) [fun y8 => (pr.bin .add false x7 (pr.ld y8 0) fun x9 =>
         (pr.eqN (pr.natN 1) (pr.len (pr.rows [[x5, x7, x9]])) (pr.eqN (pr.ln y4 5) (pr.len (pr.lr y4 1)) (pr.eqN (pr.ln y4 4) (pr.len (pr.lr y4 1)) (pr.fits 24 (pr.addN (pr.ln y4 4) (pr.len (pr.seg (pr.rows [[x5, x7, x9]]) none (pr.natN 1))))
          (pr.bin .add false (pr.ld y4 0) (pr.lit (.int Go.IntKind.i64 (1))) fun x10 =>
          (J0 1 [.d x10, .r (pr.app (pr.lr y4 1) (pr.seg (pr.rows [[x5, x7, x9]]) none (pr.natN 1))), .n (pr.addN (pr.ln y4 4) (pr.len (pr.seg (pr.rows [[x5, x7, x9]]) none (pr.natN 1)))), .n (pr.addN (pr.ln y4 4) (pr.len (pr.seg (pr.rows [[x5, x7, x9]]) none (pr.natN 1)))), .d (pr.ld y4 6), .d (pr.ld y4 7), .d (pr.ld y4 8)])))))))]))]))])
    (pr.out 1 [.r (pr.lr y0 1), .n (pr.ln y0 2), .n (pr.ln y0 3), .d (pr.ld y0 4), .d (pr.ld y0 5), .d (pr.ld y0 6)]))))))
def L25_2  : (Nat → List (Y Δ N R M) → Ω) → E → Ω := fun J1 y1 =>
 (pr.lenD (pr.ld y1 2) fun x2 =>
  (pr.bin .lss false (pr.ld y1 0) x2 fun x3 =>
   (pr.cond x3
    (pr.bin .lss false (pr.ld y1 0) (pr.lit (.int Go.IntKind.i64 (10))) fun x4 =>
    (pr.cond x4
     (pr.bnd (pr.lenD (pr.ld y1 2) fun x5 =>
     (pr.bin .lss false (pr.ld y1 0) x5 fun x6 =>
      (pr.cond x6
       (pr.rowD 3 (pr.ld y1 2) (pr.ld y1 0) fun w7 =>
       (pr.out 0 [.d (pr.ld y1 0), .d (pr.cell w7 0), .d (pr.cell w7 1), .d (pr.cell w7 2), .d (pr.ld y1 1), .d (pr.ld y1 2), .d (pr.ld y1 3)]))
       (pr.out 0 [.d (pr.ld y1 0), .d (pr.lit (.int Go.IntKind.i64 (0))), .d (pr.lit (.int Go.IntKind.i64 (0))), .d (pr.lit (.int Go.IntKind.i64 (0))), .d (pr.ld y1 1), .d (pr.ld y1 2), .d (pr.ld y1 3)])))) [fun y5 => (pr.bnd (pr.call 26 [(pr.ld y5 1), (pr.lit (.int Go.IntKind.i64 (0)))]) [fun y6 => (pr.bin .add false (pr.lit (.int Go.IntKind.i64 (1))) (pr.ld y6 0) fun x7 =>
       (pr.bnd (pr.call 26 [(pr.ld y5 2), (pr.lit (.int Go.IntKind.i64 (9)))]) [fun y8 => (pr.bin .add false (pr.lit (.int Go.IntKind.i64 (1))) (pr.ld y8 0) fun x9 =>
         (pr.bnd (pr.call 26 [(pr.ld y5 3), (pr.lit (.int Go.IntKind.i64 (12)))]) [fun y10 => (pr.eqN (pr.natN 1) (pr.len (pr.rows [[x7, x9, (pr.ld y10 0)]])) (pr.isNil (pr.seg (pr.rows [[x7, x9, (pr.ld y10 0)]]) none (pr.natN 1))
           (pr.bin .add false (pr.ld y5 0) (pr.lit (.int Go.IntKind.i64 (1))) fun x11 =>
           (J1 0 [.d x11, .d (pr.ld y5 4), .d (pr.ld y5 5), .d (pr.ld y5 6)]))
           (pr.fits 24 (pr.len (pr.seg (pr.rows [[x7, x9, (pr.ld y10 0)]]) none (pr.natN 1)))
           (pr.bin .add false (pr.ld y5 0) (pr.lit (.int Go.IntKind.i64 (1))) fun x11 =>
           (J1 1 [.d x11, .r (pr.seg (pr.rows [[x7, x9, (pr.ld y10 0)]]) none (pr.natN 1)), .n (pr.len (pr.seg (pr.rows [[x7, x9, (pr.ld y10 0)]]) none (pr.natN 1))), .n (pr.len (pr.seg (pr.rows [[x7, x9, (pr.ld y10 0)]]) none (pr.natN 1))), .d (pr.ld y5 4), .d (pr.ld y5 5), .d (pr.ld y5 6)])))))]))]))])])
     (pr.bin .eql false (pr.ld y1 0) (pr.lit (.int Go.IntKind.i64 (0))) fun x5 =>
     (pr.cond x5
      (pr.bnd (pr.lenD (pr.ld y1 2) fun x6 =>
      (pr.bin .lss false (pr.ld y1 0) x6 fun x7 =>
       (pr.cond x7
        (pr.rowD 3 (pr.ld y1 2) (pr.ld y1 0) fun w8 =>
        (pr.out 0 [.d (pr.ld y1 0), .d (pr.cell w8 0), .d (pr.cell w8 1), .d (pr.cell w8 2), .d (pr.ld y1 1), .d (pr.ld y1 2), .d (pr.ld y1 3)]))
        (pr.out 0 [.d (pr.ld y1 0), .d (pr.lit (.int Go.IntKind.i64 (0))), .d (pr.lit (.int Go.IntKind.i64 (0))), .d (pr.lit (.int Go.IntKind.i64 (0))), .d (pr.ld y1 1), .d (pr.ld y1 2), .d (pr.ld y1 3)])))) [fun y6 => (pr.bnd (pr.call 26 [(pr.ld y6 1), (pr.lit (.int Go.IntKind.i64 (0)))]) [fun y7 => (pr.bin .add false (pr.lit (.int Go.IntKind.i64 (1))) (pr.ld y7 0) fun x8 =>
        (pr.bnd (pr.call 26 [(pr.ld y6 2), (pr.lit (.int Go.IntKind.i64 (9)))]) [fun y9 => (pr.bin .add false (pr.lit (.int Go.IntKind.i64 (1))) (pr.ld y9 0) fun x10 =>
          (pr.bnd (pr.call 26 [(pr.ld y6 3), (pr.lit (.int Go.IntKind.i64 (12)))]) [fun y11 => (pr.eqN (pr.natN 1) (pr.len (pr.rows [[x8, x10, (pr.ld y11 0)]])) (pr.isNil (pr.seg (pr.rows [[x8, x10, (pr.ld y11 0)]]) none (pr.natN 1))
            (pr.bin .add false (pr.ld y6 0) (pr.lit (.int Go.IntKind.i64 (1))) fun x12 =>
            (J1 0 [.d x12, .d (pr.ld y6 4), .d (pr.ld y6 5), .d (pr.ld y6 6)]))
            (pr.fits 24 (pr.len (pr.seg (pr.rows [[x8, x10, (pr.ld y11 0)]]) none (pr.natN 1)))
            (pr.bin .add false (pr.ld y6 0) (pr.lit (.int Go.IntKind.i64 (1))) fun x12 =>
            (J1 1 [.d x12, .r (pr.seg (pr.rows [[x8, x10, (pr.ld y11 0)]]) none (pr.natN 1)), .n (pr.len (pr.seg (pr.rows [[x8, x10, (pr.ld y11 0)]]) none (pr.natN 1))), .n (pr.len (pr.seg (pr.rows [[x8, x10, (pr.ld y11 0)]]) none (pr.natN 1))), .d (pr.ld y6 4), .d (pr.ld y6 5), .d (pr.ld y6 6)])))))]))]))])])
      (pr.out 0 [.d (pr.ld y1 1), .d (pr.ld y1 2), .d (pr.ld y1 3)])))))
    (pr.bin .eql false (pr.ld y1 0) (pr.lit (.int Go.IntKind.i64 (0))) fun x4 =>
    (pr.cond x4
     (pr.bnd (pr.lenD (pr.ld y1 2) fun x5 =>
     (pr.bin .lss false (pr.ld y1 0) x5 fun x6 =>
      (pr.cond x6
       (pr.rowD 3 (pr.ld y1 2) (pr.ld y1 0) fun w7 =>
       (pr.out 0 [.d (pr.ld y1 0), .d (pr.cell w7 0), .d (pr.cell w7 1), .d (pr.cell w7 2), .d (pr.ld y1 1), .d (pr.ld y1 2), .d (pr.ld y1 3)]))
       (pr.out 0 [.d (pr.ld y1 0), .d (pr.lit (.int Go.IntKind.i64 (0))), .d (pr.lit (.int Go.IntKind.i64 (0))), .d (pr.lit (.int Go.IntKind.i64 (0))), .d (pr.ld y1 1), .d (pr.ld y1 2), .d (pr.ld y1 3)])))) [fun y5 => (pr.bnd (pr.call 26 [(pr.ld y5 1), (pr.lit (.int Go.IntKind.i64 (0)))]) [fun y6 => (pr.bin .add false (pr.lit (.int Go.IntKind.i64 (1))) (pr.ld y6 0) fun x7 =>
       (pr.bnd (pr.call 26 [(pr.ld y5 2), (pr.lit (.int Go.IntKind.i64 (9)))]) [fun y8 => (pr.bin .add false (pr.lit (.int Go.IntKind.i64 (1))) (pr.ld y8 0) fun x9 =>
         (pr.bnd (pr.call 26 [(pr.ld y5 3), (pr.lit (.int Go.IntKind.i64 (12)))]) [fun y10 => (pr.eqN (pr.natN 1) (pr.len (pr.rows [[x7, x9, (pr.ld y10 0)]])) (pr.isNil (pr.seg (pr.rows [[x7, x9, (pr.ld y10 0)]]) none (pr.natN 1))
           (pr.bin .add false (pr.ld y5 0) (pr.lit (.int Go.IntKind.i64 (1))) fun x11 =>
           (J1 0 [.d x11, .d (pr.ld y5 4), .d (pr.ld y5 5), .d (pr.ld y5 6)]))
           (pr.fits 24 (pr.len (pr.seg (pr.rows [[x7, x9, (pr.ld y10 0)]]) none (pr.natN 1)))
           (pr.bin .add false (pr.ld y5 0) (pr.lit (.int Go.IntKind.i64 (1))) fun x11 =>
           (J1 1 [.d x11, .r (pr.seg (pr.rows [[x7, x9, (pr.ld y10 0)]]) none (pr.natN 1)), .n (pr.len (pr.seg (pr.rows [[x7, x9, (pr.ld y10 0)]]) none (pr.natN 1))), .n (pr.len (pr.seg (pr.rows [[x7, x9, (pr.ld y10 0)]]) none (pr.natN 1))), .d (pr.ld y5 4), .d (pr.ld y5 5), .d (pr.ld y5 6)])))))]))]))])])
     (pr.out 0 [.d (pr.ld y1 1), .d (pr.ld y1 2), .d (pr.ld y1 3)]))))))
def L25_3  : (Nat → List (Y Δ N R M) → Ω) → E → Ω := fun J1 y1 =>
 (pr.lenD (pr.ld y1 5) fun x2 =>
  (pr.bin .lss false (pr.ld y1 0) x2 fun x3 =>
   (pr.cond x3
    (pr.bin .lss false (pr.ld y1 0) (pr.lit (.int Go.IntKind.i64 (10))) fun x4 =>
    (pr.cond x4
     (pr.bnd (pr.lenD (pr.ld y1 5) fun x5 =>
     (pr.bin .lss false (pr.ld y1 0) x5 fun x6 =>
      (pr.cond x6
       (pr.rowD 3 (pr.ld y1 5) (pr.ld y1 0) fun w7 =>
       (pr.out 0 [.d (pr.ld y1 0), .r (pr.lr y1 1), .d (pr.cell w7 0), .d (pr.cell w7 1), .d (pr.cell w7 2), .n (pr.ln y1 2), .n (pr.ln y1 3), .d (pr.ld y1 4), .d (pr.ld y1 5), .d (pr.ld y1 6)]))
       (pr.out 0 [.d (pr.ld y1 0), .r (pr.lr y1 1), .d (pr.lit (.int Go.IntKind.i64 (0))), .d (pr.lit (.int Go.IntKind.i64 (0))), .d (pr.lit (.int Go.IntKind.i64 (0))), .n (pr.ln y1 2), .n (pr.ln y1 3), .d (pr.ld y1 4), .d (pr.ld y1 5), .d (pr.ld y1 6)])))) [fun y5 => (pr.bnd (pr.call 26 [(pr.ld y5 2), (pr.lit (.int Go.IntKind.i64 (0)))]) [fun y6 => (pr.bin .add false (pr.lit (.int Go.IntKind.i64 (1))) (pr.ld y6 0) fun x7 =>
       (pr.bnd (pr.call 26 [(pr.ld y5 3), (pr.lit (.int Go.IntKind.i64 (9)))]) [fun y8 => (pr.bin .add false (pr.lit (.int Go.IntKind.i64 (1))) (pr.ld y8 0) fun x9 =>
         (pr.bnd (pr.call 26 [(pr.ld y5 4), (pr.lit (.int Go.IntKind.i64 (12)))]) [fun y10 => (pr.eqN (pr.natN 1) (pr.len (pr.rows [[x7, x9, (pr.ld y10 0)]])) (pr.eqN (pr.ln y5 6) (pr.len (pr.lr y5 1)) (pr.eqN (pr.ln y5 5) (pr.len (pr.lr y5 1)) (pr.fits 24 (pr.addN (pr.ln y5 5) (pr.len (pr.seg (pr.rows [[x7, x9, (pr.ld y10 0)]]) none (pr.natN 1))))
           (pr.bin .add false (pr.ld y5 0) (pr.lit (.int Go.IntKind.i64 (1))) fun x11 =>
           (J1 1 [.d x11, .r (pr.app (pr.lr y5 1) (pr.seg (pr.rows [[x7, x9, (pr.ld y10 0)]]) none (pr.natN 1))), .n (pr.addN (pr.ln y5 5) (pr.len (pr.seg (pr.rows [[x7, x9, (pr.ld y10 0)]]) none (pr.natN 1)))), .n (pr.addN (pr.ln y5 5) (pr.len (pr.seg (pr.rows [[x7, x9, (pr.ld y10 0)]]) none (pr.natN 1)))), .d (pr.ld y5 7), .d (pr.ld y5 8), .d (pr.ld y5 9)]))))))]))]))])])
     (pr.bin .eql false (pr.ld y1 0) (pr.lit (.int Go.IntKind.i64 (0))) fun x5 =>
     (pr.cond x5
      (pr.bnd (pr.lenD (pr.ld y1 5) fun x6 =>
      (pr.bin .lss false (pr.ld y1 0) x6 fun x7 =>
       (pr.cond x7
        (pr.rowD 3 (pr.ld y1 5) (pr.ld y1 0) fun w8 =>
        (pr.out 0 [.d (pr.ld y1 0), .r (pr.lr y1 1), .d (pr.cell w8 0), .d (pr.cell w8 1), .d (pr.cell w8 2), .n (pr.ln y1 2), .n (pr.ln y1 3), .d (pr.ld y1 4), .d (pr.ld y1 5), .d (pr.ld y1 6)]))
        (pr.out 0 [.d (pr.ld y1 0), .r (pr.lr y1 1), .d (pr.lit (.int Go.IntKind.i64 (0))), .d (pr.lit (.int Go.IntKind.i64 (0))), .d (pr.lit (.int Go.IntKind.i64 (0))), .n (pr.ln y1 2), .n (pr.ln y1 3), .d (pr.ld y1 4), .d (pr.ld y1 5), .d (pr.ld y1 6)])))) [fun y6 => (pr.bnd (pr.call 26 [(pr.ld y6 2), (pr.lit (.int Go.IntKind.i64 (0)))]) [fun y7 => (pr.bin .add false (pr.lit (.int Go.IntKind.i64 (1))) (pr.ld y7 0) fun x8 =>
        (pr.bnd (pr.call 26 [(pr.ld y6 3), (pr.lit (.int Go.IntKind.i64 (9)))]) [fun y9 => (pr.bin .add false (pr.lit (.int Go.IntKind.i64 (1))) (pr.ld y9 0) fun x10 =>
          (pr.bnd (pr.call 26 [(pr.ld y6 4), (pr.lit (.int Go.IntKind.i64 (12)))]) [fun y11 => (pr.eqN (pr.natN 1) (pr.len (pr.rows [[x8, x10, (pr.ld y11 0)]])) (pr.eqN (pr.ln y6 6) (pr.len (pr.lr y6 1)) (pr.eqN (pr.ln y6 5) (pr.len (pr.lr y6 1)) (pr.fits 24 (pr.addN (pr.ln y6 5) (pr.len (pr.seg (pr.rows [[x8, x10, (pr.ld y11 0)]]) none (pr.natN 1))))
            (pr.bin .add false (pr.ld y6 0) (pr.lit (.int Go.IntKind.i64 (1))) fun x12 =>
            (J1 1 [.d x12, .r (pr.app (pr.lr y6 1) (pr.seg (pr.rows [[x8, x10, (pr.ld y11 0)]]) none (pr.natN 1))), .n (pr.addN (pr.ln y6 5) (pr.len (pr.seg (pr.rows [[x8, x10, (pr.ld y11 0)]]) none (pr.natN 1)))), .n (pr.addN (pr.ln y6 5) (pr.len (pr.seg (pr.rows [[x8, x10, (pr.ld y11 0)]]) none (pr.natN 1)))), .d (pr.ld y6 7), .d (pr.ld y6 8), .d (pr.ld y6 9)]))))))]))]))])])
      (pr.out 1 [.r (pr.lr y1 1), .n (pr.ln y1 2), .n (pr.ln y1 3), .d (pr.ld y1 4), .d (pr.ld y1 5), .d (pr.ld y1 6)])))))
    (pr.bin .eql false (pr.ld y1 0) (pr.lit (.int Go.IntKind.i64 (0))) fun x4 =>
    (pr.cond x4
     (pr.bnd (pr.lenD (pr.ld y1 5) fun x5 =>
     (pr.bin .lss false (pr.ld y1 0) x5 fun x6 =>
      (pr.cond x6
       (pr.rowD 3 (pr.ld y1 5) (pr.ld y1 0) fun w7 =>
       (pr.out 0 [.d (pr.ld y1 0), .r (pr.lr y1 1), .d (pr.cell w7 0), .d (pr.cell w7 1), .d (pr.cell w7 2), .n (pr.ln y1 2), .n (pr.ln y1 3), .d (pr.ld y1 4), .d (pr.ld y1 5), .d (pr.ld y1 6)]))
       (pr.out 0 [.d (pr.ld y1 0), .r (pr.lr y1 1), .d (pr.lit (.int Go.IntKind.i64 (0))), .d (pr.lit (.int Go.IntKind.i64 (0))), .d (pr.lit (.int Go.IntKind.i64 (0))), .n (pr.ln y1 2), .n (pr.ln y1 3), .d (pr.ld y1 4), .d (pr.ld y1 5), .d (pr.ld y1 6)])))) [fun y5 => (pr.bnd (pr.call 26 [(pr.ld y5 2), (pr.lit (.int Go.IntKind.i64 (0)))]) [fun y6 => (pr.bin .add false (pr.lit (.int Go.IntKind.i64 (1))) (pr.ld y6 0) fun x7 =>
       (pr.bnd (pr.call 26 [(pr.ld y5 3), (pr.lit (.int Go.IntKind.i64 (9)))]) [fun y8 => (pr.bin .add false (pr.lit (.int Go.IntKind.i64 (1))) (pr.ld y8 0) fun x9 =>
         (pr.bnd (pr.call 26 [(pr.ld y5 4), (pr.lit (.int Go.IntKind.i64 (12)))]) [fun y10 => (pr.eqN (pr.natN 1) (pr.len (pr.rows [[x7, x9, (pr.ld y10 0)]])) (pr.eqN (pr.ln y5 6) (pr.len (pr.lr y5 1)) (pr.eqN (pr.ln y5 5) (pr.len (pr.lr y5 1)) (pr.fits 24 (pr.addN (pr.ln y5 5) (pr.len (pr.seg (pr.rows [[x7, x9, (pr.ld y10 0)]]) none (pr.natN 1))))
           (pr.bin .add false (pr.ld y5 0) (pr.lit (.int Go.IntKind.i64 (1))) fun x11 =>
           (J1 1 [.d x11, .r (pr.app (pr.lr y5 1) (pr.seg (pr.rows [[x7, x9, (pr.ld y10 0)]]) none (pr.natN 1))), .n (pr.addN (pr.ln y5 5) (pr.len (pr.seg (pr.rows [[x7, x9, (pr.ld y10 0)]]) none (pr.natN 1)))), .n (pr.addN (pr.ln y5 5) (pr.len (pr.seg (pr.rows [[x7, x9, (pr.ld y10 0)]]) none (pr.natN 1)))), .d (pr.ld y5 7), .d (pr.ld y5 8), .d (pr.ld y5 9)]))))))]))]))])])
     (pr.out 1 [.r (pr.lr y1 1), .n (pr.ln y1 2), .n (pr.ln y1 3), .d (pr.ld y1 4), .d (pr.ld y1 5), .d (pr.ld y1 6)]))))))
def L25_4  : (Nat → List (Y Δ N R M) → Ω) → E → Ω := fun J2 y2 =>
 (pr.lenD (pr.ld y2 3) fun x3 =>
   (pr.bin .lss false (pr.ld y2 0) x3 fun x4 =>
    (pr.cond x4
     (pr.bin .lss false (pr.ld y2 0) (pr.lit (.int Go.IntKind.i64 (6))) fun x5 =>
     (pr.cond x5
      (pr.bnd (pr.lenD (pr.ld y2 3) fun x6 =>
      (pr.bin .lss false (pr.ld y2 0) x6 fun x7 =>
       (pr.cond x7
        (pr.rowD 3 (pr.ld y2 3) (pr.ld y2 0) fun w8 =>
        (pr.out 0 [.d (pr.ld y2 0), .d (pr.cell w8 0), .d (pr.cell w8 1), .d (pr.cell w8 2), .d (pr.ld y2 1), .d (pr.ld y2 2), .d (pr.ld y2 3)]))
        (pr.out 0 [.d (pr.ld y2 0), .d (pr.lit (.int Go.IntKind.i64 (0))), .d (pr.lit (.int Go.IntKind.i64 (0))), .d (pr.lit (.int Go.IntKind.i64 (0))), .d (pr.ld y2 1), .d (pr.ld y2 2), .d (pr.ld y2 3)])))) [fun y6 => (pr.bin .mul false (pr.lit (.int Go.IntKind.i64 (2))) (pr.ld y6 0) fun x7 =>
       (pr.bin .add false (pr.lit (.int Go.IntKind.i64 (3))) x7 fun x8 =>
        (pr.bnd (pr.call 26 [(pr.ld y6 1), (pr.lit (.int Go.IntKind.i64 (4)))]) [fun y9 => (pr.bin .add false (pr.lit (.int Go.IntKind.i64 (1))) (pr.ld y9 0) fun x10 =>
          (pr.bnd (pr.call 26 [(pr.ld y6 2), (pr.lit (.int Go.IntKind.i64 (0)))]) [fun y11 => (pr.bin .sub false (pr.lit (.int Go.IntKind.i64 (0))) (pr.ld y11 0) fun x12 =>
            (pr.bnd (pr.call 26 [(pr.ld y6 3), x12]) [fun y13 => (pr.bin .add false (pr.ld y11 0) (pr.ld y13 0) fun x14 =>
              (pr.eqN (pr.natN 1) (pr.len (pr.rows [[x8, x10, (pr.ld y11 0), x14]])) (pr.isNil (pr.seg (pr.rows [[x8, x10, (pr.ld y11 0), x14]]) none (pr.natN 1))
               (pr.bin .add false (pr.ld y6 0) (pr.lit (.int Go.IntKind.i64 (1))) fun x15 =>
               (J2 0 [.d x15, .d (pr.ld y6 4), .d (pr.ld y6 5), .d (pr.ld y6 6)]))
               (pr.fits 32 (pr.len (pr.seg (pr.rows [[x8, x10, (pr.ld y11 0), x14]]) none (pr.natN 1)))
               (pr.bin .add false (pr.ld y6 0) (pr.lit (.int Go.IntKind.i64 (1))) fun x15 =>
               (J2 1 [.n (pr.len (pr.seg (pr.rows [[x8, x10, (pr.ld y11 0), x14]]) none (pr.natN 1))), .n (pr.len (pr.seg (pr.rows [[x8, x10, (pr.ld y11 0), x14]]) none (pr.natN 1))), .d x15, .r (pr.seg (pr.rows [[x8, x10, (pr.ld y11 0), x14]]) none (pr.natN 1)), .d (pr.ld y6 4), .d (pr.ld y6 5), .d (pr.ld y6 6)]))))))]))]))])))])
      (pr.bin .eql false (pr.ld y2 0) (pr.lit (.int Go.IntKind.i64 (0))) fun x6 =>
      (pr.cond x6
       (pr.bnd (pr.lenD (pr.ld y2 3) fun x7 =>
       (pr.bin .lss false (pr.ld y2 0) x7 fun x8 =>
        (pr.cond x8
         (pr.rowD 3 (pr.ld y2 3) (pr.ld y2 0) fun w9 =>
         (pr.out 0 [.d (pr.ld y2 0), .d (pr.cell w9 0), .d (pr.cell w9 1), .d (pr.cell w9 2), .d (pr.ld y2 1), .d (pr.ld y2 2), .d (pr.ld y2 3)]))
         (pr.out 0 [.d (pr.ld y2 0), .d (pr.lit (.int Go.IntKind.i64 (0))), .d (pr.lit (.int Go.IntKind.i64 (0))), .d (pr.lit (.int Go.IntKind.i64 (0))), .d (pr.ld y2 1), .d (pr.ld y2 2), .d (pr.ld y2 3)])))) [fun y7 => (pr.bin .mul false (pr.lit (.int Go.IntKind.i64 (2))) (pr.ld y7 0) fun x8 =>
        (pr.bin .add false (pr.lit (.int Go.IntKind.i64 (3))) x8 fun x9 =>
         (pr.bnd (pr.call 26 [(pr.ld y7 1), (pr.lit (.int Go.IntKind.i64 (4)))]) [fun y10 => (pr.bin .add false (pr.lit (.int Go.IntKind.i64 (1))) (pr.ld y10 0) fun x11 =>
           (pr.bnd (pr.call 26 [(pr.ld y7 2), (pr.lit (.int Go.IntKind.i64 (0)))]) [fun y12 => (pr.bin .sub false (pr.lit (.int Go.IntKind.i64 (0))) (pr.ld y12 0) fun x13 =>
             (pr.bnd (pr.call 26 [(pr.ld y7 3), x13]) [fun y14 => (pr.bin .add false (pr.ld y12 0) (pr.ld y14 0) fun x15 =>
               (pr.eqN (pr.natN 1) (pr.len (pr.rows [[x9, x11, (pr.ld y12 0), x15]])) (pr.isNil (pr.seg (pr.rows [[x9, x11, (pr.ld y12 0), x15]]) none (pr.natN 1))
                (pr.bin .add false (pr.ld y7 0) (pr.lit (.int Go.IntKind.i64 (1))) fun x16 =>
                (J2 0 [.d x16, .d (pr.ld y7 4), .d (pr.ld y7 5), .d (pr.ld y7 6)]))
                (pr.fits 32 (pr.len (pr.seg (pr.rows [[x9, x11, (pr.ld y12 0), x15]]) none (pr.natN 1)))
                (pr.bin .add false (pr.ld y7 0) (pr.lit (.int Go.IntKind.i64 (1))) fun x16 =>
                (J2 1 [.n (pr.len (pr.seg (pr.rows [[x9, x11, (pr.ld y12 0), x15]]) none (pr.natN 1))), .n (pr.len (pr.seg (pr.rows [[x9, x11, (pr.ld y12 0), x15]]) none (pr.natN 1))), .d x16, .r (pr.seg (pr.rows [[x9, x11, (pr.ld y12 0), x15]]) none (pr.natN 1)), .d (pr.ld y7 4), .d (pr.ld y7 5), .d (pr.ld y7 6)]))))))]))]))])))])
       (pr.out 0 [])))))
     (pr.bin .eql false (pr.ld y2 0) (pr.lit (.int Go.IntKind.i64 (0))) fun x5 =>
     (pr.cond x5
      (pr.bnd (pr.lenD (pr.ld y2 3) fun x6 =>
      (pr.bin .lss false (pr.ld y2 0) x6 fun x7 =>
       (pr.cond x7
        (pr.rowD 3 (pr.ld y2 3) (pr.ld y2 0) fun w8 =>
        (pr.out 0 [.d (pr.ld y2 0), .d (pr.cell w8 0), .d (pr.cell w8 1), .d (pr.cell w8 2), .d (pr.ld y2 1), .d (pr.ld y2 2), .d (pr.ld y2 3)]))
        (pr.out 0 [.d (pr.ld y2 0), .d (pr.lit (.int Go.IntKind.i64 (0))), .d (pr.lit (.int Go.IntKind.i64 (0))), .d (pr.lit (.int Go.IntKind.i64 (0))), .d (pr.ld y2 1), .d (pr.ld y2 2), .d (pr.ld y2 3)])))) [fun y6 => (pr.bin .mul false (pr.lit (.int Go.IntKind.i64 (2))) (pr.ld y6 0) fun x7 =>
       (pr.bin .add false (pr.lit (.int Go.IntKind.i64 (3))) x7 fun x8 =>
        (pr.bnd (pr.call 26 [(pr.ld y6 1), (pr.lit (.int Go.IntKind.i64 (4)))]) [fun y9 => (pr.bin .add false (pr.lit (.int Go.IntKind.i64 (1))) (pr.ld y9 0) fun x10 =>
          (pr.bnd (pr.call 26 [(pr.ld y6 2), (pr.lit (.int Go.IntKind.i64 (0)))]) [fun y11 => (pr.bin .sub false (pr.lit (.int Go.IntKind.i64 (0))) (pr.ld y11 0) fun x12 =>
            (pr.bnd (pr.call 26 [(pr.ld y6 3), x12]) [fun y13 => (pr.bin .add false (pr.ld y11 0) (pr.ld y13 0) fun x14 =>
              (pr.eqN (pr.natN 1) (pr.len (pr.rows [[x8, x10, (pr.ld y11 0), x14]])) (pr.isNil (pr.seg (pr.rows [[x8, x10, (pr.ld y11 0), x14]]) none (pr.natN 1))
               (pr.bin .add false (pr.ld y6 0) (pr.lit (.int Go.IntKind.i64 (1))) fun x15 =>
               (J2 0 [.d x15, .d (pr.ld y6 4), .d (pr.ld y6 5), .d (pr.ld y6 6)]))
               (pr.fits 32 (pr.len (pr.seg (pr.rows [[x8, x10, (pr.ld y11 0), x14]]) none (pr.natN 1)))
               (pr.bin .add false (pr.ld y6 0) (pr.lit (.int Go.IntKind.i64 (1))) fun x15 =>
               (J2 1 [.n (pr.len (pr.seg (pr.rows [[x8, x10, (pr.ld y11 0), x14]]) none (pr.natN 1))), .n (pr.len (pr.seg (pr.rows [[x8, x10, (pr.ld y11 0), x14]]) none (pr.natN 1))), .d x15, .r (pr.seg (pr.rows [[x8, x10, (pr.ld y11 0), x14]]) none (pr.natN 1)), .d (pr.ld y6 4), .d (pr.ld y6 5), .d (pr.ld y6 6)]))))))]))]))])))])
      (pr.out 0 []))))))
def L25_5  : (Nat → List (Y Δ N R M) → Ω) → E → Ω := fun J2 y2 =>
 (pr.lenD (pr.ld y2 6) fun x3 =>
   (pr.bin .lss false (pr.ld y2 2) x3 fun x4 =>
    (pr.cond x4
     (pr.bin .lss false (pr.ld y2 2) (pr.lit (.int Go.IntKind.i64 (6))) fun x5 =>
     (pr.cond x5
      (pr.bnd (pr.lenD (pr.ld y2 6) fun x6 =>
      (pr.bin .lss false (pr.ld y2 2) x6 fun x7 =>
       (pr.cond x7
        (pr.rowD 3 (pr.ld y2 6) (pr.ld y2 2) fun w8 =>
        (pr.out 0 [.n (pr.ln y2 0), .n (pr.ln y2 1), .d (pr.ld y2 2), .d (pr.cell w8 0), .d (pr.cell w8 1), .d (pr.cell w8 2), .r (pr.lr y2 3), .d (pr.ld y2 4), .d (pr.ld y2 5), .d (pr.ld y2 6)]))
        (pr.out 0 [.n (pr.ln y2 0), .n (pr.ln y2 1), .d (pr.ld y2 2), .d (pr.lit (.int Go.IntKind.i64 (0))), .d (pr.lit (.int Go.IntKind.i64 (0))), .d (pr.lit (.int Go.IntKind.i64 (0))), .r (pr.lr y2 3), .d (pr.ld y2 4), .d (pr.ld y2 5), .d (pr.ld y2 6)])))) [fun y6 => (pr.bin .mul false (pr.lit (.int Go.IntKind.i64 (2))) (pr.ld y6 2) fun x7 =>
       (pr.bin .add false (pr.lit (.int Go.IntKind.i64 (3))) x7 fun x8 =>
        (pr.bnd (pr.call 26 [(pr.ld y6 3), (pr.lit (.int Go.IntKind.i64 (4)))]) [fun y9 => (pr.bin .add false (pr.lit (.int Go.IntKind.i64 (1))) (pr.ld y9 0) fun x10 =>
          (pr.bnd (pr.call 26 [(pr.ld y6 4), (pr.lit (.int Go.IntKind.i64 (0)))]) [fun y11 => (pr.bin .sub false (pr.lit (.int Go.IntKind.i64 (0))) (pr.ld y11 0) fun x12 =>
            (pr.bnd (pr.call 26 [(pr.ld y6 5), x12]) [fun y13 => (pr.bin .add false (pr.ld y11 0) (pr.ld y13 0) fun x14 =>
              (pr.eqN (pr.natN 1) (pr.len (pr.rows [[x8, x10, (pr.ld y11 0), x14]])) (pr.eqN (pr.ln y6 1) (pr.len (pr.lr y6 6)) (pr.eqN (pr.ln y6 0) (pr.len (pr.lr y6 6)) (pr.fits 32 (pr.addN (pr.ln y6 0) (pr.len (pr.seg (pr.rows [[x8, x10, (pr.ld y11 0), x14]]) none (pr.natN 1))))
               (pr.bin .add false (pr.ld y6 2) (pr.lit (.int Go.IntKind.i64 (1))) fun x15 =>
               (J2 1 [.n (pr.addN (pr.ln y6 0) (pr.len (pr.seg (pr.rows [[x8, x10, (pr.ld y11 0), x14]]) none (pr.natN 1)))), .n (pr.addN (pr.ln y6 0) (pr.len (pr.seg (pr.rows [[x8, x10, (pr.ld y11 0), x14]]) none (pr.natN 1)))), .d x15, .r (pr.app (pr.lr y6 6) (pr.seg (pr.rows [[x8, x10, (pr.ld y11 0), x14]]) none (pr.natN 1))), .d (pr.ld y6 7), .d (pr.ld y6 8), .d (pr.ld y6 9)])))))))]))]))])))])
      (pr.bin .eql false (pr.ld y2 2) (pr.lit (.int Go.IntKind.i64 (0))) fun x6 =>
      (pr.cond x6
       (pr.bnd (pr.lenD (pr.ld y2 6) fun x7 =>
       (pr.bin .lss false (pr.ld y2 2) x7 fun x8 =>
        (pr.cond x8
         (pr.rowD 3 (pr.ld y2 6) (pr.ld y2 2) fun w9 =>
         (pr.out 0 [.n (pr.ln y2 0), .n (pr.ln y2 1), .d (pr.ld y2 2), .d (pr.cell w9 0), .d (pr.cell w9 1), .d (pr.cell w9 2), .r (pr.lr y2 3), .d (pr.ld y2 4), .d (pr.ld y2 5), .d (pr.ld y2 6)]))
         (pr.out 0 [.n (pr.ln y2 0), .n (pr.ln y2 1), .d (pr.ld y2 2), .d (pr.lit (.int Go.IntKind.i64 (0))), .d (pr.lit (.int Go.IntKind.i64 (0))), .d (pr.lit (.int Go.IntKind.i64 (0))), .r (pr.lr y2 3), .d (pr.ld y2 4), .d (pr.ld y2 5), .d (pr.ld y2 6)])))) [fun y7 => (pr.bin .mul false (pr.lit (.int Go.IntKind.i64 (2))) (pr.ld y7 2) fun x8 =>
        (pr.bin .add false (pr.lit (.int Go.IntKind.i64 (3))) x8 fun x9 =>
         (pr.bnd (pr.call 26 [(pr.ld y7 3), (pr.lit (.int Go.IntKind.i64 (4)))]) [fun y10 => (pr.bin .add false (pr.lit (.int Go.IntKind.i64 (1))) (pr.ld y10 0) fun x11 =>
           (pr.bnd (pr.call 26 [(pr.ld y7 4), (pr.lit (.int Go.IntKind.i64 (0)))]) [fun y12 => (pr.bin .sub false (pr.lit (.int Go.IntKind.i64 (0))) (pr.ld y12 0) fun x13 =>
             (pr.bnd (pr.call 26 [(pr.ld y7 5), x13]) [fun y14 => (pr.bin .add false (pr.ld y12 0) (pr.ld y14 0) fun x15 =>
               (pr.eqN (pr.natN 1) (pr.len (pr.rows [[x9, x11, (pr.ld y12 0), x15]])) (pr.eqN (pr.ln y7 1) (pr.len (pr.lr y7 6)) (pr.eqN (pr.ln y7 0) (pr.len (pr.lr y7 6)) (pr.fits 32 (pr.addN (pr.ln y7 0) (pr.len (pr.seg (pr.rows [[x9, x11, (pr.ld y12 0), x15]]) none (pr.natN 1))))
                (pr.bin .add false (pr.ld y7 2) (pr.lit (.int Go.IntKind.i64 (1))) fun x16 =>
                (J2 1 [.n (pr.addN (pr.ln y7 0) (pr.len (pr.seg (pr.rows [[x9, x11, (pr.ld y12 0), x15]]) none (pr.natN 1)))), .n (pr.addN (pr.ln y7 0) (pr.len (pr.seg (pr.rows [[x9, x11, (pr.ld y12 0), x15]]) none (pr.natN 1)))), .d x16, .r (pr.app (pr.lr y7 6) (pr.seg (pr.rows [[x9, x11, (pr.ld y12 0), x15]]) none (pr.natN 1))), .d (pr.ld y7 7), .d (pr.ld y7 8), .d (pr.ld y7 9)])))))))]))]))])))])
       (pr.out 1 [.n (pr.ln y2 0), .n (pr.ln y2 1), .r (pr.lr y2 3)])))))
     (pr.bin .eql false (pr.ld y2 2) (pr.lit (.int Go.IntKind.i64 (0))) fun x5 =>
     (pr.cond x5
      (pr.bnd (pr.lenD (pr.ld y2 6) fun x6 =>
      (pr.bin .lss false (pr.ld y2 2) x6 fun x7 =>
       (pr.cond x7
        (pr.rowD 3 (pr.ld y2 6) (pr.ld y2 2) fun w8 =>
        (pr.out 0 [.n (pr.ln y2 0), .n (pr.ln y2 1), .d (pr.ld y2 2), .d (pr.cell w8 0), .d (pr.cell w8 1), .d (pr.cell w8 2), .r (pr.lr y2 3), .d (pr.ld y2 4), .d (pr.ld y2 5), .d (pr.ld y2 6)]))
        (pr.out 0 [.n (pr.ln y2 0), .n (pr.ln y2 1), .d (pr.ld y2 2), .d (pr.lit (.int Go.IntKind.i64 (0))), .d (pr.lit (.int Go.IntKind.i64 (0))), .d (pr.lit (.int Go.IntKind.i64 (0))), .r (pr.lr y2 3), .d (pr.ld y2 4), .d (pr.ld y2 5), .d (pr.ld y2 6)])))) [fun y6 => (pr.bin .mul false (pr.lit (.int Go.IntKind.i64 (2))) (pr.ld y6 2) fun x7 =>
       (pr.bin .add false (pr.lit (.int Go.IntKind.i64 (3))) x7 fun x8 =>
        (pr.bnd (pr.call 26 [(pr.ld y6 3), (pr.lit (.int Go.IntKind.i64 (4)))]) [fun y9 => (pr.bin .add false (pr.lit (.int Go.IntKind.i64 (1))) (pr.ld y9 0) fun x10 =>
          (pr.bnd (pr.call 26 [(pr.ld y6 4), (pr.lit (.int Go.IntKind.i64 (0)))]) [fun y11 => (pr.bin .sub false (pr.lit (.int Go.IntKind.i64 (0))) (pr.ld y11 0) fun x12 =>
            (pr.bnd (pr.call 26 [(pr.ld y6 5), x12]) [fun y13 => (pr.bin .add false (pr.ld y11 0) (pr.ld y13 0) fun x14 =>
              (pr.eqN (pr.natN 1) (pr.len (pr.rows [[x8, x10, (pr.ld y11 0), x14]])) (pr.eqN (pr.ln y6 1) (pr.len (pr.lr y6 6)) (pr.eqN (pr.ln y6 0) (pr.len (pr.lr y6 6)) (pr.fits 32 (pr.addN (pr.ln y6 0) (pr.len (pr.seg (pr.rows [[x8, x10, (pr.ld y11 0), x14]]) none (pr.natN 1))))
               (pr.bin .add false (pr.ld y6 2) (pr.lit (.int Go.IntKind.i64 (1))) fun x15 =>
               (J2 1 [.n (pr.addN (pr.ln y6 0) (pr.len (pr.seg (pr.rows [[x8, x10, (pr.ld y11 0), x14]]) none (pr.natN 1)))), .n (pr.addN (pr.ln y6 0) (pr.len (pr.seg (pr.rows [[x8, x10, (pr.ld y11 0), x14]]) none (pr.natN 1)))), .d x15, .r (pr.app (pr.lr y6 6) (pr.seg (pr.rows [[x8, x10, (pr.ld y11 0), x14]]) none (pr.natN 1))), .d (pr.ld y6 7), .d (pr.ld y6 8), .d (pr.ld y6 9)])))))))]))]))])))])
      (pr.out 1 [.n (pr.ln y2 0), .n (pr.ln y2 1), .r (pr.lr y2 3)]))))))
def L25_6  : (Nat → List (Y Δ N R M) → Ω) → E → Ω := fun J2 y2 =>
 (pr.lenD (pr.ld y2 6) fun x3 =>
   (pr.bin .lss false (pr.ld y2 0) x3 fun x4 =>
    (pr.cond x4
     (pr.bin .lss false (pr.ld y2 0) (pr.lit (.int Go.IntKind.i64 (6))) fun x5 =>
     (pr.cond x5
      (pr.bnd (pr.lenD (pr.ld y2 6) fun x6 =>
      (pr.bin .lss false (pr.ld y2 0) x6 fun x7 =>
       (pr.cond x7
        (pr.rowD 3 (pr.ld y2 6) (pr.ld y2 0) fun w8 =>
        (pr.out 0 [.d (pr.ld y2 0), .r (pr.lr y2 1), .d (pr.cell w8 0), .d (pr.cell w8 1), .d (pr.cell w8 2), .n (pr.ln y2 2), .n (pr.ln y2 3), .d (pr.ld y2 4), .d (pr.ld y2 5), .d (pr.ld y2 6)]))
        (pr.out 0 [.d (pr.ld y2 0), .r (pr.lr y2 1), .d (pr.lit (.int Go.IntKind.i64 (0))), .d (pr.lit (.int Go.IntKind.i64 (0))), .d (pr.lit (.int Go.IntKind.i64 (0))), .n (pr.ln y2 2), .n (pr.ln y2 3), .d (pr.ld y2 4), .d (pr.ld y2 5), .d (pr.ld y2 6)])))) [fun y6 => (pr.bin .mul false (pr.lit (.int Go.IntKind.i64 (2))) (pr.ld y6 0) fun x7 =>
       (pr.bin .add false (pr.lit (.int Go.IntKind.i64 (3))) x7 fun x8 =>
        (pr.bnd (pr.call 26 [(pr.ld y6 2), (pr.lit (.int Go.IntKind.i64 (4)))]) [fun y9 => (pr.bin .add false (pr.lit (.int Go.IntKind.i64 (1))) (pr.ld y9 0) fun x10 =>
          (pr.bnd (pr.call 26 [(pr.ld y6 3), (pr.natD (pr.ln y6 5))]) [fun y11 => (pr.bin .sub false (pr.natD (pr.ln y6 5)) (pr.ld y11 0) fun x12 =>
            (pr.bnd (pr.call 26 [(pr.ld y6 4), x12]) [fun y13 => (pr.bin .add false (pr.ld y11 0) (pr.ld y13 0) fun x14 =>
              (pr.eqN (pr.natN 1) (pr.len (pr.rows [[x8, x10, (pr.ld y11 0), x14]])) (pr.isNil (pr.seg (pr.rows [[x8, x10, (pr.ld y11 0), x14]]) none (pr.natN 1))
               (pr.bin .add false (pr.ld y6 0) (pr.lit (.int Go.IntKind.i64 (1))) fun x15 =>
               (J2 0 [.d x15, .r (pr.lr y6 1), .n (pr.ln y6 5), .n (pr.ln y6 6), .d (pr.ld y6 7), .d (pr.ld y6 8), .d (pr.ld y6 9)]))
               (pr.fits 32 (pr.len (pr.seg (pr.rows [[x8, x10, (pr.ld y11 0), x14]]) none (pr.natN 1)))
               (pr.bin .add false (pr.ld y6 0) (pr.lit (.int Go.IntKind.i64 (1))) fun x15 =>
               (J2 1 [.n (pr.len (pr.seg (pr.rows [[x8, x10, (pr.ld y11 0), x14]]) none (pr.natN 1))), .n (pr.len (pr.seg (pr.rows [[x8, x10, (pr.ld y11 0), x14]]) none (pr.natN 1))), .d x15, .r (pr.lr y6 1), .r (pr.seg (pr.rows [[x8, x10, (pr.ld y11 0), x14]]) none (pr.natN 1)), .n (pr.ln y6 5), .n (pr.ln y6 6), .d (pr.ld y6 7), .d (pr.ld y6 8), .d (pr.ld y6 9)]))))))]))]))])))])
      (pr.bin .eql false (pr.ld y2 0) (pr.lit (.int Go.IntKind.i64 (0))) fun x6 =>
      (pr.cond x6
       (pr.bnd (pr.lenD (pr.ld y2 6) fun x7 =>
       (pr.bin .lss false (pr.ld y2 0) x7 fun x8 =>
        (pr.cond x8
         (pr.rowD 3 (pr.ld y2 6) (pr.ld y2 0) fun w9 =>
         (pr.out 0 [.d (pr.ld y2 0), .r (pr.lr y2 1), .d (pr.cell w9 0), .d (pr.cell w9 1), .d (pr.cell w9 2), .n (pr.ln y2 2), .n (pr.ln y2 3), .d (pr.ld y2 4), .d (pr.ld y2 5), .d (pr.ld y2 6)]))
         (pr.out 0 [.d (pr.ld y2 0), .r (pr.lr y2 1), .d (pr.lit (.int Go.IntKind.i64 (0))), .d (pr.lit (.int Go.IntKind.i64 (0))), .d (pr.lit (.int Go.IntKind.i64 (0))), .n (pr.ln y2 2), .n (pr.ln y2 3), .d (pr.ld y2 4), .d (pr.ld y2 5), .d (pr.ld y2 6)])))) [fun y7 => (pr.bin .mul false (pr.lit (.int Go.IntKind.i64 (2))) (pr.ld y7 0) fun x8 =>
        (pr.bin .add false (pr.lit (.int Go.IntKind.i64 (3))) x8 fun x9 =>
         (pr.bnd (pr.call 26 [(pr.ld y7 2), (pr.lit (.int Go.IntKind.i64 (4)))]) [fun y10 => (pr.bin .add false (pr.lit (.int Go.IntKind.i64 (1))) (pr.ld y10 0) fun x11 =>
           (pr.bnd (pr.call 26 [(pr.ld y7 3), (pr.natD (pr.ln y7 5))]) [fun y12 => (pr.bin .sub false (pr.natD (pr.ln y7 5)) (pr.ld y12 0) fun x13 =>
             (pr.bnd (pr.call 26 [(pr.ld y7 4), x13]) [fun y14 => (pr.bin .add false (pr.ld y12 0) (pr.ld y14 0) fun x15 =>
               (pr.eqN (pr.natN 1) (pr.len (pr.rows [[x9, x11, (pr.ld y12 0), x15]])) (pr.isNil (pr.seg (pr.rows [[x9, x11, (pr.ld y12 0), x15]]) none (pr.natN 1))
                (pr.bin .add false (pr.ld y7 0) (pr.lit (.int Go.IntKind.i64 (1))) fun x16 =>
                (J2 0 [.d x16, .r (pr.lr y7 1), .n (pr.ln y7 5), .n (pr.ln y7 6), .d (pr.ld y7 7), .d (pr.ld y7 8), .d (pr.ld y7 9)]))
                (pr.fits 32 (pr.len (pr.seg (pr.rows [[x9, x11, (pr.ld y12 0), x15]]) none (pr.natN 1)))
                (pr.bin .add false (pr.ld y7 0) (pr.lit (.int Go.IntKind.i64 (1))) fun x16 =>
                (J2 1 [.n (pr.len (pr.seg (pr.rows [[x9, x11, (pr.ld y12 0), x15]]) none (pr.natN 1))), .n (pr.len (pr.seg (pr.rows [[x9, x11, (pr.ld y12 0), x15]]) none (pr.natN 1))), .d x16, .r (pr.lr y7 1), .r (pr.seg (pr.rows [[x9, x11, (pr.ld y12 0), x15]]) none (pr.natN 1)), .n (pr.ln y7 5), .n (pr.ln y7 6), .d (pr.ld y7 7), .d (pr.ld y7 8), .d (pr.ld y7 9)]))))))]))]))])))])
       (pr.out 0 [.r (pr.lr y2 1), .n (pr.ln y2 2), .n (pr.ln y2 3)])))))
     (pr.bin .eql false (pr.ld y2 0) (pr.lit (.int Go.IntKind.i64 (0))) fun x5 =>
     (pr.cond x5
      (pr.bnd (pr.lenD (pr.ld y2 6) fun x6 =>
      (pr.bin .lss false (pr.ld y2 0) x6 fun x7 =>
       (pr.cond x7
        (pr.rowD 3 (pr.ld y2 6) (pr.ld y2 0) fun w8 =>
        (pr.out 0 [.d (pr.ld y2 0), .r (pr.lr y2 1), .d (pr.cell w8 0), .d (pr.cell w8 1), .d (pr.cell w8 2), .n (pr.ln y2 2), .n (pr.ln y2 3), .d (pr.ld y2 4), .d (pr.ld y2 5), .d (pr.ld y2 6)]))
        (pr.out 0 [.d (pr.ld y2 0), .r (pr.lr y2 1), .d (pr.lit (.int Go.IntKind.i64 (0))), .d (pr.lit (.int Go.IntKind.i64 (0))), .d (pr.lit (.int Go.IntKind.i64 (0))), .n (pr.ln y2 2), .n (pr.ln y2 3), .d (pr.ld y2 4), .d (pr.ld y2 5), .d (pr.ld y2 6)])))) [fun y6 => (pr.bin .mul false (pr.lit (.int Go.IntKind.i64 (2))) (pr.ld y6 0) fun x7 =>
       (pr.bin .add false (pr.lit (.int Go.IntKind.i64 (3))) x7 fun x8 =>
        (pr.bnd (pr.call 26 [(pr.ld y6 2), (pr.lit (.int Go.IntKind.i64 (4)))]) [fun y9 => (pr.bin .add false (pr.lit (.int Go.IntKind.i64 (1))) (pr.ld y9 0) fun x10 =>
          (pr.bnd (pr.call 26 [(pr.ld y6 3), (pr.natD (pr.ln y6 5))]) [fun y11 => (pr.bin .sub false (pr.natD (pr.ln y6 5)) (pr.ld y11 0) fun x12 =>
            (pr.bnd (pr.call 26 [(pr.ld y6 4), x12]) [fun y13 => (pr.bin .add false (pr.ld y11 0) (pr.ld y13 0) fun x14 =>
              (pr.eqN (pr.natN 1) (pr.len (pr.rows [[x8, x10, (pr.ld y11 0), x14]])) (pr.isNil (pr.seg (pr.rows [[x8, x10, (pr.ld y11 0), x14]]) none (pr.natN 1))
               (pr.bin .add false (pr.ld y6 0) (pr.lit (.int Go.IntKind.i64 (1))) fun x15 =>
               (J2 0 [.d x15, .r (pr.lr y6 1), .n (pr.ln y6 5), .n (pr.ln y6 6), .d (pr.ld y6 7), .d (pr.ld y6 8), .d (pr.ld y6 9)]))
               (pr.fits 32 (pr.len (pr.seg (pr.rows [[x8, x10, (pr.ld y11 0), x14]]) none (pr.natN 1)))
               (pr.bin .add false (pr.ld y6 0) (pr.lit (.int Go.IntKind.i64 (1))) fun x15 =>
               (J2 1 [.n (pr.len (pr.seg (pr.rows [[x8, x10, (pr.ld y11 0), x14]]) none (pr.natN 1))), .n (pr.len (pr.seg (pr.rows [[x8, x10, (pr.ld y11 0), x14]]) none (pr.natN 1))), .d x15, .r (pr.lr y6 1), .r (pr.seg (pr.rows [[x8, x10, (pr.ld y11 0), x14]]) none (pr.natN 1)), .n (pr.ln y6 5), .n (pr.ln y6 6), .d (pr.ld y6 7), .d (pr.ld y6 8), .d (pr.ld y6 9)]))))))]))]))])))])
      (pr.out 0 [.r (pr.lr y2 1), .n (pr.ln y2 2), .n (pr.ln y2 3)]))))))
def L25_7  : (Nat → List (Y Δ N R M) → Ω) → E → Ω := fun J2 y2 =>
 (pr.lenD (pr.ld y2 9) fun x3 =>
   (pr.bin .lss false (pr.ld y2 2) x3 fun x4 =>
    (pr.cond x4
     (pr.bin .lss false (pr.ld y2 2) (pr.lit (.int Go.IntKind.i64 (6))) fun x5 =>
     (pr.cond x5
      (pr.bnd (pr.lenD (pr.ld y2 9) fun x6 =>
      (pr.bin .lss false (pr.ld y2 2) x6 fun x7 =>
       (pr.cond x7
        (pr.rowD 3 (pr.ld y2 9) (pr.ld y2 2) fun w8 =>
        (pr.out 0 [.n (pr.ln y2 0), .n (pr.ln y2 1), .d (pr.ld y2 2), .r (pr.lr y2 3), .d (pr.cell w8 0), .d (pr.cell w8 1), .d (pr.cell w8 2), .r (pr.lr y2 4), .n (pr.ln y2 5), .n (pr.ln y2 6), .d (pr.ld y2 7), .d (pr.ld y2 8), .d (pr.ld y2 9)]))
        (pr.out 0 [.n (pr.ln y2 0), .n (pr.ln y2 1), .d (pr.ld y2 2), .r (pr.lr y2 3), .d (pr.lit (.int Go.IntKind.i64 (0))), .d (pr.lit (.int Go.IntKind.i64 (0))), .d (pr.lit (.int Go.IntKind.i64 (0))), .r (pr.lr y2 4), .n (pr.ln y2 5), .n (pr.ln y2 6), .d (pr.ld y2 7), .d (pr.ld y2 8), .d (pr.ld y2 9)])))) [fun y6 => (pr.bin .mul false (pr.lit (.int Go.IntKind.i64 (2))) (pr.ld y6 2) fun x7 =>
       (pr.bin .add false (pr.lit (.int Go.IntKind.i64 (3))) x7 fun x8 =>
        (pr.bnd (pr.call 26 [(pr.ld y6 4), (pr.lit (.int Go.IntKind.i64 (4)))]) [fun y9 => (pr.bin .add false (pr.lit (.int Go.IntKind.i64 (1))) (pr.ld y9 0) fun x10 =>
          (pr.bnd (pr.call 26 [(pr.ld y6 5), (pr.natD (pr.ln y6 8))]) [fun y11 => (pr.bin .sub false (pr.natD (pr.ln y6 8)) (pr.ld y11 0) fun x12 =>
            (pr.bnd (pr.call 26 [(pr.ld y6 6), x12]) [fun y13 => (pr.bin .add false (pr.ld y11 0) (pr.ld y13 0) fun x14 =>
              (pr.eqN (pr.natN 1) (pr.len (pr.rows [[x8, x10, (pr.ld y11 0), x14]])) (pr.eqN (pr.ln y6 1) (pr.len (pr.lr y6 7)) (pr.eqN (pr.ln y6 0) (pr.len (pr.lr y6 7)) (pr.fits 32 (pr.addN (pr.ln y6 0) (pr.len (pr.seg (pr.rows [[x8, x10, (pr.ld y11 0), x14]]) none (pr.natN 1))))
               (pr.bin .add false (pr.ld y6 2) (pr.lit (.int Go.IntKind.i64 (1))) fun x15 =>
               (J2 1 [.n (pr.addN (pr.ln y6 0) (pr.len (pr.seg (pr.rows [[x8, x10, (pr.ld y11 0), x14]]) none (pr.natN 1)))), .n (pr.addN (pr.ln y6 0) (pr.len (pr.seg (pr.rows [[x8, x10, (pr.ld y11 0), x14]]) none (pr.natN 1)))), .d x15, .r (pr.lr y6 3), .r (pr.app (pr.lr y6 7) (pr.seg (pr.rows [[x8, x10, (pr.ld y11 0), x14]]) none (pr.natN 1))), .n (pr.ln y6 8), .n (pr.ln y6 9), .d (pr.ld y6 10), .d (pr.ld y6 11), .d (pr.ld y6 12)])))))))]))]))])))])
      (pr.bin .eql false (pr.ld y2 2) (pr.lit (.int Go.IntKind.i64 (0))) fun x6 =>
      (pr.cond x6
       (pr.bnd (pr.lenD (pr.ld y2 9) fun x7 =>
       (pr.bin .lss false (pr.ld y2 2) x7 fun x8 =>
        (pr.cond x8
         (pr.rowD 3 (pr.ld y2 9) (pr.ld y2 2) fun w9 =>
         (pr.out 0 [.n (pr.ln y2 0), .n (pr.ln y2 1), .d (pr.ld y2 2), .r (pr.lr y2 3), .d (pr.cell w9 0), .d (pr.cell w9 1), .d (pr.cell w9 2), .r (pr.lr y2 4), .n (pr.ln y2 5), .n (pr.ln y2 6), .d (pr.ld y2 7), .d (pr.ld y2 8), .d (pr.ld y2 9)]))
         (pr.out 0 [.n (pr.ln y2 0), .n (pr.ln y2 1), .d (pr.ld y2 2), .r (pr.lr y2 3), .d (pr.lit (.int Go.IntKind.i64 (0))), .d (pr.lit (.int Go.IntKind.i64 (0))), .d (pr.lit (.int Go.IntKind.i64 (0))), .r (pr.lr y2 4), .n (pr.ln y2 5), .n (pr.ln y2 6), .d (pr.ld y2 7), .d (pr.ld y2 8), .d (pr.ld y2 9)])))) [fun y7 => (pr.bin .mul false (pr.lit (.int Go.IntKind.i64 (2))) (pr.ld y7 2) fun x8 =>
        (pr.bin .add false (pr.lit (.int Go.IntKind.i64 (3))) x8 fun x9 =>
         (pr.bnd (pr.call 26 [(pr.ld y7 4), (pr.lit (.int Go.IntKind.i64 (4)))]) [fun y10 => (pr.bin .add false (pr.lit (.int Go.IntKind.i64 (1))) (pr.ld y10 0) fun x11 =>
           (pr.bnd (pr.call 26 [(pr.ld y7 5), (pr.natD (pr.ln y7 8))]) [fun y12 => (pr.bin .sub false (pr.natD (pr.ln y7 8)) (pr.ld y12 0) fun x13 =>
             (pr.bnd (pr.call 26 [(pr.ld y7 6), x13]) [fun y14 => (pr.bin .add false (pr.ld y12 0) (pr.ld y14 0) fun x15 =>
               (pr.eqN (pr.natN 1) (pr.len (pr.rows [[x9, x11, (pr.ld y12 0), x15]])) (pr.eqN (pr.ln y7 1) (pr.len (pr.lr y7 7)) (pr.eqN (pr.ln y7 0) (pr.len (pr.lr y7 7)) (pr.fits 32 (pr.addN (pr.ln y7 0) (pr.len (pr.seg (pr.rows [[x9, x11, (pr.ld y12 0), x15]]) none (pr.natN 1))))
                (pr.bin .add false (pr.ld y7 2) (pr.lit (.int Go.IntKind.i64 (1))) fun x16 =>
                (J2 1 [.n (pr.addN (pr.ln y7 0) (pr.len (pr.seg (pr.rows [[x9, x11, (pr.ld y12 0), x15]]) none (pr.natN 1)))), .n (pr.addN (pr.ln y7 0) (pr.len (pr.seg (pr.rows [[x9, x11, (pr.ld y12 0), x15]]) none (pr.natN 1)))), .d x16, .r (pr.lr y7 3), .r (pr.app (pr.lr y7 7) (pr.seg (pr.rows [[x9, x11, (pr.ld y12 0), x15]]) none (pr.natN 1))), .n (pr.ln y7 8), .n (pr.ln y7 9), .d (pr.ld y7 10), .d (pr.ld y7 11), .d (pr.ld y7 12)])))))))]))]))])))])
       (pr.out 1 [.n (pr.ln y2 0), .n (pr.ln y2 1), .r (pr.lr y2 3), .r (pr.lr y2 4), .n (pr.ln y2 5), .n (pr.ln y2 6)])))))
     (pr.bin .eql false (pr.ld y2 2) (pr.lit (.int Go.IntKind.i64 (0))) fun x5 =>
     (pr.cond x5
      (pr.bnd (pr.lenD (pr.ld y2 9) fun x6 =>
      (pr.bin .lss false (pr.ld y2 2) x6 fun x7 =>
       (pr.cond x7
        (pr.rowD 3 (pr.ld y2 9) (pr.ld y2 2) fun w8 =>
        (pr.out 0 [.n (pr.ln y2 0), .n (pr.ln y2 1), .d (pr.ld y2 2), .r (pr.lr y2 3), .d (pr.cell w8 0), .d (pr.cell w8 1), .d (pr.cell w8 2), .r (pr.lr y2 4), .n (pr.ln y2 5), .n (pr.ln y2 6), .d (pr.ld y2 7), .d (pr.ld y2 8), .d (pr.ld y2 9)]))
        (pr.out 0 [.n (pr.ln y2 0), .n (pr.ln y2 1), .d (pr.ld y2 2), .r (pr.lr y2 3), .d (pr.lit (.int Go.IntKind.i64 (0))), .d (pr.lit (.int Go.IntKind.i64 (0))), .d (pr.lit (.int Go.IntKind.i64 (0))), .r (pr.lr y2 4), .n (pr.ln y2 5), .n (pr.ln y2 6), .d (pr.ld y2 7), .d (pr.ld y2 8), .d (pr.ld y2 9)])))) [fun y6 => (pr.bin .mul false (pr.lit (.int Go.IntKind.i64 (2))) (pr.ld y6 2) fun x7 =>
       (pr.bin .add false (pr.lit (.int Go.IntKind.i64 (3))) x7 fun x8 =>
        (pr.bnd (pr.call 26 [(pr.ld y6 4), (pr.lit (.int Go.IntKind.i64 (4)))]) [fun y9 => (pr.bin .add false (pr.lit (.int Go.IntKind.i64 (1))) (pr.ld y9 0) fun x10 =>
          (pr.bnd (pr.call 26 [(pr.ld y6 5), (pr.natD (pr.ln y6 8))]) [fun y11 => (pr.bin .sub false (pr.natD (pr.ln y6 8)) (pr.ld y11 0) fun x12 =>
            (pr.bnd (pr.call 26 [(pr.ld y6 6), x12]) [fun y13 => (pr.bin .add false (pr.ld y11 0) (pr.ld y13 0) fun x14 =>
              (pr.eqN (pr.natN 1) (pr.len (pr.rows [[x8, x10, (pr.ld y11 0), x14]])) (pr.eqN (pr.ln y6 1) (pr.len (pr.lr y6 7)) (pr.eqN (pr.ln y6 0) (pr.len (pr.lr y6 7)) (pr.fits 32 (pr.addN (pr.ln y6 0) (pr.len (pr.seg (pr.rows [[x8, x10, (pr.ld y11 0), x14]]) none (pr.natN 1))))
               (pr.bin .add false (pr.ld y6 2) (pr.lit (.int Go.IntKind.i64 (1))) fun x15 =>
               (J2 1 [.n (pr.addN (pr.ln y6 0) (pr.len (pr.seg (pr.rows [[x8, x10, (pr.ld y11 0), x14]]) none (pr.natN 1)))), .n (pr.addN (pr.ln y6 0) (pr.len (pr.seg (pr.rows [[x8, x10, (pr.ld y11 0), x14]]) none (pr.natN 1)))), .d x15, .r (pr.lr y6 3), .r (pr.app (pr.lr y6 7) (pr.seg (pr.rows [[x8, x10, (pr.ld y11 0), x14]]) none (pr.natN 1))), .n (pr.ln y6 8), .n (pr.ln y6 9), .d (pr.ld y6 10), .d (pr.ld y6 11), .d (pr.ld y6 12)])))))))]))]))])))])
      (pr.out 1 [.n (pr.ln y2 0), .n (pr.ln y2 1), .r (pr.lr y2 3), .r (pr.lr y2 4), .n (pr.ln y2 5), .n (pr.ln y2 6)]))))))
def L25_8  : (Nat → List (Y Δ N R M) → Ω) → E → Ω := fun J1 y1 =>
 (pr.lenD (pr.ld y1 5) fun x2 =>
  (pr.bin .lss false (pr.ld y1 0) x2 fun x3 =>
   (pr.cond x3
    (pr.bin .lss false (pr.ld y1 0) (pr.lit (.int Go.IntKind.i64 (10))) fun x4 =>
    (pr.cond x4
     (pr.bnd (pr.lenD (pr.ld y1 5) fun x5 =>
     (pr.bin .lss false (pr.ld y1 0) x5 fun x6 =>
      (pr.cond x6
       (pr.rowD 3 (pr.ld y1 5) (pr.ld y1 0) fun w7 =>
       (pr.out 0 [.d (pr.ld y1 0), .r (pr.lr y1 1), .d (pr.cell w7 0), .d (pr.cell w7 1), .d (pr.cell w7 2), .n (pr.ln y1 2), .n (pr.ln y1 3), .d (pr.ld y1 4), .d (pr.ld y1 5), .d (pr.ld y1 6)]))
       (pr.out 0 [.d (pr.ld y1 0), .r (pr.lr y1 1), .d (pr.lit (.int Go.IntKind.i64 (0))), .d (pr.lit (.int Go.IntKind.i64 (0))), .d (pr.lit (.int Go.IntKind.i64 (0))), .n (pr.ln y1 2), .n (pr.ln y1 3), .d (pr.ld y1 4), .d (pr.ld y1 5), .d (pr.ld y1 6)])))) [fun y5 => (pr.bnd (pr.call 26 [(pr.ld y5 2), (pr.natD (pr.ln y5 5))]) [fun y6 => (pr.bin .add false (pr.lit (.int Go.IntKind.i64 (1))) (pr.ld y6 0) fun x7 =>
       (pr.bnd (pr.call 26 [(pr.ld y5 3), (pr.lit (.int Go.IntKind.i64 (9)))]) [fun y8 => (pr.bin .add false (pr.lit (.int Go.IntKind.i64 (1))) (pr.ld y8 0) fun x9 =>
         (pr.bnd (pr.call 26 [(pr.ld y5 4), (pr.lit (.int Go.IntKind.i64 (12)))]) [fun y10 => (pr.eqN (pr.natN 1) (pr.len (pr.rows [[x7, x9, (pr.ld y10 0)]])) (pr.isNil (pr.seg (pr.rows [[x7, x9, (pr.ld y10 0)]]) none (pr.natN 1))
           (pr.bin .add false (pr.ld y5 0) (pr.lit (.int Go.IntKind.i64 (1))) fun x11 =>
           (J1 0 [.d x11, .r (pr.lr y5 1), .n (pr.ln y5 5), .n (pr.ln y5 6), .d (pr.ld y5 7), .d (pr.ld y5 8), .d (pr.ld y5 9)]))
           (pr.fits 24 (pr.len (pr.seg (pr.rows [[x7, x9, (pr.ld y10 0)]]) none (pr.natN 1)))
           (pr.bin .add false (pr.ld y5 0) (pr.lit (.int Go.IntKind.i64 (1))) fun x11 =>
           (J1 1 [.d x11, .r (pr.seg (pr.rows [[x7, x9, (pr.ld y10 0)]]) none (pr.natN 1)), .r (pr.lr y5 1), .n (pr.ln y5 5), .n (pr.ln y5 6), .n (pr.len (pr.seg (pr.rows [[x7, x9, (pr.ld y10 0)]]) none (pr.natN 1))), .n (pr.len (pr.seg (pr.rows [[x7, x9, (pr.ld y10 0)]]) none (pr.natN 1))), .d (pr.ld y5 7), .d (pr.ld y5 8), .d (pr.ld y5 9)])))))]))]))])])
     (pr.bin .eql false (pr.ld y1 0) (pr.lit (.int Go.IntKind.i64 (0))) fun x5 =>
     (pr.cond x5
      (pr.bnd (pr.lenD (pr.ld y1 5) fun x6 =>
      (pr.bin .lss false (pr.ld y1 0) x6 fun x7 =>
       (pr.cond x7
        (pr.rowD 3 (pr.ld y1 5) (pr.ld y1 0) fun w8 =>
        (pr.out 0 [.d (pr.ld y1 0), .r (pr.lr y1 1), .d (pr.cell w8 0), .d (pr.cell w8 1), .d (pr.cell w8 2), .n (pr.ln y1 2), .n (pr.ln y1 3), .d (pr.ld y1 4), .d (pr.ld y1 5), .d (pr.ld y1 6)]))
        (pr.out 0 [.d (pr.ld y1 0), .r (pr.lr y1 1), .d (pr.lit (.int Go.IntKind.i64 (0))), .d (pr.lit (.int Go.IntKind.i64 (0))), .d (pr.lit (.int Go.IntKind.i64 (0))), .n (pr.ln y1 2), .n (pr.ln y1 3), .d (pr.ld y1 4), .d (pr.ld y1 5), .d (pr.ld y1 6)])))) [fun y6 => (pr.bnd (pr.call 26 [(pr.ld y6 2), (pr.natD (pr.ln y6 5))]) [fun y7 => (pr.bin .add false (pr.lit (.int Go.IntKind.i64 (1))) (pr.ld y7 0) fun x8 =>
        (pr.bnd (pr.call 26 [(pr.ld y6 3), (pr.lit (.int Go.IntKind.i64 (9)))]) [fun y9 => (pr.bin .add false (pr.lit (.int Go.IntKind.i64 (1))) (pr.ld y9 0) fun x10 =>
          (pr.bnd (pr.call 26 [(pr.ld y6 4), (pr.lit (.int Go.IntKind.i64 (12)))]) [fun y11 => (pr.eqN (pr.natN 1) (pr.len (pr.rows [[x8, x10, (pr.ld y11 0)]])) (pr.isNil (pr.seg (pr.rows [[x8, x10, (pr.ld y11 0)]]) none (pr.natN 1))
            (pr.bin .add false (pr.ld y6 0) (pr.lit (.int Go.IntKind.i64 (1))) fun x12 =>
            (J1 0 [.d x12, .r (pr.lr y6 1), .n (pr.ln y6 5), .n (pr.ln y6 6), .d (pr.ld y6 7), .d (pr.ld y6 8), .d (pr.ld y6 9)]))
            (pr.fits 24 (pr.len (pr.seg (pr.rows [[x8, x10, (pr.ld y11 0)]]) none (pr.natN 1)))
            (pr.bin .add false (pr.ld y6 0) (pr.lit (.int Go.IntKind.i64 (1))) fun x12 =>
            (J1 1 [.d x12, .r (pr.seg (pr.rows [[x8, x10, (pr.ld y11 0)]]) none (pr.natN 1)), .r (pr.lr y6 1), .n (pr.ln y6 5), .n (pr.ln y6 6), .n (pr.len (pr.seg (pr.rows [[x8, x10, (pr.ld y11 0)]]) none (pr.natN 1))), .n (pr.len (pr.seg (pr.rows [[x8, x10, (pr.ld y11 0)]]) none (pr.natN 1))), .d (pr.ld y6 7), .d (pr.ld y6 8), .d (pr.ld y6 9)])))))]))]))])])
      (pr.out 0 [.r (pr.lr y1 1), .n (pr.ln y1 2), .n (pr.ln y1 3), .d (pr.ld y1 4), .d (pr.ld y1 5), .d (pr.ld y1 6)])))))
    (pr.bin .eql false (pr.ld y1 0) (pr.lit (.int Go.IntKind.i64 (0))) fun x4 =>
    (pr.cond x4
     (pr.bnd (pr.lenD (pr.ld y1 5) fun x5 =>
     (pr.bin .lss false (pr.ld y1 0) x5 fun x6 =>
      (pr.cond x6
       (pr.rowD 3 (pr.ld y1 5) (pr.ld y1 0) fun w7 =>
       (pr.out 0 [.d (pr.ld y1 0), .r (pr.lr y1 1), .d (pr.cell w7 0), .d (pr.cell w7 1), .d (pr.cell w7 2), .n (pr.ln y1 2), .n (pr.ln y1 3), .d (pr.ld y1 4), .d (pr.ld y1 5), .d (pr.ld y1 6)]))
       (pr.out 0 [.d (pr.ld y1 0), .r (pr.lr y1 1), .d (pr.lit (.int Go.IntKind.i64 (0))), .d (pr.lit (.int Go.IntKind.i64 (0))), .d (pr.lit (.int Go.IntKind.i64 (0))), .n (pr.ln y1 2), .n (pr.ln y1 3), .d (pr.ld y1 4), .d (pr.ld y1 5), .d (pr.ld y1 6)])))) [fun y5 => (pr.bnd (pr.call 26 [(pr.ld y5 2), (pr.natD (pr.ln y5 5))]) [fun y6 => (pr.bin .add false (pr.lit (.int Go.IntKind.i64 (1))) (pr.ld y6 0) fun x7 =>
       (pr.bnd (pr.call 26 [(pr.ld y5 3), (pr.lit (.int Go.IntKind.i64 (9)))]) [fun y8 => (pr.bin .add false (pr.lit (.int Go.IntKind.i64 (1))) (pr.ld y8 0) fun x9 =>
         (pr.bnd (pr.call 26 [(pr.ld y5 4), (pr.lit (.int Go.IntKind.i64 (12)))]) [fun y10 => (pr.eqN (pr.natN 1) (pr.len (pr.rows [[x7, x9, (pr.ld y10 0)]])) (pr.isNil (pr.seg (pr.rows [[x7, x9, (pr.ld y10 0)]]) none (pr.natN 1))
           (pr.bin .add false (pr.ld y5 0) (pr.lit (.int Go.IntKind.i64 (1))) fun x11 =>
           (J1 0 [.d x11, .r (pr.lr y5 1), .n (pr.ln y5 5), .n (pr.ln y5 6), .d (pr.ld y5 7), .d (pr.ld y5 8), .d (pr.ld y5 9)]))
           (pr.fits 24 (pr.len (pr.seg (pr.rows [[x7, x9, (pr.ld y10 0)]]) none (pr.natN 1)))
           (pr.bin .add false (pr.ld y5 0) (pr.lit (.int Go.IntKind.i64 (1))) fun x11 =>
           (J1 1 [.d x11, .r (pr.seg (pr.rows [[x7, x9, (pr.ld y10 0)]]) none (pr.natN 1)), .r (pr.lr y5 1), .n (pr.ln y5 5), .n (pr.ln y5 6), .n (pr.len (pr.seg (pr.rows [[x7, x9, (pr.ld y10 0)]]) none (pr.natN 1))), .n (pr.len (pr.seg (pr.rows [[x7, x9, (pr.ld y10 0)]]) none (pr.natN 1))), .d (pr.ld y5 7), .d (pr.ld y5 8), .d (pr.ld y5 9)])))))]))]))])])
     (pr.out 0 [.r (pr.lr y1 1), .n (pr.ln y1 2), .n (pr.ln y1 3), .d (pr.ld y1 4), .d (pr.ld y1 5), .d (pr.ld y1 6)]))))))
def L25_9  : (Nat → List (Y Δ N R M) → Ω) → E → Ω := fun J1 y1 =>
 (pr.lenD (pr.ld y1 8) fun x2 =>
  (pr.bin .lss false (pr.ld y1 0) x2 fun x3 =>
   (pr.cond x3
    (pr.bin .lss false (pr.ld y1 0) (pr.lit (.int Go.IntKind.i64 (10))) fun x4 =>
    (pr.cond x4
     (pr.bnd (pr.lenD (pr.ld y1 8) fun x5 =>
     (pr.bin .lss false (pr.ld y1 0) x5 fun x6 =>
      (pr.cond x6
       (pr.rowD 3 (pr.ld y1 8) (pr.ld y1 0) fun w7 =>
       (pr.out 0 [.d (pr.ld y1 0), .r (pr.lr y1 1), .r (pr.lr y1 2), .d (pr.cell w7 0), .d (pr.cell w7 1), .d (pr.cell w7 2), .n (pr.ln y1 3), .n (pr.ln y1 4), .n (pr.ln y1 5), .n (pr.ln y1 6), .d (pr.ld y1 7), .d (pr.ld y1 8), .d (pr.ld y1 9)]))
       (pr.out 0 [.d (pr.ld y1 0), .r (pr.lr y1 1), .r (pr.lr y1 2), .d (pr.lit (.int Go.IntKind.i64 (0))), .d (pr.lit (.int Go.IntKind.i64 (0))), .d (pr.lit (.int Go.IntKind.i64 (0))), .n (pr.ln y1 3), .n (pr.ln y1 4), .n (pr.ln y1 5), .n (pr.ln y1 6), .d (pr.ld y1 7), .d (pr.ld y1 8), .d (pr.ld y1 9)])))) [fun y5 => (pr.bnd (pr.call 26 [(pr.ld y5 3), (pr.natD (pr.ln y5 6))]) [fun y6 => (pr.bin .add false (pr.lit (.int Go.IntKind.i64 (1))) (pr.ld y6 0) fun x7 =>
       (pr.bnd (pr.call 26 [(pr.ld y5 4), (pr.lit (.int Go.IntKind.i64 (9)))]) [fun y8 => (pr.bin .add false (pr.lit (.int Go.IntKind.i64 (1))) (pr.ld y8 0) fun x9 =>
         (pr.bnd (pr.call 26 [(pr.ld y5 5), (pr.lit (.int Go.IntKind.i64 (12)))]) [fun y10 => (pr.eqN (pr.natN 1) (pr.len (pr.rows [[x7, x9, (pr.ld y10 0)]])) (pr.eqN (pr.ln y5 9) (pr.len (pr.lr y5 1)) (pr.eqN (pr.ln y5 8) (pr.len (pr.lr y5 1)) (pr.fits 24 (pr.addN (pr.ln y5 8) (pr.len (pr.seg (pr.rows [[x7, x9, (pr.ld y10 0)]]) none (pr.natN 1))))
           (pr.bin .add false (pr.ld y5 0) (pr.lit (.int Go.IntKind.i64 (1))) fun x11 =>
           (J1 1 [.d x11, .r (pr.app (pr.lr y5 1) (pr.seg (pr.rows [[x7, x9, (pr.ld y10 0)]]) none (pr.natN 1))), .r (pr.lr y5 2), .n (pr.ln y5 6), .n (pr.ln y5 7), .n (pr.addN (pr.ln y5 8) (pr.len (pr.seg (pr.rows [[x7, x9, (pr.ld y10 0)]]) none (pr.natN 1)))), .n (pr.addN (pr.ln y5 8) (pr.len (pr.seg (pr.rows [[x7, x9, (pr.ld y10 0)]]) none (pr.natN 1)))), .d (pr.ld y5 10), .d (pr.ld y5 11), .d (pr.ld y5 12)]))))))]))]))])])
     (pr.bin .eql false (pr.ld y1 0) (pr.lit (.int Go.IntKind.i64 (0))) fun x5 =>
     (pr.cond x5
      (pr.bnd (pr.lenD (pr.ld y1 8) fun x6 =>
      (pr.bin .lss false (pr.ld y1 0) x6 fun x7 =>
       (pr.cond x7
        (pr.rowD 3 (pr.ld y1 8) (pr.ld y1 0) fun w8 =>
        (pr.out 0 [.d (pr.ld y1 0), .r (pr.lr y1 1), .r (pr.lr y1 2), .d (pr.cell w8 0), .d (pr.cell w8 1), .d (pr.cell w8 2), .n (pr.ln y1 3), .n (pr.ln y1 4), .n (pr.ln y1 5), .n (pr.ln y1 6), .d (pr.ld y1 7), .d (pr.ld y1 8), .d (pr.ld y1 9)]))
        (pr.out 0 [.d (pr.ld y1 0), .r (pr.lr y1 1), .r (pr.lr y1 2), .d (pr.lit (.int Go.IntKind.i64 (0))), .d (pr.lit (.int Go.IntKind.i64 (0))), .d (pr.lit (.int Go.IntKind.i64 (0))), .n (pr.ln y1 3), .n (pr.ln y1 4), .n (pr.ln y1 5), .n (pr.ln y1 6), .d (pr.ld y1 7), .d (pr.ld y1 8), .d (pr.ld y1 9)])))) [fun y6 => (pr.bnd (pr.call 26 [(pr.ld y6 3), (pr.natD (pr.ln y6 6))]) [fun y7 => (pr.bin .add false (pr.lit (.int Go.IntKind.i64 (1))) (pr.ld y7 0) fun x8 =>
        (pr.bnd (pr.call 26 [(pr.ld y6 4), (pr.lit (.int Go.IntKind.i64 (9)))]) [fun y9 => (pr.bin .add false (pr.lit (.int Go.IntKind.i64 (1))) (pr.ld y9 0) fun x10 =>
          (pr.bnd (pr.call 26 [(pr.ld y6 5), (pr.lit (.int Go.IntKind.i64 (12)))]) [fun y11 => (pr.eqN (pr.natN 1) (pr.len (pr.rows [[x8, x10, (pr.ld y11 0)]])) (pr.eqN (pr.ln y6 9) (pr.len (pr.lr y6 1)) (pr.eqN (pr.ln y6 8) (pr.len (pr.lr y6 1)) (pr.fits 24 (pr.addN (pr.ln y6 8) (pr.len (pr.seg (pr.rows [[x8, x10, (pr.ld y11 0)]]) none (pr.natN 1))))
            (pr.bin .add false (pr.ld y6 0) (pr.lit (.int Go.IntKind.i64 (1))) fun x12 =>
            (J1 1 [.d x12, .r (pr.app (pr.lr y6 1) (pr.seg (pr.rows [[x8, x10, (pr.ld y11 0)]]) none (pr.natN 1))), .r (pr.lr y6 2), .n (pr.ln y6 6), .n (pr.ln y6 7), .n (pr.addN (pr.ln y6 8) (pr.len (pr.seg (pr.rows [[x8, x10, (pr.ld y11 0)]]) none (pr.natN 1)))), .n (pr.addN (pr.ln y6 8) (pr.len (pr.seg (pr.rows [[x8, x10, (pr.ld y11 0)]]) none (pr.natN 1)))), .d (pr.ld y6 10), .d (pr.ld y6 11), .d (pr.ld y6 12)]))))))]))]))])])
      (pr.out 1 [.r (pr.lr y1 1), .r (pr.lr y1 2), .n (pr.ln y1 3), .n (pr.ln y1 4), .n (pr.ln y1 5), .n (pr.ln y1 6), .d (pr.ld y1 7), .d (pr.ld y1 8), .d (pr.ld y1 9)])))))
    (pr.bin .eql false (pr.ld y1 0) (pr.lit (.int Go.IntKind.i64 (0))) fun x4 =>
    (pr.cond x4
     (pr.bnd (pr.lenD (pr.ld y1 8) fun x5 =>
     (pr.bin .lss false (pr.ld y1 0) x5 fun x6 =>
      (pr.cond x6
       (pr.rowD 3 (pr.ld y1 8) (pr.ld y1 0) fun w7 =>
       (pr.out 0 [.d (pr.ld y1 0), .r (pr.lr y1 1), .r (pr.lr y1 2), .d (pr.cell w7 0), .d (pr.cell w7 1), .d (pr.cell w7 2), .n (pr.ln y1 3), .n (pr.ln y1 4), .n (pr.ln y1 5), .n (pr.ln y1 6), .d (pr.ld y1 7), .d (pr.ld y1 8), .d (pr.ld y1 9)]))
       (pr.out 0 [.d (pr.ld y1 0), .r (pr.lr y1 1), .r (pr.lr y1 2), .d (pr.lit (.int Go.IntKind.i64 (0))), .d (pr.lit (.int Go.IntKind.i64 (0))), .d (pr.lit (.int Go.IntKind.i64 (0))), .n (pr.ln y1 3), .n (pr.ln y1 4), .n (pr.ln y1 5), .n (pr.ln y1 6), .d (pr.ld y1 7), .d (pr.ld y1 8), .d (pr.ld y1 9)])))) [fun y5 => (pr.bnd (pr.call 26 [(pr.ld y5 3), (pr.natD (pr.ln y5 6))]) [fun y6 => (pr.bin .add false (pr.lit (.int Go.IntKind.i64 (1))) (pr.ld y6 0) fun x7 =>
       (pr.bnd (pr.call 26 [(pr.ld y5 4), (pr.lit (.int Go.IntKind.i64 (9)))]) [fun y8 => (pr.bin .add false (pr.lit (.int Go.IntKind.i64 (1))) (pr.ld y8 0) fun x9 =>
         (pr.bnd (pr.call 26 [(pr.ld y5 5), (pr.lit (.int Go.IntKind.i64 (12)))]) [fun y10 => (pr.eqN (pr.natN 1) (pr.len (pr.rows [[x7, x9, (pr.ld y10 0)]])) (pr.eqN (pr.ln y5 9) (pr.len (pr.lr y5 1)) (pr.eqN (pr.ln y5 8) (pr.len (pr.lr y5 1)) (pr.fits 24 (pr.addN (pr.ln y5 8) (pr.len (pr.seg (pr.rows [[x7, x9, (pr.ld y10 0)]]) none (pr.natN 1))))
           (pr.bin .add false (pr.ld y5 0) (pr.lit (.int Go.IntKind.i64 (1))) fun x11 =>
           (J1 1 [.d x11, .r (pr.app (pr.lr y5 1) (pr.seg (pr.rows [[x7, x9, (pr.ld y10 0)]]) none (pr.natN 1))), .r (pr.lr y5 2), .n (pr.ln y5 6), .n (pr.ln y5 7), .n (pr.addN (pr.ln y5 8) (pr.len (pr.seg (pr.rows [[x7, x9, (pr.ld y10 0)]]) none (pr.natN 1)))), .n (pr.addN (pr.ln y5 8) (pr.len (pr.seg (pr.rows [[x7, x9, (pr.ld y10 0)]]) none (pr.natN 1)))), .d (pr.ld y5 10), .d (pr.ld y5 11), .d (pr.ld y5 12)]))))))]))]))])])
     (pr.out 1 [.r (pr.lr y1 1), .r (pr.lr y1 2), .n (pr.ln y1 3), .n (pr.ln y1 4), .n (pr.ln y1 5), .n (pr.ln y1 6), .d (pr.ld y1 7), .d (pr.ld y1 8), .d (pr.ld y1 9)]))))))
def L25_10  : (Nat → List (Y Δ N R M) → Ω) → E → Ω := fun J2 y2 =>
 (pr.lenD (pr.ld y2 6) fun x3 =>
   (pr.bin .lss false (pr.ld y2 0) x3 fun x4 =>
    (pr.cond x4
     (pr.bin .lss false (pr.ld y2 0) (pr.lit (.int Go.IntKind.i64 (6))) fun x5 =>
     (pr.cond x5
      (pr.bnd (pr.lenD (pr.ld y2 6) fun x6 =>
      (pr.bin .lss false (pr.ld y2 0) x6 fun x7 =>
       (pr.cond x7
        (pr.rowD 3 (pr.ld y2 6) (pr.ld y2 0) fun w8 =>
        (pr.out 0 [.d (pr.ld y2 0), .r (pr.lr y2 1), .d (pr.cell w8 0), .d (pr.cell w8 1), .d (pr.cell w8 2), .n (pr.ln y2 2), .n (pr.ln y2 3), .d (pr.ld y2 4), .d (pr.ld y2 5), .d (pr.ld y2 6)]))
        (pr.out 0 [.d (pr.ld y2 0), .r (pr.lr y2 1), .d (pr.lit (.int Go.IntKind.i64 (0))), .d (pr.lit (.int Go.IntKind.i64 (0))), .d (pr.lit (.int Go.IntKind.i64 (0))), .n (pr.ln y2 2), .n (pr.ln y2 3), .d (pr.ld y2 4), .d (pr.ld y2 5), .d (pr.ld y2 6)])))) [fun y6 => (pr.bin .mul false (pr.lit (.int Go.IntKind.i64 (2))) (pr.ld y6 0) fun x7 =>
       (pr.bin .add false (pr.lit (.int Go.IntKind.i64 (3))) x7 fun x8 =>
        (pr.bnd (pr.call 26 [(pr.ld y6 2), (pr.lit (.int Go.IntKind.i64 (4)))]) [fun y9 => (pr.bin .add false (pr.lit (.int Go.IntKind.i64 (1))) (pr.ld y9 0) fun x10 =>
          (pr.bnd (pr.call 26 [(pr.ld y6 3), (pr.lit (.int Go.IntKind.i64 (0)))]) [fun y11 => (pr.bin .sub false (pr.lit (.int Go.IntKind.i64 (0))) (pr.ld y11 0) fun x12 =>
            (pr.bnd (pr.call 26 [(pr.ld y6 4), x12]) [fun y13 => (pr.bin .add false (pr.ld y11 0) (pr.ld y13 0) fun x14 =>
              (pr.eqN (pr.natN 1) (pr.len (pr.rows [[x8, x10, (pr.ld y11 0), x14]])) (pr.isNil (pr.seg (pr.rows [[x8, x10, (pr.ld y11 0), x14]]) none (pr.natN 1))
               (pr.bin .add false (pr.ld y6 0) (pr.lit (.int Go.IntKind.i64 (1))) fun x15 =>
               (J2 0 [.d x15, .r (pr.lr y6 1), .n (pr.ln y6 5), .n (pr.ln y6 6), .d (pr.ld y6 7), .d (pr.ld y6 8), .d (pr.ld y6 9)]))
               (pr.fits 32 (pr.len (pr.seg (pr.rows [[x8, x10, (pr.ld y11 0), x14]]) none (pr.natN 1)))
               (pr.bin .add false (pr.ld y6 0) (pr.lit (.int Go.IntKind.i64 (1))) fun x15 =>
               (J2 1 [.n (pr.len (pr.seg (pr.rows [[x8, x10, (pr.ld y11 0), x14]]) none (pr.natN 1))), .n (pr.len (pr.seg (pr.rows [[x8, x10, (pr.ld y11 0), x14]]) none (pr.natN 1))), .d x15, .r (pr.lr y6 1), .r (pr.seg (pr.rows [[x8, x10, (pr.ld y11 0), x14]]) none (pr.natN 1)), .n (pr.ln y6 5), .n (pr.ln y6 6), .d (pr.ld y6 7), .d (pr.ld y6 8), .d (pr.ld y6 9)]))))))]))]))])))])
      (pr.bin .eql false (pr.ld y2 0) (pr.lit (.int Go.IntKind.i64 (0))) fun x6 =>
      (pr.cond x6
       (pr.bnd (pr.lenD (pr.ld y2 6) fun x7 =>
       (pr.bin .lss false (pr.ld y2 0) x7 fun x8 =>
        (pr.cond x8
         (pr.rowD 3 (pr.ld y2 6) (pr.ld y2 0) fun w9 =>
         (pr.out 0 [.d (pr.ld y2 0), .r (pr.lr y2 1), .d (pr.cell w9 0), .d (pr.cell w9 1), .d (pr.cell w9 2), .n (pr.ln y2 2), .n (pr.ln y2 3), .d (pr.ld y2 4), .d (pr.ld y2 5), .d (pr.ld y2 6)]))
         (pr.out 0 [.d (pr.ld y2 0), .r (pr.lr y2 1), .d (pr.lit (.int Go.IntKind.i64 (0))), .d (pr.lit (.int Go.IntKind.i64 (0))), .d (pr.lit (.int Go.IntKind.i64 (0))), .n (pr.ln y2 2), .n (pr.ln y2 3), .d (pr.ld y2 4), .d (pr.ld y2 5), .d (pr.ld y2 6)])))) [fun y7 => (pr.bin .mul false (pr.lit (.int Go.IntKind.i64 (2))) (pr.ld y7 0) fun x8 =>
        (pr.bin .add false (pr.lit (.int Go.IntKind.i64 (3))) x8 fun x9 =>
         (pr.bnd (pr.call 26 [(pr.ld y7 2), (pr.lit (.int Go.IntKind.i64 (4)))]) [fun y10 => (pr.bin .add false (pr.lit (.int Go.IntKind.i64 (1))) (pr.ld y10 0) fun x11 =>
           (pr.bnd (pr.call 26 [(pr.ld y7 3), (pr.lit (.int Go.IntKind.i64 (0)))]) [fun y12 => (pr.bin .sub false (pr.lit (.int Go.IntKind.i64 (0))) (pr.ld y12 0) fun x13 =>
             (pr.bnd (pr.call 26 [(pr.ld y7 4), x13]) [fun y14 => (pr.bin .add false (pr.ld y12 0) (pr.ld y14 0) fun x15 =>
               (pr.eqN (pr.natN 1) (pr.len (pr.rows [[x9, x11, (pr.ld y12 0), x15]])) (pr.isNil (pr.seg (pr.rows [[x9, x11, (pr.ld y12 0), x15]]) none (pr.natN 1))
                (pr.bin .add false (pr.ld y7 0) (pr.lit (.int Go.IntKind.i64 (1))) fun x16 =>
                (J2 0 [.d x16, .r (pr.lr y7 1), .n (pr.ln y7 5), .n (pr.ln y7 6), .d (pr.ld y7 7), .d (pr.ld y7 8), .d (pr.ld y7 9)]))
                (pr.fits 32 (pr.len (pr.seg (pr.rows [[x9, x11, (pr.ld y12 0), x15]]) none (pr.natN 1)))
                (pr.bin .add false (pr.ld y7 0) (pr.lit (.int Go.IntKind.i64 (1))) fun x16 =>
                (J2 1 [.n (pr.len (pr.seg (pr.rows [[x9, x11, (pr.ld y12 0), x15]]) none (pr.natN 1))), .n (pr.len (pr.seg (pr.rows [[x9, x11, (pr.ld y12 0), x15]]) none (pr.natN 1))), .d x16, .r (pr.lr y7 1), .r (pr.seg (pr.rows [[x9, x11, (pr.ld y12 0), x15]]) none (pr.natN 1)), .n (pr.ln y7 5), .n (pr.ln y7 6), .d (pr.ld y7 7), .d (pr.ld y7 8), .d (pr.ld y7 9)]))))))]))]))])))])
       (pr.out 0 [.r (pr.lr y2 1), .n (pr.ln y2 2), .n (pr.ln y2 3)])))))
     (pr.bin .eql false (pr.ld y2 0) (pr.lit (.int Go.IntKind.i64 (0))) fun x5 =>
     (pr.cond x5
      (pr.bnd (pr.lenD (pr.ld y2 6) fun x6 =>
      (pr.bin .lss false (pr.ld y2 0) x6 fun x7 =>
       (pr.cond x7
        (pr.rowD 3 (pr.ld y2 6) (pr.ld y2 0) fun w8 =>
        (pr.out 0 [.d (pr.ld y2 0), .r (pr.lr y2 1), .d (pr.cell w8 0), .d (pr.cell w8 1), .d (pr.cell w8 2), .n (pr.ln y2 2), .n (pr.ln y2 3), .d (pr.ld y2 4), .d (pr.ld y2 5), .d (pr.ld y2 6)]))
        (pr.out 0 [.d (pr.ld y2 0), .r (pr.lr y2 1), .d (pr.lit (.int Go.IntKind.i64 (0))), .d (pr.lit (.int Go.IntKind.i64 (0))), .d (pr.lit (.int Go.IntKind.i64 (0))), .n (pr.ln y2 2), .n (pr.ln y2 3), .d (pr.ld y2 4), .d (pr.ld y2 5), .d (pr.ld y2 6)])))) [fun y6 => (pr.bin .mul false (pr.lit (.int Go.IntKind.i64 (2))) (pr.ld y6 0) fun x7 =>
       (pr.bin .add false (pr.lit (.int Go.IntKind.i64 (3))) x7 fun x8 =>
        (pr.bnd (pr.call 26 [(pr.ld y6 2), (pr.lit (.int Go.IntKind.i64 (4)))]) [fun y9 => (pr.bin .add false (pr.lit (.int Go.IntKind.i64 (1))) (pr.ld y9 0) fun x10 =>
          (pr.bnd (pr.call 26 [(pr.ld y6 3), (pr.lit (.int Go.IntKind.i64 (0)))]) [fun y11 => (pr.bin .sub false (pr.lit (.int Go.IntKind.i64 (0))) (pr.ld y11 0) fun x12 =>
            (pr.bnd (pr.call 26 [(pr.ld y6 4), x12]) [fun y13 => (pr.bin .add false (pr.ld y11 0) (pr.ld y13 0) fun x14 =>
              (pr.eqN (pr.natN 1) (pr.len (pr.rows [[x8, x10, (pr.ld y11 0), x14]])) (pr.isNil (pr.seg (pr.rows [[x8, x10, (pr.ld y11 0), x14]]) none (pr.natN 1))
               (pr.bin .add false (pr.ld y6 0) (pr.lit (.int Go.IntKind.i64 (1))) fun x15 =>
               (J2 0 [.d x15, .r (pr.lr y6 1), .n (pr.ln y6 5), .n (pr.ln y6 6), .d (pr.ld y6 7), .d (pr.ld y6 8), .d (pr.ld y6 9)]))
               (pr.fits 32 (pr.len (pr.seg (pr.rows [[x8, x10, (pr.ld y11 0), x14]]) none (pr.natN 1)))
               (pr.bin .add false (pr.ld y6 0) (pr.lit (.int Go.IntKind.i64 (1))) fun x15 =>
               (J2 1 [.n (pr.len (pr.seg (pr.rows [[x8, x10, (pr.ld y11 0), x14]]) none (pr.natN 1))), .n (pr.len (pr.seg (pr.rows [[x8, x10, (pr.ld y11 0), x14]]) none (pr.natN 1))), .d x15, .r (pr.lr y6 1), .r (pr.seg (pr.rows [[x8, x10, (pr.ld y11 0), x14]]) none (pr.natN 1)), .n (pr.ln y6 5), .n (pr.ln y6 6), .d (pr.ld y6 7), .d (pr.ld y6 8), .d (pr.ld y6 9)]))))))]))]))])))])
      (pr.out 0 [.r (pr.lr y2 1), .n (pr.ln y2 2), .n (pr.ln y2 3)]))))))
def L25_11  : (Nat → List (Y Δ N R M) → Ω) → E → Ω := fun J2 y2 =>
 (pr.lenD (pr.ld y2 9) fun x3 =>
   (pr.bin .lss false (pr.ld y2 2) x3 fun x4 =>
    (pr.cond x4
     (pr.bin .lss false (pr.ld y2 2) (pr.lit (.int Go.IntKind.i64 (6))) fun x5 =>
     (pr.cond x5
      (pr.bnd (pr.lenD (pr.ld y2 9) fun x6 =>
      (pr.bin .lss false (pr.ld y2 2) x6 fun x7 =>
       (pr.cond x7
        (pr.rowD 3 (pr.ld y2 9) (pr.ld y2 2) fun w8 =>
        (pr.out 0 [.n (pr.ln y2 0), .n (pr.ln y2 1), .d (pr.ld y2 2), .r (pr.lr y2 3), .d (pr.cell w8 0), .d (pr.cell w8 1), .d (pr.cell w8 2), .r (pr.lr y2 4), .n (pr.ln y2 5), .n (pr.ln y2 6), .d (pr.ld y2 7), .d (pr.ld y2 8), .d (pr.ld y2 9)]))
        (pr.out 0 [.n (pr.ln y2 0), .n (pr.ln y2 1), .d (pr.ld y2 2), .r (pr.lr y2 3), .d (pr.lit (.int Go.IntKind.i64 (0))), .d (pr.lit (.int Go.IntKind.i64 (0))), .d (pr.lit (.int Go.IntKind.i64 (0))), .r (pr.lr y2 4), .n (pr.ln y2 5), .n (pr.ln y2 6), .d (pr.ld y2 7), .d (pr.ld y2 8), .d (pr.ld y2 9)])))) [fun y6 => (pr.bin .mul false (pr.lit (.int Go.IntKind.i64 (2))) (pr.ld y6 2) fun x7 =>
       (pr.bin .add false (pr.lit (.int Go.IntKind.i64 (3))) x7 fun x8 =>
        (pr.bnd (pr.call 26 [(pr.ld y6 4), (pr.lit (.int Go.IntKind.i64 (4)))]) [fun y9 => (pr.bin .add false (pr.lit (.int Go.IntKind.i64 (1))) (pr.ld y9 0) fun x10 =>
          (pr.bnd (pr.call 26 [(pr.ld y6 5), (pr.lit (.int Go.IntKind.i64 (0)))]) [fun y11 => (pr.bin .sub false (pr.lit (.int Go.IntKind.i64 (0))) (pr.ld y11 0) fun x12 =>
            (pr.bnd (pr.call 26 [(pr.ld y6 6), x12]) [fun y13 => (pr.bin .add false (pr.ld y11 0) (pr.ld y13 0) fun x14 =>
              (pr.eqN (pr.natN 1) (pr.len (pr.rows [[x8, x10, (pr.ld y11 0), x14]])) (pr.eqN (pr.ln y6 1) (pr.len (pr.lr y6 7)) (pr.eqN (pr.ln y6 0) (pr.len (pr.lr y6 7)) (pr.fits 32 (pr.addN (pr.ln y6 0) (pr.len (pr.seg (pr.rows [[x8, x10, (pr.ld y11 0), x14]]) none (pr.natN 1))))
               (pr.bin .add false (pr.ld y6 2) (pr.lit (.int Go.IntKind.i64 (1))) fun x15 =>
               (J2 1 [.n (pr.addN (pr.ln y6 0) (pr.len (pr.seg (pr.rows [[x8, x10, (pr.ld y11 0), x14]]) none (pr.natN 1)))), .n (pr.addN (pr.ln y6 0) (pr.len (pr.seg (pr.rows [[x8, x10, (pr.ld y11 0), x14]]) none (pr.natN 1)))), .d x15, .r (pr.lr y6 3), .r (pr.app (pr.lr y6 7) (pr.seg (pr.rows [[x8, x10, (pr.ld y11 0), x14]]) none (pr.natN 1))), .n (pr.ln y6 8), .n (pr.ln y6 9), .d (pr.ld y6 10), .d (pr.ld y6 11), .d (pr.ld y6 12)])))))))]))]))])))])
      (pr.bin .eql false (pr.ld y2 2) (pr.lit (.int Go.IntKind.i64 (0))) fun x6 =>
      (pr.cond x6
       (pr.bnd (pr.lenD (pr.ld y2 9) fun x7 =>
       (pr.bin .lss false (pr.ld y2 2) x7 fun x8 =>
        (pr.cond x8
         (pr.rowD 3 (pr.ld y2 9) (pr.ld y2 2) fun w9 =>
         (pr.out 0 [.n (pr.ln y2 0), .n (pr.ln y2 1), .d (pr.ld y2 2), .r (pr.lr y2 3), .d (pr.cell w9 0), .d (pr.cell w9 1), .d (pr.cell w9 2), .r (pr.lr y2 4), .n (pr.ln y2 5), .n (pr.ln y2 6), .d (pr.ld y2 7), .d (pr.ld y2 8), .d (pr.ld y2 9)]))
         (pr.out 0 [.n (pr.ln y2 0), .n (pr.ln y2 1), .d (pr.ld y2 2), .r (pr.lr y2 3), .d (pr.lit (.int Go.IntKind.i64 (0))), .d (pr.lit (.int Go.IntKind.i64 (0))), .d (pr.lit (.int Go.IntKind.i64 (0))), .r (pr.lr y2 4), .n (pr.ln y2 5), .n (pr.ln y2 6), .d (pr.ld y2 7), .d (pr.ld y2 8), .d (pr.ld y2 9)])))) [fun y7 => (pr.bin .mul false (pr.lit (.int Go.IntKind.i64 (2))) (pr.ld y7 2) fun x8 =>
        (pr.bin .add false (pr.lit (.int Go.IntKind.i64 (3))) x8 fun x9 =>
         (pr.bnd (pr.call 26 [(pr.ld y7 4), (pr.lit (.int Go.IntKind.i64 (4)))]) [fun y10 => (pr.bin .add false (pr.lit (.int Go.IntKind.i64 (1))) (pr.ld y10 0) fun x11 =>
           (pr.bnd (pr.call 26 [(pr.ld y7 5), (pr.lit (.int Go.IntKind.i64 (0)))]) [fun y12 => (pr.bin .sub false (pr.lit (.int Go.IntKind.i64 (0))) (pr.ld y12 0) fun x13 =>
             (pr.bnd (pr.call 26 [(pr.ld y7 6), x13]) [fun y14 => (pr.bin .add false (pr.ld y12 0) (pr.ld y14 0) fun x15 =>
               (pr.eqN (pr.natN 1) (pr.len (pr.rows [[x9, x11, (pr.ld y12 0), x15]])) (pr.eqN (pr.ln y7 1) (pr.len (pr.lr y7 7)) (pr.eqN (pr.ln y7 0) (pr.len (pr.lr y7 7)) (pr.fits 32 (pr.addN (pr.ln y7 0) (pr.len (pr.seg (pr.rows [[x9, x11, (pr.ld y12 0), x15]]) none (pr.natN 1))))
                (pr.bin .add false (pr.ld y7 2) (pr.lit (.int Go.IntKind.i64 (1))) fun x16 =>
                (J2 1 [.n (pr.addN (pr.ln y7 0) (pr.len (pr.seg (pr.rows [[x9, x11, (pr.ld y12 0), x15]]) none (pr.natN 1)))), .n (pr.addN (pr.ln y7 0) (pr.len (pr.seg (pr.rows [[x9, x11, (pr.ld y12 0), x15]]) none (pr.natN 1)))), .d x16, .r (pr.lr y7 3), .r (pr.app (pr.lr y7 7) (pr.seg (pr.rows [[x9, x11, (pr.ld y12 0), x15]]) none (pr.natN 1))), .n (pr.ln y7 8), .n (pr.ln y7 9), .d (pr.ld y7 10), .d (pr.ld y7 11), .d (pr.ld y7 12)])))))))]))]))])))])
       (pr.out 1 [.n (pr.ln y2 0), .n (pr.ln y2 1), .r (pr.lr y2 3), .r (pr.lr y2 4), .n (pr.ln y2 5), .n (pr.ln y2 6)])))))
     (pr.bin .eql false (pr.ld y2 2) (pr.lit (.int Go.IntKind.i64 (0))) fun x5 =>
     (pr.cond x5
      (pr.bnd (pr.lenD (pr.ld y2 9) fun x6 =>
      (pr.bin .lss false (pr.ld y2 2) x6 fun x7 =>
       (pr.cond x7
        (pr.rowD 3 (pr.ld y2 9) (pr.ld y2 2) fun w8 =>
        (pr.out 0 [.n (pr.ln y2 0), .n (pr.ln y2 1), .d (pr.ld y2 2), .r (pr.lr y2 3), .d (pr.cell w8 0), .d (pr.cell w8 1), .d (pr.cell w8 2), .r (pr.lr y2 4), .n (pr.ln y2 5), .n (pr.ln y2 6), .d (pr.ld y2 7), .d (pr.ld y2 8), .d (pr.ld y2 9)]))
        (pr.out 0 [.n (pr.ln y2 0), .n (pr.ln y2 1), .d (pr.ld y2 2), .r (pr.lr y2 3), .d (pr.lit (.int Go.IntKind.i64 (0))), .d (pr.lit (.int Go.IntKind.i64 (0))), .d (pr.lit (.int Go.IntKind.i64 (0))), .r (pr.lr y2 4), .n (pr.ln y2 5), .n (pr.ln y2 6), .d (pr.ld y2 7), .d (pr.ld y2 8), .d (pr.ld y2 9)])))) [fun y6 => (pr.bin .mul false (pr.lit (.int Go.IntKind.i64 (2))) (pr.ld y6 2) fun x7 =>
       (pr.bin .add false (pr.lit (.int Go.IntKind.i64 (3))) x7 fun x8 =>
        (pr.bnd (pr.call 26 [(pr.ld y6 4), (pr.lit (.int Go.IntKind.i64 (4)))]) [fun y9 => (pr.bin .add false (pr.lit (.int Go.IntKind.i64 (1))) (pr.ld y9 0) fun x10 =>
          (pr.bnd (pr.call 26 [(pr.ld y6 5), (pr.lit (.int Go.IntKind.i64 (0)))]) [fun y11 => (pr.bin .sub false (pr.lit (.int Go.IntKind.i64 (0))) (pr.ld y11 0) fun x12 =>
            (pr.bnd (pr.call 26 [(pr.ld y6 6), x12]) [fun y13 => (pr.bin .add false (pr.ld y11 0) (pr.ld y13 0) fun x14 =>
              (pr.eqN (pr.natN 1) (pr.len (pr.rows [[x8, x10, (pr.ld y11 0), x14]])) (pr.eqN (pr.ln y6 1) (pr.len (pr.lr y6 7)) (pr.eqN (pr.ln y6 0) (pr.len (pr.lr y6 7)) (pr.fits 32 (pr.addN (pr.ln y6 0) (pr.len (pr.seg (pr.rows [[x8, x10, (pr.ld y11 0), x14]]) none (pr.natN 1))))
               (pr.bin .add false (pr.ld y6 2) (pr.lit (.int Go.IntKind.i64 (1))) fun x15 =>
               (J2 1 [.n (pr.addN (pr.ln y6 0) (pr.len (pr.seg (pr.rows [[x8, x10, (pr.ld y11 0), x14]]) none (pr.natN 1)))), .n (pr.addN (pr.ln y6 0) (pr.len (pr.seg (pr.rows [[x8, x10, (pr.ld y11 0), x14]]) none (pr.natN 1)))), .d x15, .r (pr.lr y6 3), .r (pr.app (pr.lr y6 7) (pr.seg (pr.rows [[x8, x10, (pr.ld y11 0), x14]]) none (pr.natN 1))), .n (pr.ln y6 8), .n (pr.ln y6 9), .d (pr.ld y6 10), .d (pr.ld y6 11), .d (pr.ld y6 12)])))))))]))]))])))])
      (pr.out 1 [.n (pr.ln y2 0), .n (pr.ln y2 1), .r (pr.lr y2 3), .r (pr.lr y2 4), .n (pr.ln y2 5), .n (pr.ln y2 6)]))))))
def L25_12  : (Nat → List (Y Δ N R M) → Ω) → E → Ω := fun J2 y2 =>
 (pr.lenD (pr.ld y2 9) fun x3 =>
   (pr.bin .lss false (pr.ld y2 0) x3 fun x4 =>
    (pr.cond x4
     (pr.bin .lss false (pr.ld y2 0) (pr.lit (.int Go.IntKind.i64 (6))) fun x5 =>
     (pr.cond x5
      (pr.bnd (pr.lenD (pr.ld y2 9) fun x6 =>
      (pr.bin .lss false (pr.ld y2 0) x6 fun x7 =>
       (pr.cond x7
        (pr.rowD 3 (pr.ld y2 9) (pr.ld y2 0) fun w8 =>
        (pr.out 0 [.d (pr.ld y2 0), .r (pr.lr y2 1), .r (pr.lr y2 2), .d (pr.cell w8 0), .d (pr.cell w8 1), .d (pr.cell w8 2), .n (pr.ln y2 3), .n (pr.ln y2 4), .n (pr.ln y2 5), .n (pr.ln y2 6), .d (pr.ld y2 7), .d (pr.ld y2 8), .d (pr.ld y2 9)]))
        (pr.out 0 [.d (pr.ld y2 0), .r (pr.lr y2 1), .r (pr.lr y2 2), .d (pr.lit (.int Go.IntKind.i64 (0))), .d (pr.lit (.int Go.IntKind.i64 (0))), .d (pr.lit (.int Go.IntKind.i64 (0))), .n (pr.ln y2 3), .n (pr.ln y2 4), .n (pr.ln y2 5), .n (pr.ln y2 6), .d (pr.ld y2 7), .d (pr.ld y2 8), .d (pr.ld y2 9)])))) [fun y6 => (pr.bin .mul false (pr.lit (.int Go.IntKind.i64 (2))) (pr.ld y6 0) fun x7 =>
       (pr.bin .add false (pr.lit (.int Go.IntKind.i64 (3))) x7 fun x8 =>
        (pr.bnd (pr.call 26 [(pr.ld y6 3), (pr.lit (.int Go.IntKind.i64 (4)))]) [fun y9 => (pr.bin .add false (pr.lit (.int Go.IntKind.i64 (1))) (pr.ld y9 0) fun x10 =>
          (pr.bnd (pr.call 26 [(pr.ld y6 4), (pr.natD (pr.ln y6 8))]) [fun y11 => (pr.bin .sub false (pr.natD (pr.ln y6 8)) (pr.ld y11 0) fun x12 =>
            (pr.bnd (pr.call 26 [(pr.ld y6 5), x12]) [fun y13 => (pr.bin .add false (pr.ld y11 0) (pr.ld y13 0) fun x14 =>
              (pr.eqN (pr.natN 1) (pr.len (pr.rows [[x8, x10, (pr.ld y11 0), x14]])) (pr.isNil (pr.seg (pr.rows [[x8, x10, (pr.ld y11 0), x14]]) none (pr.natN 1))
               (pr.bin .add false (pr.ld y6 0) (pr.lit (.int Go.IntKind.i64 (1))) fun x15 =>
               (J2 0 [.d x15, .r (pr.lr y6 1), .r (pr.lr y6 2), .n (pr.ln y6 6), .n (pr.ln y6 7), .n (pr.ln y6 8), .n (pr.ln y6 9), .d (pr.ld y6 10), .d (pr.ld y6 11), .d (pr.ld y6 12)]))
               (pr.fits 32 (pr.len (pr.seg (pr.rows [[x8, x10, (pr.ld y11 0), x14]]) none (pr.natN 1)))
               (pr.bin .add false (pr.ld y6 0) (pr.lit (.int Go.IntKind.i64 (1))) fun x15 =>
               (J2 1 [.n (pr.len (pr.seg (pr.rows [[x8, x10, (pr.ld y11 0), x14]]) none (pr.natN 1))), .n (pr.len (pr.seg (pr.rows [[x8, x10, (pr.ld y11 0), x14]]) none (pr.natN 1))), .d x15, .r (pr.lr y6 1), .r (pr.lr y6 2), .r (pr.seg (pr.rows [[x8, x10, (pr.ld y11 0), x14]]) none (pr.natN 1)), .n (pr.ln y6 6), .n (pr.ln y6 7), .n (pr.ln y6 8), .n (pr.ln y6 9), .d (pr.ld y6 10), .d (pr.ld y6 11), .d (pr.ld y6 12)]))))))]))]))])))])
      (pr.bin .eql false (pr.ld y2 0) (pr.lit (.int Go.IntKind.i64 (0))) fun x6 =>
      (pr.cond x6
       (pr.bnd (pr.lenD (pr.ld y2 9) fun x7 =>
       (pr.bin .lss false (pr.ld y2 0) x7 fun x8 =>
        (pr.cond x8
         (pr.rowD 3 (pr.ld y2 9) (pr.ld y2 0) fun w9 =>
         (pr.out 0 [.d (pr.ld y2 0), .r (pr.lr y2 1), .r (pr.lr y2 2), .d (pr.cell w9 0), .d (pr.cell w9 1), .d (pr.cell w9 2), .n (pr.ln y2 3), .n (pr.ln y2 4), .n (pr.ln y2 5), .n (pr.ln y2 6), .d (pr.ld y2 7), .d (pr.ld y2 8), .d (pr.ld y2 9)]))
         (pr.out 0 [.d (pr.ld y2 0), .r (pr.lr y2 1), .r (pr.lr y2 2), .d (pr.lit (.int Go.IntKind.i64 (0))), .d (pr.lit (.int Go.IntKind.i64 (0))), .d (pr.lit (.int Go.IntKind.i64 (0))), .n (pr.ln y2 3), .n (pr.ln y2 4), .n (pr.ln y2 5), .n (pr.ln y2 6), .d (pr.ld y2 7), .d (pr.ld y2 8), .d (pr.ld y2 9)])))) [fun y7 => (pr.bin .mul false (pr.lit (.int Go.IntKind.i64 (2))) (pr.ld y7 0) fun x8 =>
        (pr.bin .add false (pr.lit (.int Go.IntKind.i64 (3))) x8 fun x9 =>
         (pr.bnd (pr.call 26 [(pr.ld y7 3), (pr.lit (.int Go.IntKind.i64 (4)))]) [fun y10 => (pr.bin .add false (pr.lit (.int Go.IntKind.i64 (1))) (pr.ld y10 0) fun x11 =>
           (pr.bnd (pr.call 26 [(pr.ld y7 4), (pr.natD (pr.ln y7 8))]) [fun y12 => (pr.bin .sub false (pr.natD (pr.ln y7 8)) (pr.ld y12 0) fun x13 =>
             (pr.bnd (pr.call 26 [(pr.ld y7 5), x13]) [fun y14 => (pr.bin .add false (pr.ld y12 0) (pr.ld y14 0) fun x15 =>
               (pr.eqN (pr.natN 1) (pr.len (pr.rows [[x9, x11, (pr.ld y12 0), x15]])) (pr.isNil (pr.seg (pr.rows [[x9, x11, (pr.ld y12 0), x15]]) none (pr.natN 1))
                (pr.bin .add false (pr.ld y7 0) (pr.lit (.int Go.IntKind.i64 (1))) fun x16 =>
                (J2 0 [.d x16, .r (pr.lr y7 1), .r (pr.lr y7 2), .n (pr.ln y7 6), .n (pr.ln y7 7), .n (pr.ln y7 8), .n (pr.ln y7 9), .d (pr.ld y7 10), .d (pr.ld y7 11), .d (pr.ld y7 12)]))
                (pr.fits 32 (pr.len (pr.seg (pr.rows [[x9, x11, (pr.ld y12 0), x15]]) none (pr.natN 1)))
                (pr.bin .add false (pr.ld y7 0) (pr.lit (.int Go.IntKind.i64 (1))) fun x16 =>
                (J2 1 [.n (pr.len (pr.seg (pr.rows [[x9, x11, (pr.ld y12 0), x15]]) none (pr.natN 1))), .n (pr.len (pr.seg (pr.rows [[x9, x11, (pr.ld y12 0), x15]]) none (pr.natN 1))), .d x16, .r (pr.lr y7 1), .r (pr.lr y7 2), .r (pr.seg (pr.rows [[x9, x11, (pr.ld y12 0), x15]]) none (pr.natN 1)), .n (pr.ln y7 6), .n (pr.ln y7 7), .n (pr.ln y7 8), .n (pr.ln y7 9), .d (pr.ld y7 10), .d (pr.ld y7 11), .d (pr.ld y7 12)]))))))]))]))])))])
       (pr.out 0 [.r (pr.lr y2 1), .r (pr.lr y2 2), .n (pr.ln y2 3), .n (pr.ln y2 4), .n (pr.ln y2 5), .n (pr.ln y2 6)])))))
     (pr.bin .eql false (pr.ld y2 0) (pr.lit (.int Go.IntKind.i64 (0))) fun x5 =>
     (pr.cond x5
      (pr.bnd (pr.lenD (pr.ld y2 9) fun x6 =>
      (pr.bin .lss false (pr.ld y2 0) x6 fun x7 =>
       (pr.cond x7
        (pr.rowD 3 (pr.ld y2 9) (pr.ld y2 0) fun w8 =>
        (pr.out 0 [.d (pr.ld y2 0), .r (pr.lr y2 1), .r (pr.lr y2 2), .d (pr.cell w8 0), .d (pr.cell w8 1), .d (pr.cell w8 2), .n (pr.ln y2 3), .n (pr.ln y2 4), .n (pr.ln y2 5), .n (pr.ln y2 6), .d (pr.ld y2 7), .d (pr.ld y2 8), .d (pr.ld y2 9)]))
        (pr.out 0 [.d (pr.ld y2 0), .r (pr.lr y2 1), .r (pr.lr y2 2), .d (pr.lit (.int Go.IntKind.i64 (0))), .d (pr.lit (.int Go.IntKind.i64 (0))), .d (pr.lit (.int Go.IntKind.i64 (0))), .n (pr.ln y2 3), .n (pr.ln y2 4), .n (pr.ln y2 5), .n (pr.ln y2 6), .d (pr.ld y2 7), .d (pr.ld y2 8), .d (pr.ld y2 9)])))) [fun y6 => (pr.bin .mul false (pr.lit (.int Go.IntKind.i64 (2))) (pr.ld y6 0) fun x7 =>
       (pr.bin .add false (pr.lit (.int Go.IntKind.i64 (3))) x7 fun x8 =>
        (pr.bnd (pr.call 26 [(pr.ld y6 3), (pr.lit (.int Go.IntKind.i64 (4)))]) [fun y9 => (pr.bin .add false (pr.lit (.int Go.IntKind.i64 (1))) (pr.ld y9 0) fun x10 =>
          (pr.bnd (pr.call 26 [(pr.ld y6 4), (pr.natD (pr.ln y6 8))]) [fun y11 => (pr.bin .sub false (pr.natD (pr.ln y6 8)) (pr.ld y11 0) fun x12 =>
            (pr.bnd (pr.call 26 [(pr.ld y6 5), x12]) [fun y13 => (pr.bin .add false (pr.ld y11 0) (pr.ld y13 0) fun x14 =>
              (pr.eqN (pr.natN 1) (pr.len (pr.rows [[x8, x10, (pr.ld y11 0), x14]])) (pr.isNil (pr.seg (pr.rows [[x8, x10, (pr.ld y11 0), x14]]) none (pr.natN 1))
               (pr.bin .add false (pr.ld y6 0) (pr.lit (.int Go.IntKind.i64 (1))) fun x15 =>
               (J2 0 [.d x15, .r (pr.lr y6 1), .r (pr.lr y6 2), .n (pr.ln y6 6), .n (pr.ln y6 7), .n (pr.ln y6 8), .n (pr.ln y6 9), .d (pr.ld y6 10), .d (pr.ld y6 11), .d (pr.ld y6 12)]))
               (pr.fits 32 (pr.len (pr.seg (pr.rows [[x8, x10, (pr.ld y11 0), x14]]) none (pr.natN 1)))
               (pr.bin .add false (pr.ld y6 0) (pr.lit (.int Go.IntKind.i64 (1))) fun x15 =>
               (J2 1 [.n (pr.len (pr.seg (pr.rows [[x8, x10, (pr.ld y11 0), x14]]) none (pr.natN 1))), .n (pr.len (pr.seg (pr.rows [[x8, x10, (pr.ld y11 0), x14]]) none (pr.natN 1))), .d x15, .r (pr.lr y6 1), .r (pr.lr y6 2), .r (pr.seg (pr.rows [[x8, x10, (pr.ld y11 0), x14]]) none (pr.natN 1)), .n (pr.ln y6 6), .n (pr.ln y6 7), .n (pr.ln y6 8), .n (pr.ln y6 9), .d (pr.ld y6 10), .d (pr.ld y6 11), .d (pr.ld y6 12)]))))))]))]))])))])
      (pr.out 0 [.r (pr.lr y2 1), .r (pr.lr y2 2), .n (pr.ln y2 3), .n (pr.ln y2 4), .n (pr.ln y2 5), .n (pr.ln y2 6)]))))))
def L25_13  : (Nat → List (Y Δ N R M) → Ω) → E → Ω := fun J2 y2 =>
 (pr.lenD (pr.ld y2 12) fun x3 =>
   (pr.bin .lss false (pr.ld y2 2) x3 fun x4 =>
    (pr.cond x4
     (pr.bin .lss false (pr.ld y2 2) (pr.lit (.int Go.IntKind.i64 (6))) fun x5 =>
     (pr.cond x5
      (pr.bnd (pr.lenD (pr.ld y2 12) fun x6 =>
      (pr.bin .lss false (pr.ld y2 2) x6 fun x7 =>
       (pr.cond x7
        (pr.rowD 3 (pr.ld y2 12) (pr.ld y2 2) fun w8 =>
        (pr.out 0 [.n (pr.ln y2 0), .n (pr.ln y2 1), .d (pr.ld y2 2), .r (pr.lr y2 3), .r (pr.lr y2 4), .d (pr.cell w8 0), .d (pr.cell w8 1), .d (pr.cell w8 2), .r (pr.lr y2 5), .n (pr.ln y2 6), .n (pr.ln y2 7), .n (pr.ln y2 8), .n (pr.ln y2 9), .d (pr.ld y2 10), .d (pr.ld y2 11), .d (pr.ld y2 12)]))
        (pr.out 0 [.n (pr.ln y2 0), .n (pr.ln y2 1), .d (pr.ld y2 2), .r (pr.lr y2 3), .r (pr.lr y2 4), .d (pr.lit (.int Go.IntKind.i64 (0))), .d (pr.lit (.int Go.IntKind.i64 (0))), .d (pr.lit (.int Go.IntKind.i64 (0))), .r (pr.lr y2 5), .n (pr.ln y2 6), .n (pr.ln y2 7), .n (pr.ln y2 8), .n (pr.ln y2 9), .d (pr.ld y2 10), .d (pr.ld y2 11), .d (pr.ld y2 12)])))) [fun y6 => (pr.bin .mul false (pr.lit (.int Go.IntKind.i64 (2))) (pr.ld y6 2) fun x7 =>
       (pr.bin .add false (pr.lit (.int Go.IntKind.i64 (3))) x7 fun x8 =>
        (pr.bnd (pr.call 26 [(pr.ld y6 5), (pr.lit (.int Go.IntKind.i64 (4)))]) [fun y9 => (pr.bin .add false (pr.lit (.int Go.IntKind.i64 (1))) (pr.ld y9 0) fun x10 =>
          (pr.bnd (pr.call 26 [(pr.ld y6 6), (pr.natD (pr.ln y6 11))]) [fun y11 => (pr.bin .sub false (pr.natD (pr.ln y6 11)) (pr.ld y11 0) fun x12 =>
            (pr.bnd (pr.call 26 [(pr.ld y6 7), x12]) [fun y13 => (pr.bin .add false (pr.ld y11 0) (pr.ld y13 0) fun x14 =>
              (pr.eqN (pr.natN 1) (pr.len (pr.rows [[x8, x10, (pr.ld y11 0), x14]])) (pr.eqN (pr.ln y6 1) (pr.len (pr.lr y6 8)) (pr.eqN (pr.ln y6 0) (pr.len (pr.lr y6 8)) (pr.fits 32 (pr.addN (pr.ln y6 0) (pr.len (pr.seg (pr.rows [[x8, x10, (pr.ld y11 0), x14]]) none (pr.natN 1))))
               (pr.bin .add false (pr.ld y6 2) (pr.lit (.int Go.IntKind.i64 (1))) fun x15 =>
               (J2 1 [.n (pr.addN (pr.ln y6 0) (pr.len (pr.seg (pr.rows [[x8, x10, (pr.ld y11 0), x14]]) none (pr.natN 1)))), .n (pr.addN (pr.ln y6 0) (pr.len (pr.seg (pr.rows [[x8, x10, (pr.ld y11 0), x14]]) none (pr.natN 1)))), .d x15, .r (pr.lr y6 3), .r (pr.lr y6 4), .r (pr.app (pr.lr y6 8) (pr.seg (pr.rows [[x8, x10, (pr.ld y11 0), x14]]) none (pr.natN 1))), .n (pr.ln y6 9), .n (pr.ln y6 10), .n (pr.ln y6 11), .n (pr.ln y6 12), .d (pr.ld y6 13), .d (pr.ld y6 14), .d (pr.ld y6 15)])))))))]))]))])))])
      (pr.bin .eql false (pr.ld y2 2) (pr.lit (.int Go.IntKind.i64 (0))) fun x6 =>
      (pr.cond x6
       (pr.bnd (pr.lenD (pr.ld y2 12) fun x7 =>
       (pr.bin .lss false (pr.ld y2 2) x7 fun x8 =>
        (pr.cond x8
         (pr.rowD 3 (pr.ld y2 12) (pr.ld y2 2) fun w9 =>
         (pr.out 0 [.n (pr.ln y2 0), .n (pr.ln y2 1), .d (pr.ld y2 2), .r (pr.lr y2 3), .r (pr.lr y2 4), .d (pr.cell w9 0), .d (pr.cell w9 1), .d (pr.cell w9 2), .r (pr.lr y2 5), .n (pr.ln y2 6), .n (pr.ln y2 7), .n (pr.ln y2 8), .n (pr.ln y2 9), .d (pr.ld y2 10), .d (pr.ld y2 11), .d (pr.ld y2 12)]))
         (pr.out 0 [.n (pr.ln y2 0), .n (pr.ln y2 1), .d (pr.ld y2 2), .r (pr.lr y2 3), .r (pr.lr y2 4), .d (pr.lit (.int Go.IntKind.i64 (0))), .d (pr.lit (.int Go.IntKind.i64 (0))), .d (pr.lit (.int Go.IntKind.i64 (0))), .r (pr.lr y2 5), .n (pr.ln y2 6), .n (pr.ln y2 7), .n (pr.ln y2 8), .n (pr.ln y2 9), .d (pr.ld y2 10), .d (pr.ld y2 11), .d (pr.ld y2 12)])))) [fun y7 => (pr.bin .mul false (pr.lit (.int Go.IntKind.i64 (2))) (pr.ld y7 2) fun x8 =>
        (pr.bin .add false (pr.lit (.int Go.IntKind.i64 (3))) x8 fun x9 =>
         (pr.bnd (pr.call 26 [(pr.ld y7 5), (pr.lit (.int Go.IntKind.i64 (4)))]) [fun y10 => (pr.bin .add false (pr.lit (.int Go.IntKind.i64 (1))) (pr.ld y10 0) fun x11 =>
           (pr.bnd (pr.call 26 [(pr.ld y7 6), (pr.natD (pr.ln y7 11))]) [fun y12 => (pr.bin .sub false (pr.natD (pr.ln y7 11)) (pr.ld y12 0) fun x13 =>
             (pr.bnd (pr.call 26 [(pr.ld y7 7), x13]) [fun y14 => (pr.bin .add false (pr.ld y12 0) (pr.ld y14 0) fun x15 =>
               (pr.eqN (pr.natN 1) (pr.len (pr.rows [[x9, x11, (pr.ld y12 0), x15]])) (pr.eqN (pr.ln y7 1) (pr.len (pr.lr y7 8)) (pr.eqN (pr.ln y7 0) (pr.len (pr.lr y7 8)) (pr.fits 32 (pr.addN (pr.ln y7 0) (pr.len (pr.seg (pr.rows [[x9, x11, (pr.ld y12 0), x15]]) none (pr.natN 1))))
                (pr.bin .add false (pr.ld y7 2) (pr.lit (.int Go.IntKind.i64 (1))) fun x16 =>
                (J2 1 [.n (pr.addN (pr.ln y7 0) (pr.len (pr.seg (pr.rows [[x9, x11, (pr.ld y12 0), x15]]) none (pr.natN 1)))), .n (pr.addN (pr.ln y7 0) (pr.len (pr.seg (pr.rows [[x9, x11, (pr.ld y12 0), x15]]) none (pr.natN 1)))), .d x16, .r (pr.lr y7 3), .r (pr.lr y7 4), .r (pr.app (pr.lr y7 8) (pr.seg (pr.rows [[x9, x11, (pr.ld y12 0), x15]]) none (pr.natN 1))), .n (pr.ln y7 9), .n (pr.ln y7 10), .n (pr.ln y7 11), .n (pr.ln y7 12), .d (pr.ld y7 13), .d (pr.ld y7 14), .d (pr.ld y7 15)])))))))]))]))])))])
       (pr.out 1 [.n (pr.ln y2 0), .n (pr.ln y2 1), .r (pr.lr y2 3), .r (pr.lr y2 4), .r (pr.lr y2 5), .n (pr.ln y2 6), .n (pr.ln y2 7), .n (pr.ln y2 8), .n (pr.ln y2 9)])))))
     (pr.bin .eql false (pr.ld y2 2) (pr.lit (.int Go.IntKind.i64 (0))) fun x5 =>
     (pr.cond x5
      (pr.bnd (pr.lenD (pr.ld y2 12) fun x6 =>
      (pr.bin .lss false (pr.ld y2 2) x6 fun x7 =>
       (pr.cond x7
        (pr.rowD 3 (pr.ld y2 12) (pr.ld y2 2) fun w8 =>
        (pr.out 0 [.n (pr.ln y2 0), .n (pr.ln y2 1), .d (pr.ld y2 2), .r (pr.lr y2 3), .r (pr.lr y2 4), .d (pr.cell w8 0), .d (pr.cell w8 1), .d (pr.cell w8 2), .r (pr.lr y2 5), .n (pr.ln y2 6), .n (pr.ln y2 7), .n (pr.ln y2 8), .n (pr.ln y2 9), .d (pr.ld y2 10), .d (pr.ld y2 11), .d (pr.ld y2 12)]))
        (pr.out 0 [.n (pr.ln y2 0), .n (pr.ln y2 1), .d (pr.ld y2 2), .r (pr.lr y2 3), .r (pr.lr y2 4), .d (pr.lit (.int Go.IntKind.i64 (0))), .d (pr.lit (.int Go.IntKind.i64 (0))), .d (pr.lit (.int Go.IntKind.i64 (0))), .r (pr.lr y2 5), .n (pr.ln y2 6), .n (pr.ln y2 7), .n (pr.ln y2 8), .n (pr.ln y2 9), .d (pr.ld y2 10), .d (pr.ld y2 11), .d (pr.ld y2 12)])))) [fun y6 => (pr.bin .mul false (pr.lit (.int Go.IntKind.i64 (2))) (pr.ld y6 2) fun x7 =>
       (pr.bin .add false (pr.lit (.int Go.IntKind.i64 (3))) x7 fun x8 =>
        (pr.bnd (pr.call 26 [(pr.ld y6 5), (pr.lit (.int Go.IntKind.i64 (4)))]) [fun y9 => (pr.bin .add false (pr.lit (.int Go.IntKind.i64 (1))) (pr.ld y9 0) fun x10 =>
          (pr.bnd (pr.call 26 [(pr.ld y6 6), (pr.natD (pr.ln y6 11))]) [fun y11 => (pr.bin .sub false (pr.natD (pr.ln y6 11)) (pr.ld y11 0) fun x12 =>
            (pr.bnd (pr.call 26 [(pr.ld y6 7), x12]) [fun y13 => (pr.bin .add false (pr.ld y11 0) (pr.ld y13 0) fun x14 =>
              (pr.eqN (pr.natN 1) (pr.len (pr.rows [[x8, x10, (pr.ld y11 0), x14]])) (pr.eqN (pr.ln y6 1) (pr.len (pr.lr y6 8)) (pr.eqN (pr.ln y6 0) (pr.len (pr.lr y6 8)) (pr.fits 32 (pr.addN (pr.ln y6 0) (pr.len (pr.seg (pr.rows [[x8, x10, (pr.ld y11 0), x14]]) none (pr.natN 1))))
               (pr.bin .add false (pr.ld y6 2) (pr.lit (.int Go.IntKind.i64 (1))) fun x15 =>
               (J2 1 [.n (pr.addN (pr.ln y6 0) (pr.len (pr.seg (pr.rows [[x8, x10, (pr.ld y11 0), x14]]) none (pr.natN 1)))), .n (pr.addN (pr.ln y6 0) (pr.len (pr.seg (pr.rows [[x8, x10, (pr.ld y11 0), x14]]) none (pr.natN 1)))), .d x15, .r (pr.lr y6 3), .r (pr.lr y6 4), .r (pr.app (pr.lr y6 8) (pr.seg (pr.rows [[x8, x10, (pr.ld y11 0), x14]]) none (pr.natN 1))), .n (pr.ln y6 9), .n (pr.ln y6 10), .n (pr.ln y6 11), .n (pr.ln y6 12), .d (pr.ld y6 13), .d (pr.ld y6 14), .d (pr.ld y6 15)])))))))]))]))])))])
      (pr.out 1 [.n (pr.ln y2 0), .n (pr.ln y2 1), .r (pr.lr y2 3), .r (pr.lr y2 4), .r (pr.lr y2 5), .n (pr.ln y2 6), .n (pr.ln y2 7), .n (pr.ln y2 8), .n (pr.ln y2 9)]))))))
def G25 (a0 a1 a2 : Δ) : Ω :=
 (pr.bnd (pr.loop [(L25_0 pr), (L25_1 pr)] 0 [.d (pr.lit (.int Go.IntKind.i64 (0))), .d a0, .d a1, .d a2]) [fun y0 => (pr.bnd (pr.loop [(L25_2 pr), (L25_3 pr)] 0 [.d (pr.lit (.int Go.IntKind.i64 (0))), .d (pr.ld y0 0), .d (pr.ld y0 1), .d (pr.ld y0 2)]) [fun y1 => (pr.bnd (pr.loop [(L25_4 pr), (L25_5 pr)] 0 [.d (pr.lit (.int Go.IntKind.i64 (0))), .d (pr.ld y1 0), .d (pr.ld y1 1), .d (pr.ld y1 2)]) [fun y2 => (pr.out 1 [.d (pr.lit (.slice none 0 0)), .d (pr.lit (.slice none 0 0)), .d (pr.lit (.slice none 0 0))]), fun y2 => (pr.eqN (pr.ln y2 1) (pr.len (pr.lr y2 2)) (pr.out 1 [.d (pr.lit (.slice none 0 0)), .d (pr.lit (.slice none 0 0)), .d (pr.slD 4 (pr.seg (pr.lr y2 2) none (pr.ln y2 0)))]))]), fun y1 => (pr.bnd (pr.loop [(L25_6 pr), (L25_7 pr)] 0 [.d (pr.lit (.int Go.IntKind.i64 (0))), .r (pr.lr y1 0), .n (pr.ln y1 1), .n (pr.ln y1 2), .d (pr.ld y1 3), .d (pr.ld y1 4), .d (pr.ld y1 5)]) [fun y2 => (pr.eqN (pr.ln y2 2) (pr.len (pr.lr y2 0)) (pr.leN (pr.ln y2 1) (pr.len (pr.lr y2 0)) (pr.out 0 [.d (pr.lit (.slice none 0 0)), .r (pr.seg (pr.lr y2 0) none (pr.ln y2 1)), .d (pr.lit (.slice none 0 0))]))), fun y2 => (pr.eqN (pr.ln y2 5) (pr.len (pr.lr y2 2)) (pr.leN (pr.ln y2 4) (pr.len (pr.lr y2 2)) (pr.eqN (pr.ln y2 1) (pr.len (pr.lr y2 3)) (pr.leN (pr.ln y2 0) (pr.len (pr.lr y2 3)) (pr.out 0 [.d (pr.lit (.slice none 0 0)), .r (pr.seg (pr.lr y2 2) none (pr.ln y2 4)), .d (pr.slD 4 (pr.seg (pr.lr y2 3) none (pr.ln y2 0)))])))))])]), fun y0 => (pr.bnd (pr.loop [(L25_8 pr), (L25_9 pr)] 0 [.d (pr.lit (.int Go.IntKind.i64 (0))), .r (pr.lr y0 0), .n (pr.ln y0 1), .n (pr.ln y0 2), .d (pr.ld y0 3), .d (pr.ld y0 4), .d (pr.ld y0 5)]) [fun y1 => (pr.bnd (pr.loop [(L25_10 pr), (L25_11 pr)] 0 [.d (pr.lit (.int Go.IntKind.i64 (0))), .r (pr.lr y1 0), .n (pr.ln y1 1), .n (pr.ln y1 2), .d (pr.ld y1 3), .d (pr.ld y1 4), .d (pr.ld y1 5)]) [fun y2 => (pr.eqN (pr.ln y2 2) (pr.len (pr.lr y2 0)) (pr.out 1 [.d (pr.slD 3 (pr.seg (pr.lr y2 0) none (pr.ln y2 1))), .d (pr.lit (.slice none 0 0)), .d (pr.lit (.slice none 0 0))])), fun y2 => (pr.eqN (pr.ln y2 5) (pr.len (pr.lr y2 2)) (pr.eqN (pr.ln y2 1) (pr.len (pr.lr y2 3)) (pr.out 1 [.d (pr.slD 3 (pr.seg (pr.lr y2 2) none (pr.ln y2 4))), .d (pr.lit (.slice none 0 0)), .d (pr.slD 4 (pr.seg (pr.lr y2 3) none (pr.ln y2 0)))])))]), fun y1 => (pr.bnd (pr.loop [(L25_12 pr), (L25_13 pr)] 0 [.d (pr.lit (.int Go.IntKind.i64 (0))), .r (pr.lr y1 0), .r (pr.lr y1 1), .n (pr.ln y1 2), .n (pr.ln y1 3), .n (pr.ln y1 4), .n (pr.ln y1 5), .d (pr.ld y1 6), .d (pr.ld y1 7), .d (pr.ld y1 8)]) [fun y2 => (pr.eqN (pr.ln y2 3) (pr.len (pr.lr y2 1)) (pr.leN (pr.ln y2 2) (pr.len (pr.lr y2 1)) (pr.eqN (pr.ln y2 5) (pr.len (pr.lr y2 0)) (pr.leN (pr.ln y2 4) (pr.len (pr.lr y2 0)) (pr.out 0 [.d (pr.slD 3 (pr.seg (pr.lr y2 1) none (pr.ln y2 2))), .r (pr.seg (pr.lr y2 0) none (pr.ln y2 4)), .d (pr.lit (.slice none 0 0))]))))), fun y2 => (pr.eqN (pr.ln y2 6) (pr.len (pr.lr y2 3)) (pr.leN (pr.ln y2 5) (pr.len (pr.lr y2 3)) (pr.eqN (pr.ln y2 8) (pr.len (pr.lr y2 2)) (pr.leN (pr.ln y2 7) (pr.len (pr.lr y2 2)) (pr.eqN (pr.ln y2 1) (pr.len (pr.lr y2 4)) (pr.leN (pr.ln y2 0) (pr.len (pr.lr y2 4)) (pr.out 0 [.d (pr.slD 3 (pr.seg (pr.lr y2 3) none (pr.ln y2 5))), .r (pr.seg (pr.lr y2 2) none (pr.ln y2 7)), .d (pr.slD 4 (pr.seg (pr.lr y2 4) none (pr.ln y2 0)))])))))))])])])
end
theorem G25_eq {Δ N R W M E Ω : Type} (pr : Pr Δ N R W M E Ω) (a0 a1 a2 : Δ) : fun3 pr tb Try.prog 400 25 [a0, a1, a2] = G25 pr a0 a1 a2 := by kernel_rfl
theorem F25 (n : Nat) (a0 a1 a2 : D) : FN (n + 1) 25 [a0, a1, a2] = G25 (RP n) a0 a1 a2 := G25_eq _ a0 a1 a2
end Go.VE
/- What the functions of this program do, made by a program of ours out of the evaluator itself. -/
namespace Go.VE
open Go.RowKit Go.Proofs
set_option maxRecDepth 100000
set_option maxHeartbeats 4000000
section
variable {Δ N R W M E Ω : Type} (pr : Pr Δ N R W M E Ω)
/-! leazing/leazingref04.Mod -/
def G26 (a0 a1 : Δ) : Ω :=
 (pr.bin .rem false a0 a1 fun x0 =>
(pr.bin .add false x0 a1 fun x1 =>
 (pr.bin .rem false x1 a1 fun x2 =>
  (pr.out 0 [.d x2]))))
/-! leazing/drift.Least -/
def G27 (a0 a1 a2 : Δ) : Ω :=
 (pr.bnd (pr.call 67 [a0, a1, a2]) [fun y0 => (pr.bin .neq false (pr.ld y0 1) (pr.lit (.int Go.IntKind.i64 (0))) fun x1 =>
 (pr.cond x1
  (pr.out 0 [.d (pr.lit (.int Go.IntKind.i64 (0))), .d (pr.lit (.int Go.IntKind.i64 (0))), .d (pr.ld y0 1)])
  (pr.ptrW 3 (pr.ld y0 0) fun w2 => (pr.bnd (pr.call 68 [(pr.cell w2 0), (pr.cell w2 1), (pr.cell w2 2)]) [fun y3 => (pr.un .not (pr.ld y3 6) fun x4 => (pr.cond x4
     (pr.out 0 [.d (pr.lit (.int Go.IntKind.i64 (0))), .d (pr.lit (.int Go.IntKind.i64 (0))), .d (pr.lit (.int Go.IntKind.i64 (47)))])
     (pr.out 0 [.d (pr.ld y3 1), .d (pr.ld y3 2), .d (pr.lit (.int Go.IntKind.i64 (0)))]))), fun y3 => (pr.un .not (pr.ld y3 6) fun x4 => (pr.cond x4
     (pr.out 0 [.d (pr.lit (.int Go.IntKind.i64 (0))), .d (pr.lit (.int Go.IntKind.i64 (0))), .d (pr.lit (.int Go.IntKind.i64 (47)))])
     (pr.out 0 [.d (pr.ld y3 1), .d (pr.ld y3 2), .d (pr.lit (.int Go.IntKind.i64 (0)))])))]))))])
/-! leazing/drift.Compare -/
def G28 (a0 a1 a2 a3 : Δ) : Ω :=
 (pr.bnd (pr.call 69 [a0, a1]) [fun y0 => (pr.un .not (pr.ld y0 0) fun x1 => (pr.cond x1
  (pr.out 0 [.d (pr.lit (.int Go.IntKind.i64 (0))), .d (pr.lit (.int Go.IntKind.i64 (1)))])
  (pr.bnd (pr.call 69 [a2, a3]) [fun y2 => (pr.un .not (pr.ld y2 0) fun x3 => (pr.cond x3
    (pr.out 0 [.d (pr.lit (.int Go.IntKind.i64 (0))), .d (pr.lit (.int Go.IntKind.i64 (1)))])
    (pr.bnd (pr.call 70 [a0, a1, a2, a3]) [fun y4 => (pr.out 0 [.d (pr.ld y4 0), .d (pr.lit (.int Go.IntKind.i64 (0)))])])))])))])
/-! leazing/drift.within -/
def G59 (a0 a1 a2 : Δ) : Ω :=
 (pr.bin .leq false a1 a0 fun x0 =>
(pr.cond x0
 (pr.bin .leq false a0 a2 fun x1 =>
 (pr.out 0 [.d x1]))
 (pr.out 0 [.d (pr.lit (.bool false))])))
/-! leazing/drift.chains -/
def L62_0  : (Nat → List (Y Δ N R M) → Ω) → E → Ω := fun J1 y1 =>
 (pr.bin .lss false (pr.ld y1 2) (pr.ld y1 1) fun x2 =>
  (pr.cond x2
   (pr.rowD 3 (pr.ld y1 0) (pr.ld y1 2) fun w3 =>
   (pr.upd 0 (pr.lm y1 3) (pr.cell w3 0) [(pr.ld y1 2)] fun q4 => (pr.bin .add false (pr.ld y1 2) (pr.lit (.int Go.IntKind.i64 (1))) fun x5 =>
     (J1 0 [.d (pr.ld y1 0), .d (pr.ld y1 1), .d x5, .m q4]))))
   (pr.out 0 [.m (pr.lm y1 3)])))
def G62 (a0 a1 : Δ) : Ω :=
 (pr.lenD a0 fun x0 =>
(pr.bnd (pr.loop [(L62_0 pr)] 0 [.d a0, .d x0, .d (pr.lit (.int Go.IntKind.i64 (0))), .m pr.emp]) [fun y1 => (pr.out 0 [.m (pr.lm y1 0)])]))
/-! slices.ContainsFunc[[]leazing/api.Claim,leazing/api.Claim] -/
def G64 (a0 a1 : Δ) : Ω :=
 (pr.bnd (pr.call 90 [a0, a1]) [fun y0 => (pr.bin .geq false (pr.ld y0 0) (pr.lit (.int Go.IntKind.i64 (0))) fun x1 =>
 (pr.out 0 [.d x1]))])
/-! leazing/drift.CheckClaims$1 -/
def G65 (a0 a1 a2 a3 a4 a5 a6 a7 : Δ) : Ω :=
 (pr.bin .eql false a0 a4 fun x0 =>
(pr.out 0 [.d x0]))
/-! leazing/drift.look -/
def G67 (a0 a1 a2 : Δ) : Ω :=
 (pr.bnd (pr.call 17 [a0, a1, a2]) [fun y0 => (pr.bin .neq false (pr.ld y0 0) (pr.lit (.int Go.IntKind.i64 (0))) fun x1 =>
 (pr.cond x1
  (pr.out 0 [.d (pr.lit (.pointer none)), .d (pr.ld y0 0)])
  (pr.out 0 [.d (pr.dpD [a0, a1, a2] 0), .d (pr.lit (.int Go.IntKind.i64 (0)))])))])
/-! (*leazing/drift.parted).fairest -/
def L68_0  : (Nat → List (Y Δ N R M) → Ω) → E → Ω := fun J1 y1 =>
 (pr.cond (pr.ld y1 8)
  (pr.bnd (pr.call 85 [(pr.ld y1 0), (pr.ld y1 1), (pr.ld y1 2), (pr.ld y1 5)]) [fun y2 => (pr.eqN (pr.len (pr.lr y2 0)) (pr.len (pr.lr y2 0)) (pr.bnd (pr.call 91 [(pr.slD 2 (pr.seg (pr.lr y2 0) none (pr.len (pr.lr y2 0))))]) [fun y3 => (pr.lits [.d (pr.ld y3 0), .d (pr.ld y3 1)]
    (pr.bnd (pr.call 92 [(pr.ld y3 0), (pr.ld y3 1)]) [fun y4 => (pr.bnd (pr.call 74 [(pr.ld y1 0), (pr.ld y1 1), (pr.ld y1 2), (pr.ld y4 0)]) [fun y5 => (J1 1 [.d (pr.ld y1 0), .d (pr.ld y1 1), .d (pr.ld y1 2), .d (pr.ld y1 5), .d (pr.lit (.bool true)), .r (pr.lr y5 1), .d (pr.ld y5 0), .n (pr.len (pr.lr y5 1)), .n (pr.len (pr.lr y5 1)), .d (pr.ld y5 2), .d (pr.ld y3 0), .d (pr.ld y3 1)]), fun y5 => (J1 2 [.d (pr.ld y1 0), .d (pr.ld y1 1), .d (pr.ld y1 2), .d (pr.ld y1 5), .d (pr.lit (.bool true)), .d (pr.ld y5 0), .d (pr.ld y5 1), .d (pr.ld y5 2), .d (pr.ld y3 0), .d (pr.ld y3 1)])])]))])), fun y2 => (pr.bnd (pr.call 91 [(pr.ld y2 0)]) [fun y3 => (pr.bnd (pr.call 92 [(pr.ld y3 0), (pr.ld y3 1)]) [fun y4 => (pr.bnd (pr.call 74 [(pr.ld y1 0), (pr.ld y1 1), (pr.ld y1 2), (pr.ld y4 0)]) [fun y5 => (J1 1 [.d (pr.ld y1 0), .d (pr.ld y1 1), .d (pr.ld y1 2), .d (pr.ld y1 5), .d (pr.lit (.bool true)), .r (pr.lr y5 1), .d (pr.ld y5 0), .n (pr.len (pr.lr y5 1)), .n (pr.len (pr.lr y5 1)), .d (pr.ld y5 2), .d (pr.ld y3 0), .d (pr.ld y3 1)]), fun y5 => (J1 2 [.d (pr.ld y1 0), .d (pr.ld y1 1), .d (pr.ld y1 2), .d (pr.ld y1 5), .d (pr.lit (.bool true)), .d (pr.ld y5 0), .d (pr.ld y5 1), .d (pr.ld y5 2), .d (pr.ld y3 0), .d (pr.ld y3 1)])])])])])
  (pr.out 0 [.d (pr.ld y1 3), .r (pr.lr y1 4), .d (pr.ld y1 5), .n (pr.ln y1 6), .n (pr.ln y1 7), .d (pr.ld y1 8), .d (pr.ld y1 9), .d (pr.ld y1 10)]))
def L68_1  : (Nat → List (Y Δ N R M) → Ω) → E → Ω := fun J1 y1 =>
 (pr.cond (pr.ld y1 9)
  (pr.bnd (pr.call 85 [(pr.ld y1 0), (pr.ld y1 1), (pr.ld y1 2), (pr.ld y1 6)]) [fun y2 => (pr.eqN (pr.len (pr.lr y2 0)) (pr.len (pr.lr y2 0)) (pr.bnd (pr.call 91 [(pr.slD 2 (pr.seg (pr.lr y2 0) none (pr.len (pr.lr y2 0))))]) [fun y3 => (pr.lits [.d (pr.ld y3 0), .d (pr.ld y3 1)]
    (pr.bnd (pr.call 92 [(pr.ld y3 0), (pr.ld y3 1)]) [fun y4 => (pr.bnd (pr.call 74 [(pr.ld y1 0), (pr.ld y1 1), (pr.ld y1 2), (pr.ld y4 0)]) [fun y5 => (J1 3 [.d (pr.ld y1 0), .d (pr.ld y1 1), .d (pr.ld y1 2), .d (pr.ld y1 6), .d (pr.lit (.bool true)), .r (pr.lr y5 1), .d (pr.ld y5 0), .n (pr.len (pr.lr y5 1)), .n (pr.len (pr.lr y5 1)), .d (pr.ld y5 2), .d (pr.ld y3 0), .d (pr.ld y3 1)]), fun y5 => (J1 2 [.d (pr.ld y1 0), .d (pr.ld y1 1), .d (pr.ld y1 2), .d (pr.ld y1 6), .d (pr.lit (.bool true)), .d (pr.ld y5 0), .d (pr.ld y5 1), .d (pr.ld y5 2), .d (pr.ld y3 0), .d (pr.ld y3 1)])])]))])), fun y2 => (pr.bnd (pr.call 91 [(pr.ld y2 0)]) [fun y3 => (pr.bnd (pr.call 92 [(pr.ld y3 0), (pr.ld y3 1)]) [fun y4 => (pr.bnd (pr.call 74 [(pr.ld y1 0), (pr.ld y1 1), (pr.ld y1 2), (pr.ld y4 0)]) [fun y5 => (J1 3 [.d (pr.ld y1 0), .d (pr.ld y1 1), .d (pr.ld y1 2), .d (pr.ld y1 6), .d (pr.lit (.bool true)), .r (pr.lr y5 1), .d (pr.ld y5 0), .n (pr.len (pr.lr y5 1)), .n (pr.len (pr.lr y5 1)), .d (pr.ld y5 2), .d (pr.ld y3 0), .d (pr.ld y3 1)]), fun y5 => (J1 2 [.d (pr.ld y1 0), .d (pr.ld y1 1), .d (pr.ld y1 2), .d (pr.ld y1 6), .d (pr.lit (.bool true)), .d (pr.ld y5 0), .d (pr.ld y5 1), .d (pr.ld y5 2), .d (pr.ld y3 0), .d (pr.ld y3 1)])])])])])
  (pr.out 1 [.d (pr.ld y1 3), .d (pr.ld y1 4), .r (pr.lr y1 5), .d (pr.ld y1 6), .n (pr.ln y1 7), .n (pr.ln y1 8), .d (pr.ld y1 9), .d (pr.ld y1 10), .d (pr.ld y1 11)]))
def L68_2  : (Nat → List (Y Δ N R M) → Ω) → E → Ω := fun J1 y1 =>
 (pr.cond (pr.ld y1 7)
  (pr.bnd (pr.call 85 [(pr.ld y1 0), (pr.ld y1 1), (pr.ld y1 2), (pr.ld y1 5)]) [fun y2 => (pr.eqN (pr.len (pr.lr y2 0)) (pr.len (pr.lr y2 0)) (pr.bnd (pr.call 91 [(pr.slD 2 (pr.seg (pr.lr y2 0) none (pr.len (pr.lr y2 0))))]) [fun y3 => (pr.lits [.d (pr.ld y3 0), .d (pr.ld y3 1)]
    (pr.bnd (pr.call 92 [(pr.ld y3 0), (pr.ld y3 1)]) [fun y4 => (pr.bnd (pr.call 74 [(pr.ld y1 0), (pr.ld y1 1), (pr.ld y1 2), (pr.ld y4 0)]) [fun y5 => (J1 1 [.d (pr.ld y1 0), .d (pr.ld y1 1), .d (pr.ld y1 2), .d (pr.ld y1 5), .d (pr.lit (.bool true)), .r (pr.lr y5 1), .d (pr.ld y5 0), .n (pr.len (pr.lr y5 1)), .n (pr.len (pr.lr y5 1)), .d (pr.ld y5 2), .d (pr.ld y3 0), .d (pr.ld y3 1)]), fun y5 => (J1 2 [.d (pr.ld y1 0), .d (pr.ld y1 1), .d (pr.ld y1 2), .d (pr.ld y1 5), .d (pr.lit (.bool true)), .d (pr.ld y5 0), .d (pr.ld y5 1), .d (pr.ld y5 2), .d (pr.ld y3 0), .d (pr.ld y3 1)])])]))])), fun y2 => (pr.bnd (pr.call 91 [(pr.ld y2 0)]) [fun y3 => (pr.bnd (pr.call 92 [(pr.ld y3 0), (pr.ld y3 1)]) [fun y4 => (pr.bnd (pr.call 74 [(pr.ld y1 0), (pr.ld y1 1), (pr.ld y1 2), (pr.ld y4 0)]) [fun y5 => (J1 1 [.d (pr.ld y1 0), .d (pr.ld y1 1), .d (pr.ld y1 2), .d (pr.ld y1 5), .d (pr.lit (.bool true)), .r (pr.lr y5 1), .d (pr.ld y5 0), .n (pr.len (pr.lr y5 1)), .n (pr.len (pr.lr y5 1)), .d (pr.ld y5 2), .d (pr.ld y3 0), .d (pr.ld y3 1)]), fun y5 => (J1 2 [.d (pr.ld y1 0), .d (pr.ld y1 1), .d (pr.ld y1 2), .d (pr.ld y1 5), .d (pr.lit (.bool true)), .d (pr.ld y5 0), .d (pr.ld y5 1), .d (pr.ld y5 2), .d (pr.ld y3 0), .d (pr.ld y3 1)])])])])])
  (pr.out 2 [.d (pr.ld y1 3), .d (pr.ld y1 4), .d (pr.ld y1 5), .d (pr.ld y1 6), .d (pr.ld y1 7), .d (pr.ld y1 8), .d (pr.ld y1 9)]))
def L68_3  : (Nat → List (Y Δ N R M) → Ω) → E → Ω := fun J1 y1 =>
 (pr.cond (pr.ld y1 9)
  (pr.bnd (pr.call 85 [(pr.ld y1 0), (pr.ld y1 1), (pr.ld y1 2), (pr.ld y1 6)]) [fun y2 => (pr.eqN (pr.len (pr.lr y2 0)) (pr.len (pr.lr y2 0)) (pr.bnd (pr.call 91 [(pr.slD 2 (pr.seg (pr.lr y2 0) none (pr.len (pr.lr y2 0))))]) [fun y3 => (pr.lits [.d (pr.ld y3 0), .d (pr.ld y3 1)]
    (pr.bnd (pr.call 92 [(pr.ld y3 0), (pr.ld y3 1)]) [fun y4 => (pr.bnd (pr.call 74 [(pr.ld y1 0), (pr.ld y1 1), (pr.ld y1 2), (pr.ld y4 0)]) [fun y5 => (J1 1 [.d (pr.ld y1 0), .d (pr.ld y1 1), .d (pr.ld y1 2), .d (pr.ld y1 6), .d (pr.lit (.bool true)), .r (pr.lr y5 1), .d (pr.ld y5 0), .n (pr.len (pr.lr y5 1)), .n (pr.len (pr.lr y5 1)), .d (pr.ld y5 2), .d (pr.ld y3 0), .d (pr.ld y3 1)]), fun y5 => (J1 2 [.d (pr.ld y1 0), .d (pr.ld y1 1), .d (pr.ld y1 2), .d (pr.ld y1 6), .d (pr.lit (.bool true)), .d (pr.ld y5 0), .d (pr.ld y5 1), .d (pr.ld y5 2), .d (pr.ld y3 0), .d (pr.ld y3 1)])])]))])), fun y2 => (pr.bnd (pr.call 91 [(pr.ld y2 0)]) [fun y3 => (pr.bnd (pr.call 92 [(pr.ld y3 0), (pr.ld y3 1)]) [fun y4 => (pr.bnd (pr.call 74 [(pr.ld y1 0), (pr.ld y1 1), (pr.ld y1 2), (pr.ld y4 0)]) [fun y5 => (J1 1 [.d (pr.ld y1 0), .d (pr.ld y1 1), .d (pr.ld y1 2), .d (pr.ld y1 6), .d (pr.lit (.bool true)), .r (pr.lr y5 1), .d (pr.ld y5 0), .n (pr.len (pr.lr y5 1)), .n (pr.len (pr.lr y5 1)), .d (pr.ld y5 2), .d (pr.ld y3 0), .d (pr.ld y3 1)]), fun y5 => (J1 2 [.d (pr.ld y1 0), .d (pr.ld y1 1), .d (pr.ld y1 2), .d (pr.ld y1 6), .d (pr.lit (.bool true)), .d (pr.ld y5 0), .d (pr.ld y5 1), .d (pr.ld y5 2), .d (pr.ld y3 0), .d (pr.ld y3 1)])])])])])
  (pr.out 3 [.d (pr.ld y1 3), .d (pr.ld y1 4), .r (pr.lr y1 5), .d (pr.ld y1 6), .n (pr.ln y1 7), .n (pr.ln y1 8), .d (pr.ld y1 9), .d (pr.ld y1 10), .d (pr.ld y1 11)]))
def L68_4  : (Nat → List (Y Δ N R M) → Ω) → E → Ω := fun J1 y1 =>
 (pr.cond (pr.ld y1 6)
  (pr.bnd (pr.call 85 [(pr.ld y1 0), (pr.ld y1 1), (pr.ld y1 2), (pr.ld y1 4)]) [fun y2 => (pr.eqN (pr.len (pr.lr y2 0)) (pr.len (pr.lr y2 0)) (pr.bnd (pr.call 91 [(pr.slD 2 (pr.seg (pr.lr y2 0) none (pr.len (pr.lr y2 0))))]) [fun y3 => (pr.lits [.d (pr.ld y3 0), .d (pr.ld y3 1)]
    (pr.bnd (pr.call 92 [(pr.ld y3 0), (pr.ld y3 1)]) [fun y4 => (pr.bnd (pr.call 74 [(pr.ld y1 0), (pr.ld y1 1), (pr.ld y1 2), (pr.ld y4 0)]) [fun y5 => (J1 1 [.d (pr.ld y1 0), .d (pr.ld y1 1), .d (pr.ld y1 2), .d (pr.ld y1 4), .d (pr.lit (.bool true)), .r (pr.lr y5 1), .d (pr.ld y5 0), .n (pr.len (pr.lr y5 1)), .n (pr.len (pr.lr y5 1)), .d (pr.ld y5 2), .d (pr.ld y3 0), .d (pr.ld y3 1)]), fun y5 => (J1 2 [.d (pr.ld y1 0), .d (pr.ld y1 1), .d (pr.ld y1 2), .d (pr.ld y1 4), .d (pr.lit (.bool true)), .d (pr.ld y5 0), .d (pr.ld y5 1), .d (pr.ld y5 2), .d (pr.ld y3 0), .d (pr.ld y3 1)])])]))])), fun y2 => (pr.bnd (pr.call 91 [(pr.ld y2 0)]) [fun y3 => (pr.bnd (pr.call 92 [(pr.ld y3 0), (pr.ld y3 1)]) [fun y4 => (pr.bnd (pr.call 74 [(pr.ld y1 0), (pr.ld y1 1), (pr.ld y1 2), (pr.ld y4 0)]) [fun y5 => (J1 1 [.d (pr.ld y1 0), .d (pr.ld y1 1), .d (pr.ld y1 2), .d (pr.ld y1 4), .d (pr.lit (.bool true)), .r (pr.lr y5 1), .d (pr.ld y5 0), .n (pr.len (pr.lr y5 1)), .n (pr.len (pr.lr y5 1)), .d (pr.ld y5 2), .d (pr.ld y3 0), .d (pr.ld y3 1)]), fun y5 => (J1 2 [.d (pr.ld y1 0), .d (pr.ld y1 1), .d (pr.ld y1 2), .d (pr.ld y1 4), .d (pr.lit (.bool true)), .d (pr.ld y5 0), .d (pr.ld y5 1), .d (pr.ld y5 2), .d (pr.ld y3 0), .d (pr.ld y3 1)])])])])])
  (pr.out 0 [.d (pr.ld y1 3), .d (pr.ld y1 4), .d (pr.ld y1 5), .d (pr.ld y1 6), .d (pr.ld y1 7), .d (pr.ld y1 8)]))
def L68_5  : (Nat → List (Y Δ N R M) → Ω) → E → Ω := fun J1 y1 =>
 (pr.cond (pr.ld y1 9)
  (pr.bnd (pr.call 85 [(pr.ld y1 0), (pr.ld y1 1), (pr.ld y1 2), (pr.ld y1 6)]) [fun y2 => (pr.eqN (pr.len (pr.lr y2 0)) (pr.len (pr.lr y2 0)) (pr.bnd (pr.call 91 [(pr.slD 2 (pr.seg (pr.lr y2 0) none (pr.len (pr.lr y2 0))))]) [fun y3 => (pr.lits [.d (pr.ld y3 0), .d (pr.ld y3 1)]
    (pr.bnd (pr.call 92 [(pr.ld y3 0), (pr.ld y3 1)]) [fun y4 => (pr.bnd (pr.call 74 [(pr.ld y1 0), (pr.ld y1 1), (pr.ld y1 2), (pr.ld y4 0)]) [fun y5 => (J1 3 [.d (pr.ld y1 0), .d (pr.ld y1 1), .d (pr.ld y1 2), .d (pr.ld y1 6), .d (pr.lit (.bool true)), .r (pr.lr y5 1), .d (pr.ld y5 0), .n (pr.len (pr.lr y5 1)), .n (pr.len (pr.lr y5 1)), .d (pr.ld y5 2), .d (pr.ld y3 0), .d (pr.ld y3 1)]), fun y5 => (J1 2 [.d (pr.ld y1 0), .d (pr.ld y1 1), .d (pr.ld y1 2), .d (pr.ld y1 6), .d (pr.lit (.bool true)), .d (pr.ld y5 0), .d (pr.ld y5 1), .d (pr.ld y5 2), .d (pr.ld y3 0), .d (pr.ld y3 1)])])]))])), fun y2 => (pr.bnd (pr.call 91 [(pr.ld y2 0)]) [fun y3 => (pr.bnd (pr.call 92 [(pr.ld y3 0), (pr.ld y3 1)]) [fun y4 => (pr.bnd (pr.call 74 [(pr.ld y1 0), (pr.ld y1 1), (pr.ld y1 2), (pr.ld y4 0)]) [fun y5 => (J1 3 [.d (pr.ld y1 0), .d (pr.ld y1 1), .d (pr.ld y1 2), .d (pr.ld y1 6), .d (pr.lit (.bool true)), .r (pr.lr y5 1), .d (pr.ld y5 0), .n (pr.len (pr.lr y5 1)), .n (pr.len (pr.lr y5 1)), .d (pr.ld y5 2), .d (pr.ld y3 0), .d (pr.ld y3 1)]), fun y5 => (J1 2 [.d (pr.ld y1 0), .d (pr.ld y1 1), .d (pr.ld y1 2), .d (pr.ld y1 6), .d (pr.lit (.bool true)), .d (pr.ld y5 0), .d (pr.ld y5 1), .d (pr.ld y5 2), .d (pr.ld y3 0), .d (pr.ld y3 1)])])])])])
  (pr.out 1 [.d (pr.ld y1 3), .d (pr.ld y1 4), .r (pr.lr y1 5), .d (pr.ld y1 6), .n (pr.ln y1 7), .n (pr.ln y1 8), .d (pr.ld y1 9), .d (pr.ld y1 10), .d (pr.ld y1 11)]))
def L68_6  : (Nat → List (Y Δ N R M) → Ω) → E → Ω := fun J1 y1 =>
 (pr.cond (pr.ld y1 7)
  (pr.bnd (pr.call 85 [(pr.ld y1 0), (pr.ld y1 1), (pr.ld y1 2), (pr.ld y1 5)]) [fun y2 => (pr.eqN (pr.len (pr.lr y2 0)) (pr.len (pr.lr y2 0)) (pr.bnd (pr.call 91 [(pr.slD 2 (pr.seg (pr.lr y2 0) none (pr.len (pr.lr y2 0))))]) [fun y3 => (pr.lits [.d (pr.ld y3 0), .d (pr.ld y3 1)]
    (pr.bnd (pr.call 92 [(pr.ld y3 0), (pr.ld y3 1)]) [fun y4 => (pr.bnd (pr.call 74 [(pr.ld y1 0), (pr.ld y1 1), (pr.ld y1 2), (pr.ld y4 0)]) [fun y5 => (J1 1 [.d (pr.ld y1 0), .d (pr.ld y1 1), .d (pr.ld y1 2), .d (pr.ld y1 5), .d (pr.lit (.bool true)), .r (pr.lr y5 1), .d (pr.ld y5 0), .n (pr.len (pr.lr y5 1)), .n (pr.len (pr.lr y5 1)), .d (pr.ld y5 2), .d (pr.ld y3 0), .d (pr.ld y3 1)]), fun y5 => (J1 2 [.d (pr.ld y1 0), .d (pr.ld y1 1), .d (pr.ld y1 2), .d (pr.ld y1 5), .d (pr.lit (.bool true)), .d (pr.ld y5 0), .d (pr.ld y5 1), .d (pr.ld y5 2), .d (pr.ld y3 0), .d (pr.ld y3 1)])])]))])), fun y2 => (pr.bnd (pr.call 91 [(pr.ld y2 0)]) [fun y3 => (pr.bnd (pr.call 92 [(pr.ld y3 0), (pr.ld y3 1)]) [fun y4 => (pr.bnd (pr.call 74 [(pr.ld y1 0), (pr.ld y1 1), (pr.ld y1 2), (pr.ld y4 0)]) [fun y5 => (J1 1 [.d (pr.ld y1 0), .d (pr.ld y1 1), .d (pr.ld y1 2), .d (pr.ld y1 5), .d (pr.lit (.bool true)), .r (pr.lr y5 1), .d (pr.ld y5 0), .n (pr.len (pr.lr y5 1)), .n (pr.len (pr.lr y5 1)), .d (pr.ld y5 2), .d (pr.ld y3 0), .d (pr.ld y3 1)]), fun y5 => (J1 2 [.d (pr.ld y1 0), .d (pr.ld y1 1), .d (pr.ld y1 2), .d (pr.ld y1 5), .d (pr.lit (.bool true)), .d (pr.ld y5 0), .d (pr.ld y5 1), .d (pr.ld y5 2), .d (pr.ld y3 0), .d (pr.ld y3 1)])])])])])
  (pr.out 2 [.d (pr.ld y1 3), .d (pr.ld y1 4), .d (pr.ld y1 5), .d (pr.ld y1 6), .d (pr.ld y1 7), .d (pr.ld y1 8), .d (pr.ld y1 9)]))
def L68_7  : (Nat → List (Y Δ N R M) → Ω) → E → Ω := fun J1 y1 =>
 (pr.cond (pr.ld y1 9)
  (pr.bnd (pr.call 85 [(pr.ld y1 0), (pr.ld y1 1), (pr.ld y1 2), (pr.ld y1 6)]) [fun y2 => (pr.eqN (pr.len (pr.lr y2 0)) (pr.len (pr.lr y2 0)) (pr.bnd (pr.call 91 [(pr.slD 2 (pr.seg (pr.lr y2 0) none (pr.len (pr.lr y2 0))))]) [fun y3 => (pr.lits [.d (pr.ld y3 0), .d (pr.ld y3 1)]
    (pr.bnd (pr.call 92 [(pr.ld y3 0), (pr.ld y3 1)]) [fun y4 => (pr.bnd (pr.call 74 [(pr.ld y1 0), (pr.ld y1 1), (pr.ld y1 2), (pr.ld y4 0)]) [fun y5 => (J1 1 [.d (pr.ld y1 0), .d (pr.ld y1 1), .d (pr.ld y1 2), .d (pr.ld y1 6), .d (pr.lit (.bool true)), .r (pr.lr y5 1), .d (pr.ld y5 0), .n (pr.len (pr.lr y5 1)), .n (pr.len (pr.lr y5 1)), .d (pr.ld y5 2), .d (pr.ld y3 0), .d (pr.ld y3 1)]), fun y5 => (J1 2 [.d (pr.ld y1 0), .d (pr.ld y1 1), .d (pr.ld y1 2), .d (pr.ld y1 6), .d (pr.lit (.bool true)), .d (pr.ld y5 0), .d (pr.ld y5 1), .d (pr.ld y5 2), .d (pr.ld y3 0), .d (pr.ld y3 1)])])]))])), fun y2 => (pr.bnd (pr.call 91 [(pr.ld y2 0)]) [fun y3 => (pr.bnd (pr.call 92 [(pr.ld y3 0), (pr.ld y3 1)]) [fun y4 => (pr.bnd (pr.call 74 [(pr.ld y1 0), (pr.ld y1 1), (pr.ld y1 2), (pr.ld y4 0)]) [fun y5 => (J1 1 [.d (pr.ld y1 0), .d (pr.ld y1 1), .d (pr.ld y1 2), .d (pr.ld y1 6), .d (pr.lit (.bool true)), .r (pr.lr y5 1), .d (pr.ld y5 0), .n (pr.len (pr.lr y5 1)), .n (pr.len (pr.lr y5 1)), .d (pr.ld y5 2), .d (pr.ld y3 0), .d (pr.ld y3 1)]), fun y5 => (J1 2 [.d (pr.ld y1 0), .d (pr.ld y1 1), .d (pr.ld y1 2), .d (pr.ld y1 6), .d (pr.lit (.bool true)), .d (pr.ld y5 0), .d (pr.ld y5 1), .d (pr.ld y5 2), .d (pr.ld y3 0), .d (pr.ld y3 1)])])])])])
  (pr.out 3 [.d (pr.ld y1 3), .d (pr.ld y1 4), .r (pr.lr y1 5), .d (pr.ld y1 6), .n (pr.ln y1 7), .n (pr.ln y1 8), .d (pr.ld y1 9), .d (pr.ld y1 10), .d (pr.ld y1 11)]))
def G68 (a0 a1 a2 : Δ) : Ω :=
 (pr.bnd (pr.call 74 [a0, a1, a2, (pr.fnD 75 [])]) [fun y0 => (pr.bnd (pr.loop [(L68_0 pr), (L68_1 pr), (L68_2 pr), (L68_3 pr)] 0 [.d a0, .d a1, .d a2, .d (pr.lit (.bool false)), .r (pr.lr y0 1), .d (pr.ld y0 0), .n (pr.len (pr.lr y0 1)), .n (pr.len (pr.lr y0 1)), .d (pr.ld y0 2), .d (pr.lit (.int Go.IntKind.i64 (0))), .d (pr.lit (.int Go.IntKind.i64 (0)))]) [fun y1 => (pr.eqN (pr.ln y1 4) (pr.len (pr.lr y1 1)) (pr.leN (pr.ln y1 3) (pr.len (pr.lr y1 1)) (pr.out 0 [.d (pr.lit (.slice none 0 0)), .d (pr.ld y1 6), .d (pr.ld y1 7), .d (pr.ld y1 2), .r (pr.seg (pr.lr y1 1) none (pr.ln y1 3)), .d (pr.ld y1 5), .d (pr.ld y1 0)]))), fun y1 => (pr.eqN (pr.ln y1 5) (pr.len (pr.lr y1 2)) (pr.leN (pr.ln y1 4) (pr.len (pr.lr y1 2)) (pr.out 0 [.d (pr.ld y1 0), .d (pr.ld y1 7), .d (pr.ld y1 8), .d (pr.ld y1 3), .r (pr.seg (pr.lr y1 2) none (pr.ln y1 4)), .d (pr.ld y1 6), .d (pr.ld y1 1)]))), fun y1 => (pr.out 1 [.d (pr.ld y1 0), .d (pr.ld y1 5), .d (pr.ld y1 6), .d (pr.ld y1 2), .d (pr.ld y1 3), .d (pr.ld y1 4), .d (pr.ld y1 1)]), fun y1 => (pr.eqN (pr.ln y1 5) (pr.len (pr.lr y1 2)) (pr.leN (pr.ln y1 4) (pr.len (pr.lr y1 2)) (pr.out 0 [.d (pr.ld y1 0), .d (pr.ld y1 7), .d (pr.ld y1 8), .d (pr.ld y1 3), .r (pr.seg (pr.lr y1 2) none (pr.ln y1 4)), .d (pr.ld y1 6), .d (pr.ld y1 1)])))]), fun y0 => (pr.bnd (pr.loop [(L68_4 pr), (L68_5 pr), (L68_6 pr), (L68_7 pr)] 0 [.d a0, .d a1, .d a2, .d (pr.lit (.bool false)), .d (pr.ld y0 0), .d (pr.ld y0 1), .d (pr.ld y0 2), .d (pr.lit (.int Go.IntKind.i64 (0))), .d (pr.lit (.int Go.IntKind.i64 (0)))]) [fun y1 => (pr.out 1 [.d (pr.lit (.slice none 0 0)), .d (pr.ld y1 4), .d (pr.ld y1 5), .d (pr.ld y1 1), .d (pr.ld y1 2), .d (pr.ld y1 3), .d (pr.ld y1 0)]), fun y1 => (pr.eqN (pr.ln y1 5) (pr.len (pr.lr y1 2)) (pr.leN (pr.ln y1 4) (pr.len (pr.lr y1 2)) (pr.out 0 [.d (pr.ld y1 0), .d (pr.ld y1 7), .d (pr.ld y1 8), .d (pr.ld y1 3), .r (pr.seg (pr.lr y1 2) none (pr.ln y1 4)), .d (pr.ld y1 6), .d (pr.ld y1 1)]))), fun y1 => (pr.out 1 [.d (pr.ld y1 0), .d (pr.ld y1 5), .d (pr.ld y1 6), .d (pr.ld y1 2), .d (pr.ld y1 3), .d (pr.ld y1 4), .d (pr.ld y1 1)]), fun y1 => (pr.eqN (pr.ln y1 5) (pr.len (pr.lr y1 2)) (pr.leN (pr.ln y1 4) (pr.len (pr.lr y1 2)) (pr.out 0 [.d (pr.ld y1 0), .d (pr.ld y1 7), .d (pr.ld y1 8), .d (pr.ld y1 3), .r (pr.seg (pr.lr y1 2) none (pr.ln y1 4)), .d (pr.ld y1 6), .d (pr.ld y1 1)])))])])
/-! leazing/drift.isGain -/
def G69 (a0 a1 : Δ) : Ω :=
 (pr.bnd (pr.call 59 [a0, (pr.lit (.int Go.IntKind.i64 (0))), (pr.lit (.int Go.IntKind.i64 (1000000)))]) [fun y0 => (pr.cond (pr.ld y0 0)
 (pr.bnd (pr.call 59 [a1, (pr.lit (.int Go.IntKind.i64 (1))), (pr.lit (.int Go.IntKind.i64 (1000000)))]) [fun y1 => (pr.out 0 [.d (pr.ld y1 0)])])
 (pr.out 0 [.d (pr.lit (.bool false))]))])
/-! (leazing/drift.gain).against -/
def G70 (a0 a1 a2 a3 : Δ) : Ω :=
 (pr.bin .mul false a0 a3 fun x0 =>
(pr.bin .mul false a2 a1 fun x1 =>
 (pr.bnd (pr.call 93 [x0, x1]) [fun y2 => (pr.out 0 [.d (pr.ld y2 0)])])))
end
theorem G26_eq {Δ N R W M E Ω : Type} (pr : Pr Δ N R W M E Ω) (a0 a1 : Δ) : fun3 pr tb Try.prog 400 26 [a0, a1] = G26 pr a0 a1 := by kernel_rfl
theorem F26 (n : Nat) (a0 a1 : D) : FN (n + 1) 26 [a0, a1] = G26 (RP n) a0 a1 := G26_eq _ a0 a1
theorem G27_eq {Δ N R W M E Ω : Type} (pr : Pr Δ N R W M E Ω) (a0 a1 a2 : Δ) : fun3 pr tb Try.prog 400 27 [a0, a1, a2] = G27 pr a0 a1 a2 := by kernel_rfl
theorem F27 (n : Nat) (a0 a1 a2 : D) : FN (n + 1) 27 [a0, a1, a2] = G27 (RP n) a0 a1 a2 := G27_eq _ a0 a1 a2
theorem G28_eq {Δ N R W M E Ω : Type} (pr : Pr Δ N R W M E Ω) (a0 a1 a2 a3 : Δ) : fun3 pr tb Try.prog 400 28 [a0, a1, a2, a3] = G28 pr a0 a1 a2 a3 := by kernel_rfl
theorem F28 (n : Nat) (a0 a1 a2 a3 : D) : FN (n + 1) 28 [a0, a1, a2, a3] = G28 (RP n) a0 a1 a2 a3 := G28_eq _ a0 a1 a2 a3
theorem G59_eq {Δ N R W M E Ω : Type} (pr : Pr Δ N R W M E Ω) (a0 a1 a2 : Δ) : fun3 pr tb Try.prog 400 59 [a0, a1, a2] = G59 pr a0 a1 a2 := by kernel_rfl
theorem F59 (n : Nat) (a0 a1 a2 : D) : FN (n + 1) 59 [a0, a1, a2] = G59 (RP n) a0 a1 a2 := G59_eq _ a0 a1 a2
theorem G62_eq {Δ N R W M E Ω : Type} (pr : Pr Δ N R W M E Ω) (a0 a1 : Δ) : fun3 pr tb Try.prog 400 62 [a0, a1] = G62 pr a0 a1 := by kernel_rfl
theorem F62 (n : Nat) (a0 a1 : D) : FN (n + 1) 62 [a0, a1] = G62 (RP n) a0 a1 := G62_eq _ a0 a1
theorem G64_eq {Δ N R W M E Ω : Type} (pr : Pr Δ N R W M E Ω) (a0 a1 : Δ) : fun3 pr tb Try.prog 400 64 [a0, a1] = G64 pr a0 a1 := by kernel_rfl
theorem F64 (n : Nat) (a0 a1 : D) : FN (n + 1) 64 [a0, a1] = G64 (RP n) a0 a1 := G64_eq _ a0 a1
theorem G65_eq {Δ N R W M E Ω : Type} (pr : Pr Δ N R W M E Ω) (a0 a1 a2 a3 a4 a5 a6 a7 : Δ) : fun3 pr tb Try.prog 400 65 [a0, a1, a2, a3, a4, a5, a6, a7] = G65 pr a0 a1 a2 a3 a4 a5 a6 a7 := by kernel_rfl
theorem F65 (n : Nat) (a0 a1 a2 a3 a4 a5 a6 a7 : D) : FN (n + 1) 65 [a0, a1, a2, a3, a4, a5, a6, a7] = G65 (RP n) a0 a1 a2 a3 a4 a5 a6 a7 := G65_eq _ a0 a1 a2 a3 a4 a5 a6 a7
theorem G67_eq {Δ N R W M E Ω : Type} (pr : Pr Δ N R W M E Ω) (a0 a1 a2 : Δ) : fun3 pr tb Try.prog 400 67 [a0, a1, a2] = G67 pr a0 a1 a2 := by kernel_rfl
theorem F67 (n : Nat) (a0 a1 a2 : D) : FN (n + 1) 67 [a0, a1, a2] = G67 (RP n) a0 a1 a2 := G67_eq _ a0 a1 a2
theorem G68_eq {Δ N R W M E Ω : Type} (pr : Pr Δ N R W M E Ω) (a0 a1 a2 : Δ) : fun3 pr tb Try.prog 400 68 [a0, a1, a2] = G68 pr a0 a1 a2 := by kernel_rfl
theorem F68 (n : Nat) (a0 a1 a2 : D) : FN (n + 1) 68 [a0, a1, a2] = G68 (RP n) a0 a1 a2 := G68_eq _ a0 a1 a2
theorem G69_eq {Δ N R W M E Ω : Type} (pr : Pr Δ N R W M E Ω) (a0 a1 : Δ) : fun3 pr tb Try.prog 400 69 [a0, a1] = G69 pr a0 a1 := by kernel_rfl
theorem F69 (n : Nat) (a0 a1 : D) : FN (n + 1) 69 [a0, a1] = G69 (RP n) a0 a1 := G69_eq _ a0 a1
theorem G70_eq {Δ N R W M E Ω : Type} (pr : Pr Δ N R W M E Ω) (a0 a1 a2 a3 : Δ) : fun3 pr tb Try.prog 400 70 [a0, a1, a2, a3] = G70 pr a0 a1 a2 a3 := by kernel_rfl
theorem F70 (n : Nat) (a0 a1 a2 a3 : D) : FN (n + 1) 70 [a0, a1, a2, a3] = G70 (RP n) a0 a1 a2 a3 := G70_eq _ a0 a1 a2 a3
end Go.VE
/- What the functions of this program do, made by a program of ours out of the evaluator itself. -/
namespace Go.VE
open Go.RowKit Go.Proofs
set_option maxRecDepth 100000
set_option maxHeartbeats 4000000
section
variable {Δ N R W M E Ω : Type} (pr : Pr Δ N R W M E Ω)
/-! (*leazing/drift.parted).least -/
def L74_0  : (Nat → List (Y Δ N R M) → Ω) → E → Ω := fun J5 y5 =>
 (pr.bin .leq false (pr.ld y5 0) (pr.ld y5 22) fun x6 =>
      (pr.cond x6
       (pr.lenD (pr.ld y5 24) fun x7 =>
       (pr.bin .lss false (pr.ld y5 0) x7 fun x8 =>
        (pr.cond x8
         (pr.bnd (pr.call 81 [(pr.ld y5 13), (pr.ld y5 14), (pr.ld y5 18), (pr.ld y5 0)]) [fun y9 => (pr.bnd (pr.callD (pr.ld y5 12) [.agg 4, .one] [(pr.ld y5 2), (pr.ld y5 3), (pr.ld y5 4), (pr.ld y5 5), (pr.ld y9 0)]) [fun y10 => (pr.cond (pr.ld y10 0)
           (pr.eqN (pr.natN 1) (pr.len (pr.rows [[(pr.ld y5 18), (pr.ld y5 0)]])) (pr.isNil (pr.seg (pr.rows [[(pr.ld y5 18), (pr.ld y5 0)]]) none (pr.natN 1))
           (pr.bin .add false (pr.ld y5 0) (pr.lit (.int Go.IntKind.i64 (1))) fun x11 =>
           (pr.out 0 [.d (pr.lit (.bool true)), .d (pr.ld y5 2), .d (pr.ld y5 3), .d (pr.ld y5 4), .d (pr.ld y5 5), .d (pr.ld y5 6), .r (pr.lr y5 7), .d (pr.ld y5 8), .d (pr.ld y5 9), .d (pr.ld y5 10), .d (pr.ld y5 11), .d (pr.ld y5 12), .d (pr.ld y5 13), .d (pr.ld y5 14), .d (pr.ld y5 15), .d x11, .d (pr.ld y5 17), .d (pr.ld y5 18), .d (pr.ld y5 19), .d (pr.ld y5 20), .d (pr.ld y5 21), .d (pr.ld y5 22), .d (pr.ld y5 23), .d (pr.ld y5 24), .d (pr.ld y5 25)]))
           (pr.fits 16 (pr.len (pr.seg (pr.rows [[(pr.ld y5 18), (pr.ld y5 0)]]) none (pr.natN 1)))
           (pr.bin .add false (pr.ld y5 0) (pr.lit (.int Go.IntKind.i64 (1))) fun x11 =>
           (pr.out 1 [.r (pr.seg (pr.rows [[(pr.ld y5 18), (pr.ld y5 0)]]) none (pr.natN 1)), .d (pr.lit (.bool true)), .d (pr.ld y5 2), .d (pr.ld y5 3), .d (pr.ld y5 4), .d (pr.ld y5 5), .n (pr.len (pr.seg (pr.rows [[(pr.ld y5 18), (pr.ld y5 0)]]) none (pr.natN 1))), .n (pr.len (pr.seg (pr.rows [[(pr.ld y5 18), (pr.ld y5 0)]]) none (pr.natN 1))), .d (pr.ld y5 6), .r (pr.lr y5 7), .d (pr.ld y5 8), .d (pr.ld y5 9), .d (pr.ld y5 10), .d (pr.ld y5 11), .d (pr.ld y5 12), .d (pr.ld y5 13), .d (pr.ld y5 14), .d (pr.ld y5 15), .d x11, .d (pr.ld y5 17), .d (pr.ld y5 18), .d (pr.ld y5 19), .d (pr.ld y5 20), .d (pr.ld y5 21), .d (pr.ld y5 22), .d (pr.ld y5 23), .d (pr.ld y5 24), .d (pr.ld y5 25)])))))
           (pr.bin .add false (pr.ld y5 0) (pr.lit (.int Go.IntKind.i64 (1))) fun x11 =>
           (J5 0 [.d x11, .d (pr.ld y5 1), .d (pr.ld y5 2), .d (pr.ld y5 3), .d (pr.ld y5 4), .d (pr.ld y5 5), .d (pr.ld y5 6), .r (pr.lr y5 7), .d (pr.ld y5 8), .d (pr.ld y5 9), .d (pr.ld y5 10), .d (pr.ld y5 11), .d (pr.ld y5 12), .d (pr.ld y5 13), .d (pr.ld y5 14), .d (pr.ld y5 15), .d (pr.ld y5 16), .d (pr.ld y5 17), .d (pr.ld y5 18), .d (pr.ld y5 19), .d (pr.ld y5 20), .d (pr.ld y5 21), .d (pr.ld y5 22), .d (pr.ld y5 23), .d (pr.ld y5 24), .d (pr.ld y5 25)])))])])
         (pr.out 2 [.d (pr.ld y5 1), .d (pr.ld y5 2), .d (pr.ld y5 3), .d (pr.ld y5 4), .d (pr.ld y5 5), .d (pr.ld y5 6), .r (pr.lr y5 7), .d (pr.ld y5 8), .d (pr.ld y5 9), .d (pr.ld y5 10), .d (pr.ld y5 11), .d (pr.ld y5 12), .d (pr.ld y5 13), .d (pr.ld y5 14), .d (pr.ld y5 15), .d (pr.ld y5 16), .d (pr.ld y5 17), .d (pr.ld y5 18), .d (pr.ld y5 19), .d (pr.ld y5 20), .d (pr.ld y5 21), .d (pr.ld y5 22), .d (pr.ld y5 23), .d (pr.ld y5 24), .d (pr.ld y5 25)]))))
       (pr.out 2 [.d (pr.ld y5 1), .d (pr.ld y5 2), .d (pr.ld y5 3), .d (pr.ld y5 4), .d (pr.ld y5 5), .d (pr.ld y5 6), .r (pr.lr y5 7), .d (pr.ld y5 8), .d (pr.ld y5 9), .d (pr.ld y5 10), .d (pr.ld y5 11), .d (pr.ld y5 12), .d (pr.ld y5 13), .d (pr.ld y5 14), .d (pr.ld y5 15), .d (pr.ld y5 16), .d (pr.ld y5 17), .d (pr.ld y5 18), .d (pr.ld y5 19), .d (pr.ld y5 20), .d (pr.ld y5 21), .d (pr.ld y5 22), .d (pr.ld y5 23), .d (pr.ld y5 24), .d (pr.ld y5 25)])))
def L74_1  : (Nat → List (Y Δ N R M) → Ω) → E → Ω := fun J5 y5 =>
 (pr.bin .leq false (pr.ld y5 0) (pr.ld y5 25) fun x6 =>
      (pr.cond x6
       (pr.lenD (pr.ld y5 27) fun x7 =>
       (pr.bin .lss false (pr.ld y5 0) x7 fun x8 =>
        (pr.cond x8
         (pr.bnd (pr.call 81 [(pr.ld y5 16), (pr.ld y5 17), (pr.ld y5 21), (pr.ld y5 0)]) [fun y9 => (pr.bnd (pr.callD (pr.ld y5 15) [.agg 4, .one] [(pr.ld y5 2), (pr.ld y5 3), (pr.ld y5 4), (pr.ld y5 5), (pr.ld y9 0)]) [fun y10 => (pr.cond (pr.ld y10 0)
           (pr.eqN (pr.natN 1) (pr.len (pr.rows [[(pr.ld y5 21), (pr.ld y5 0)]])) (pr.isNil (pr.seg (pr.rows [[(pr.ld y5 21), (pr.ld y5 0)]]) none (pr.natN 1))
           (pr.bin .add false (pr.ld y5 0) (pr.lit (.int Go.IntKind.i64 (1))) fun x11 =>
           (pr.out 0 [.d (pr.lit (.bool true)), .d (pr.ld y5 2), .d (pr.ld y5 3), .d (pr.ld y5 4), .d (pr.ld y5 5), .n (pr.ln y5 6), .n (pr.ln y5 7), .d (pr.ld y5 8), .r (pr.lr y5 9), .r (pr.lr y5 10), .d (pr.ld y5 11), .d (pr.ld y5 12), .d (pr.ld y5 13), .d (pr.ld y5 14), .d (pr.ld y5 15), .d (pr.ld y5 16), .d (pr.ld y5 17), .d (pr.ld y5 18), .d x11, .d (pr.ld y5 20), .d (pr.ld y5 21), .d (pr.ld y5 22), .d (pr.ld y5 23), .d (pr.ld y5 24), .d (pr.ld y5 25), .d (pr.ld y5 26), .d (pr.ld y5 27), .d (pr.ld y5 28)]))
           (pr.fits 16 (pr.len (pr.seg (pr.rows [[(pr.ld y5 21), (pr.ld y5 0)]]) none (pr.natN 1)))
           (pr.bin .add false (pr.ld y5 0) (pr.lit (.int Go.IntKind.i64 (1))) fun x11 =>
           (pr.out 1 [.r (pr.seg (pr.rows [[(pr.ld y5 21), (pr.ld y5 0)]]) none (pr.natN 1)), .d (pr.lit (.bool true)), .d (pr.ld y5 2), .d (pr.ld y5 3), .d (pr.ld y5 4), .d (pr.ld y5 5), .n (pr.len (pr.seg (pr.rows [[(pr.ld y5 21), (pr.ld y5 0)]]) none (pr.natN 1))), .n (pr.len (pr.seg (pr.rows [[(pr.ld y5 21), (pr.ld y5 0)]]) none (pr.natN 1))), .n (pr.ln y5 6), .n (pr.ln y5 7), .d (pr.ld y5 8), .r (pr.lr y5 9), .r (pr.lr y5 10), .d (pr.ld y5 11), .d (pr.ld y5 12), .d (pr.ld y5 13), .d (pr.ld y5 14), .d (pr.ld y5 15), .d (pr.ld y5 16), .d (pr.ld y5 17), .d (pr.ld y5 18), .d x11, .d (pr.ld y5 20), .d (pr.ld y5 21), .d (pr.ld y5 22), .d (pr.ld y5 23), .d (pr.ld y5 24), .d (pr.ld y5 25), .d (pr.ld y5 26), .d (pr.ld y5 27), .d (pr.ld y5 28)])))))
           (pr.bin .add false (pr.ld y5 0) (pr.lit (.int Go.IntKind.i64 (1))) fun x11 =>
           (J5 0 [.d x11, .d (pr.ld y5 1), .d (pr.ld y5 2), .d (pr.ld y5 3), .d (pr.ld y5 4), .d (pr.ld y5 5), .n (pr.ln y5 6), .n (pr.ln y5 7), .d (pr.ld y5 8), .r (pr.lr y5 9), .r (pr.lr y5 10), .d (pr.ld y5 11), .d (pr.ld y5 12), .d (pr.ld y5 13), .d (pr.ld y5 14), .d (pr.ld y5 15), .d (pr.ld y5 16), .d (pr.ld y5 17), .d (pr.ld y5 18), .d (pr.ld y5 19), .d (pr.ld y5 20), .d (pr.ld y5 21), .d (pr.ld y5 22), .d (pr.ld y5 23), .d (pr.ld y5 24), .d (pr.ld y5 25), .d (pr.ld y5 26), .d (pr.ld y5 27), .d (pr.ld y5 28)])))])])
         (pr.out 2 [.d (pr.ld y5 1), .d (pr.ld y5 2), .d (pr.ld y5 3), .d (pr.ld y5 4), .d (pr.ld y5 5), .n (pr.ln y5 6), .n (pr.ln y5 7), .d (pr.ld y5 8), .r (pr.lr y5 9), .r (pr.lr y5 10), .d (pr.ld y5 11), .d (pr.ld y5 12), .d (pr.ld y5 13), .d (pr.ld y5 14), .d (pr.ld y5 15), .d (pr.ld y5 16), .d (pr.ld y5 17), .d (pr.ld y5 18), .d (pr.ld y5 19), .d (pr.ld y5 20), .d (pr.ld y5 21), .d (pr.ld y5 22), .d (pr.ld y5 23), .d (pr.ld y5 24), .d (pr.ld y5 25), .d (pr.ld y5 26), .d (pr.ld y5 27), .d (pr.ld y5 28)]))))
       (pr.out 2 [.d (pr.ld y5 1), .d (pr.ld y5 2), .d (pr.ld y5 3), .d (pr.ld y5 4), .d (pr.ld y5 5), .n (pr.ln y5 6), .n (pr.ln y5 7), .d (pr.ld y5 8), .r (pr.lr y5 9), .r (pr.lr y5 10), .d (pr.ld y5 11), .d (pr.ld y5 12), .d (pr.ld y5 13), .d (pr.ld y5 14), .d (pr.ld y5 15), .d (pr.ld y5 16), .d (pr.ld y5 17), .d (pr.ld y5 18), .d (pr.ld y5 19), .d (pr.ld y5 20), .d (pr.ld y5 21), .d (pr.ld y5 22), .d (pr.ld y5 23), .d (pr.ld y5 24), .d (pr.ld y5 25), .d (pr.ld y5 26), .d (pr.ld y5 27), .d (pr.ld y5 28)])))
def L74_2  : (Nat → List (Y Δ N R M) → Ω) → E → Ω := fun J1 y1 =>
 (pr.bin .lss false (pr.ld y1 2) (pr.ld y1 1) fun x2 =>
  (pr.cond x2
   (pr.rowD 4 (pr.ld y1 0) (pr.ld y1 2) fun w3 =>
   (pr.eqN (pr.natN 1) (pr.len (pr.rows [[(pr.ld y1 7)]])) (pr.isNil (pr.seg (pr.rows [[(pr.ld y1 7)]]) none (pr.natN 1))
    (pr.mm true (pr.ld y1 7) (pr.cell w3 2) fun x4 => (pr.bnd (pr.loop [(L74_0 pr)] 0 [.d x4, .d (pr.lit (.bool false)), .d (pr.cell w3 0), .d (pr.cell w3 1), .d (pr.cell w3 2), .d (pr.cell w3 3), .d (pr.ld y1 8), .r (pr.rows [[(pr.ld y1 7)]]), .d (pr.cell w3 0), .d (pr.cell w3 1), .d (pr.cell w3 2), .d (pr.cell w3 3), .d (pr.ld y1 3), .d (pr.ld y1 4), .d (pr.ld y1 5), .d (pr.ld y1 6), .d (pr.ld y1 7), .d (pr.ld y1 9), .d x4, .d (pr.cell w3 0), .d (pr.cell w3 1), .d (pr.cell w3 2), .d (pr.cell w3 3), .d (pr.ld y1 4), .d (pr.ld y1 5), .d (pr.ld y1 6)]) [fun y5 => (pr.un .not (pr.ld y5 0) fun x6 => (pr.cond x6
       (pr.out 1 [.d (pr.ld y5 5)])
       (pr.bin .add false (pr.ld y1 2) (pr.lit (.int Go.IntKind.i64 (1))) fun x7 =>
       (J1 0 [.d (pr.ld y1 0), .d (pr.ld y1 1), .d x7, .d (pr.ld y5 11), .d (pr.ld y5 12), .d (pr.ld y5 13), .d (pr.ld y5 14), .d (pr.ld y5 15), .d (pr.ld y5 5), .d (pr.ld y5 16)])))), fun y5 => (pr.un .not (pr.ld y5 1) fun x6 => (pr.cond x6
       (pr.out 2 [.r (pr.lr y5 0), .n (pr.ln y5 6), .n (pr.ln y5 7), .d (pr.ld y5 8)])
       (pr.bin .add false (pr.ld y1 2) (pr.lit (.int Go.IntKind.i64 (1))) fun x7 =>
       (J1 1 [.d (pr.ld y1 0), .d (pr.ld y1 1), .d x7, .r (pr.lr y5 0), .d (pr.ld y5 14), .d (pr.ld y5 15), .d (pr.ld y5 16), .d (pr.ld y5 17), .d (pr.ld y5 18), .n (pr.ln y5 6), .n (pr.ln y5 7), .d (pr.ld y5 8), .d (pr.ld y5 19)])))), fun y5 => (pr.out 1 [.d (pr.ld y5 5)])]))
    (pr.fits 8 (pr.len (pr.seg (pr.rows [[(pr.ld y1 7)]]) none (pr.natN 1)))
    (pr.mm true (pr.ld y1 7) (pr.cell w3 2) fun x4 => (pr.bnd (pr.loop [(L74_1 pr)] 0 [.d x4, .d (pr.lit (.bool false)), .d (pr.cell w3 0), .d (pr.cell w3 1), .d (pr.cell w3 2), .d (pr.cell w3 3), .n (pr.len (pr.seg (pr.rows [[(pr.ld y1 7)]]) none (pr.natN 1))), .n (pr.len (pr.seg (pr.rows [[(pr.ld y1 7)]]) none (pr.natN 1))), .d (pr.ld y1 8), .r (pr.seg (pr.rows [[(pr.ld y1 7)]]) none (pr.natN 1)), .r (pr.rows [[(pr.ld y1 7)]]), .d (pr.cell w3 0), .d (pr.cell w3 1), .d (pr.cell w3 2), .d (pr.cell w3 3), .d (pr.ld y1 3), .d (pr.ld y1 4), .d (pr.ld y1 5), .d (pr.ld y1 6), .d (pr.ld y1 7), .d (pr.ld y1 9), .d x4, .d (pr.cell w3 0), .d (pr.cell w3 1), .d (pr.cell w3 2), .d (pr.cell w3 3), .d (pr.ld y1 4), .d (pr.ld y1 5), .d (pr.ld y1 6)]) [fun y5 => (pr.un .not (pr.ld y5 0) fun x6 => (pr.cond x6
       (pr.out 3 [.r (pr.lr y5 8), .n (pr.ln y5 5), .n (pr.ln y5 6), .d (pr.ld y5 7)])
       (pr.bin .add false (pr.ld y1 2) (pr.lit (.int Go.IntKind.i64 (1))) fun x7 =>
       (J1 2 [.d (pr.ld y1 0), .d (pr.ld y1 1), .d x7, .r (pr.lr y5 8), .d (pr.ld y5 14), .d (pr.ld y5 15), .d (pr.ld y5 16), .d (pr.ld y5 17), .d (pr.ld y5 18), .n (pr.ln y5 5), .n (pr.ln y5 6), .d (pr.ld y5 7), .d (pr.ld y5 19)])))), fun y5 => (pr.un .not (pr.ld y5 1) fun x6 => (pr.cond x6
       (pr.out 4 [.r (pr.lr y5 11), .r (pr.lr y5 0), .n (pr.ln y5 6), .n (pr.ln y5 7), .n (pr.ln y5 8), .n (pr.ln y5 9), .d (pr.ld y5 10)])
       (pr.bin .add false (pr.ld y1 2) (pr.lit (.int Go.IntKind.i64 (1))) fun x7 =>
       (J1 3 [.d (pr.ld y1 0), .d (pr.ld y1 1), .d x7, .r (pr.lr y5 11), .r (pr.lr y5 0), .d (pr.ld y5 17), .d (pr.ld y5 18), .d (pr.ld y5 19), .d (pr.ld y5 20), .d (pr.ld y5 21), .n (pr.ln y5 6), .n (pr.ln y5 7), .n (pr.ln y5 8), .n (pr.ln y5 9), .d (pr.ld y5 10), .d (pr.ld y5 22)])))), fun y5 => (pr.out 3 [.r (pr.lr y5 8), .n (pr.ln y5 5), .n (pr.ln y5 6), .d (pr.ld y5 7)])]))))))
   (pr.out 0 [.d (pr.ld y1 8), .d (pr.ld y1 9)])))
def L74_3  : (Nat → List (Y Δ N R M) → Ω) → E → Ω := fun J5 y5 =>
 (pr.bin .leq false (pr.ld y5 0) (pr.ld y5 25) fun x6 =>
      (pr.cond x6
       (pr.lenD (pr.ld y5 27) fun x7 =>
       (pr.bin .lss false (pr.ld y5 0) x7 fun x8 =>
        (pr.cond x8
         (pr.bnd (pr.call 81 [(pr.ld y5 16), (pr.ld y5 17), (pr.ld y5 21), (pr.ld y5 0)]) [fun y9 => (pr.bnd (pr.callD (pr.ld y5 15) [.agg 4, .one] [(pr.ld y5 2), (pr.ld y5 3), (pr.ld y5 4), (pr.ld y5 5), (pr.ld y9 0)]) [fun y10 => (pr.cond (pr.ld y10 0)
           (pr.eqN (pr.natN 1) (pr.len (pr.rows [[(pr.ld y5 21), (pr.ld y5 0)]])) (pr.eqN (pr.ln y5 7) (pr.len (pr.lr y5 14)) (pr.eqN (pr.ln y5 6) (pr.len (pr.lr y5 14)) (pr.fits 16 (pr.addN (pr.ln y5 6) (pr.len (pr.seg (pr.rows [[(pr.ld y5 21), (pr.ld y5 0)]]) none (pr.natN 1))))
           (pr.bin .add false (pr.ld y5 0) (pr.lit (.int Go.IntKind.i64 (1))) fun x11 =>
           (pr.out 0 [.d (pr.lit (.bool true)), .d (pr.ld y5 2), .d (pr.ld y5 3), .d (pr.ld y5 4), .d (pr.ld y5 5), .n (pr.addN (pr.ln y5 6) (pr.len (pr.seg (pr.rows [[(pr.ld y5 21), (pr.ld y5 0)]]) none (pr.natN 1)))), .n (pr.addN (pr.ln y5 6) (pr.len (pr.seg (pr.rows [[(pr.ld y5 21), (pr.ld y5 0)]]) none (pr.natN 1)))), .d (pr.ld y5 8), .r (pr.lr y5 9), .d (pr.ld y5 10), .d (pr.ld y5 11), .d (pr.ld y5 12), .d (pr.ld y5 13), .r (pr.app (pr.lr y5 14) (pr.seg (pr.rows [[(pr.ld y5 21), (pr.ld y5 0)]]) none (pr.natN 1))), .d (pr.ld y5 15), .d (pr.ld y5 16), .d (pr.ld y5 17), .d (pr.ld y5 18), .d x11, .d (pr.ld y5 20), .d (pr.ld y5 21), .d (pr.ld y5 22), .d (pr.ld y5 23), .d (pr.ld y5 24), .d (pr.ld y5 25), .d (pr.ld y5 26), .d (pr.ld y5 27), .d (pr.ld y5 28)]))))))
           (pr.bin .add false (pr.ld y5 0) (pr.lit (.int Go.IntKind.i64 (1))) fun x11 =>
           (J5 0 [.d x11, .d (pr.ld y5 1), .d (pr.ld y5 2), .d (pr.ld y5 3), .d (pr.ld y5 4), .d (pr.ld y5 5), .n (pr.ln y5 6), .n (pr.ln y5 7), .d (pr.ld y5 8), .r (pr.lr y5 9), .d (pr.ld y5 10), .d (pr.ld y5 11), .d (pr.ld y5 12), .d (pr.ld y5 13), .r (pr.lr y5 14), .d (pr.ld y5 15), .d (pr.ld y5 16), .d (pr.ld y5 17), .d (pr.ld y5 18), .d (pr.ld y5 19), .d (pr.ld y5 20), .d (pr.ld y5 21), .d (pr.ld y5 22), .d (pr.ld y5 23), .d (pr.ld y5 24), .d (pr.ld y5 25), .d (pr.ld y5 26), .d (pr.ld y5 27), .d (pr.ld y5 28)])))])])
         (pr.out 1 [.d (pr.ld y5 1), .d (pr.ld y5 2), .d (pr.ld y5 3), .d (pr.ld y5 4), .d (pr.ld y5 5), .n (pr.ln y5 6), .n (pr.ln y5 7), .d (pr.ld y5 8), .r (pr.lr y5 9), .d (pr.ld y5 10), .d (pr.ld y5 11), .d (pr.ld y5 12), .d (pr.ld y5 13), .r (pr.lr y5 14), .d (pr.ld y5 15), .d (pr.ld y5 16), .d (pr.ld y5 17), .d (pr.ld y5 18), .d (pr.ld y5 19), .d (pr.ld y5 20), .d (pr.ld y5 21), .d (pr.ld y5 22), .d (pr.ld y5 23), .d (pr.ld y5 24), .d (pr.ld y5 25), .d (pr.ld y5 26), .d (pr.ld y5 27), .d (pr.ld y5 28)]))))
       (pr.out 1 [.d (pr.ld y5 1), .d (pr.ld y5 2), .d (pr.ld y5 3), .d (pr.ld y5 4), .d (pr.ld y5 5), .n (pr.ln y5 6), .n (pr.ln y5 7), .d (pr.ld y5 8), .r (pr.lr y5 9), .d (pr.ld y5 10), .d (pr.ld y5 11), .d (pr.ld y5 12), .d (pr.ld y5 13), .r (pr.lr y5 14), .d (pr.ld y5 15), .d (pr.ld y5 16), .d (pr.ld y5 17), .d (pr.ld y5 18), .d (pr.ld y5 19), .d (pr.ld y5 20), .d (pr.ld y5 21), .d (pr.ld y5 22), .d (pr.ld y5 23), .d (pr.ld y5 24), .d (pr.ld y5 25), .d (pr.ld y5 26), .d (pr.ld y5 27), .d (pr.ld y5 28)])))
def L74_4  : (Nat → List (Y Δ N R M) → Ω) → E → Ω := fun J5 y5 =>
 (pr.bin .leq false (pr.ld y5 0) (pr.ld y5 28) fun x6 =>
      (pr.cond x6
       (pr.lenD (pr.ld y5 30) fun x7 =>
       (pr.bin .lss false (pr.ld y5 0) x7 fun x8 =>
        (pr.cond x8
         (pr.bnd (pr.call 81 [(pr.ld y5 19), (pr.ld y5 20), (pr.ld y5 24), (pr.ld y5 0)]) [fun y9 => (pr.bnd (pr.callD (pr.ld y5 18) [.agg 4, .one] [(pr.ld y5 2), (pr.ld y5 3), (pr.ld y5 4), (pr.ld y5 5), (pr.ld y9 0)]) [fun y10 => (pr.cond (pr.ld y10 0)
           (pr.eqN (pr.natN 1) (pr.len (pr.rows [[(pr.ld y5 24), (pr.ld y5 0)]])) (pr.eqN (pr.ln y5 7) (pr.len (pr.lr y5 17)) (pr.eqN (pr.ln y5 6) (pr.len (pr.lr y5 17)) (pr.fits 16 (pr.addN (pr.ln y5 6) (pr.len (pr.seg (pr.rows [[(pr.ld y5 24), (pr.ld y5 0)]]) none (pr.natN 1))))
           (pr.bin .add false (pr.ld y5 0) (pr.lit (.int Go.IntKind.i64 (1))) fun x11 =>
           (pr.out 0 [.d (pr.lit (.bool true)), .d (pr.ld y5 2), .d (pr.ld y5 3), .d (pr.ld y5 4), .d (pr.ld y5 5), .n (pr.addN (pr.ln y5 6) (pr.len (pr.seg (pr.rows [[(pr.ld y5 24), (pr.ld y5 0)]]) none (pr.natN 1)))), .n (pr.addN (pr.ln y5 6) (pr.len (pr.seg (pr.rows [[(pr.ld y5 24), (pr.ld y5 0)]]) none (pr.natN 1)))), .n (pr.ln y5 8), .n (pr.ln y5 9), .d (pr.ld y5 10), .r (pr.lr y5 11), .r (pr.lr y5 12), .d (pr.ld y5 13), .d (pr.ld y5 14), .d (pr.ld y5 15), .d (pr.ld y5 16), .r (pr.app (pr.lr y5 17) (pr.seg (pr.rows [[(pr.ld y5 24), (pr.ld y5 0)]]) none (pr.natN 1))), .d (pr.ld y5 18), .d (pr.ld y5 19), .d (pr.ld y5 20), .d (pr.ld y5 21), .d x11, .d (pr.ld y5 23), .d (pr.ld y5 24), .d (pr.ld y5 25), .d (pr.ld y5 26), .d (pr.ld y5 27), .d (pr.ld y5 28), .d (pr.ld y5 29), .d (pr.ld y5 30), .d (pr.ld y5 31)]))))))
           (pr.bin .add false (pr.ld y5 0) (pr.lit (.int Go.IntKind.i64 (1))) fun x11 =>
           (J5 0 [.d x11, .d (pr.ld y5 1), .d (pr.ld y5 2), .d (pr.ld y5 3), .d (pr.ld y5 4), .d (pr.ld y5 5), .n (pr.ln y5 6), .n (pr.ln y5 7), .n (pr.ln y5 8), .n (pr.ln y5 9), .d (pr.ld y5 10), .r (pr.lr y5 11), .r (pr.lr y5 12), .d (pr.ld y5 13), .d (pr.ld y5 14), .d (pr.ld y5 15), .d (pr.ld y5 16), .r (pr.lr y5 17), .d (pr.ld y5 18), .d (pr.ld y5 19), .d (pr.ld y5 20), .d (pr.ld y5 21), .d (pr.ld y5 22), .d (pr.ld y5 23), .d (pr.ld y5 24), .d (pr.ld y5 25), .d (pr.ld y5 26), .d (pr.ld y5 27), .d (pr.ld y5 28), .d (pr.ld y5 29), .d (pr.ld y5 30), .d (pr.ld y5 31)])))])])
         (pr.out 1 [.d (pr.ld y5 1), .d (pr.ld y5 2), .d (pr.ld y5 3), .d (pr.ld y5 4), .d (pr.ld y5 5), .n (pr.ln y5 6), .n (pr.ln y5 7), .n (pr.ln y5 8), .n (pr.ln y5 9), .d (pr.ld y5 10), .r (pr.lr y5 11), .r (pr.lr y5 12), .d (pr.ld y5 13), .d (pr.ld y5 14), .d (pr.ld y5 15), .d (pr.ld y5 16), .r (pr.lr y5 17), .d (pr.ld y5 18), .d (pr.ld y5 19), .d (pr.ld y5 20), .d (pr.ld y5 21), .d (pr.ld y5 22), .d (pr.ld y5 23), .d (pr.ld y5 24), .d (pr.ld y5 25), .d (pr.ld y5 26), .d (pr.ld y5 27), .d (pr.ld y5 28), .d (pr.ld y5 29), .d (pr.ld y5 30), .d (pr.ld y5 31)]))))
       (pr.out 1 [.d (pr.ld y5 1), .d (pr.ld y5 2), .d (pr.ld y5 3), .d (pr.ld y5 4), .d (pr.ld y5 5), .n (pr.ln y5 6), .n (pr.ln y5 7), .n (pr.ln y5 8), .n (pr.ln y5 9), .d (pr.ld y5 10), .r (pr.lr y5 11), .r (pr.lr y5 12), .d (pr.ld y5 13), .d (pr.ld y5 14), .d (pr.ld y5 15), .d (pr.ld y5 16), .r (pr.lr y5 17), .d (pr.ld y5 18), .d (pr.ld y5 19), .d (pr.ld y5 20), .d (pr.ld y5 21), .d (pr.ld y5 22), .d (pr.ld y5 23), .d (pr.ld y5 24), .d (pr.ld y5 25), .d (pr.ld y5 26), .d (pr.ld y5 27), .d (pr.ld y5 28), .d (pr.ld y5 29), .d (pr.ld y5 30), .d (pr.ld y5 31)])))
def L74_5  : (Nat → List (Y Δ N R M) → Ω) → E → Ω := fun J1 y1 =>
 (pr.bin .lss false (pr.ld y1 2) (pr.ld y1 1) fun x2 =>
  (pr.cond x2
   (pr.rowD 4 (pr.ld y1 0) (pr.ld y1 2) fun w3 =>
   (pr.eqN (pr.natN 1) (pr.len (pr.rows [[(pr.ld y1 8)]])) (pr.isNil (pr.seg (pr.rows [[(pr.ld y1 8)]]) none (pr.natN 1))
    (pr.mm true (pr.ld y1 8) (pr.cell w3 2) fun x4 => (pr.bnd (pr.loop [(L74_3 pr)] 0 [.d x4, .d (pr.lit (.bool false)), .d (pr.cell w3 0), .d (pr.cell w3 1), .d (pr.cell w3 2), .d (pr.cell w3 3), .n (pr.ln y1 9), .n (pr.ln y1 10), .d (pr.ld y1 11), .r (pr.rows [[(pr.ld y1 8)]]), .d (pr.cell w3 0), .d (pr.cell w3 1), .d (pr.cell w3 2), .d (pr.cell w3 3), .r (pr.lr y1 3), .d (pr.ld y1 4), .d (pr.ld y1 5), .d (pr.ld y1 6), .d (pr.ld y1 7), .d (pr.ld y1 8), .d (pr.ld y1 12), .d x4, .d (pr.cell w3 0), .d (pr.cell w3 1), .d (pr.cell w3 2), .d (pr.cell w3 3), .d (pr.ld y1 5), .d (pr.ld y1 6), .d (pr.ld y1 7)]) [fun y5 => (pr.un .not (pr.ld y5 0) fun x6 => (pr.cond x6
       (pr.out 2 [.r (pr.lr y5 13), .n (pr.ln y5 5), .n (pr.ln y5 6), .d (pr.ld y5 7)])
       (pr.bin .add false (pr.ld y1 2) (pr.lit (.int Go.IntKind.i64 (1))) fun x7 =>
       (J1 1 [.d (pr.ld y1 0), .d (pr.ld y1 1), .d x7, .r (pr.lr y5 13), .d (pr.ld y5 14), .d (pr.ld y5 15), .d (pr.ld y5 16), .d (pr.ld y5 17), .d (pr.ld y5 18), .n (pr.ln y5 5), .n (pr.ln y5 6), .d (pr.ld y5 7), .d (pr.ld y5 19)])))), fun y5 => (pr.out 2 [.r (pr.lr y5 13), .n (pr.ln y5 5), .n (pr.ln y5 6), .d (pr.ld y5 7)])]))
    (pr.fits 8 (pr.len (pr.seg (pr.rows [[(pr.ld y1 8)]]) none (pr.natN 1)))
    (pr.mm true (pr.ld y1 8) (pr.cell w3 2) fun x4 => (pr.bnd (pr.loop [(L74_4 pr)] 0 [.d x4, .d (pr.lit (.bool false)), .d (pr.cell w3 0), .d (pr.cell w3 1), .d (pr.cell w3 2), .d (pr.cell w3 3), .n (pr.ln y1 9), .n (pr.ln y1 10), .n (pr.len (pr.seg (pr.rows [[(pr.ld y1 8)]]) none (pr.natN 1))), .n (pr.len (pr.seg (pr.rows [[(pr.ld y1 8)]]) none (pr.natN 1))), .d (pr.ld y1 11), .r (pr.seg (pr.rows [[(pr.ld y1 8)]]) none (pr.natN 1)), .r (pr.rows [[(pr.ld y1 8)]]), .d (pr.cell w3 0), .d (pr.cell w3 1), .d (pr.cell w3 2), .d (pr.cell w3 3), .r (pr.lr y1 3), .d (pr.ld y1 4), .d (pr.ld y1 5), .d (pr.ld y1 6), .d (pr.ld y1 7), .d (pr.ld y1 8), .d (pr.ld y1 12), .d x4, .d (pr.cell w3 0), .d (pr.cell w3 1), .d (pr.cell w3 2), .d (pr.cell w3 3), .d (pr.ld y1 5), .d (pr.ld y1 6), .d (pr.ld y1 7)]) [fun y5 => (pr.un .not (pr.ld y5 0) fun x6 => (pr.cond x6
       (pr.out 4 [.r (pr.lr y5 10), .r (pr.lr y5 16), .n (pr.ln y5 5), .n (pr.ln y5 6), .n (pr.ln y5 7), .n (pr.ln y5 8), .d (pr.ld y5 9)])
       (pr.bin .add false (pr.ld y1 2) (pr.lit (.int Go.IntKind.i64 (1))) fun x7 =>
       (J1 3 [.d (pr.ld y1 0), .d (pr.ld y1 1), .d x7, .r (pr.lr y5 10), .r (pr.lr y5 16), .d (pr.ld y5 17), .d (pr.ld y5 18), .d (pr.ld y5 19), .d (pr.ld y5 20), .d (pr.ld y5 21), .n (pr.ln y5 5), .n (pr.ln y5 6), .n (pr.ln y5 7), .n (pr.ln y5 8), .d (pr.ld y5 9), .d (pr.ld y5 22)])))), fun y5 => (pr.out 4 [.r (pr.lr y5 10), .r (pr.lr y5 16), .n (pr.ln y5 5), .n (pr.ln y5 6), .n (pr.ln y5 7), .n (pr.ln y5 8), .d (pr.ld y5 9)])]))))))
   (pr.out 5 [.r (pr.lr y1 3), .n (pr.ln y1 9), .n (pr.ln y1 10), .d (pr.ld y1 11), .d (pr.ld y1 12)])))
def L74_6  : (Nat → List (Y Δ N R M) → Ω) → E → Ω := fun J5 y5 =>
 (pr.bin .leq false (pr.ld y5 0) (pr.ld y5 25) fun x6 =>
      (pr.cond x6
       (pr.lenD (pr.ld y5 27) fun x7 =>
       (pr.bin .lss false (pr.ld y5 0) x7 fun x8 =>
        (pr.cond x8
         (pr.bnd (pr.call 81 [(pr.ld y5 16), (pr.ld y5 17), (pr.ld y5 21), (pr.ld y5 0)]) [fun y9 => (pr.bnd (pr.callD (pr.ld y5 15) [.agg 4, .one] [(pr.ld y5 2), (pr.ld y5 3), (pr.ld y5 4), (pr.ld y5 5), (pr.ld y9 0)]) [fun y10 => (pr.cond (pr.ld y10 0)
           (pr.eqN (pr.natN 1) (pr.len (pr.rows [[(pr.ld y5 21), (pr.ld y5 0)]])) (pr.isNil (pr.seg (pr.rows [[(pr.ld y5 21), (pr.ld y5 0)]]) none (pr.natN 1))
           (pr.bin .add false (pr.ld y5 0) (pr.lit (.int Go.IntKind.i64 (1))) fun x11 =>
           (pr.out 0 [.d (pr.lit (.bool true)), .d (pr.ld y5 2), .d (pr.ld y5 3), .d (pr.ld y5 4), .d (pr.ld y5 5), .n (pr.ln y5 6), .n (pr.ln y5 7), .d (pr.ld y5 8), .r (pr.lr y5 9), .r (pr.lr y5 10), .d (pr.ld y5 11), .d (pr.ld y5 12), .d (pr.ld y5 13), .d (pr.ld y5 14), .d (pr.ld y5 15), .d (pr.ld y5 16), .d (pr.ld y5 17), .d (pr.ld y5 18), .d x11, .d (pr.ld y5 20), .d (pr.ld y5 21), .d (pr.ld y5 22), .d (pr.ld y5 23), .d (pr.ld y5 24), .d (pr.ld y5 25), .d (pr.ld y5 26), .d (pr.ld y5 27), .d (pr.ld y5 28)]))
           (pr.fits 16 (pr.len (pr.seg (pr.rows [[(pr.ld y5 21), (pr.ld y5 0)]]) none (pr.natN 1)))
           (pr.bin .add false (pr.ld y5 0) (pr.lit (.int Go.IntKind.i64 (1))) fun x11 =>
           (pr.out 1 [.r (pr.seg (pr.rows [[(pr.ld y5 21), (pr.ld y5 0)]]) none (pr.natN 1)), .d (pr.lit (.bool true)), .d (pr.ld y5 2), .d (pr.ld y5 3), .d (pr.ld y5 4), .d (pr.ld y5 5), .n (pr.len (pr.seg (pr.rows [[(pr.ld y5 21), (pr.ld y5 0)]]) none (pr.natN 1))), .n (pr.len (pr.seg (pr.rows [[(pr.ld y5 21), (pr.ld y5 0)]]) none (pr.natN 1))), .n (pr.ln y5 6), .n (pr.ln y5 7), .d (pr.ld y5 8), .r (pr.lr y5 9), .r (pr.lr y5 10), .d (pr.ld y5 11), .d (pr.ld y5 12), .d (pr.ld y5 13), .d (pr.ld y5 14), .d (pr.ld y5 15), .d (pr.ld y5 16), .d (pr.ld y5 17), .d (pr.ld y5 18), .d x11, .d (pr.ld y5 20), .d (pr.ld y5 21), .d (pr.ld y5 22), .d (pr.ld y5 23), .d (pr.ld y5 24), .d (pr.ld y5 25), .d (pr.ld y5 26), .d (pr.ld y5 27), .d (pr.ld y5 28)])))))
           (pr.bin .add false (pr.ld y5 0) (pr.lit (.int Go.IntKind.i64 (1))) fun x11 =>
           (J5 0 [.d x11, .d (pr.ld y5 1), .d (pr.ld y5 2), .d (pr.ld y5 3), .d (pr.ld y5 4), .d (pr.ld y5 5), .n (pr.ln y5 6), .n (pr.ln y5 7), .d (pr.ld y5 8), .r (pr.lr y5 9), .r (pr.lr y5 10), .d (pr.ld y5 11), .d (pr.ld y5 12), .d (pr.ld y5 13), .d (pr.ld y5 14), .d (pr.ld y5 15), .d (pr.ld y5 16), .d (pr.ld y5 17), .d (pr.ld y5 18), .d (pr.ld y5 19), .d (pr.ld y5 20), .d (pr.ld y5 21), .d (pr.ld y5 22), .d (pr.ld y5 23), .d (pr.ld y5 24), .d (pr.ld y5 25), .d (pr.ld y5 26), .d (pr.ld y5 27), .d (pr.ld y5 28)])))])])
         (pr.out 2 [.d (pr.ld y5 1), .d (pr.ld y5 2), .d (pr.ld y5 3), .d (pr.ld y5 4), .d (pr.ld y5 5), .n (pr.ln y5 6), .n (pr.ln y5 7), .d (pr.ld y5 8), .r (pr.lr y5 9), .r (pr.lr y5 10), .d (pr.ld y5 11), .d (pr.ld y5 12), .d (pr.ld y5 13), .d (pr.ld y5 14), .d (pr.ld y5 15), .d (pr.ld y5 16), .d (pr.ld y5 17), .d (pr.ld y5 18), .d (pr.ld y5 19), .d (pr.ld y5 20), .d (pr.ld y5 21), .d (pr.ld y5 22), .d (pr.ld y5 23), .d (pr.ld y5 24), .d (pr.ld y5 25), .d (pr.ld y5 26), .d (pr.ld y5 27), .d (pr.ld y5 28)]))))
       (pr.out 2 [.d (pr.ld y5 1), .d (pr.ld y5 2), .d (pr.ld y5 3), .d (pr.ld y5 4), .d (pr.ld y5 5), .n (pr.ln y5 6), .n (pr.ln y5 7), .d (pr.ld y5 8), .r (pr.lr y5 9), .r (pr.lr y5 10), .d (pr.ld y5 11), .d (pr.ld y5 12), .d (pr.ld y5 13), .d (pr.ld y5 14), .d (pr.ld y5 15), .d (pr.ld y5 16), .d (pr.ld y5 17), .d (pr.ld y5 18), .d (pr.ld y5 19), .d (pr.ld y5 20), .d (pr.ld y5 21), .d (pr.ld y5 22), .d (pr.ld y5 23), .d (pr.ld y5 24), .d (pr.ld y5 25), .d (pr.ld y5 26), .d (pr.ld y5 27), .d (pr.ld y5 28)])))
def L74_7  : (Nat → List (Y Δ N R M) → Ω) → E → Ω := fun J1 y1 =>
 (pr.bin .lss false (pr.ld y1 2) (pr.ld y1 1) fun x2 =>
  (pr.cond x2
   (pr.rowD 4 (pr.ld y1 0) (pr.ld y1 2) fun w3 =>
   (pr.eqN (pr.natN 1) (pr.len (pr.rows [[(pr.ld y1 8)]])) (pr.eqN (pr.ln y1 10) (pr.len (pr.lr y1 3)) (pr.eqN (pr.ln y1 9) (pr.len (pr.lr y1 3)) (pr.fits 8 (pr.addN (pr.ln y1 9) (pr.len (pr.seg (pr.rows [[(pr.ld y1 8)]]) none (pr.natN 1))))
    (pr.mm true (pr.ld y1 8) (pr.cell w3 2) fun x4 => (pr.bnd (pr.loop [(L74_6 pr)] 0 [.d x4, .d (pr.lit (.bool false)), .d (pr.cell w3 0), .d (pr.cell w3 1), .d (pr.cell w3 2), .d (pr.cell w3 3), .n (pr.addN (pr.ln y1 9) (pr.len (pr.seg (pr.rows [[(pr.ld y1 8)]]) none (pr.natN 1)))), .n (pr.addN (pr.ln y1 9) (pr.len (pr.seg (pr.rows [[(pr.ld y1 8)]]) none (pr.natN 1)))), .d (pr.ld y1 11), .r (pr.app (pr.lr y1 3) (pr.seg (pr.rows [[(pr.ld y1 8)]]) none (pr.natN 1))), .r (pr.rows [[(pr.ld y1 8)]]), .d (pr.cell w3 0), .d (pr.cell w3 1), .d (pr.cell w3 2), .d (pr.cell w3 3), .d (pr.ld y1 4), .d (pr.ld y1 5), .d (pr.ld y1 6), .d (pr.ld y1 7), .d (pr.ld y1 8), .d (pr.ld y1 12), .d x4, .d (pr.cell w3 0), .d (pr.cell w3 1), .d (pr.cell w3 2), .d (pr.cell w3 3), .d (pr.ld y1 5), .d (pr.ld y1 6), .d (pr.ld y1 7)]) [fun y5 => (pr.un .not (pr.ld y5 0) fun x6 => (pr.cond x6
       (pr.out 3 [.r (pr.lr y5 8), .n (pr.ln y5 5), .n (pr.ln y5 6), .d (pr.ld y5 7)])
       (pr.bin .add false (pr.ld y1 2) (pr.lit (.int Go.IntKind.i64 (1))) fun x7 =>
       (J1 2 [.d (pr.ld y1 0), .d (pr.ld y1 1), .d x7, .r (pr.lr y5 8), .d (pr.ld y5 14), .d (pr.ld y5 15), .d (pr.ld y5 16), .d (pr.ld y5 17), .d (pr.ld y5 18), .n (pr.ln y5 5), .n (pr.ln y5 6), .d (pr.ld y5 7), .d (pr.ld y5 19)])))), fun y5 => (pr.un .not (pr.ld y5 1) fun x6 => (pr.cond x6
       (pr.out 4 [.r (pr.lr y5 11), .r (pr.lr y5 0), .n (pr.ln y5 6), .n (pr.ln y5 7), .n (pr.ln y5 8), .n (pr.ln y5 9), .d (pr.ld y5 10)])
       (pr.bin .add false (pr.ld y1 2) (pr.lit (.int Go.IntKind.i64 (1))) fun x7 =>
       (J1 3 [.d (pr.ld y1 0), .d (pr.ld y1 1), .d x7, .r (pr.lr y5 11), .r (pr.lr y5 0), .d (pr.ld y5 17), .d (pr.ld y5 18), .d (pr.ld y5 19), .d (pr.ld y5 20), .d (pr.ld y5 21), .n (pr.ln y5 6), .n (pr.ln y5 7), .n (pr.ln y5 8), .n (pr.ln y5 9), .d (pr.ld y5 10), .d (pr.ld y5 22)])))), fun y5 => (pr.out 3 [.r (pr.lr y5 8), .n (pr.ln y5 5), .n (pr.ln y5 6), .d (pr.ld y5 7)])])))))))
   (pr.out 6 [.r (pr.lr y1 3), .n (pr.ln y1 9), .n (pr.ln y1 10), .d (pr.ld y1 11), .d (pr.ld y1 12)])))
def L74_8  : (Nat → List (Y Δ N R M) → Ω) → E → Ω := fun J5 y5 =>
 (pr.bin .leq false (pr.ld y5 0) (pr.ld y5 28) fun x6 =>
      (pr.cond x6
       (pr.lenD (pr.ld y5 30) fun x7 =>
       (pr.bin .lss false (pr.ld y5 0) x7 fun x8 =>
        (pr.cond x8
         (pr.bnd (pr.call 81 [(pr.ld y5 19), (pr.ld y5 20), (pr.ld y5 24), (pr.ld y5 0)]) [fun y9 => (pr.bnd (pr.callD (pr.ld y5 18) [.agg 4, .one] [(pr.ld y5 2), (pr.ld y5 3), (pr.ld y5 4), (pr.ld y5 5), (pr.ld y9 0)]) [fun y10 => (pr.cond (pr.ld y10 0)
           (pr.eqN (pr.natN 1) (pr.len (pr.rows [[(pr.ld y5 24), (pr.ld y5 0)]])) (pr.eqN (pr.ln y5 7) (pr.len (pr.lr y5 17)) (pr.eqN (pr.ln y5 6) (pr.len (pr.lr y5 17)) (pr.fits 16 (pr.addN (pr.ln y5 6) (pr.len (pr.seg (pr.rows [[(pr.ld y5 24), (pr.ld y5 0)]]) none (pr.natN 1))))
           (pr.bin .add false (pr.ld y5 0) (pr.lit (.int Go.IntKind.i64 (1))) fun x11 =>
           (pr.out 0 [.d (pr.lit (.bool true)), .d (pr.ld y5 2), .d (pr.ld y5 3), .d (pr.ld y5 4), .d (pr.ld y5 5), .n (pr.addN (pr.ln y5 6) (pr.len (pr.seg (pr.rows [[(pr.ld y5 24), (pr.ld y5 0)]]) none (pr.natN 1)))), .n (pr.addN (pr.ln y5 6) (pr.len (pr.seg (pr.rows [[(pr.ld y5 24), (pr.ld y5 0)]]) none (pr.natN 1)))), .n (pr.ln y5 8), .n (pr.ln y5 9), .d (pr.ld y5 10), .r (pr.lr y5 11), .r (pr.lr y5 12), .d (pr.ld y5 13), .d (pr.ld y5 14), .d (pr.ld y5 15), .d (pr.ld y5 16), .r (pr.app (pr.lr y5 17) (pr.seg (pr.rows [[(pr.ld y5 24), (pr.ld y5 0)]]) none (pr.natN 1))), .d (pr.ld y5 18), .d (pr.ld y5 19), .d (pr.ld y5 20), .d (pr.ld y5 21), .d x11, .d (pr.ld y5 23), .d (pr.ld y5 24), .d (pr.ld y5 25), .d (pr.ld y5 26), .d (pr.ld y5 27), .d (pr.ld y5 28), .d (pr.ld y5 29), .d (pr.ld y5 30), .d (pr.ld y5 31)]))))))
           (pr.bin .add false (pr.ld y5 0) (pr.lit (.int Go.IntKind.i64 (1))) fun x11 =>
           (J5 0 [.d x11, .d (pr.ld y5 1), .d (pr.ld y5 2), .d (pr.ld y5 3), .d (pr.ld y5 4), .d (pr.ld y5 5), .n (pr.ln y5 6), .n (pr.ln y5 7), .n (pr.ln y5 8), .n (pr.ln y5 9), .d (pr.ld y5 10), .r (pr.lr y5 11), .r (pr.lr y5 12), .d (pr.ld y5 13), .d (pr.ld y5 14), .d (pr.ld y5 15), .d (pr.ld y5 16), .r (pr.lr y5 17), .d (pr.ld y5 18), .d (pr.ld y5 19), .d (pr.ld y5 20), .d (pr.ld y5 21), .d (pr.ld y5 22), .d (pr.ld y5 23), .d (pr.ld y5 24), .d (pr.ld y5 25), .d (pr.ld y5 26), .d (pr.ld y5 27), .d (pr.ld y5 28), .d (pr.ld y5 29), .d (pr.ld y5 30), .d (pr.ld y5 31)])))])])
         (pr.out 1 [.d (pr.ld y5 1), .d (pr.ld y5 2), .d (pr.ld y5 3), .d (pr.ld y5 4), .d (pr.ld y5 5), .n (pr.ln y5 6), .n (pr.ln y5 7), .n (pr.ln y5 8), .n (pr.ln y5 9), .d (pr.ld y5 10), .r (pr.lr y5 11), .r (pr.lr y5 12), .d (pr.ld y5 13), .d (pr.ld y5 14), .d (pr.ld y5 15), .d (pr.ld y5 16), .r (pr.lr y5 17), .d (pr.ld y5 18), .d (pr.ld y5 19), .d (pr.ld y5 20), .d (pr.ld y5 21), .d (pr.ld y5 22), .d (pr.ld y5 23), .d (pr.ld y5 24), .d (pr.ld y5 25), .d (pr.ld y5 26), .d (pr.ld y5 27), .d (pr.ld y5 28), .d (pr.ld y5 29), .d (pr.ld y5 30), .d (pr.ld y5 31)]))))
       (pr.out 1 [.d (pr.ld y5 1), .d (pr.ld y5 2), .d (pr.ld y5 3), .d (pr.ld y5 4), .d (pr.ld y5 5), .n (pr.ln y5 6), .n (pr.ln y5 7), .n (pr.ln y5 8), .n (pr.ln y5 9), .d (pr.ld y5 10), .r (pr.lr y5 11), .r (pr.lr y5 12), .d (pr.ld y5 13), .d (pr.ld y5 14), .d (pr.ld y5 15), .d (pr.ld y5 16), .r (pr.lr y5 17), .d (pr.ld y5 18), .d (pr.ld y5 19), .d (pr.ld y5 20), .d (pr.ld y5 21), .d (pr.ld y5 22), .d (pr.ld y5 23), .d (pr.ld y5 24), .d (pr.ld y5 25), .d (pr.ld y5 26), .d (pr.ld y5 27), .d (pr.ld y5 28), .d (pr.ld y5 29), .d (pr.ld y5 30), .d (pr.ld y5 31)])))
def L74_9  : (Nat → List (Y Δ N R M) → Ω) → E → Ω := fun J1 y1 =>
 (pr.bin .lss false (pr.ld y1 2) (pr.ld y1 1) fun x2 =>
  (pr.cond x2
   (pr.rowD 4 (pr.ld y1 0) (pr.ld y1 2) fun w3 =>
   (pr.eqN (pr.natN 1) (pr.len (pr.rows [[(pr.ld y1 9)]])) (pr.eqN (pr.ln y1 13) (pr.len (pr.lr y1 3)) (pr.eqN (pr.ln y1 12) (pr.len (pr.lr y1 3)) (pr.fits 8 (pr.addN (pr.ln y1 12) (pr.len (pr.seg (pr.rows [[(pr.ld y1 9)]]) none (pr.natN 1))))
    (pr.mm true (pr.ld y1 9) (pr.cell w3 2) fun x4 => (pr.bnd (pr.loop [(L74_8 pr)] 0 [.d x4, .d (pr.lit (.bool false)), .d (pr.cell w3 0), .d (pr.cell w3 1), .d (pr.cell w3 2), .d (pr.cell w3 3), .n (pr.ln y1 10), .n (pr.ln y1 11), .n (pr.addN (pr.ln y1 12) (pr.len (pr.seg (pr.rows [[(pr.ld y1 9)]]) none (pr.natN 1)))), .n (pr.addN (pr.ln y1 12) (pr.len (pr.seg (pr.rows [[(pr.ld y1 9)]]) none (pr.natN 1)))), .d (pr.ld y1 14), .r (pr.app (pr.lr y1 3) (pr.seg (pr.rows [[(pr.ld y1 9)]]) none (pr.natN 1))), .r (pr.rows [[(pr.ld y1 9)]]), .d (pr.cell w3 0), .d (pr.cell w3 1), .d (pr.cell w3 2), .d (pr.cell w3 3), .r (pr.lr y1 4), .d (pr.ld y1 5), .d (pr.ld y1 6), .d (pr.ld y1 7), .d (pr.ld y1 8), .d (pr.ld y1 9), .d (pr.ld y1 15), .d x4, .d (pr.cell w3 0), .d (pr.cell w3 1), .d (pr.cell w3 2), .d (pr.cell w3 3), .d (pr.ld y1 6), .d (pr.ld y1 7), .d (pr.ld y1 8)]) [fun y5 => (pr.un .not (pr.ld y5 0) fun x6 => (pr.cond x6
       (pr.out 4 [.r (pr.lr y5 10), .r (pr.lr y5 16), .n (pr.ln y5 5), .n (pr.ln y5 6), .n (pr.ln y5 7), .n (pr.ln y5 8), .d (pr.ld y5 9)])
       (pr.bin .add false (pr.ld y1 2) (pr.lit (.int Go.IntKind.i64 (1))) fun x7 =>
       (J1 3 [.d (pr.ld y1 0), .d (pr.ld y1 1), .d x7, .r (pr.lr y5 10), .r (pr.lr y5 16), .d (pr.ld y5 17), .d (pr.ld y5 18), .d (pr.ld y5 19), .d (pr.ld y5 20), .d (pr.ld y5 21), .n (pr.ln y5 5), .n (pr.ln y5 6), .n (pr.ln y5 7), .n (pr.ln y5 8), .d (pr.ld y5 9), .d (pr.ld y5 22)])))), fun y5 => (pr.out 4 [.r (pr.lr y5 10), .r (pr.lr y5 16), .n (pr.ln y5 5), .n (pr.ln y5 6), .n (pr.ln y5 7), .n (pr.ln y5 8), .d (pr.ld y5 9)])])))))))
   (pr.out 7 [.r (pr.lr y1 3), .r (pr.lr y1 4), .n (pr.ln y1 10), .n (pr.ln y1 11), .n (pr.ln y1 12), .n (pr.ln y1 13), .d (pr.ld y1 14), .d (pr.ld y1 15)])))
def G74 (a0 a1 a2 a3 : Δ) : Ω :=
 (pr.lenD a2 fun x0 =>
(pr.bnd (pr.loop [(L74_2 pr), (L74_5 pr), (L74_7 pr), (L74_9 pr)] 0 [.d a2, .d x0, .d (pr.lit (.int Go.IntKind.i64 (0))), .d a3, .d a0, .d a1, .d a2, .d (pr.lit (.int Go.IntKind.i64 (0))), .d (pr.lit (.bool false)), .d (pr.lit (.bool false))]) [fun y1 => (pr.out 1 [.d (pr.lit (.slice none 0 0)), .d (pr.lit (.slice none 0 0)), .d (pr.lit (.bool true))]), fun y1 => (pr.out 1 [.d (pr.lit (.slice none 0 0)), .d (pr.lit (.slice none 0 0)), .d (pr.ld y1 0)]), fun y1 => (pr.eqN (pr.ln y1 2) (pr.len (pr.lr y1 0)) (pr.out 1 [.d (pr.slD 2 (pr.seg (pr.lr y1 0) none (pr.ln y1 1))), .d (pr.lit (.slice none 0 0)), .d (pr.ld y1 3)])), fun y1 => (pr.eqN (pr.ln y1 2) (pr.len (pr.lr y1 0)) (pr.leN (pr.ln y1 1) (pr.len (pr.lr y1 0)) (pr.out 0 [.d (pr.lit (.slice none 0 0)), .r (pr.seg (pr.lr y1 0) none (pr.ln y1 1)), .d (pr.ld y1 3)]))), fun y1 => (pr.eqN (pr.ln y1 3) (pr.len (pr.lr y1 1)) (pr.leN (pr.ln y1 2) (pr.len (pr.lr y1 1)) (pr.eqN (pr.ln y1 5) (pr.len (pr.lr y1 0)) (pr.leN (pr.ln y1 4) (pr.len (pr.lr y1 0)) (pr.out 0 [.d (pr.slD 2 (pr.seg (pr.lr y1 1) none (pr.ln y1 2))), .r (pr.seg (pr.lr y1 0) none (pr.ln y1 4)), .d (pr.ld y1 6)]))))), fun y1 => (pr.eqN (pr.ln y1 2) (pr.len (pr.lr y1 0)) (pr.out 1 [.d (pr.slD 2 (pr.seg (pr.lr y1 0) none (pr.ln y1 1))), .d (pr.lit (.slice none 0 0)), .d (pr.lit (.bool true))])), fun y1 => (pr.eqN (pr.ln y1 2) (pr.len (pr.lr y1 0)) (pr.leN (pr.ln y1 1) (pr.len (pr.lr y1 0)) (pr.out 0 [.d (pr.lit (.slice none 0 0)), .r (pr.seg (pr.lr y1 0) none (pr.ln y1 1)), .d (pr.lit (.bool true))]))), fun y1 => (pr.eqN (pr.ln y1 3) (pr.len (pr.lr y1 1)) (pr.leN (pr.ln y1 2) (pr.len (pr.lr y1 1)) (pr.eqN (pr.ln y1 5) (pr.len (pr.lr y1 0)) (pr.leN (pr.ln y1 4) (pr.len (pr.lr y1 0)) (pr.out 0 [.d (pr.slD 2 (pr.seg (pr.lr y1 1) none (pr.ln y1 2))), .r (pr.seg (pr.lr y1 0) none (pr.ln y1 4)), .d (pr.lit (.bool true))])))))]))
/-! leazing/drift.anything -/
def G75 (a0 a1 a2 a3 a4 : Δ) : Ω :=
 (pr.out 0 [.d (pr.lit (.bool true))])
/-! leazing/drift.worth -/
def L81_0  : (Nat → List (Y Δ N R M) → Ω) → E → Ω := fun J1 y1 =>
 (pr.bin .leq false (pr.ld y1 0) (pr.ld y1 2) fun x2 =>
  (pr.cond x2
   (pr.lenD (pr.ld y1 4) fun x3 =>
   (pr.bin .lss false (pr.ld y1 0) x3 fun x4 =>
    (pr.cond x4
     (pr.rowD 3 (pr.ld y1 4) (pr.ld y1 0) fun w5 =>
     (pr.eqN (pr.natN 1) (pr.len (pr.rows [[(pr.cell w5 2)]])) (pr.isNil (pr.seg (pr.rows [[(pr.cell w5 2)]]) none (pr.natN 1))
      (pr.bin .add false (pr.ld y1 0) (pr.lit (.int Go.IntKind.i64 (1))) fun x6 =>
      (J1 0 [.d x6, .d (pr.ld y1 1), .d (pr.ld y1 2), .d (pr.ld y1 3), .d (pr.ld y1 4)]))
      (pr.fits 8 (pr.len (pr.seg (pr.rows [[(pr.cell w5 2)]]) none (pr.natN 1)))
      (pr.bin .add false (pr.ld y1 0) (pr.lit (.int Go.IntKind.i64 (1))) fun x6 =>
      (J1 1 [.n (pr.len (pr.seg (pr.rows [[(pr.cell w5 2)]]) none (pr.natN 1))), .n (pr.len (pr.seg (pr.rows [[(pr.cell w5 2)]]) none (pr.natN 1))), .d x6, .r (pr.seg (pr.rows [[(pr.cell w5 2)]]) none (pr.natN 1)), .d (pr.ld y1 1), .d (pr.ld y1 2), .d (pr.ld y1 3), .d (pr.ld y1 4)]))))))
     (pr.out 0 []))))
   (pr.out 0 [])))
def L81_1  : (Nat → List (Y Δ N R M) → Ω) → E → Ω := fun J1 y1 =>
 (pr.bin .leq false (pr.ld y1 2) (pr.ld y1 5) fun x2 =>
  (pr.cond x2
   (pr.lenD (pr.ld y1 7) fun x3 =>
   (pr.bin .lss false (pr.ld y1 2) x3 fun x4 =>
    (pr.cond x4
     (pr.rowD 3 (pr.ld y1 7) (pr.ld y1 2) fun w5 =>
     (pr.eqN (pr.natN 1) (pr.len (pr.rows [[(pr.cell w5 2)]])) (pr.eqN (pr.ln y1 1) (pr.len (pr.lr y1 3)) (pr.eqN (pr.ln y1 0) (pr.len (pr.lr y1 3)) (pr.fits 8 (pr.addN (pr.ln y1 0) (pr.len (pr.seg (pr.rows [[(pr.cell w5 2)]]) none (pr.natN 1))))
      (pr.bin .add false (pr.ld y1 2) (pr.lit (.int Go.IntKind.i64 (1))) fun x6 =>
      (J1 1 [.n (pr.addN (pr.ln y1 0) (pr.len (pr.seg (pr.rows [[(pr.cell w5 2)]]) none (pr.natN 1)))), .n (pr.addN (pr.ln y1 0) (pr.len (pr.seg (pr.rows [[(pr.cell w5 2)]]) none (pr.natN 1)))), .d x6, .r (pr.app (pr.lr y1 3) (pr.seg (pr.rows [[(pr.cell w5 2)]]) none (pr.natN 1))), .d (pr.ld y1 4), .d (pr.ld y1 5), .d (pr.ld y1 6), .d (pr.ld y1 7)])))))))
     (pr.out 1 [.n (pr.ln y1 0), .n (pr.ln y1 1), .r (pr.lr y1 3)]))))
   (pr.out 1 [.n (pr.ln y1 0), .n (pr.ln y1 1), .r (pr.lr y1 3)])))
def G81 (a0 a1 a2 a3 : Δ) : Ω :=
 (pr.mm true a2 (pr.lit (.int Go.IntKind.i64 (0))) fun x0 => (pr.bnd (pr.loop [(L81_0 pr), (L81_1 pr)] 0 [.d x0, .d a2, .d a3, .d a0, .d a1]) [fun y1 => (pr.bnd (pr.call 98 [(pr.lit (.slice none 0 0))]) [fun y2 => (pr.out 0 [.d (pr.ld y2 0)])]), fun y1 => (pr.eqN (pr.ln y1 1) (pr.len (pr.lr y1 2)) (pr.bnd (pr.call 98 [(pr.slD 1 (pr.seg (pr.lr y1 2) none (pr.ln y1 0)))]) [fun y2 => (pr.lits [.d (pr.ld y2 0)]
   (pr.out 0 [.d (pr.ld y2 0)]))]))]))
/-! (*leazing/drift.parted).gains -/
def L85_0  : (Nat → List (Y Δ N R M) → Ω) → E → Ω := fun J1 y1 =>
 (pr.bin .lss false (pr.ld y1 5) (pr.ld y1 4) fun x2 =>
  (pr.cond x2
   (pr.rowD 2 (pr.ld y1 3) (pr.ld y1 5) fun w3 =>
   (pr.bnd (pr.call 81 [(pr.ld y1 0), (pr.ld y1 1), (pr.cell w3 0), (pr.cell w3 1)]) [fun y4 => (pr.rowD 4 (pr.ld y1 2) (pr.ld y1 5) fun w5 =>
     (pr.bnd (pr.call 101 [(pr.ld y4 0), (pr.cell w5 1)]) [fun y6 => (pr.eqN (pr.natN 1) (pr.len (pr.rows [[(pr.ld y6 0), (pr.ld y6 1)]])) (pr.isNil (pr.seg (pr.rows [[(pr.ld y6 0), (pr.ld y6 1)]]) none (pr.natN 1))
       (pr.bin .add false (pr.ld y1 5) (pr.lit (.int Go.IntKind.i64 (1))) fun x7 =>
       (J1 0 [.d (pr.ld y1 0), .d (pr.ld y1 1), .d (pr.ld y1 2), .d (pr.ld y1 3), .d (pr.ld y1 4), .d x7]))
       (pr.fits 16 (pr.len (pr.seg (pr.rows [[(pr.ld y6 0), (pr.ld y6 1)]]) none (pr.natN 1)))
       (pr.bin .add false (pr.ld y1 5) (pr.lit (.int Go.IntKind.i64 (1))) fun x7 =>
       (J1 1 [.d (pr.ld y1 0), .d (pr.ld y1 1), .d (pr.ld y1 2), .n (pr.len (pr.seg (pr.rows [[(pr.ld y6 0), (pr.ld y6 1)]]) none (pr.natN 1))), .n (pr.len (pr.seg (pr.rows [[(pr.ld y6 0), (pr.ld y6 1)]]) none (pr.natN 1))), .d (pr.ld y1 3), .d (pr.ld y1 4), .d x7, .r (pr.seg (pr.rows [[(pr.ld y6 0), (pr.ld y6 1)]]) none (pr.natN 1))])))))]))]))
   (pr.out 0 [])))
def L85_1  : (Nat → List (Y Δ N R M) → Ω) → E → Ω := fun J1 y1 =>
 (pr.bin .lss false (pr.ld y1 7) (pr.ld y1 6) fun x2 =>
  (pr.cond x2
   (pr.rowD 2 (pr.ld y1 5) (pr.ld y1 7) fun w3 =>
   (pr.bnd (pr.call 81 [(pr.ld y1 0), (pr.ld y1 1), (pr.cell w3 0), (pr.cell w3 1)]) [fun y4 => (pr.rowD 4 (pr.ld y1 2) (pr.ld y1 7) fun w5 =>
     (pr.bnd (pr.call 101 [(pr.ld y4 0), (pr.cell w5 1)]) [fun y6 => (pr.eqN (pr.natN 1) (pr.len (pr.rows [[(pr.ld y6 0), (pr.ld y6 1)]])) (pr.eqN (pr.ln y1 4) (pr.len (pr.lr y1 8)) (pr.eqN (pr.ln y1 3) (pr.len (pr.lr y1 8)) (pr.fits 16 (pr.addN (pr.ln y1 3) (pr.len (pr.seg (pr.rows [[(pr.ld y6 0), (pr.ld y6 1)]]) none (pr.natN 1))))
       (pr.bin .add false (pr.ld y1 7) (pr.lit (.int Go.IntKind.i64 (1))) fun x7 =>
       (J1 1 [.d (pr.ld y1 0), .d (pr.ld y1 1), .d (pr.ld y1 2), .n (pr.addN (pr.ln y1 3) (pr.len (pr.seg (pr.rows [[(pr.ld y6 0), (pr.ld y6 1)]]) none (pr.natN 1)))), .n (pr.addN (pr.ln y1 3) (pr.len (pr.seg (pr.rows [[(pr.ld y6 0), (pr.ld y6 1)]]) none (pr.natN 1)))), .d (pr.ld y1 5), .d (pr.ld y1 6), .d x7, .r (pr.app (pr.lr y1 8) (pr.seg (pr.rows [[(pr.ld y6 0), (pr.ld y6 1)]]) none (pr.natN 1)))]))))))]))]))
   (pr.out 1 [.n (pr.ln y1 3), .n (pr.ln y1 4), .r (pr.lr y1 8)])))
def G85 (a0 a1 a2 a3 : Δ) : Ω :=
 (pr.lenD a3 fun x0 =>
(pr.bnd (pr.loop [(L85_0 pr), (L85_1 pr)] 0 [.d a0, .d a1, .d a2, .d a3, .d x0, .d (pr.lit (.int Go.IntKind.i64 (0)))]) [fun y1 => (pr.out 1 [.d (pr.lit (.slice none 0 0))]), fun y1 => (pr.eqN (pr.ln y1 1) (pr.len (pr.lr y1 2)) (pr.leN (pr.ln y1 0) (pr.len (pr.lr y1 2)) (pr.out 0 [.r (pr.seg (pr.lr y1 2) none (pr.ln y1 0))])))]))
/-! slices.IndexFunc[[]leazing/api.Claim,leazing/api.Claim] -/
def L90_0  : (Nat → List (Y Δ N R M) → Ω) → E → Ω := fun J1 y1 =>
 (pr.bin .lss false (pr.ld y1 3) (pr.ld y1 2) fun x2 =>
  (pr.cond x2
   (pr.rowD 4 (pr.ld y1 0) (pr.ld y1 3) fun w3 =>
   (pr.bnd (pr.callD (pr.ld y1 1) [.agg 4] [(pr.cell w3 0), (pr.cell w3 1), (pr.cell w3 2), (pr.cell w3 3)]) [fun y4 => (pr.cond (pr.ld y4 0)
     (pr.out 0 [.d (pr.ld y1 3)])
     (pr.bin .add false (pr.ld y1 3) (pr.lit (.int Go.IntKind.i64 (1))) fun x5 =>
     (J1 0 [.d (pr.ld y1 0), .d (pr.ld y1 1), .d (pr.ld y1 2), .d x5])))]))
   (pr.out 1 [])))
def G90 (a0 a1 : Δ) : Ω :=
 (pr.lenD a0 fun x0 =>
(pr.bnd (pr.loop [(L90_0 pr)] 0 [.d a0, .d a1, .d x0, .d (pr.lit (.int Go.IntKind.i64 (0)))]) [fun y1 => (pr.out 0 [.d (pr.ld y1 0)]), fun y1 => (pr.out 0 [.d (pr.lit (.int Go.IntKind.i64 (-1)))])]))
/-! leazing/drift.poorest -/
def G91 (a0 : Δ) : Ω :=
 (pr.bnd (pr.call 103 [a0, (pr.fnD 104 [])]) [fun y0 => (pr.out 0 [.d (pr.ld y0 0), .d (pr.ld y0 1)])])
/-! leazing/drift.above -/
def G92 (a0 a1 : Δ) : Ω :=
 (pr.out 0 [.d (pr.fnD 105 [(pr.dpD [a0, a1] 0)])])
/-! cmp.Compare[int] -/
def G93 (a0 a1 : Δ) : Ω :=
 (pr.bnd (pr.call 106 [a0]) [fun y0 => (pr.bnd (pr.call 106 [a1]) [fun y1 => (pr.cond (pr.ld y0 0)
  (pr.cond (pr.ld y1 0)
  (pr.out 0 [.d (pr.lit (.int Go.IntKind.i64 (0)))])
  (pr.out 0 [.d (pr.lit (.int Go.IntKind.i64 (-1)))]))
  (pr.cond (pr.ld y1 0)
  (pr.out 0 [.d (pr.lit (.int Go.IntKind.i64 (1)))])
  (pr.bin .lss false a0 a1 fun x2 =>
  (pr.cond x2
   (pr.out 0 [.d (pr.lit (.int Go.IntKind.i64 (-1)))])
   (pr.bin .gtr false a0 a1 fun x3 =>
   (pr.cond x3
    (pr.out 0 [.d (pr.lit (.int Go.IntKind.i64 (1)))])
    (pr.out 0 [.d (pr.lit (.int Go.IntKind.i64 (0)))])))))))])])
/-! leazing/drift.sum -/
def L98_0  : (Nat → List (Y Δ N R M) → Ω) → E → Ω := fun J1 y1 =>
 (pr.bin .lss false (pr.ld y1 3) (pr.ld y1 2) fun x2 =>
  (pr.cond x2
   (pr.rowD 1 (pr.ld y1 1) (pr.ld y1 3) fun w3 =>
   (pr.bin .add false (pr.ld y1 0) (pr.cell w3 0) fun x4 =>
    (pr.bin .add false (pr.ld y1 3) (pr.lit (.int Go.IntKind.i64 (1))) fun x5 =>
     (J1 0 [.d x4, .d (pr.ld y1 1), .d (pr.ld y1 2), .d x5]))))
   (pr.out 0 [.d (pr.ld y1 0)])))
def G98 (a0 : Δ) : Ω :=
 (pr.lenD a0 fun x0 =>
(pr.bnd (pr.loop [(L98_0 pr)] 0 [.d (pr.lit (.int Go.IntKind.i64 (0))), .d a0, .d x0, .d (pr.lit (.int Go.IntKind.i64 (0)))]) [fun y1 => (pr.out 0 [.d (pr.ld y1 0)])]))
/-! leazing/drift.lowest -/
def L101_0  : (Nat → List (Y Δ N R M) → Ω) → E → Ω := fun J0 y0 =>
 (pr.bin .neq false (pr.ld y0 3) (pr.lit (.int Go.IntKind.i64 (0))) fun x1 =>
 (pr.cond x1
  (pr.bin .rem false (pr.ld y0 2) (pr.ld y0 3) fun x2 =>
  (J0 0 [.d (pr.ld y0 0), .d (pr.ld y0 1), .d (pr.ld y0 3), .d x2, .d (pr.ld y0 4), .d (pr.ld y0 5)]))
  (pr.out 0 [.d (pr.ld y0 0), .d (pr.ld y0 1), .d (pr.ld y0 2), .d (pr.ld y0 4), .d (pr.ld y0 5)])))
def G101 (a0 a1 : Δ) : Ω :=
 (pr.bnd (pr.loop [(L101_0 pr)] 0 [.d a0, .d a1, .d a0, .d a1, .d (pr.lit (.int Go.IntKind.i64 (0))), .d (pr.lit (.int Go.IntKind.i64 (0)))]) [fun y0 => (pr.bin .quo false (pr.ld y0 0) (pr.ld y0 2) fun x1 =>
 (pr.bin .quo false (pr.ld y0 1) (pr.ld y0 2) fun x2 =>
  (pr.out 0 [.d x1, .d x2])))])
/-! slices.MinFunc[[]leazing/api.Gain,leazing/api.Gain] -/
def L103_0  : (Nat → List (Y Δ N R M) → Ω) → E → Ω := fun J2 y2 =>
 (pr.lenD (pr.ld y2 0) fun x3 =>
   (pr.bin .lss false (pr.ld y2 2) x3 fun x4 =>
    (pr.cond x4
     (pr.rowD 2 (pr.ld y2 0) (pr.ld y2 2) fun w5 =>
     (pr.bnd (pr.callD (pr.ld y2 1) [.agg 2, .agg 2] [(pr.cell w5 0), (pr.cell w5 1), (pr.ld y2 3), (pr.ld y2 4)]) [fun y6 => (pr.bin .lss false (pr.ld y6 0) (pr.lit (.int Go.IntKind.i64 (0))) fun x7 =>
       (pr.cond x7
        (pr.rowD 2 (pr.ld y2 0) (pr.ld y2 2) fun w8 =>
        (pr.bin .add false (pr.ld y2 2) (pr.lit (.int Go.IntKind.i64 (1))) fun x9 =>
         (J2 0 [.d (pr.ld y2 0), .d (pr.ld y2 1), .d x9, .d (pr.cell w8 0), .d (pr.cell w8 1), .d (pr.ld y2 5), .d (pr.ld y2 6)])))
        (pr.bin .add false (pr.ld y2 2) (pr.lit (.int Go.IntKind.i64 (1))) fun x8 =>
        (J2 0 [.d (pr.ld y2 0), .d (pr.ld y2 1), .d x8, .d (pr.ld y2 3), .d (pr.ld y2 4), .d (pr.ld y2 5), .d (pr.ld y2 6)]))))]))
     (pr.out 0 [.d (pr.ld y2 3), .d (pr.ld y2 4), .d (pr.ld y2 5), .d (pr.ld y2 6)]))))
def G103 (a0 a1 : Δ) : Ω :=
 (pr.bnd (pr.lenD a0 fun x0 =>
(pr.bin .lss false x0 (pr.lit (.int Go.IntKind.i64 (1))) fun x1 =>
 (pr.cond x1
  pr.fail
  (pr.out 0 [.d a0, .d a1, .d (pr.lit (.int Go.IntKind.i64 (0))), .d (pr.lit (.int Go.IntKind.i64 (0)))])))) [fun y0 => (pr.rowD 2 (pr.ld y0 0) (pr.lit (.int Go.IntKind.i64 (0))) fun w1 =>
 (pr.bnd (pr.loop [(L103_0 pr)] 0 [.d (pr.ld y0 0), .d (pr.ld y0 1), .d (pr.lit (.int Go.IntKind.i64 (1))), .d (pr.cell w1 0), .d (pr.cell w1 1), .d (pr.ld y0 2), .d (pr.ld y0 3)]) [fun y2 => (pr.out 0 [.d (pr.ld y2 0), .d (pr.ld y2 1)])]))])
/-! leazing/drift.poorest$1 -/
def G104 (a0 a1 a2 a3 : Δ) : Ω :=
 (pr.bnd (pr.call 70 [a0, a1, a2, a3]) [fun y0 => (pr.out 0 [.d (pr.ld y0 0)])])
/-! leazing/drift.above$1 -/
def G105 (a0 a1 a2 a3 a4 a5 a6 : Δ) : Ω :=
 (pr.bnd (pr.call 70 [a4, a1, a5, a6]) [fun y0 => (pr.bin .gtr false (pr.ld y0 0) (pr.lit (.int Go.IntKind.i64 (0))) fun x1 =>
 (pr.out 0 [.d x1]))])
/-! cmp.isNaN[int] -/
def G106 (a0 : Δ) : Ω :=
 (pr.bin .neq false a0 a0 fun x0 =>
(pr.out 0 [.d x0]))
end
theorem G74_eq {Δ N R W M E Ω : Type} (pr : Pr Δ N R W M E Ω) (a0 a1 a2 a3 : Δ) : fun3 pr tb Try.prog 400 74 [a0, a1, a2, a3] = G74 pr a0 a1 a2 a3 := by kernel_rfl
theorem F74 (n : Nat) (a0 a1 a2 a3 : D) : FN (n + 1) 74 [a0, a1, a2, a3] = G74 (RP n) a0 a1 a2 a3 := G74_eq _ a0 a1 a2 a3
theorem G75_eq {Δ N R W M E Ω : Type} (pr : Pr Δ N R W M E Ω) (a0 a1 a2 a3 a4 : Δ) : fun3 pr tb Try.prog 400 75 [a0, a1, a2, a3, a4] = G75 pr a0 a1 a2 a3 a4 := by kernel_rfl
theorem F75 (n : Nat) (a0 a1 a2 a3 a4 : D) : FN (n + 1) 75 [a0, a1, a2, a3, a4] = G75 (RP n) a0 a1 a2 a3 a4 := G75_eq _ a0 a1 a2 a3 a4
theorem G81_eq {Δ N R W M E Ω : Type} (pr : Pr Δ N R W M E Ω) (a0 a1 a2 a3 : Δ) : fun3 pr tb Try.prog 400 81 [a0, a1, a2, a3] = G81 pr a0 a1 a2 a3 := by kernel_rfl
theorem F81 (n : Nat) (a0 a1 a2 a3 : D) : FN (n + 1) 81 [a0, a1, a2, a3] = G81 (RP n) a0 a1 a2 a3 := G81_eq _ a0 a1 a2 a3
theorem G85_eq {Δ N R W M E Ω : Type} (pr : Pr Δ N R W M E Ω) (a0 a1 a2 a3 : Δ) : fun3 pr tb Try.prog 400 85 [a0, a1, a2, a3] = G85 pr a0 a1 a2 a3 := by kernel_rfl
theorem F85 (n : Nat) (a0 a1 a2 a3 : D) : FN (n + 1) 85 [a0, a1, a2, a3] = G85 (RP n) a0 a1 a2 a3 := G85_eq _ a0 a1 a2 a3
theorem G90_eq {Δ N R W M E Ω : Type} (pr : Pr Δ N R W M E Ω) (a0 a1 : Δ) : fun3 pr tb Try.prog 400 90 [a0, a1] = G90 pr a0 a1 := by kernel_rfl
theorem F90 (n : Nat) (a0 a1 : D) : FN (n + 1) 90 [a0, a1] = G90 (RP n) a0 a1 := G90_eq _ a0 a1
theorem G91_eq {Δ N R W M E Ω : Type} (pr : Pr Δ N R W M E Ω) (a0 : Δ) : fun3 pr tb Try.prog 400 91 [a0] = G91 pr a0 := by kernel_rfl
theorem F91 (n : Nat) (a0 : D) : FN (n + 1) 91 [a0] = G91 (RP n) a0 := G91_eq _ a0
theorem G92_eq {Δ N R W M E Ω : Type} (pr : Pr Δ N R W M E Ω) (a0 a1 : Δ) : fun3 pr tb Try.prog 400 92 [a0, a1] = G92 pr a0 a1 := by kernel_rfl
theorem F92 (n : Nat) (a0 a1 : D) : FN (n + 1) 92 [a0, a1] = G92 (RP n) a0 a1 := G92_eq _ a0 a1
theorem G93_eq {Δ N R W M E Ω : Type} (pr : Pr Δ N R W M E Ω) (a0 a1 : Δ) : fun3 pr tb Try.prog 400 93 [a0, a1] = G93 pr a0 a1 := by kernel_rfl
theorem F93 (n : Nat) (a0 a1 : D) : FN (n + 1) 93 [a0, a1] = G93 (RP n) a0 a1 := G93_eq _ a0 a1
theorem G98_eq {Δ N R W M E Ω : Type} (pr : Pr Δ N R W M E Ω) (a0 : Δ) : fun3 pr tb Try.prog 400 98 [a0] = G98 pr a0 := by kernel_rfl
theorem F98 (n : Nat) (a0 : D) : FN (n + 1) 98 [a0] = G98 (RP n) a0 := G98_eq _ a0
theorem G101_eq {Δ N R W M E Ω : Type} (pr : Pr Δ N R W M E Ω) (a0 a1 : Δ) : fun3 pr tb Try.prog 400 101 [a0, a1] = G101 pr a0 a1 := by kernel_rfl
theorem F101 (n : Nat) (a0 a1 : D) : FN (n + 1) 101 [a0, a1] = G101 (RP n) a0 a1 := G101_eq _ a0 a1
theorem G103_eq {Δ N R W M E Ω : Type} (pr : Pr Δ N R W M E Ω) (a0 a1 : Δ) : fun3 pr tb Try.prog 400 103 [a0, a1] = G103 pr a0 a1 := by kernel_rfl
theorem F103 (n : Nat) (a0 a1 : D) : FN (n + 1) 103 [a0, a1] = G103 (RP n) a0 a1 := G103_eq _ a0 a1
theorem G104_eq {Δ N R W M E Ω : Type} (pr : Pr Δ N R W M E Ω) (a0 a1 a2 a3 : Δ) : fun3 pr tb Try.prog 400 104 [a0, a1, a2, a3] = G104 pr a0 a1 a2 a3 := by kernel_rfl
theorem F104 (n : Nat) (a0 a1 a2 a3 : D) : FN (n + 1) 104 [a0, a1, a2, a3] = G104 (RP n) a0 a1 a2 a3 := G104_eq _ a0 a1 a2 a3
theorem G105_eq {Δ N R W M E Ω : Type} (pr : Pr Δ N R W M E Ω) (a0 a1 a2 a3 a4 a5 a6 : Δ) : fun3 pr tb Try.prog 400 105 [a0, a1, a2, a3, a4, a5, a6] = G105 pr a0 a1 a2 a3 a4 a5 a6 := by kernel_rfl
theorem F105 (n : Nat) (a0 a1 a2 a3 a4 a5 a6 : D) : FN (n + 1) 105 [a0, a1, a2, a3, a4, a5, a6] = G105 (RP n) a0 a1 a2 a3 a4 a5 a6 := G105_eq _ a0 a1 a2 a3 a4 a5 a6
theorem G106_eq {Δ N R W M E Ω : Type} (pr : Pr Δ N R W M E Ω) (a0 : Δ) : fun3 pr tb Try.prog 400 106 [a0] = G106 pr a0 := by kernel_rfl
theorem F106 (n : Nat) (a0 : D) : FN (n + 1) 106 [a0] = G106 (RP n) a0 := G106_eq _ a0
end Go.VE
