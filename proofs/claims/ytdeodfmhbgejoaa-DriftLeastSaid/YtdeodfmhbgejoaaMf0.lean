/- What the functions of this program do, made by a program of ours out of the evaluator itself. -/
import Derived.Test.YtdeodfmhbgejoaaMt
import Derived.KernelRfl
namespace Go.VE
open Go.RowKit Go.Proofs
set_option maxRecDepth 100000
set_option maxHeartbeats 4000000
section
variable {Δ N R W M E Ω : Type} (pr : Pr Δ N R W M E Ω)
/-! leazing/leazinglaw04.DriftLeast -/
def L9_0  : (Nat → List (Y Δ N R M) → Ω) → E → Ω := fun J11 y11 =>
 (pr.lenD (pr.ld y11 1) fun x12 =>
            (pr.bin .lss false (pr.ld y11 4) x12 fun x13 =>
             (pr.cond x13
              (pr.bnd (pr.lenD (pr.ld y11 0) fun x14 =>
              (pr.bin .lss false (pr.ld y11 4) x14 fun x15 =>
               (pr.cond x15
                (pr.rowD 2 (pr.ld y11 0) (pr.ld y11 4) fun w16 =>
                (pr.out 0 [.d (pr.ld y11 0), .d (pr.ld y11 1), .d (pr.ld y11 2), .d (pr.ld y11 3), .d (pr.ld y11 4), .d (pr.cell w16 0), .d (pr.cell w16 1), .d (pr.ld y11 5), .d (pr.ld y11 6), .d (pr.ld y11 7), .d (pr.ld y11 8), .d (pr.ld y11 9), .d (pr.ld y11 10), .d (pr.ld y11 11), .d (pr.ld y11 12)]))
                (pr.out 0 [.d (pr.ld y11 0), .d (pr.ld y11 1), .d (pr.ld y11 2), .d (pr.ld y11 3), .d (pr.ld y11 4), .d (pr.lit (.int Go.IntKind.i64 (0))), .d (pr.lit (.int Go.IntKind.i64 (0))), .d (pr.ld y11 5), .d (pr.ld y11 6), .d (pr.ld y11 7), .d (pr.ld y11 8), .d (pr.ld y11 9), .d (pr.ld y11 10), .d (pr.ld y11 11), .d (pr.ld y11 12)])))) [fun y14 => (pr.rowD 4 (pr.ld y14 1) (pr.ld y14 4) fun w15 =>
               (pr.mm true (pr.ld y14 3) (pr.cell w15 2) fun x16 => (pr.bnd (pr.call 26 [(pr.ld y14 5), (pr.lit (.int Go.IntKind.i64 (2)))]) [fun y17 => (pr.bin .add false x16 (pr.ld y17 0) fun x18 =>
                  (pr.bnd (pr.call 26 [(pr.ld y14 6), (pr.lit (.int Go.IntKind.i64 (3)))]) [fun y19 => (pr.bin .add false x18 (pr.ld y19 0) fun x20 =>
                    (pr.eqN (pr.natN 1) (pr.len (pr.rows [[x18, x20]])) (pr.isNil (pr.seg (pr.rows [[x18, x20]]) none (pr.natN 1))
                     (pr.bin .add false x20 (pr.lit (.int Go.IntKind.i64 (1))) fun x21 =>
                     (pr.bin .add false (pr.ld y14 4) (pr.lit (.int Go.IntKind.i64 (1))) fun x22 =>
                      (J11 0 [.d (pr.ld y14 0), .d (pr.ld y14 1), .d (pr.ld y14 2), .d x21, .d x22, .d (pr.ld y14 7), .d (pr.ld y14 8), .d (pr.ld y14 9), .d (pr.ld y14 10), .d (pr.ld y14 11), .d (pr.ld y14 12), .d (pr.ld y14 13), .d (pr.ld y14 14)])))
                     (pr.fits 16 (pr.len (pr.seg (pr.rows [[x18, x20]]) none (pr.natN 1)))
                     (pr.bin .add false x20 (pr.lit (.int Go.IntKind.i64 (1))) fun x21 =>
                     (pr.bin .add false (pr.ld y14 4) (pr.lit (.int Go.IntKind.i64 (1))) fun x22 =>
                      (J11 1 [.d (pr.ld y14 0), .d (pr.ld y14 1), .d (pr.ld y14 2), .n (pr.len (pr.seg (pr.rows [[x18, x20]]) none (pr.natN 1))), .n (pr.len (pr.seg (pr.rows [[x18, x20]]) none (pr.natN 1))), .d x21, .d x22, .r (pr.seg (pr.rows [[x18, x20]]) none (pr.natN 1)), .d (pr.ld y14 7), .d (pr.ld y14 8), .d (pr.ld y14 9), .d (pr.ld y14 10), .d (pr.ld y14 11), .d (pr.ld y14 12), .d (pr.ld y14 13), .d (pr.ld y14 14)])))))))]))])))])
              (pr.out 0 [.d (pr.ld y11 1), .d (pr.ld y11 2), .d (pr.ld y11 5), .d (pr.ld y11 6), .d (pr.ld y11 7), .d (pr.ld y11 8), .d (pr.ld y11 9), .d (pr.ld y11 10), .d (pr.ld y11 11), .d (pr.ld y11 12)]))))
def L9_1  : (Nat → List (Y Δ N R M) → Ω) → E → Ω := fun J11 y11 =>
 (pr.lenD (pr.ld y11 1) fun x12 =>
            (pr.bin .lss false (pr.ld y11 6) x12 fun x13 =>
             (pr.cond x13
              (pr.bnd (pr.lenD (pr.ld y11 0) fun x14 =>
              (pr.bin .lss false (pr.ld y11 6) x14 fun x15 =>
               (pr.cond x15
                (pr.rowD 2 (pr.ld y11 0) (pr.ld y11 6) fun w16 =>
                (pr.out 0 [.d (pr.ld y11 0), .d (pr.ld y11 1), .d (pr.ld y11 2), .n (pr.ln y11 3), .n (pr.ln y11 4), .d (pr.ld y11 5), .d (pr.ld y11 6), .d (pr.cell w16 0), .d (pr.cell w16 1), .r (pr.lr y11 7), .d (pr.ld y11 8), .d (pr.ld y11 9), .d (pr.ld y11 10), .d (pr.ld y11 11), .d (pr.ld y11 12), .d (pr.ld y11 13), .d (pr.ld y11 14), .d (pr.ld y11 15)]))
                (pr.out 0 [.d (pr.ld y11 0), .d (pr.ld y11 1), .d (pr.ld y11 2), .n (pr.ln y11 3), .n (pr.ln y11 4), .d (pr.ld y11 5), .d (pr.ld y11 6), .d (pr.lit (.int Go.IntKind.i64 (0))), .d (pr.lit (.int Go.IntKind.i64 (0))), .r (pr.lr y11 7), .d (pr.ld y11 8), .d (pr.ld y11 9), .d (pr.ld y11 10), .d (pr.ld y11 11), .d (pr.ld y11 12), .d (pr.ld y11 13), .d (pr.ld y11 14), .d (pr.ld y11 15)])))) [fun y14 => (pr.rowD 4 (pr.ld y14 1) (pr.ld y14 6) fun w15 =>
               (pr.mm true (pr.ld y14 5) (pr.cell w15 2) fun x16 => (pr.bnd (pr.call 26 [(pr.ld y14 7), (pr.lit (.int Go.IntKind.i64 (2)))]) [fun y17 => (pr.bin .add false x16 (pr.ld y17 0) fun x18 =>
                  (pr.bnd (pr.call 26 [(pr.ld y14 8), (pr.lit (.int Go.IntKind.i64 (3)))]) [fun y19 => (pr.bin .add false x18 (pr.ld y19 0) fun x20 =>
                    (pr.eqN (pr.natN 1) (pr.len (pr.rows [[x18, x20]])) (pr.eqN (pr.ln y14 4) (pr.len (pr.lr y14 9)) (pr.eqN (pr.ln y14 3) (pr.len (pr.lr y14 9)) (pr.fits 16 (pr.addN (pr.ln y14 3) (pr.len (pr.seg (pr.rows [[x18, x20]]) none (pr.natN 1))))
                     (pr.bin .add false x20 (pr.lit (.int Go.IntKind.i64 (1))) fun x21 =>
                     (pr.bin .add false (pr.ld y14 6) (pr.lit (.int Go.IntKind.i64 (1))) fun x22 =>
                      (J11 1 [.d (pr.ld y14 0), .d (pr.ld y14 1), .d (pr.ld y14 2), .n (pr.addN (pr.ln y14 3) (pr.len (pr.seg (pr.rows [[x18, x20]]) none (pr.natN 1)))), .n (pr.addN (pr.ln y14 3) (pr.len (pr.seg (pr.rows [[x18, x20]]) none (pr.natN 1)))), .d x21, .d x22, .r (pr.app (pr.lr y14 9) (pr.seg (pr.rows [[x18, x20]]) none (pr.natN 1))), .d (pr.ld y14 10), .d (pr.ld y14 11), .d (pr.ld y14 12), .d (pr.ld y14 13), .d (pr.ld y14 14), .d (pr.ld y14 15), .d (pr.ld y14 16), .d (pr.ld y14 17)]))))))))]))])))])
              (pr.out 1 [.d (pr.ld y11 1), .d (pr.ld y11 2), .n (pr.ln y11 3), .n (pr.ln y11 4), .r (pr.lr y11 7), .d (pr.ld y11 8), .d (pr.ld y11 9), .d (pr.ld y11 10), .d (pr.ld y11 11), .d (pr.ld y11 12), .d (pr.ld y11 13), .d (pr.ld y11 14), .d (pr.ld y11 15)]))))
def L9_2  : (Nat → List (Y Δ N R M) → Ω) → E → Ω := fun J18 y18 =>
 (pr.bin .lss false (pr.ld y18 4) (pr.natD (pr.ln y18 2)) fun x19 =>
                   (pr.cond x19
                    (pr.eqN (pr.ln y18 3) (pr.len (pr.lr y18 7)) (pr.inx (pr.ld y18 4) (pr.ln y18 2) fun n20 => (pr.eqN (pr.ln y18 3) (pr.len (pr.lr y18 7)) (pr.rowAt 2 (pr.lr y18 7) n20 fun w21 => (pr.bnd (pr.call 28 [(pr.cell w21 0), (pr.cell w21 1), (pr.ld y18 5), (pr.ld y18 6)]) [fun y22 => (pr.bin .neq false (pr.ld y22 1) (pr.lit (.int Go.IntKind.i64 (0))) fun x23 =>
                       (pr.cond x23
                        (pr.out 0 [.d (pr.lit (.bool false))])
                        (pr.bin .lss false (pr.ld y22 0) (pr.lit (.int Go.IntKind.i64 (0))) fun x24 =>
                        (pr.cond x24
                         (pr.eqN (pr.ln y18 3) (pr.len (pr.lr y18 7)) (pr.inx (pr.ld y18 4) (pr.ln y18 2) fun n25 => (pr.eqN (pr.ln y18 3) (pr.len (pr.lr y18 7)) (pr.rowAt 2 (pr.lr y18 7) n25 fun w26 => (pr.bin .add false (pr.ld y18 4) (pr.lit (.int Go.IntKind.i64 (1))) fun x27 =>
                           (J18 0 [.d (pr.ld y18 0), .d (pr.ld y18 1), .n (pr.ln y18 2), .n (pr.ln y18 3), .d x27, .d (pr.cell w26 0), .d (pr.cell w26 1), .r (pr.lr y18 7), .d (pr.ld y18 8), .d (pr.ld y18 9), .d (pr.ld y18 10), .d (pr.ld y18 11), .d (pr.ld y18 12), .d (pr.ld y18 13), .d (pr.ld y18 14), .d (pr.ld y18 15), .d (pr.ld y18 16)]))))))
                         (pr.bin .add false (pr.ld y18 4) (pr.lit (.int Go.IntKind.i64 (1))) fun x25 =>
                         (J18 0 [.d (pr.ld y18 0), .d (pr.ld y18 1), .n (pr.ln y18 2), .n (pr.ln y18 3), .d x25, .d (pr.ld y18 5), .d (pr.ld y18 6), .r (pr.lr y18 7), .d (pr.ld y18 8), .d (pr.ld y18 9), .d (pr.ld y18 10), .d (pr.ld y18 11), .d (pr.ld y18 12), .d (pr.ld y18 13), .d (pr.ld y18 14), .d (pr.ld y18 15), .d (pr.ld y18 16)]))))))])))))
                    (pr.out 1 [.d (pr.ld y18 0), .d (pr.ld y18 1), .d (pr.ld y18 5), .d (pr.ld y18 6), .d (pr.ld y18 8), .d (pr.ld y18 9), .d (pr.ld y18 10), .d (pr.ld y18 11), .d (pr.ld y18 12), .d (pr.ld y18 13), .d (pr.ld y18 14), .d (pr.ld y18 15), .d (pr.ld y18 16)])))
def L9_3  : (Nat → List (Y Δ N R M) → Ω) → E → Ω := fun J17 y17 =>
 (pr.lenD (pr.ld y17 2) fun x18 =>
                  (pr.bin .lss false (pr.ld y17 3) x18 fun x19 =>
                   (pr.cond x19
                    (pr.rowD 2 (pr.ld y17 2) (pr.ld y17 3) fun w20 =>
                    (pr.bnd (pr.call 28 [(pr.cell w20 0), (pr.cell w20 1), (pr.ld y17 4), (pr.ld y17 5)]) [fun y21 => (pr.bin .neq false (pr.ld y21 1) (pr.lit (.int Go.IntKind.i64 (0))) fun x22 =>
                      (pr.cond x22
                       (pr.out 0 [.d (pr.lit (.bool false))])
                       (pr.bin .lss false (pr.ld y21 0) (pr.lit (.int Go.IntKind.i64 (0))) fun x23 =>
                       (pr.cond x23
                        (pr.rowD 2 (pr.ld y17 2) (pr.ld y17 3) fun w24 =>
                        (pr.bin .add false (pr.ld y17 3) (pr.lit (.int Go.IntKind.i64 (1))) fun x25 =>
                         (J17 0 [.d (pr.ld y17 0), .d (pr.ld y17 1), .d (pr.ld y17 2), .d x25, .d (pr.cell w24 0), .d (pr.cell w24 1), .d (pr.ld y17 6), .d (pr.ld y17 7), .d (pr.ld y17 8), .d (pr.ld y17 9), .d (pr.ld y17 10), .d (pr.ld y17 11), .d (pr.ld y17 12), .d (pr.ld y17 13), .d (pr.ld y17 14)])))
                        (pr.bin .add false (pr.ld y17 3) (pr.lit (.int Go.IntKind.i64 (1))) fun x24 =>
                        (J17 0 [.d (pr.ld y17 0), .d (pr.ld y17 1), .d (pr.ld y17 2), .d x24, .d (pr.ld y17 4), .d (pr.ld y17 5), .d (pr.ld y17 6), .d (pr.ld y17 7), .d (pr.ld y17 8), .d (pr.ld y17 9), .d (pr.ld y17 10), .d (pr.ld y17 11), .d (pr.ld y17 12), .d (pr.ld y17 13), .d (pr.ld y17 14)]))))))]))
                    (pr.out 1 [.d (pr.ld y17 0), .d (pr.ld y17 1), .d (pr.ld y17 4), .d (pr.ld y17 5), .d (pr.ld y17 6), .d (pr.ld y17 7), .d (pr.ld y17 8), .d (pr.ld y17 9), .d (pr.ld y17 10), .d (pr.ld y17 11), .d (pr.ld y17 12), .d (pr.ld y17 13), .d (pr.ld y17 14)]))))
def L9_4  : (Nat → List (Y Δ N R M) → Ω) → E → Ω := fun J18 y18 =>
 (pr.bin .lss false (pr.ld y18 4) (pr.natD (pr.ln y18 2)) fun x19 =>
                   (pr.cond x19
                    (pr.eqN (pr.ln y18 3) (pr.len (pr.lr y18 7)) (pr.inx (pr.ld y18 4) (pr.ln y18 2) fun n20 => (pr.eqN (pr.ln y18 3) (pr.len (pr.lr y18 7)) (pr.rowAt 2 (pr.lr y18 7) n20 fun w21 => (pr.bnd (pr.call 28 [(pr.cell w21 0), (pr.cell w21 1), (pr.ld y18 5), (pr.ld y18 6)]) [fun y22 => (pr.bin .neq false (pr.ld y22 1) (pr.lit (.int Go.IntKind.i64 (0))) fun x23 =>
                       (pr.cond x23
                        (pr.out 0 [.d (pr.lit (.bool false))])
                        (pr.bin .lss false (pr.ld y22 0) (pr.lit (.int Go.IntKind.i64 (0))) fun x24 =>
                        (pr.cond x24
                         (pr.eqN (pr.ln y18 3) (pr.len (pr.lr y18 7)) (pr.inx (pr.ld y18 4) (pr.ln y18 2) fun n25 => (pr.eqN (pr.ln y18 3) (pr.len (pr.lr y18 7)) (pr.rowAt 2 (pr.lr y18 7) n25 fun w26 => (pr.bin .add false (pr.ld y18 4) (pr.lit (.int Go.IntKind.i64 (1))) fun x27 =>
                           (J18 0 [.d (pr.ld y18 0), .d (pr.ld y18 1), .n (pr.ln y18 2), .n (pr.ln y18 3), .d x27, .d (pr.cell w26 0), .d (pr.cell w26 1), .r (pr.lr y18 7), .d (pr.ld y18 8), .d (pr.ld y18 9), .d (pr.ld y18 10), .d (pr.ld y18 11), .d (pr.ld y18 12), .d (pr.ld y18 13), .d (pr.ld y18 14), .d (pr.ld y18 15), .d (pr.ld y18 16)]))))))
                         (pr.bin .add false (pr.ld y18 4) (pr.lit (.int Go.IntKind.i64 (1))) fun x25 =>
                         (J18 0 [.d (pr.ld y18 0), .d (pr.ld y18 1), .n (pr.ln y18 2), .n (pr.ln y18 3), .d x25, .d (pr.ld y18 5), .d (pr.ld y18 6), .r (pr.lr y18 7), .d (pr.ld y18 8), .d (pr.ld y18 9), .d (pr.ld y18 10), .d (pr.ld y18 11), .d (pr.ld y18 12), .d (pr.ld y18 13), .d (pr.ld y18 14), .d (pr.ld y18 15), .d (pr.ld y18 16)]))))))])))))
                    (pr.out 1 [.d (pr.ld y18 0), .d (pr.ld y18 1), .d (pr.ld y18 5), .d (pr.ld y18 6), .d (pr.ld y18 8), .d (pr.ld y18 9), .d (pr.ld y18 10), .d (pr.ld y18 11), .d (pr.ld y18 12), .d (pr.ld y18 13), .d (pr.ld y18 14), .d (pr.ld y18 15), .d (pr.ld y18 16)])))
def L9_5  : (Nat → List (Y Δ N R M) → Ω) → E → Ω := fun J17 y17 =>
 (pr.lenD (pr.ld y17 2) fun x18 =>
                  (pr.bin .lss false (pr.ld y17 3) x18 fun x19 =>
                   (pr.cond x19
                    (pr.rowD 2 (pr.ld y17 2) (pr.ld y17 3) fun w20 =>
                    (pr.bnd (pr.call 28 [(pr.cell w20 0), (pr.cell w20 1), (pr.ld y17 4), (pr.ld y17 5)]) [fun y21 => (pr.bin .neq false (pr.ld y21 1) (pr.lit (.int Go.IntKind.i64 (0))) fun x22 =>
                      (pr.cond x22
                       (pr.out 0 [.d (pr.lit (.bool false))])
                       (pr.bin .lss false (pr.ld y21 0) (pr.lit (.int Go.IntKind.i64 (0))) fun x23 =>
                       (pr.cond x23
                        (pr.rowD 2 (pr.ld y17 2) (pr.ld y17 3) fun w24 =>
                        (pr.bin .add false (pr.ld y17 3) (pr.lit (.int Go.IntKind.i64 (1))) fun x25 =>
                         (J17 0 [.d (pr.ld y17 0), .d (pr.ld y17 1), .d (pr.ld y17 2), .d x25, .d (pr.cell w24 0), .d (pr.cell w24 1), .d (pr.ld y17 6), .d (pr.ld y17 7), .d (pr.ld y17 8), .d (pr.ld y17 9), .d (pr.ld y17 10), .d (pr.ld y17 11), .d (pr.ld y17 12), .d (pr.ld y17 13), .d (pr.ld y17 14)])))
                        (pr.bin .add false (pr.ld y17 3) (pr.lit (.int Go.IntKind.i64 (1))) fun x24 =>
                        (J17 0 [.d (pr.ld y17 0), .d (pr.ld y17 1), .d (pr.ld y17 2), .d x24, .d (pr.ld y17 4), .d (pr.ld y17 5), .d (pr.ld y17 6), .d (pr.ld y17 7), .d (pr.ld y17 8), .d (pr.ld y17 9), .d (pr.ld y17 10), .d (pr.ld y17 11), .d (pr.ld y17 12), .d (pr.ld y17 13), .d (pr.ld y17 14)]))))))]))
                    (pr.out 1 [.d (pr.ld y17 0), .d (pr.ld y17 1), .d (pr.ld y17 4), .d (pr.ld y17 5), .d (pr.ld y17 6), .d (pr.ld y17 7), .d (pr.ld y17 8), .d (pr.ld y17 9), .d (pr.ld y17 10), .d (pr.ld y17 11), .d (pr.ld y17 12), .d (pr.ld y17 13), .d (pr.ld y17 14)]))))
def L9_6  : (Nat → List (Y Δ N R M) → Ω) → E → Ω := fun J12 y12 =>
 (pr.bin .lss false (pr.ld y12 1) (pr.lit (.int Go.IntKind.i64 (2))) fun x13 =>
             (pr.cond x13
              (pr.selI 2 (pr.ld y12 1) [(pr.bnd (pr.call 45 [(pr.ld y12 5), (pr.ld y12 6), (pr.ld y12 0), (pr.ld y12 2)]) [fun y14 => (pr.bin .neq false (pr.ld y14 1) (pr.lit (.int Go.IntKind.i64 (0))) fun x15 =>
               (pr.cond x15
                (pr.bin .eql false (pr.ld y12 1) (pr.lit (.int Go.IntKind.i64 (0))) fun x16 =>
                (pr.cond x16
                 (pr.out 0 [.d (pr.lit (.bool false))])
                 (pr.bin .add false (pr.ld y12 1) (pr.lit (.int Go.IntKind.i64 (1))) fun x17 =>
                 (J12 0 [.d (pr.ld y12 0), .d x17, .d (pr.ld y12 2), .d (pr.ld y12 3), .d (pr.ld y12 4), .d (pr.ld y12 5), .d (pr.ld y12 6), .d (pr.ld y12 7), .d (pr.ld y12 8), .d (pr.ld y12 9), .d (pr.ld y12 10)]))))
                (pr.eqN (pr.len (pr.lr y14 0)) (pr.len (pr.lr y14 0)) (pr.inx (pr.lit (.int Go.IntKind.i64 (0))) (pr.len (pr.lr y14 0)) fun n16 => (pr.eqN (pr.len (pr.lr y14 0)) (pr.len (pr.lr y14 0)) (pr.rowAt 2 (pr.lr y14 0) n16 fun w17 => (pr.bnd (pr.loop [(L9_2 pr)] 0 [.d (pr.ld y12 0), .d (pr.ld y12 1), .n (pr.len (pr.lr y14 0)), .n (pr.len (pr.lr y14 0)), .d (pr.lit (.int Go.IntKind.i64 (1))), .d (pr.cell w17 0), .d (pr.cell w17 1), .r (pr.lr y14 0), .d (pr.ld y12 2), .d (pr.ld y12 3), .d (pr.ld y12 4), .d (pr.ld y12 5), .d (pr.ld y12 6), .d (pr.ld y12 7), .d (pr.ld y12 8), .d (pr.ld y12 9), .d (pr.ld y12 10)]) [fun y18 => (pr.out 0 [.d (pr.ld y18 0)]), fun y18 => (pr.bnd (pr.call 28 [(pr.ld y18 2), (pr.ld y18 3), (pr.ld y18 5), (pr.ld y18 6)]) [fun y19 => (pr.bin .neq false (pr.ld y19 1) (pr.lit (.int Go.IntKind.i64 (0))) fun x20 =>
                    (pr.cond x20
                     (pr.out 0 [.d (pr.lit (.bool false))])
                     (pr.bin .gtr false (pr.ld y19 0) (pr.lit (.int Go.IntKind.i64 (0))) fun x21 =>
                     (pr.cond x21
                      (pr.out 0 [.d (pr.lit (.bool false))])
                      (pr.bin .eql false (pr.ld y18 1) (pr.lit (.int Go.IntKind.i64 (0))) fun x22 =>
                      (pr.bnd (pr.cond x22
                       (pr.bin .neq false (pr.ld y19 0) (pr.lit (.int Go.IntKind.i64 (0))) fun x23 =>
                       (pr.out 0 [.d (pr.ld y18 0), .d (pr.ld y18 1), .d x23, .d (pr.ld y18 2), .d (pr.ld y18 3), .d (pr.ld y18 4), .d (pr.ld y18 5), .d (pr.ld y18 6), .d (pr.ld y18 7), .d (pr.ld y18 8), .d (pr.ld y18 9), .d (pr.ld y18 10), .d (pr.ld y18 11), .d (pr.ld y18 12)]))
                       (pr.out 0 [.d (pr.ld y18 0), .d (pr.ld y18 1), .d (pr.lit (.bool false)), .d (pr.ld y18 2), .d (pr.ld y18 3), .d (pr.ld y18 4), .d (pr.ld y18 5), .d (pr.ld y18 6), .d (pr.ld y18 7), .d (pr.ld y18 8), .d (pr.ld y18 9), .d (pr.ld y18 10), .d (pr.ld y18 11), .d (pr.ld y18 12)])) [fun y23 => (pr.cond (pr.ld y23 2)
                        (pr.out 0 [.d (pr.lit (.bool false))])
                        (pr.bnd (pr.call 28 [(pr.ld y23 12), (pr.ld y23 13), (pr.ld y23 3), (pr.ld y23 4)]) [fun y24 => (pr.bin .eql false (pr.ld y24 1) (pr.lit (.int Go.IntKind.i64 (0))) fun x25 =>
                         (pr.cond x25
                          (pr.bin .lss false (pr.ld y24 0) (pr.lit (.int Go.IntKind.i64 (0))) fun x26 =>
                          (pr.cond x26
                           (pr.bnd (pr.call 44 [(pr.ld y23 8), (pr.ld y23 9), (pr.ld y23 0), (pr.ld y23 10), (pr.ld y23 11), (pr.ld y23 12), (pr.ld y23 13)]) [fun y27 => (pr.bin .eql false (pr.ld y27 0) (pr.lit (.int Go.IntKind.i64 (0))) fun x28 =>
                            (pr.cond x28
                             (pr.out 0 [.d (pr.lit (.bool false))])
                             (pr.bin .add false (pr.ld y23 1) (pr.lit (.int Go.IntKind.i64 (1))) fun x29 =>
                             (J12 0 [.d (pr.ld y23 0), .d x29, .d (pr.ld y23 5), .d (pr.ld y23 6), .d (pr.ld y23 7), .d (pr.ld y23 8), .d (pr.ld y23 9), .d (pr.ld y23 10), .d (pr.ld y23 11), .d (pr.ld y23 12), .d (pr.ld y23 13)]))))])
                           (pr.bin .add false (pr.ld y23 1) (pr.lit (.int Go.IntKind.i64 (1))) fun x27 =>
                           (J12 0 [.d (pr.ld y23 0), .d x27, .d (pr.ld y23 5), .d (pr.ld y23 6), .d (pr.ld y23 7), .d (pr.ld y23 8), .d (pr.ld y23 9), .d (pr.ld y23 10), .d (pr.ld y23 11), .d (pr.ld y23 12), .d (pr.ld y23 13)]))))
                          (pr.bin .add false (pr.ld y23 1) (pr.lit (.int Go.IntKind.i64 (1))) fun x26 =>
                          (J12 0 [.d (pr.ld y23 0), .d x26, .d (pr.ld y23 5), .d (pr.ld y23 6), .d (pr.ld y23 7), .d (pr.ld y23 8), .d (pr.ld y23 9), .d (pr.ld y23 10), .d (pr.ld y23 11), .d (pr.ld y23 12), .d (pr.ld y23 13)]))))]))]))))))])]))))))), fun y14 => (pr.bin .neq false (pr.ld y14 1) (pr.lit (.int Go.IntKind.i64 (0))) fun x15 =>
               (pr.cond x15
                (pr.bin .eql false (pr.ld y12 1) (pr.lit (.int Go.IntKind.i64 (0))) fun x16 =>
                (pr.cond x16
                 (pr.out 0 [.d (pr.lit (.bool false))])
                 (pr.bin .add false (pr.ld y12 1) (pr.lit (.int Go.IntKind.i64 (1))) fun x17 =>
                 (J12 0 [.d (pr.ld y12 0), .d x17, .d (pr.ld y12 2), .d (pr.ld y12 3), .d (pr.ld y12 4), .d (pr.ld y12 5), .d (pr.ld y12 6), .d (pr.ld y12 7), .d (pr.ld y12 8), .d (pr.ld y12 9), .d (pr.ld y12 10)]))))
                (pr.rowD 2 (pr.ld y14 0) (pr.lit (.int Go.IntKind.i64 (0))) fun w16 =>
                (pr.bnd (pr.loop [(L9_3 pr)] 0 [.d (pr.ld y12 0), .d (pr.ld y12 1), .d (pr.ld y14 0), .d (pr.lit (.int Go.IntKind.i64 (1))), .d (pr.cell w16 0), .d (pr.cell w16 1), .d (pr.ld y12 2), .d (pr.ld y12 3), .d (pr.ld y12 4), .d (pr.ld y12 5), .d (pr.ld y12 6), .d (pr.ld y12 7), .d (pr.ld y12 8), .d (pr.ld y12 9), .d (pr.ld y12 10)]) [fun y17 => (pr.out 0 [.d (pr.ld y17 0)]), fun y17 => (pr.bnd (pr.call 28 [(pr.ld y17 2), (pr.ld y17 3), (pr.ld y17 5), (pr.ld y17 6)]) [fun y18 => (pr.bin .neq false (pr.ld y18 1) (pr.lit (.int Go.IntKind.i64 (0))) fun x19 =>
                   (pr.cond x19
                    (pr.out 0 [.d (pr.lit (.bool false))])
                    (pr.bin .gtr false (pr.ld y18 0) (pr.lit (.int Go.IntKind.i64 (0))) fun x20 =>
                    (pr.cond x20
                     (pr.out 0 [.d (pr.lit (.bool false))])
                     (pr.bin .eql false (pr.ld y17 1) (pr.lit (.int Go.IntKind.i64 (0))) fun x21 =>
                     (pr.bnd (pr.cond x21
                      (pr.bin .neq false (pr.ld y18 0) (pr.lit (.int Go.IntKind.i64 (0))) fun x22 =>
                      (pr.out 0 [.d (pr.ld y17 0), .d (pr.ld y17 1), .d x22, .d (pr.ld y17 2), .d (pr.ld y17 3), .d (pr.ld y17 4), .d (pr.ld y17 5), .d (pr.ld y17 6), .d (pr.ld y17 7), .d (pr.ld y17 8), .d (pr.ld y17 9), .d (pr.ld y17 10), .d (pr.ld y17 11), .d (pr.ld y17 12)]))
                      (pr.out 0 [.d (pr.ld y17 0), .d (pr.ld y17 1), .d (pr.lit (.bool false)), .d (pr.ld y17 2), .d (pr.ld y17 3), .d (pr.ld y17 4), .d (pr.ld y17 5), .d (pr.ld y17 6), .d (pr.ld y17 7), .d (pr.ld y17 8), .d (pr.ld y17 9), .d (pr.ld y17 10), .d (pr.ld y17 11), .d (pr.ld y17 12)])) [fun y22 => (pr.cond (pr.ld y22 2)
                       (pr.out 0 [.d (pr.lit (.bool false))])
                       (pr.bnd (pr.call 28 [(pr.ld y22 12), (pr.ld y22 13), (pr.ld y22 3), (pr.ld y22 4)]) [fun y23 => (pr.bin .eql false (pr.ld y23 1) (pr.lit (.int Go.IntKind.i64 (0))) fun x24 =>
                        (pr.cond x24
                         (pr.bin .lss false (pr.ld y23 0) (pr.lit (.int Go.IntKind.i64 (0))) fun x25 =>
                         (pr.cond x25
                          (pr.bnd (pr.call 44 [(pr.ld y22 8), (pr.ld y22 9), (pr.ld y22 0), (pr.ld y22 10), (pr.ld y22 11), (pr.ld y22 12), (pr.ld y22 13)]) [fun y26 => (pr.bin .eql false (pr.ld y26 0) (pr.lit (.int Go.IntKind.i64 (0))) fun x27 =>
                           (pr.cond x27
                            (pr.out 0 [.d (pr.lit (.bool false))])
                            (pr.bin .add false (pr.ld y22 1) (pr.lit (.int Go.IntKind.i64 (1))) fun x28 =>
                            (J12 0 [.d (pr.ld y22 0), .d x28, .d (pr.ld y22 5), .d (pr.ld y22 6), .d (pr.ld y22 7), .d (pr.ld y22 8), .d (pr.ld y22 9), .d (pr.ld y22 10), .d (pr.ld y22 11), .d (pr.ld y22 12), .d (pr.ld y22 13)]))))])
                          (pr.bin .add false (pr.ld y22 1) (pr.lit (.int Go.IntKind.i64 (1))) fun x26 =>
                          (J12 0 [.d (pr.ld y22 0), .d x26, .d (pr.ld y22 5), .d (pr.ld y22 6), .d (pr.ld y22 7), .d (pr.ld y22 8), .d (pr.ld y22 9), .d (pr.ld y22 10), .d (pr.ld y22 11), .d (pr.ld y22 12), .d (pr.ld y22 13)]))))
                         (pr.bin .add false (pr.ld y22 1) (pr.lit (.int Go.IntKind.i64 (1))) fun x25 =>
                         (J12 0 [.d (pr.ld y22 0), .d x25, .d (pr.ld y22 5), .d (pr.ld y22 6), .d (pr.ld y22 7), .d (pr.ld y22 8), .d (pr.ld y22 9), .d (pr.ld y22 10), .d (pr.ld y22 11), .d (pr.ld y22 12), .d (pr.ld y22 13)]))))]))]))))))])]))))]), (pr.bnd (pr.call 45 [(pr.ld y12 5), (pr.ld y12 6), (pr.ld y12 0), (pr.lit (.slice none 0 0))]) [fun y14 => (pr.bin .neq false (pr.ld y14 1) (pr.lit (.int Go.IntKind.i64 (0))) fun x15 =>
               (pr.cond x15
                (pr.bin .eql false (pr.ld y12 1) (pr.lit (.int Go.IntKind.i64 (0))) fun x16 =>
                (pr.cond x16
                 (pr.out 0 [.d (pr.lit (.bool false))])
                 (pr.bin .add false (pr.ld y12 1) (pr.lit (.int Go.IntKind.i64 (1))) fun x17 =>
                 (J12 0 [.d (pr.ld y12 0), .d x17, .d (pr.ld y12 2), .d (pr.ld y12 3), .d (pr.ld y12 4), .d (pr.ld y12 5), .d (pr.ld y12 6), .d (pr.ld y12 7), .d (pr.ld y12 8), .d (pr.ld y12 9), .d (pr.ld y12 10)]))))
                (pr.eqN (pr.len (pr.lr y14 0)) (pr.len (pr.lr y14 0)) (pr.inx (pr.lit (.int Go.IntKind.i64 (0))) (pr.len (pr.lr y14 0)) fun n16 => (pr.eqN (pr.len (pr.lr y14 0)) (pr.len (pr.lr y14 0)) (pr.rowAt 2 (pr.lr y14 0) n16 fun w17 => (pr.bnd (pr.loop [(L9_4 pr)] 0 [.d (pr.ld y12 0), .d (pr.ld y12 1), .n (pr.len (pr.lr y14 0)), .n (pr.len (pr.lr y14 0)), .d (pr.lit (.int Go.IntKind.i64 (1))), .d (pr.cell w17 0), .d (pr.cell w17 1), .r (pr.lr y14 0), .d (pr.ld y12 2), .d (pr.ld y12 3), .d (pr.ld y12 4), .d (pr.ld y12 5), .d (pr.ld y12 6), .d (pr.ld y12 7), .d (pr.ld y12 8), .d (pr.ld y12 9), .d (pr.ld y12 10)]) [fun y18 => (pr.out 0 [.d (pr.ld y18 0)]), fun y18 => (pr.bnd (pr.call 28 [(pr.ld y18 2), (pr.ld y18 3), (pr.ld y18 5), (pr.ld y18 6)]) [fun y19 => (pr.bin .neq false (pr.ld y19 1) (pr.lit (.int Go.IntKind.i64 (0))) fun x20 =>
                    (pr.cond x20
                     (pr.out 0 [.d (pr.lit (.bool false))])
                     (pr.bin .gtr false (pr.ld y19 0) (pr.lit (.int Go.IntKind.i64 (0))) fun x21 =>
                     (pr.cond x21
                      (pr.out 0 [.d (pr.lit (.bool false))])
                      (pr.bin .eql false (pr.ld y18 1) (pr.lit (.int Go.IntKind.i64 (0))) fun x22 =>
                      (pr.bnd (pr.cond x22
                       (pr.bin .neq false (pr.ld y19 0) (pr.lit (.int Go.IntKind.i64 (0))) fun x23 =>
                       (pr.out 0 [.d (pr.ld y18 0), .d (pr.ld y18 1), .d x23, .d (pr.ld y18 2), .d (pr.ld y18 3), .d (pr.ld y18 4), .d (pr.ld y18 5), .d (pr.ld y18 6), .d (pr.ld y18 7), .d (pr.ld y18 8), .d (pr.ld y18 9), .d (pr.ld y18 10), .d (pr.ld y18 11), .d (pr.ld y18 12)]))
                       (pr.out 0 [.d (pr.ld y18 0), .d (pr.ld y18 1), .d (pr.lit (.bool false)), .d (pr.ld y18 2), .d (pr.ld y18 3), .d (pr.ld y18 4), .d (pr.ld y18 5), .d (pr.ld y18 6), .d (pr.ld y18 7), .d (pr.ld y18 8), .d (pr.ld y18 9), .d (pr.ld y18 10), .d (pr.ld y18 11), .d (pr.ld y18 12)])) [fun y23 => (pr.cond (pr.ld y23 2)
                        (pr.out 0 [.d (pr.lit (.bool false))])
                        (pr.bnd (pr.call 28 [(pr.ld y23 12), (pr.ld y23 13), (pr.ld y23 3), (pr.ld y23 4)]) [fun y24 => (pr.bin .eql false (pr.ld y24 1) (pr.lit (.int Go.IntKind.i64 (0))) fun x25 =>
                         (pr.cond x25
                          (pr.bin .lss false (pr.ld y24 0) (pr.lit (.int Go.IntKind.i64 (0))) fun x26 =>
                          (pr.cond x26
                           (pr.bnd (pr.call 44 [(pr.ld y23 8), (pr.ld y23 9), (pr.ld y23 0), (pr.ld y23 10), (pr.ld y23 11), (pr.ld y23 12), (pr.ld y23 13)]) [fun y27 => (pr.bin .eql false (pr.ld y27 0) (pr.lit (.int Go.IntKind.i64 (0))) fun x28 =>
                            (pr.cond x28
                             (pr.out 0 [.d (pr.lit (.bool false))])
                             (pr.bin .add false (pr.ld y23 1) (pr.lit (.int Go.IntKind.i64 (1))) fun x29 =>
                             (J12 0 [.d (pr.ld y23 0), .d x29, .d (pr.ld y23 5), .d (pr.ld y23 6), .d (pr.ld y23 7), .d (pr.ld y23 8), .d (pr.ld y23 9), .d (pr.ld y23 10), .d (pr.ld y23 11), .d (pr.ld y23 12), .d (pr.ld y23 13)]))))])
                           (pr.bin .add false (pr.ld y23 1) (pr.lit (.int Go.IntKind.i64 (1))) fun x27 =>
                           (J12 0 [.d (pr.ld y23 0), .d x27, .d (pr.ld y23 5), .d (pr.ld y23 6), .d (pr.ld y23 7), .d (pr.ld y23 8), .d (pr.ld y23 9), .d (pr.ld y23 10), .d (pr.ld y23 11), .d (pr.ld y23 12), .d (pr.ld y23 13)]))))
                          (pr.bin .add false (pr.ld y23 1) (pr.lit (.int Go.IntKind.i64 (1))) fun x26 =>
                          (J12 0 [.d (pr.ld y23 0), .d x26, .d (pr.ld y23 5), .d (pr.ld y23 6), .d (pr.ld y23 7), .d (pr.ld y23 8), .d (pr.ld y23 9), .d (pr.ld y23 10), .d (pr.ld y23 11), .d (pr.ld y23 12), .d (pr.ld y23 13)]))))]))]))))))])]))))))), fun y14 => (pr.bin .neq false (pr.ld y14 1) (pr.lit (.int Go.IntKind.i64 (0))) fun x15 =>
               (pr.cond x15
                (pr.bin .eql false (pr.ld y12 1) (pr.lit (.int Go.IntKind.i64 (0))) fun x16 =>
                (pr.cond x16
                 (pr.out 0 [.d (pr.lit (.bool false))])
                 (pr.bin .add false (pr.ld y12 1) (pr.lit (.int Go.IntKind.i64 (1))) fun x17 =>
                 (J12 0 [.d (pr.ld y12 0), .d x17, .d (pr.ld y12 2), .d (pr.ld y12 3), .d (pr.ld y12 4), .d (pr.ld y12 5), .d (pr.ld y12 6), .d (pr.ld y12 7), .d (pr.ld y12 8), .d (pr.ld y12 9), .d (pr.ld y12 10)]))))
                (pr.rowD 2 (pr.ld y14 0) (pr.lit (.int Go.IntKind.i64 (0))) fun w16 =>
                (pr.bnd (pr.loop [(L9_5 pr)] 0 [.d (pr.ld y12 0), .d (pr.ld y12 1), .d (pr.ld y14 0), .d (pr.lit (.int Go.IntKind.i64 (1))), .d (pr.cell w16 0), .d (pr.cell w16 1), .d (pr.ld y12 2), .d (pr.ld y12 3), .d (pr.ld y12 4), .d (pr.ld y12 5), .d (pr.ld y12 6), .d (pr.ld y12 7), .d (pr.ld y12 8), .d (pr.ld y12 9), .d (pr.ld y12 10)]) [fun y17 => (pr.out 0 [.d (pr.ld y17 0)]), fun y17 => (pr.bnd (pr.call 28 [(pr.ld y17 2), (pr.ld y17 3), (pr.ld y17 5), (pr.ld y17 6)]) [fun y18 => (pr.bin .neq false (pr.ld y18 1) (pr.lit (.int Go.IntKind.i64 (0))) fun x19 =>
                   (pr.cond x19
                    (pr.out 0 [.d (pr.lit (.bool false))])
                    (pr.bin .gtr false (pr.ld y18 0) (pr.lit (.int Go.IntKind.i64 (0))) fun x20 =>
                    (pr.cond x20
                     (pr.out 0 [.d (pr.lit (.bool false))])
                     (pr.bin .eql false (pr.ld y17 1) (pr.lit (.int Go.IntKind.i64 (0))) fun x21 =>
                     (pr.bnd (pr.cond x21
                      (pr.bin .neq false (pr.ld y18 0) (pr.lit (.int Go.IntKind.i64 (0))) fun x22 =>
                      (pr.out 0 [.d (pr.ld y17 0), .d (pr.ld y17 1), .d x22, .d (pr.ld y17 2), .d (pr.ld y17 3), .d (pr.ld y17 4), .d (pr.ld y17 5), .d (pr.ld y17 6), .d (pr.ld y17 7), .d (pr.ld y17 8), .d (pr.ld y17 9), .d (pr.ld y17 10), .d (pr.ld y17 11), .d (pr.ld y17 12)]))
                      (pr.out 0 [.d (pr.ld y17 0), .d (pr.ld y17 1), .d (pr.lit (.bool false)), .d (pr.ld y17 2), .d (pr.ld y17 3), .d (pr.ld y17 4), .d (pr.ld y17 5), .d (pr.ld y17 6), .d (pr.ld y17 7), .d (pr.ld y17 8), .d (pr.ld y17 9), .d (pr.ld y17 10), .d (pr.ld y17 11), .d (pr.ld y17 12)])) [fun y22 => (pr.cond (pr.ld y22 2)
                       (pr.out 0 [.d (pr.lit (.bool false))])
                       (pr.bnd (pr.call 28 [(pr.ld y22 12), (pr.ld y22 13), (pr.ld y22 3), (pr.ld y22 4)]) [fun y23 => (pr.bin .eql false (pr.ld y23 1) (pr.lit (.int Go.IntKind.i64 (0))) fun x24 =>
                        (pr.cond x24
                         (pr.bin .lss false (pr.ld y23 0) (pr.lit (.int Go.IntKind.i64 (0))) fun x25 =>
                         (pr.cond x25
                          (pr.bnd (pr.call 44 [(pr.ld y22 8), (pr.ld y22 9), (pr.ld y22 0), (pr.ld y22 10), (pr.ld y22 11), (pr.ld y22 12), (pr.ld y22 13)]) [fun y26 => (pr.bin .eql false (pr.ld y26 0) (pr.lit (.int Go.IntKind.i64 (0))) fun x27 =>
                           (pr.cond x27
                            (pr.out 0 [.d (pr.lit (.bool false))])
                            (pr.bin .add false (pr.ld y22 1) (pr.lit (.int Go.IntKind.i64 (1))) fun x28 =>
                            (J12 0 [.d (pr.ld y22 0), .d x28, .d (pr.ld y22 5), .d (pr.ld y22 6), .d (pr.ld y22 7), .d (pr.ld y22 8), .d (pr.ld y22 9), .d (pr.ld y22 10), .d (pr.ld y22 11), .d (pr.ld y22 12), .d (pr.ld y22 13)]))))])
                          (pr.bin .add false (pr.ld y22 1) (pr.lit (.int Go.IntKind.i64 (1))) fun x26 =>
                          (J12 0 [.d (pr.ld y22 0), .d x26, .d (pr.ld y22 5), .d (pr.ld y22 6), .d (pr.ld y22 7), .d (pr.ld y22 8), .d (pr.ld y22 9), .d (pr.ld y22 10), .d (pr.ld y22 11), .d (pr.ld y22 12), .d (pr.ld y22 13)]))))
                         (pr.bin .add false (pr.ld y22 1) (pr.lit (.int Go.IntKind.i64 (1))) fun x25 =>
                         (J12 0 [.d (pr.ld y22 0), .d x25, .d (pr.ld y22 5), .d (pr.ld y22 6), .d (pr.ld y22 7), .d (pr.ld y22 8), .d (pr.ld y22 9), .d (pr.ld y22 10), .d (pr.ld y22 11), .d (pr.ld y22 12), .d (pr.ld y22 13)]))))]))]))))))])]))))])])
              (pr.out 1 [])))
def L9_7  : (Nat → List (Y Δ N R M) → Ω) → E → Ω := fun J18 y18 =>
 (pr.bin .lss false (pr.ld y18 4) (pr.natD (pr.ln y18 2)) fun x19 =>
                   (pr.cond x19
                    (pr.eqN (pr.ln y18 3) (pr.len (pr.lr y18 8)) (pr.inx (pr.ld y18 4) (pr.ln y18 2) fun n20 => (pr.eqN (pr.ln y18 3) (pr.len (pr.lr y18 8)) (pr.rowAt 2 (pr.lr y18 8) n20 fun w21 => (pr.bnd (pr.call 28 [(pr.cell w21 0), (pr.cell w21 1), (pr.ld y18 6), (pr.ld y18 7)]) [fun y22 => (pr.bin .neq false (pr.ld y22 1) (pr.lit (.int Go.IntKind.i64 (0))) fun x23 =>
                       (pr.cond x23
                        (pr.out 0 [.d (pr.lit (.bool false))])
                        (pr.bin .lss false (pr.ld y22 0) (pr.lit (.int Go.IntKind.i64 (0))) fun x24 =>
                        (pr.cond x24
                         (pr.eqN (pr.ln y18 3) (pr.len (pr.lr y18 8)) (pr.inx (pr.ld y18 4) (pr.ln y18 2) fun n25 => (pr.eqN (pr.ln y18 3) (pr.len (pr.lr y18 8)) (pr.rowAt 2 (pr.lr y18 8) n25 fun w26 => (pr.bin .add false (pr.ld y18 4) (pr.lit (.int Go.IntKind.i64 (1))) fun x27 =>
                           (J18 0 [.d (pr.ld y18 0), .d (pr.ld y18 1), .n (pr.ln y18 2), .n (pr.ln y18 3), .d x27, .r (pr.lr y18 5), .d (pr.cell w26 0), .d (pr.cell w26 1), .r (pr.lr y18 8), .d (pr.ld y18 9), .n (pr.ln y18 10), .n (pr.ln y18 11), .d (pr.ld y18 12), .d (pr.ld y18 13), .d (pr.ld y18 14), .d (pr.ld y18 15), .d (pr.ld y18 16), .d (pr.ld y18 17), .d (pr.ld y18 18), .d (pr.ld y18 19)]))))))
                         (pr.bin .add false (pr.ld y18 4) (pr.lit (.int Go.IntKind.i64 (1))) fun x25 =>
                         (J18 0 [.d (pr.ld y18 0), .d (pr.ld y18 1), .n (pr.ln y18 2), .n (pr.ln y18 3), .d x25, .r (pr.lr y18 5), .d (pr.ld y18 6), .d (pr.ld y18 7), .r (pr.lr y18 8), .d (pr.ld y18 9), .n (pr.ln y18 10), .n (pr.ln y18 11), .d (pr.ld y18 12), .d (pr.ld y18 13), .d (pr.ld y18 14), .d (pr.ld y18 15), .d (pr.ld y18 16), .d (pr.ld y18 17), .d (pr.ld y18 18), .d (pr.ld y18 19)]))))))])))))
                    (pr.out 1 [.d (pr.ld y18 0), .d (pr.ld y18 1), .r (pr.lr y18 5), .d (pr.ld y18 6), .d (pr.ld y18 7), .d (pr.ld y18 9), .n (pr.ln y18 10), .n (pr.ln y18 11), .d (pr.ld y18 12), .d (pr.ld y18 13), .d (pr.ld y18 14), .d (pr.ld y18 15), .d (pr.ld y18 16), .d (pr.ld y18 17), .d (pr.ld y18 18), .d (pr.ld y18 19)])))
def L9_8  : (Nat → List (Y Δ N R M) → Ω) → E → Ω := fun J17 y17 =>
 (pr.lenD (pr.ld y17 2) fun x18 =>
                  (pr.bin .lss false (pr.ld y17 3) x18 fun x19 =>
                   (pr.cond x19
                    (pr.rowD 2 (pr.ld y17 2) (pr.ld y17 3) fun w20 =>
                    (pr.bnd (pr.call 28 [(pr.cell w20 0), (pr.cell w20 1), (pr.ld y17 5), (pr.ld y17 6)]) [fun y21 => (pr.bin .neq false (pr.ld y21 1) (pr.lit (.int Go.IntKind.i64 (0))) fun x22 =>
                      (pr.cond x22
                       (pr.out 0 [.d (pr.lit (.bool false))])
                       (pr.bin .lss false (pr.ld y21 0) (pr.lit (.int Go.IntKind.i64 (0))) fun x23 =>
                       (pr.cond x23
                        (pr.rowD 2 (pr.ld y17 2) (pr.ld y17 3) fun w24 =>
                        (pr.bin .add false (pr.ld y17 3) (pr.lit (.int Go.IntKind.i64 (1))) fun x25 =>
                         (J17 0 [.d (pr.ld y17 0), .d (pr.ld y17 1), .d (pr.ld y17 2), .d x25, .r (pr.lr y17 4), .d (pr.cell w24 0), .d (pr.cell w24 1), .d (pr.ld y17 7), .n (pr.ln y17 8), .n (pr.ln y17 9), .d (pr.ld y17 10), .d (pr.ld y17 11), .d (pr.ld y17 12), .d (pr.ld y17 13), .d (pr.ld y17 14), .d (pr.ld y17 15), .d (pr.ld y17 16), .d (pr.ld y17 17)])))
                        (pr.bin .add false (pr.ld y17 3) (pr.lit (.int Go.IntKind.i64 (1))) fun x24 =>
                        (J17 0 [.d (pr.ld y17 0), .d (pr.ld y17 1), .d (pr.ld y17 2), .d x24, .r (pr.lr y17 4), .d (pr.ld y17 5), .d (pr.ld y17 6), .d (pr.ld y17 7), .n (pr.ln y17 8), .n (pr.ln y17 9), .d (pr.ld y17 10), .d (pr.ld y17 11), .d (pr.ld y17 12), .d (pr.ld y17 13), .d (pr.ld y17 14), .d (pr.ld y17 15), .d (pr.ld y17 16), .d (pr.ld y17 17)]))))))]))
                    (pr.out 1 [.d (pr.ld y17 0), .d (pr.ld y17 1), .r (pr.lr y17 4), .d (pr.ld y17 5), .d (pr.ld y17 6), .d (pr.ld y17 7), .n (pr.ln y17 8), .n (pr.ln y17 9), .d (pr.ld y17 10), .d (pr.ld y17 11), .d (pr.ld y17 12), .d (pr.ld y17 13), .d (pr.ld y17 14), .d (pr.ld y17 15), .d (pr.ld y17 16), .d (pr.ld y17 17)]))))
def L9_9  : (Nat → List (Y Δ N R M) → Ω) → E → Ω := fun J18 y18 =>
 (pr.bin .lss false (pr.ld y18 4) (pr.natD (pr.ln y18 2)) fun x19 =>
                   (pr.cond x19
                    (pr.eqN (pr.ln y18 3) (pr.len (pr.lr y18 8)) (pr.inx (pr.ld y18 4) (pr.ln y18 2) fun n20 => (pr.eqN (pr.ln y18 3) (pr.len (pr.lr y18 8)) (pr.rowAt 2 (pr.lr y18 8) n20 fun w21 => (pr.bnd (pr.call 28 [(pr.cell w21 0), (pr.cell w21 1), (pr.ld y18 6), (pr.ld y18 7)]) [fun y22 => (pr.bin .neq false (pr.ld y22 1) (pr.lit (.int Go.IntKind.i64 (0))) fun x23 =>
                       (pr.cond x23
                        (pr.out 0 [.d (pr.lit (.bool false))])
                        (pr.bin .lss false (pr.ld y22 0) (pr.lit (.int Go.IntKind.i64 (0))) fun x24 =>
                        (pr.cond x24
                         (pr.eqN (pr.ln y18 3) (pr.len (pr.lr y18 8)) (pr.inx (pr.ld y18 4) (pr.ln y18 2) fun n25 => (pr.eqN (pr.ln y18 3) (pr.len (pr.lr y18 8)) (pr.rowAt 2 (pr.lr y18 8) n25 fun w26 => (pr.bin .add false (pr.ld y18 4) (pr.lit (.int Go.IntKind.i64 (1))) fun x27 =>
                           (J18 0 [.d (pr.ld y18 0), .d (pr.ld y18 1), .n (pr.ln y18 2), .n (pr.ln y18 3), .d x27, .r (pr.lr y18 5), .d (pr.cell w26 0), .d (pr.cell w26 1), .r (pr.lr y18 8), .d (pr.ld y18 9), .n (pr.ln y18 10), .n (pr.ln y18 11), .d (pr.ld y18 12), .d (pr.ld y18 13), .d (pr.ld y18 14), .d (pr.ld y18 15), .d (pr.ld y18 16), .d (pr.ld y18 17), .d (pr.ld y18 18), .d (pr.ld y18 19)]))))))
                         (pr.bin .add false (pr.ld y18 4) (pr.lit (.int Go.IntKind.i64 (1))) fun x25 =>
                         (J18 0 [.d (pr.ld y18 0), .d (pr.ld y18 1), .n (pr.ln y18 2), .n (pr.ln y18 3), .d x25, .r (pr.lr y18 5), .d (pr.ld y18 6), .d (pr.ld y18 7), .r (pr.lr y18 8), .d (pr.ld y18 9), .n (pr.ln y18 10), .n (pr.ln y18 11), .d (pr.ld y18 12), .d (pr.ld y18 13), .d (pr.ld y18 14), .d (pr.ld y18 15), .d (pr.ld y18 16), .d (pr.ld y18 17), .d (pr.ld y18 18), .d (pr.ld y18 19)]))))))])))))
                    (pr.out 1 [.d (pr.ld y18 0), .d (pr.ld y18 1), .r (pr.lr y18 5), .d (pr.ld y18 6), .d (pr.ld y18 7), .d (pr.ld y18 9), .n (pr.ln y18 10), .n (pr.ln y18 11), .d (pr.ld y18 12), .d (pr.ld y18 13), .d (pr.ld y18 14), .d (pr.ld y18 15), .d (pr.ld y18 16), .d (pr.ld y18 17), .d (pr.ld y18 18), .d (pr.ld y18 19)])))
def L9_10  : (Nat → List (Y Δ N R M) → Ω) → E → Ω := fun J17 y17 =>
 (pr.lenD (pr.ld y17 2) fun x18 =>
                  (pr.bin .lss false (pr.ld y17 3) x18 fun x19 =>
                   (pr.cond x19
                    (pr.rowD 2 (pr.ld y17 2) (pr.ld y17 3) fun w20 =>
                    (pr.bnd (pr.call 28 [(pr.cell w20 0), (pr.cell w20 1), (pr.ld y17 5), (pr.ld y17 6)]) [fun y21 => (pr.bin .neq false (pr.ld y21 1) (pr.lit (.int Go.IntKind.i64 (0))) fun x22 =>
                      (pr.cond x22
                       (pr.out 0 [.d (pr.lit (.bool false))])
                       (pr.bin .lss false (pr.ld y21 0) (pr.lit (.int Go.IntKind.i64 (0))) fun x23 =>
                       (pr.cond x23
                        (pr.rowD 2 (pr.ld y17 2) (pr.ld y17 3) fun w24 =>
                        (pr.bin .add false (pr.ld y17 3) (pr.lit (.int Go.IntKind.i64 (1))) fun x25 =>
                         (J17 0 [.d (pr.ld y17 0), .d (pr.ld y17 1), .d (pr.ld y17 2), .d x25, .r (pr.lr y17 4), .d (pr.cell w24 0), .d (pr.cell w24 1), .d (pr.ld y17 7), .n (pr.ln y17 8), .n (pr.ln y17 9), .d (pr.ld y17 10), .d (pr.ld y17 11), .d (pr.ld y17 12), .d (pr.ld y17 13), .d (pr.ld y17 14), .d (pr.ld y17 15), .d (pr.ld y17 16), .d (pr.ld y17 17)])))
                        (pr.bin .add false (pr.ld y17 3) (pr.lit (.int Go.IntKind.i64 (1))) fun x24 =>
                        (J17 0 [.d (pr.ld y17 0), .d (pr.ld y17 1), .d (pr.ld y17 2), .d x24, .r (pr.lr y17 4), .d (pr.ld y17 5), .d (pr.ld y17 6), .d (pr.ld y17 7), .n (pr.ln y17 8), .n (pr.ln y17 9), .d (pr.ld y17 10), .d (pr.ld y17 11), .d (pr.ld y17 12), .d (pr.ld y17 13), .d (pr.ld y17 14), .d (pr.ld y17 15), .d (pr.ld y17 16), .d (pr.ld y17 17)]))))))]))
                    (pr.out 1 [.d (pr.ld y17 0), .d (pr.ld y17 1), .r (pr.lr y17 4), .d (pr.ld y17 5), .d (pr.ld y17 6), .d (pr.ld y17 7), .n (pr.ln y17 8), .n (pr.ln y17 9), .d (pr.ld y17 10), .d (pr.ld y17 11), .d (pr.ld y17 12), .d (pr.ld y17 13), .d (pr.ld y17 14), .d (pr.ld y17 15), .d (pr.ld y17 16), .d (pr.ld y17 17)]))))
def L9_11  : (Nat → List (Y Δ N R M) → Ω) → E → Ω := fun J12 y12 =>
 (pr.bin .lss false (pr.ld y12 1) (pr.lit (.int Go.IntKind.i64 (2))) fun x13 =>
             (pr.cond x13
              (pr.selI 2 (pr.ld y12 1) [(pr.bnd (pr.call 45 [(pr.ld y12 8), (pr.ld y12 9), (pr.ld y12 0), (pr.ld y12 3)]) [fun y14 => (pr.bin .neq false (pr.ld y14 1) (pr.lit (.int Go.IntKind.i64 (0))) fun x15 =>
               (pr.cond x15
                (pr.bin .eql false (pr.ld y12 1) (pr.lit (.int Go.IntKind.i64 (0))) fun x16 =>
                (pr.cond x16
                 (pr.out 0 [.d (pr.lit (.bool false))])
                 (pr.bin .add false (pr.ld y12 1) (pr.lit (.int Go.IntKind.i64 (1))) fun x17 =>
                 (J12 0 [.d (pr.ld y12 0), .d x17, .r (pr.lr y12 2), .d (pr.ld y12 3), .n (pr.ln y12 4), .n (pr.ln y12 5), .d (pr.ld y12 6), .d (pr.ld y12 7), .d (pr.ld y12 8), .d (pr.ld y12 9), .d (pr.ld y12 10), .d (pr.ld y12 11), .d (pr.ld y12 12), .d (pr.ld y12 13)]))))
                (pr.eqN (pr.len (pr.lr y14 0)) (pr.len (pr.lr y14 0)) (pr.inx (pr.lit (.int Go.IntKind.i64 (0))) (pr.len (pr.lr y14 0)) fun n16 => (pr.eqN (pr.len (pr.lr y14 0)) (pr.len (pr.lr y14 0)) (pr.rowAt 2 (pr.lr y14 0) n16 fun w17 => (pr.bnd (pr.loop [(L9_7 pr)] 0 [.d (pr.ld y12 0), .d (pr.ld y12 1), .n (pr.len (pr.lr y14 0)), .n (pr.len (pr.lr y14 0)), .d (pr.lit (.int Go.IntKind.i64 (1))), .r (pr.lr y12 2), .d (pr.cell w17 0), .d (pr.cell w17 1), .r (pr.lr y14 0), .d (pr.ld y12 3), .n (pr.ln y12 4), .n (pr.ln y12 5), .d (pr.ld y12 6), .d (pr.ld y12 7), .d (pr.ld y12 8), .d (pr.ld y12 9), .d (pr.ld y12 10), .d (pr.ld y12 11), .d (pr.ld y12 12), .d (pr.ld y12 13)]) [fun y18 => (pr.out 0 [.d (pr.ld y18 0)]), fun y18 => (pr.bnd (pr.call 28 [(pr.ld y18 3), (pr.ld y18 4), (pr.ld y18 8), (pr.ld y18 9)]) [fun y19 => (pr.bin .neq false (pr.ld y19 1) (pr.lit (.int Go.IntKind.i64 (0))) fun x20 =>
                    (pr.cond x20
                     (pr.out 0 [.d (pr.lit (.bool false))])
                     (pr.bin .gtr false (pr.ld y19 0) (pr.lit (.int Go.IntKind.i64 (0))) fun x21 =>
                     (pr.cond x21
                      (pr.out 0 [.d (pr.lit (.bool false))])
                      (pr.bin .eql false (pr.ld y18 1) (pr.lit (.int Go.IntKind.i64 (0))) fun x22 =>
                      (pr.bnd (pr.cond x22
                       (pr.bin .neq false (pr.ld y19 0) (pr.lit (.int Go.IntKind.i64 (0))) fun x23 =>
                       (pr.out 0 [.d (pr.ld y18 0), .d (pr.ld y18 1), .d x23, .r (pr.lr y18 2), .d (pr.ld y18 3), .d (pr.ld y18 4), .d (pr.ld y18 5), .n (pr.ln y18 6), .n (pr.ln y18 7), .d (pr.ld y18 8), .d (pr.ld y18 9), .d (pr.ld y18 10), .d (pr.ld y18 11), .d (pr.ld y18 12), .d (pr.ld y18 13), .d (pr.ld y18 14), .d (pr.ld y18 15)]))
                       (pr.out 0 [.d (pr.ld y18 0), .d (pr.ld y18 1), .d (pr.lit (.bool false)), .r (pr.lr y18 2), .d (pr.ld y18 3), .d (pr.ld y18 4), .d (pr.ld y18 5), .n (pr.ln y18 6), .n (pr.ln y18 7), .d (pr.ld y18 8), .d (pr.ld y18 9), .d (pr.ld y18 10), .d (pr.ld y18 11), .d (pr.ld y18 12), .d (pr.ld y18 13), .d (pr.ld y18 14), .d (pr.ld y18 15)])) [fun y23 => (pr.cond (pr.ld y23 2)
                        (pr.out 0 [.d (pr.lit (.bool false))])
                        (pr.bnd (pr.call 28 [(pr.ld y23 15), (pr.ld y23 16), (pr.ld y23 4), (pr.ld y23 5)]) [fun y24 => (pr.bin .eql false (pr.ld y24 1) (pr.lit (.int Go.IntKind.i64 (0))) fun x25 =>
                         (pr.cond x25
                          (pr.bin .lss false (pr.ld y24 0) (pr.lit (.int Go.IntKind.i64 (0))) fun x26 =>
                          (pr.cond x26
                           (pr.bnd (pr.call 44 [(pr.ld y23 11), (pr.ld y23 12), (pr.ld y23 0), (pr.ld y23 13), (pr.ld y23 14), (pr.ld y23 15), (pr.ld y23 16)]) [fun y27 => (pr.bin .eql false (pr.ld y27 0) (pr.lit (.int Go.IntKind.i64 (0))) fun x28 =>
                            (pr.cond x28
                             (pr.out 0 [.d (pr.lit (.bool false))])
                             (pr.bin .add false (pr.ld y23 1) (pr.lit (.int Go.IntKind.i64 (1))) fun x29 =>
                             (J12 0 [.d (pr.ld y23 0), .d x29, .r (pr.lr y23 3), .d (pr.ld y23 6), .n (pr.ln y23 7), .n (pr.ln y23 8), .d (pr.ld y23 9), .d (pr.ld y23 10), .d (pr.ld y23 11), .d (pr.ld y23 12), .d (pr.ld y23 13), .d (pr.ld y23 14), .d (pr.ld y23 15), .d (pr.ld y23 16)]))))])
                           (pr.bin .add false (pr.ld y23 1) (pr.lit (.int Go.IntKind.i64 (1))) fun x27 =>
                           (J12 0 [.d (pr.ld y23 0), .d x27, .r (pr.lr y23 3), .d (pr.ld y23 6), .n (pr.ln y23 7), .n (pr.ln y23 8), .d (pr.ld y23 9), .d (pr.ld y23 10), .d (pr.ld y23 11), .d (pr.ld y23 12), .d (pr.ld y23 13), .d (pr.ld y23 14), .d (pr.ld y23 15), .d (pr.ld y23 16)]))))
                          (pr.bin .add false (pr.ld y23 1) (pr.lit (.int Go.IntKind.i64 (1))) fun x26 =>
                          (J12 0 [.d (pr.ld y23 0), .d x26, .r (pr.lr y23 3), .d (pr.ld y23 6), .n (pr.ln y23 7), .n (pr.ln y23 8), .d (pr.ld y23 9), .d (pr.ld y23 10), .d (pr.ld y23 11), .d (pr.ld y23 12), .d (pr.ld y23 13), .d (pr.ld y23 14), .d (pr.ld y23 15), .d (pr.ld y23 16)]))))]))]))))))])]))))))), fun y14 => (pr.bin .neq false (pr.ld y14 1) (pr.lit (.int Go.IntKind.i64 (0))) fun x15 =>
               (pr.cond x15
                (pr.bin .eql false (pr.ld y12 1) (pr.lit (.int Go.IntKind.i64 (0))) fun x16 =>
                (pr.cond x16
                 (pr.out 0 [.d (pr.lit (.bool false))])
                 (pr.bin .add false (pr.ld y12 1) (pr.lit (.int Go.IntKind.i64 (1))) fun x17 =>
                 (J12 0 [.d (pr.ld y12 0), .d x17, .r (pr.lr y12 2), .d (pr.ld y12 3), .n (pr.ln y12 4), .n (pr.ln y12 5), .d (pr.ld y12 6), .d (pr.ld y12 7), .d (pr.ld y12 8), .d (pr.ld y12 9), .d (pr.ld y12 10), .d (pr.ld y12 11), .d (pr.ld y12 12), .d (pr.ld y12 13)]))))
                (pr.rowD 2 (pr.ld y14 0) (pr.lit (.int Go.IntKind.i64 (0))) fun w16 =>
                (pr.bnd (pr.loop [(L9_8 pr)] 0 [.d (pr.ld y12 0), .d (pr.ld y12 1), .d (pr.ld y14 0), .d (pr.lit (.int Go.IntKind.i64 (1))), .r (pr.lr y12 2), .d (pr.cell w16 0), .d (pr.cell w16 1), .d (pr.ld y12 3), .n (pr.ln y12 4), .n (pr.ln y12 5), .d (pr.ld y12 6), .d (pr.ld y12 7), .d (pr.ld y12 8), .d (pr.ld y12 9), .d (pr.ld y12 10), .d (pr.ld y12 11), .d (pr.ld y12 12), .d (pr.ld y12 13)]) [fun y17 => (pr.out 0 [.d (pr.ld y17 0)]), fun y17 => (pr.bnd (pr.call 28 [(pr.ld y17 3), (pr.ld y17 4), (pr.ld y17 8), (pr.ld y17 9)]) [fun y18 => (pr.bin .neq false (pr.ld y18 1) (pr.lit (.int Go.IntKind.i64 (0))) fun x19 =>
                   (pr.cond x19
                    (pr.out 0 [.d (pr.lit (.bool false))])
                    (pr.bin .gtr false (pr.ld y18 0) (pr.lit (.int Go.IntKind.i64 (0))) fun x20 =>
                    (pr.cond x20
                     (pr.out 0 [.d (pr.lit (.bool false))])
                     (pr.bin .eql false (pr.ld y17 1) (pr.lit (.int Go.IntKind.i64 (0))) fun x21 =>
                     (pr.bnd (pr.cond x21
                      (pr.bin .neq false (pr.ld y18 0) (pr.lit (.int Go.IntKind.i64 (0))) fun x22 =>
                      (pr.out 0 [.d (pr.ld y17 0), .d (pr.ld y17 1), .d x22, .r (pr.lr y17 2), .d (pr.ld y17 3), .d (pr.ld y17 4), .d (pr.ld y17 5), .n (pr.ln y17 6), .n (pr.ln y17 7), .d (pr.ld y17 8), .d (pr.ld y17 9), .d (pr.ld y17 10), .d (pr.ld y17 11), .d (pr.ld y17 12), .d (pr.ld y17 13), .d (pr.ld y17 14), .d (pr.ld y17 15)]))
                      (pr.out 0 [.d (pr.ld y17 0), .d (pr.ld y17 1), .d (pr.lit (.bool false)), .r (pr.lr y17 2), .d (pr.ld y17 3), .d (pr.ld y17 4), .d (pr.ld y17 5), .n (pr.ln y17 6), .n (pr.ln y17 7), .d (pr.ld y17 8), .d (pr.ld y17 9), .d (pr.ld y17 10), .d (pr.ld y17 11), .d (pr.ld y17 12), .d (pr.ld y17 13), .d (pr.ld y17 14), .d (pr.ld y17 15)])) [fun y22 => (pr.cond (pr.ld y22 2)
                       (pr.out 0 [.d (pr.lit (.bool false))])
                       (pr.bnd (pr.call 28 [(pr.ld y22 15), (pr.ld y22 16), (pr.ld y22 4), (pr.ld y22 5)]) [fun y23 => (pr.bin .eql false (pr.ld y23 1) (pr.lit (.int Go.IntKind.i64 (0))) fun x24 =>
                        (pr.cond x24
                         (pr.bin .lss false (pr.ld y23 0) (pr.lit (.int Go.IntKind.i64 (0))) fun x25 =>
                         (pr.cond x25
                          (pr.bnd (pr.call 44 [(pr.ld y22 11), (pr.ld y22 12), (pr.ld y22 0), (pr.ld y22 13), (pr.ld y22 14), (pr.ld y22 15), (pr.ld y22 16)]) [fun y26 => (pr.bin .eql false (pr.ld y26 0) (pr.lit (.int Go.IntKind.i64 (0))) fun x27 =>
                           (pr.cond x27
                            (pr.out 0 [.d (pr.lit (.bool false))])
                            (pr.bin .add false (pr.ld y22 1) (pr.lit (.int Go.IntKind.i64 (1))) fun x28 =>
                            (J12 0 [.d (pr.ld y22 0), .d x28, .r (pr.lr y22 3), .d (pr.ld y22 6), .n (pr.ln y22 7), .n (pr.ln y22 8), .d (pr.ld y22 9), .d (pr.ld y22 10), .d (pr.ld y22 11), .d (pr.ld y22 12), .d (pr.ld y22 13), .d (pr.ld y22 14), .d (pr.ld y22 15), .d (pr.ld y22 16)]))))])
                          (pr.bin .add false (pr.ld y22 1) (pr.lit (.int Go.IntKind.i64 (1))) fun x26 =>
                          (J12 0 [.d (pr.ld y22 0), .d x26, .r (pr.lr y22 3), .d (pr.ld y22 6), .n (pr.ln y22 7), .n (pr.ln y22 8), .d (pr.ld y22 9), .d (pr.ld y22 10), .d (pr.ld y22 11), .d (pr.ld y22 12), .d (pr.ld y22 13), .d (pr.ld y22 14), .d (pr.ld y22 15), .d (pr.ld y22 16)]))))
                         (pr.bin .add false (pr.ld y22 1) (pr.lit (.int Go.IntKind.i64 (1))) fun x25 =>
                         (J12 0 [.d (pr.ld y22 0), .d x25, .r (pr.lr y22 3), .d (pr.ld y22 6), .n (pr.ln y22 7), .n (pr.ln y22 8), .d (pr.ld y22 9), .d (pr.ld y22 10), .d (pr.ld y22 11), .d (pr.ld y22 12), .d (pr.ld y22 13), .d (pr.ld y22 14), .d (pr.ld y22 15), .d (pr.ld y22 16)]))))]))]))))))])]))))]), (pr.eqN (pr.ln y12 5) (pr.len (pr.lr y12 2)) (pr.bnd (pr.call 45 [(pr.ld y12 8), (pr.ld y12 9), (pr.ld y12 0), (pr.slD 2 (pr.seg (pr.lr y12 2) none (pr.ln y12 4)))]) [fun y14 => (pr.lits [.r (pr.lr y14 0), .d (pr.ld y14 1)]
               (pr.bin .neq false (pr.ld y14 1) (pr.lit (.int Go.IntKind.i64 (0))) fun x15 =>
               (pr.cond x15
                (pr.bin .eql false (pr.ld y12 1) (pr.lit (.int Go.IntKind.i64 (0))) fun x16 =>
                (pr.cond x16
                 (pr.out 0 [.d (pr.lit (.bool false))])
                 (pr.bin .add false (pr.ld y12 1) (pr.lit (.int Go.IntKind.i64 (1))) fun x17 =>
                 (J12 0 [.d (pr.ld y12 0), .d x17, .r (pr.lr y12 2), .d (pr.ld y12 3), .n (pr.ln y12 4), .n (pr.ln y12 5), .d (pr.ld y12 6), .d (pr.ld y12 7), .d (pr.ld y12 8), .d (pr.ld y12 9), .d (pr.ld y12 10), .d (pr.ld y12 11), .d (pr.ld y12 12), .d (pr.ld y12 13)]))))
                (pr.eqN (pr.len (pr.lr y14 0)) (pr.len (pr.lr y14 0)) (pr.inx (pr.lit (.int Go.IntKind.i64 (0))) (pr.len (pr.lr y14 0)) fun n16 => (pr.eqN (pr.len (pr.lr y14 0)) (pr.len (pr.lr y14 0)) (pr.rowAt 2 (pr.lr y14 0) n16 fun w17 => (pr.bnd (pr.loop [(L9_9 pr)] 0 [.d (pr.ld y12 0), .d (pr.ld y12 1), .n (pr.len (pr.lr y14 0)), .n (pr.len (pr.lr y14 0)), .d (pr.lit (.int Go.IntKind.i64 (1))), .r (pr.lr y12 2), .d (pr.cell w17 0), .d (pr.cell w17 1), .r (pr.lr y14 0), .d (pr.ld y12 3), .n (pr.ln y12 4), .n (pr.ln y12 5), .d (pr.ld y12 6), .d (pr.ld y12 7), .d (pr.ld y12 8), .d (pr.ld y12 9), .d (pr.ld y12 10), .d (pr.ld y12 11), .d (pr.ld y12 12), .d (pr.ld y12 13)]) [fun y18 => (pr.out 0 [.d (pr.ld y18 0)]), fun y18 => (pr.bnd (pr.call 28 [(pr.ld y18 3), (pr.ld y18 4), (pr.ld y18 8), (pr.ld y18 9)]) [fun y19 => (pr.bin .neq false (pr.ld y19 1) (pr.lit (.int Go.IntKind.i64 (0))) fun x20 =>
                    (pr.cond x20
                     (pr.out 0 [.d (pr.lit (.bool false))])
                     (pr.bin .gtr false (pr.ld y19 0) (pr.lit (.int Go.IntKind.i64 (0))) fun x21 =>
                     (pr.cond x21
                      (pr.out 0 [.d (pr.lit (.bool false))])
                      (pr.bin .eql false (pr.ld y18 1) (pr.lit (.int Go.IntKind.i64 (0))) fun x22 =>
                      (pr.bnd (pr.cond x22
                       (pr.bin .neq false (pr.ld y19 0) (pr.lit (.int Go.IntKind.i64 (0))) fun x23 =>
                       (pr.out 0 [.d (pr.ld y18 0), .d (pr.ld y18 1), .d x23, .r (pr.lr y18 2), .d (pr.ld y18 3), .d (pr.ld y18 4), .d (pr.ld y18 5), .n (pr.ln y18 6), .n (pr.ln y18 7), .d (pr.ld y18 8), .d (pr.ld y18 9), .d (pr.ld y18 10), .d (pr.ld y18 11), .d (pr.ld y18 12), .d (pr.ld y18 13), .d (pr.ld y18 14), .d (pr.ld y18 15)]))
                       (pr.out 0 [.d (pr.ld y18 0), .d (pr.ld y18 1), .d (pr.lit (.bool false)), .r (pr.lr y18 2), .d (pr.ld y18 3), .d (pr.ld y18 4), .d (pr.ld y18 5), .n (pr.ln y18 6), .n (pr.ln y18 7), .d (pr.ld y18 8), .d (pr.ld y18 9), .d (pr.ld y18 10), .d (pr.ld y18 11), .d (pr.ld y18 12), .d (pr.ld y18 13), .d (pr.ld y18 14), .d (pr.ld y18 15)])) [fun y23 => (pr.cond (pr.ld y23 2)
                        (pr.out 0 [.d (pr.lit (.bool false))])
                        (pr.bnd (pr.call 28 [(pr.ld y23 15), (pr.ld y23 16), (pr.ld y23 4), (pr.ld y23 5)]) [fun y24 => (pr.bin .eql false (pr.ld y24 1) (pr.lit (.int Go.IntKind.i64 (0))) fun x25 =>
                         (pr.cond x25
                          (pr.bin .lss false (pr.ld y24 0) (pr.lit (.int Go.IntKind.i64 (0))) fun x26 =>
                          (pr.cond x26
                           (pr.bnd (pr.call 44 [(pr.ld y23 11), (pr.ld y23 12), (pr.ld y23 0), (pr.ld y23 13), (pr.ld y23 14), (pr.ld y23 15), (pr.ld y23 16)]) [fun y27 => (pr.bin .eql false (pr.ld y27 0) (pr.lit (.int Go.IntKind.i64 (0))) fun x28 =>
                            (pr.cond x28
                             (pr.out 0 [.d (pr.lit (.bool false))])
                             (pr.bin .add false (pr.ld y23 1) (pr.lit (.int Go.IntKind.i64 (1))) fun x29 =>
                             (J12 0 [.d (pr.ld y23 0), .d x29, .r (pr.lr y23 3), .d (pr.ld y23 6), .n (pr.ln y23 7), .n (pr.ln y23 8), .d (pr.ld y23 9), .d (pr.ld y23 10), .d (pr.ld y23 11), .d (pr.ld y23 12), .d (pr.ld y23 13), .d (pr.ld y23 14), .d (pr.ld y23 15), .d (pr.ld y23 16)]))))])
                           (pr.bin .add false (pr.ld y23 1) (pr.lit (.int Go.IntKind.i64 (1))) fun x27 =>
                           (J12 0 [.d (pr.ld y23 0), .d x27, .r (pr.lr y23 3), .d (pr.ld y23 6), .n (pr.ln y23 7), .n (pr.ln y23 8), .d (pr.ld y23 9), .d (pr.ld y23 10), .d (pr.ld y23 11), .d (pr.ld y23 12), .d (pr.ld y23 13), .d (pr.ld y23 14), .d (pr.ld y23 15), .d (pr.ld y23 16)]))))
                          (pr.bin .add false (pr.ld y23 1) (pr.lit (.int Go.IntKind.i64 (1))) fun x26 =>
                          (J12 0 [.d (pr.ld y23 0), .d x26, .r (pr.lr y23 3), .d (pr.ld y23 6), .n (pr.ln y23 7), .n (pr.ln y23 8), .d (pr.ld y23 9), .d (pr.ld y23 10), .d (pr.ld y23 11), .d (pr.ld y23 12), .d (pr.ld y23 13), .d (pr.ld y23 14), .d (pr.ld y23 15), .d (pr.ld y23 16)]))))]))]))))))])])))))))), fun y14 => (pr.lits [.d (pr.ld y14 0), .d (pr.ld y14 1)]
               (pr.bin .neq false (pr.ld y14 1) (pr.lit (.int Go.IntKind.i64 (0))) fun x15 =>
               (pr.cond x15
                (pr.bin .eql false (pr.ld y12 1) (pr.lit (.int Go.IntKind.i64 (0))) fun x16 =>
                (pr.cond x16
                 (pr.out 0 [.d (pr.lit (.bool false))])
                 (pr.bin .add false (pr.ld y12 1) (pr.lit (.int Go.IntKind.i64 (1))) fun x17 =>
                 (J12 0 [.d (pr.ld y12 0), .d x17, .r (pr.lr y12 2), .d (pr.ld y12 3), .n (pr.ln y12 4), .n (pr.ln y12 5), .d (pr.ld y12 6), .d (pr.ld y12 7), .d (pr.ld y12 8), .d (pr.ld y12 9), .d (pr.ld y12 10), .d (pr.ld y12 11), .d (pr.ld y12 12), .d (pr.ld y12 13)]))))
                (pr.rowD 2 (pr.ld y14 0) (pr.lit (.int Go.IntKind.i64 (0))) fun w16 =>
                (pr.bnd (pr.loop [(L9_10 pr)] 0 [.d (pr.ld y12 0), .d (pr.ld y12 1), .d (pr.ld y14 0), .d (pr.lit (.int Go.IntKind.i64 (1))), .r (pr.lr y12 2), .d (pr.cell w16 0), .d (pr.cell w16 1), .d (pr.ld y12 3), .n (pr.ln y12 4), .n (pr.ln y12 5), .d (pr.ld y12 6), .d (pr.ld y12 7), .d (pr.ld y12 8), .d (pr.ld y12 9), .d (pr.ld y12 10), .d (pr.ld y12 11), .d (pr.ld y12 12), .d (pr.ld y12 13)]) [fun y17 => (pr.out 0 [.d (pr.ld y17 0)]), fun y17 => (pr.bnd (pr.call 28 [(pr.ld y17 3), (pr.ld y17 4), (pr.ld y17 8), (pr.ld y17 9)]) [fun y18 => (pr.bin .neq false (pr.ld y18 1) (pr.lit (.int Go.IntKind.i64 (0))) fun x19 =>
                   (pr.cond x19
                    (pr.out 0 [.d (pr.lit (.bool false))])
                    (pr.bin .gtr false (pr.ld y18 0) (pr.lit (.int Go.IntKind.i64 (0))) fun x20 =>
                    (pr.cond x20
                     (pr.out 0 [.d (pr.lit (.bool false))])
                     (pr.bin .eql false (pr.ld y17 1) (pr.lit (.int Go.IntKind.i64 (0))) fun x21 =>
                     (pr.bnd (pr.cond x21
                      (pr.bin .neq false (pr.ld y18 0) (pr.lit (.int Go.IntKind.i64 (0))) fun x22 =>
                      (pr.out 0 [.d (pr.ld y17 0), .d (pr.ld y17 1), .d x22, .r (pr.lr y17 2), .d (pr.ld y17 3), .d (pr.ld y17 4), .d (pr.ld y17 5), .n (pr.ln y17 6), .n (pr.ln y17 7), .d (pr.ld y17 8), .d (pr.ld y17 9), .d (pr.ld y17 10), .d (pr.ld y17 11), .d (pr.ld y17 12), .d (pr.ld y17 13), .d (pr.ld y17 14), .d (pr.ld y17 15)]))
                      (pr.out 0 [.d (pr.ld y17 0), .d (pr.ld y17 1), .d (pr.lit (.bool false)), .r (pr.lr y17 2), .d (pr.ld y17 3), .d (pr.ld y17 4), .d (pr.ld y17 5), .n (pr.ln y17 6), .n (pr.ln y17 7), .d (pr.ld y17 8), .d (pr.ld y17 9), .d (pr.ld y17 10), .d (pr.ld y17 11), .d (pr.ld y17 12), .d (pr.ld y17 13), .d (pr.ld y17 14), .d (pr.ld y17 15)])) [fun y22 => (pr.cond (pr.ld y22 2)
                       (pr.out 0 [.d (pr.lit (.bool false))])
                       (pr.bnd (pr.call 28 [(pr.ld y22 15), (pr.ld y22 16), (pr.ld y22 4), (pr.ld y22 5)]) [fun y23 => (pr.bin .eql false (pr.ld y23 1) (pr.lit (.int Go.IntKind.i64 (0))) fun x24 =>
                        (pr.cond x24
                         (pr.bin .lss false (pr.ld y23 0) (pr.lit (.int Go.IntKind.i64 (0))) fun x25 =>
                         (pr.cond x25
                          (pr.bnd (pr.call 44 [(pr.ld y22 11), (pr.ld y22 12), (pr.ld y22 0), (pr.ld y22 13), (pr.ld y22 14), (pr.ld y22 15), (pr.ld y22 16)]) [fun y26 => (pr.bin .eql false (pr.ld y26 0) (pr.lit (.int Go.IntKind.i64 (0))) fun x27 =>
                           (pr.cond x27
                            (pr.out 0 [.d (pr.lit (.bool false))])
                            (pr.bin .add false (pr.ld y22 1) (pr.lit (.int Go.IntKind.i64 (1))) fun x28 =>
                            (J12 0 [.d (pr.ld y22 0), .d x28, .r (pr.lr y22 3), .d (pr.ld y22 6), .n (pr.ln y22 7), .n (pr.ln y22 8), .d (pr.ld y22 9), .d (pr.ld y22 10), .d (pr.ld y22 11), .d (pr.ld y22 12), .d (pr.ld y22 13), .d (pr.ld y22 14), .d (pr.ld y22 15), .d (pr.ld y22 16)]))))])
                          (pr.bin .add false (pr.ld y22 1) (pr.lit (.int Go.IntKind.i64 (1))) fun x26 =>
                          (J12 0 [.d (pr.ld y22 0), .d x26, .r (pr.lr y22 3), .d (pr.ld y22 6), .n (pr.ln y22 7), .n (pr.ln y22 8), .d (pr.ld y22 9), .d (pr.ld y22 10), .d (pr.ld y22 11), .d (pr.ld y22 12), .d (pr.ld y22 13), .d (pr.ld y22 14), .d (pr.ld y22 15), .d (pr.ld y22 16)]))))
                         (pr.bin .add false (pr.ld y22 1) (pr.lit (.int Go.IntKind.i64 (1))) fun x25 =>
                         (J12 0 [.d (pr.ld y22 0), .d x25, .r (pr.lr y22 3), .d (pr.ld y22 6), .n (pr.ln y22 7), .n (pr.ln y22 8), .d (pr.ld y22 9), .d (pr.ld y22 10), .d (pr.ld y22 11), .d (pr.ld y22 12), .d (pr.ld y22 13), .d (pr.ld y22 14), .d (pr.ld y22 15), .d (pr.ld y22 16)]))))]))]))))))])])))))]))])
              (pr.out 1 [])))
def G9 (a0 a1 a2 a3 a4 a5 a6 a7 : Δ) : Ω :=
 (pr.bnd (pr.call 11 []) [fun y0 => (pr.bnd (pr.call 25 [a0, a1, a2]) [fun y1 => (pr.bnd (pr.call 27 [(pr.ld y1 0), (pr.ld y1 1), (pr.ld y1 2)]) [fun y2 => (pr.bnd (pr.call 33 [(pr.ld y1 0), (pr.ld y1 1), (pr.ld y1 2)]) [fun y3 => (pr.bnd (pr.call 43 [(pr.ld y1 0), (pr.ld y1 1), (pr.ld y1 2)]) [fun y4 => (pr.un .not (pr.ld y0 0) fun x5 => (pr.cond x5
      (pr.out 0 [.d (pr.lit (.bool false))])
      (pr.bin .neq false (pr.ld y2 2) (pr.ld y3 1) fun x6 =>
      (pr.cond x6
       (pr.out 0 [.d (pr.lit (.bool false))])
       (pr.bin .neq false (pr.ld y2 2) (pr.ld y4 2) fun x7 =>
       (pr.cond x7
        (pr.out 0 [.d (pr.lit (.bool false))])
        (pr.bin .neq false (pr.ld y2 2) (pr.lit (.int Go.IntKind.i64 (0))) fun x8 =>
        (pr.cond x8
         (pr.bin .eql false (pr.ld y2 2) (pr.lit (.int Go.IntKind.i64 (47))) fun x9 =>
         (pr.out 0 [.d x9]))
         (pr.bnd (pr.call 44 [(pr.ld y1 0), (pr.ld y1 1), (pr.ld y1 2), (pr.ld y4 0), (pr.ld y4 1), (pr.ld y2 0), (pr.ld y2 1)]) [fun y9 => (pr.bin .neq false (pr.ld y9 0) (pr.lit (.int Go.IntKind.i64 (0))) fun x10 =>
          (pr.cond x10
           (pr.out 0 [.d (pr.lit (.bool false))])
           (pr.bnd (pr.loop [(L9_0 pr), (L9_1 pr)] 0 [.d a7, .d (pr.ld y1 2), .d (pr.ld y3 0), .d (pr.lit (.int Go.IntKind.i64 (0))), .d (pr.lit (.int Go.IntKind.i64 (0))), .d (pr.ld y2 0), .d (pr.ld y2 1), .d (pr.ld y1 0), .d (pr.ld y1 1), .d a3, .d a4, .d a5, .d a6]) [fun y11 => (pr.bnd (pr.loop [(L9_6 pr)] 0 [.d (pr.ld y11 0), .d (pr.lit (.int Go.IntKind.i64 (0))), .d (pr.ld y11 1), .d (pr.ld y11 2), .d (pr.ld y11 3), .d (pr.ld y11 4), .d (pr.ld y11 5), .d (pr.ld y11 6), .d (pr.ld y11 7), .d (pr.ld y11 8), .d (pr.ld y11 9)]) [fun y12 => (pr.out 0 [.d (pr.ld y12 0)]), fun y12 => (pr.out 0 [.d (pr.lit (.bool true))])]), fun y11 => (pr.bnd (pr.loop [(L9_11 pr)] 0 [.d (pr.ld y11 0), .d (pr.lit (.int Go.IntKind.i64 (0))), .r (pr.lr y11 4), .d (pr.ld y11 1), .n (pr.ln y11 2), .n (pr.ln y11 3), .d (pr.ld y11 5), .d (pr.ld y11 6), .d (pr.ld y11 7), .d (pr.ld y11 8), .d (pr.ld y11 9), .d (pr.ld y11 10), .d (pr.ld y11 11), .d (pr.ld y11 12)]) [fun y12 => (pr.out 0 [.d (pr.ld y12 0)]), fun y12 => (pr.out 0 [.d (pr.lit (.bool true))])])])))])))))))))])])])])])
end
theorem G9_eq {Δ N R W M E Ω : Type} (pr : Pr Δ N R W M E Ω) (a0 a1 a2 a3 a4 a5 a6 a7 : Δ) : fun3 pr tb Try.prog 400 9 [a0, a1, a2, a3, a4, a5, a6, a7] = G9 pr a0 a1 a2 a3 a4 a5 a6 a7 := by kernel_rfl
theorem F9 (n : Nat) (a0 a1 a2 a3 a4 a5 a6 a7 : D) : FN (n + 1) 9 [a0, a1, a2, a3, a4, a5, a6, a7] = G9 (RP n) a0 a1 a2 a3 a4 a5 a6 a7 := G9_eq _ a0 a1 a2 a3 a4 a5 a6 a7
end Go.VE
/- What the functions of this program do, made by a program of ours out of the evaluator itself. -/
namespace Go.VE
open Go.RowKit Go.Proofs
set_option maxRecDepth 100000
set_option maxHeartbeats 4000000
section
variable {Δ N R W M E Ω : Type} (pr : Pr Δ N R W M E Ω)
/-! leazing/drift.Check -/
def L15_0  : (Nat → List (Y Δ N R M) → Ω) → E → Ω := fun J7 y7 =>
 (pr.bin .lss false (pr.ld y7 2) (pr.ld y7 1) fun x8 =>
        (pr.cond x8
         (pr.rowD 3 (pr.ld y7 0) (pr.ld y7 2) fun w9 =>
         (pr.bnd (pr.call 19 [(pr.cell w9 0), (pr.cell w9 1), (pr.cell w9 2)]) [fun y10 => (pr.bin .neq false (pr.ld y10 0) (pr.lit (.int Go.IntKind.i64 (0))) fun x11 =>
           (pr.cond x11
            (pr.out 0 [.d (pr.lit (.int Go.IntKind.i64 (42)))])
            (pr.bin .gtr false (pr.ld y7 2) (pr.lit (.int Go.IntKind.i64 (0))) fun x12 =>
            (pr.cond x12
             (pr.bin .sub false (pr.ld y7 2) (pr.lit (.int Go.IntKind.i64 (1))) fun x13 =>
             (pr.rowD 3 (pr.ld y7 3) x13 fun w14 =>
              (pr.bin .geq false (pr.cell w14 0) (pr.cell w9 0) fun x15 =>
               (pr.cond x15
                (pr.out 0 [.d (pr.lit (.int Go.IntKind.i64 (42)))])
                (pr.bin .add false (pr.ld y7 2) (pr.lit (.int Go.IntKind.i64 (1))) fun x16 =>
                (J7 0 [.d (pr.ld y7 0), .d (pr.ld y7 1), .d x16, .d (pr.ld y7 3), .d (pr.ld y7 4)]))))))
             (pr.bin .add false (pr.ld y7 2) (pr.lit (.int Go.IntKind.i64 (1))) fun x13 =>
             (J7 0 [.d (pr.ld y7 0), .d (pr.ld y7 1), .d x13, .d (pr.ld y7 3), .d (pr.ld y7 4)]))))))]))
         (pr.out 1 [.d (pr.ld y7 3), .d (pr.ld y7 4)])))
def L15_1  : (Nat → List (Y Δ N R M) → Ω) → E → Ω := fun J10 y10 =>
 (pr.bin .lss false (pr.ld y10 2) (pr.ld y10 1) fun x11 =>
           (pr.cond x11
            (pr.rowD 3 (pr.ld y10 0) (pr.ld y10 2) fun w12 =>
            (pr.look 0 [(.int Go.IntKind.i64 (0))] (pr.lm y10 3) (pr.cell w12 0) fun w13 x13 =>
             (pr.bnd (pr.call 21 [(pr.cell w12 0), (pr.cell w12 1), (pr.cell w12 2)]) [fun y14 => (pr.bin .neq false (pr.ld y14 0) (pr.lit (.int Go.IntKind.i64 (0))) fun x15 =>
               (pr.cond x15
                (pr.out 0 [.d (pr.lit (.int Go.IntKind.i64 (42)))])
                (pr.un .not x13 fun x16 => (pr.cond x16
                 (pr.out 0 [.d (pr.lit (.int Go.IntKind.i64 (42)))])
                 (pr.bin .add false (pr.ld y10 2) (pr.lit (.int Go.IntKind.i64 (1))) fun x17 =>
                 (J10 0 [.d (pr.ld y10 0), .d (pr.ld y10 1), .d x17, .m (pr.lm y10 3)]))))))])))
            (pr.out 1 [])))
def G15 (a0 a1 : Δ) : Ω :=
 (pr.lenD a0 fun x0 =>
(pr.bnd (pr.call 59 [x0, (pr.lit (.int Go.IntKind.i64 (1))), (pr.lit (.int Go.IntKind.i64 (6)))]) [fun y1 => (pr.un .not (pr.ld y1 0) fun x2 => (pr.cond x2
   (pr.out 0 [.d (pr.lit (.int Go.IntKind.i64 (42)))])
   (pr.lenD a1 fun x3 =>
   (pr.bnd (pr.call 59 [x3, (pr.lit (.int Go.IntKind.i64 (1))), (pr.lit (.int Go.IntKind.i64 (24)))]) [fun y4 => (pr.un .not (pr.ld y4 0) fun x5 => (pr.cond x5
      (pr.out 0 [.d (pr.lit (.int Go.IntKind.i64 (42)))])
      (pr.lenD a0 fun x6 =>
      (pr.bnd (pr.loop [(L15_0 pr)] 0 [.d a0, .d x6, .d (pr.lit (.int Go.IntKind.i64 (0))), .d a0, .d a1]) [fun y7 => (pr.out 0 [.d (pr.ld y7 0)]), fun y7 => (pr.bnd (pr.call 62 [(pr.ld y7 0), (pr.ld y7 1)]) [fun y8 => (pr.lenD (pr.ld y7 1) fun x9 =>
         (pr.bnd (pr.loop [(L15_1 pr)] 0 [.d (pr.ld y7 1), .d x9, .d (pr.lit (.int Go.IntKind.i64 (0))), .m (pr.lm y8 0)]) [fun y10 => (pr.out 0 [.d (pr.ld y10 0)]), fun y10 => (pr.out 0 [.d (pr.lit (.int Go.IntKind.i64 (0)))])]))])]))))]))))]))
/-! leazing/drift.CheckClaims -/
def L17_0  : (Nat → List (Y Δ N R M) → Ω) → E → Ω := fun J6 y6 =>
 (pr.bin .lss false (pr.ld y6 3) (pr.ld y6 2) fun x7 =>
       (pr.cond x7
        (pr.rowD 4 (pr.ld y6 1) (pr.ld y6 3) fun w8 =>
        (pr.cutD 4 (pr.ld y6 0) none (some (pr.ld y6 3)) fun x9 =>
         (pr.bnd (pr.call 64 [x9, (pr.fnD 65 [(pr.dpD [(pr.cell w8 0), (pr.cell w8 1), (pr.cell w8 2), (pr.cell w8 3)] 0)])]) [fun y10 => (pr.lits [.d (pr.ld y10 0)]
           (pr.bnd (pr.call 23 [(pr.cell w8 0), (pr.cell w8 1), (pr.cell w8 2), (pr.cell w8 3)]) [fun y11 => (pr.bin .neq false (pr.ld y11 0) (pr.lit (.int Go.IntKind.i64 (0))) fun x12 =>
            (pr.cond x12
             (pr.out 0 [.d (pr.lit (.int Go.IntKind.i64 (44)))])
             (pr.cond (pr.ld y10 0)
             (pr.out 0 [.d (pr.lit (.int Go.IntKind.i64 (44)))])
             (pr.lenD (pr.ld y6 5) fun x13 =>
             (pr.bin .geq false (pr.cell w8 3) x13 fun x14 =>
              (pr.cond x14
               (pr.out 0 [.d (pr.lit (.int Go.IntKind.i64 (44)))])
               (pr.bin .add false (pr.ld y6 3) (pr.lit (.int Go.IntKind.i64 (1))) fun x15 =>
               (J6 0 [.d (pr.ld y6 0), .d (pr.ld y6 1), .d (pr.ld y6 2), .d x15, .d (pr.ld y6 4), .d (pr.ld y6 5)]))))))))]))])))
        (pr.out 1 [])))
def G17 (a0 a1 a2 : Δ) : Ω :=
 (pr.bnd (pr.call 15 [a0, a1]) [fun y0 => (pr.bin .neq false (pr.ld y0 0) (pr.lit (.int Go.IntKind.i64 (0))) fun x1 =>
 (pr.cond x1
  (pr.out 0 [.d (pr.ld y0 0)])
  (pr.lenD a2 fun x2 =>
  (pr.bnd (pr.call 59 [x2, (pr.lit (.int Go.IntKind.i64 (1))), (pr.lit (.int Go.IntKind.i64 (12)))]) [fun y3 => (pr.un .not (pr.ld y3 0) fun x4 => (pr.cond x4
     (pr.out 0 [.d (pr.lit (.int Go.IntKind.i64 (44)))])
     (pr.lenD a2 fun x5 =>
     (pr.bnd (pr.loop [(L17_0 pr)] 0 [.d a2, .d a2, .d x5, .d (pr.lit (.int Go.IntKind.i64 (0))), .d a0, .d a1]) [fun y6 => (pr.out 0 [.d (pr.ld y6 0)]), fun y6 => (pr.out 0 [.d (pr.lit (.int Go.IntKind.i64 (0)))])]))))]))))])
/-! leazing/drift.CheckChain -/
def G19 (a0 a1 a2 : Δ) : Ω :=
 (pr.bnd (pr.call 59 [a0, (pr.lit (.int Go.IntKind.i64 (1))), (pr.lit (.int Go.IntKind.i64 (99)))]) [fun y0 => (pr.un .not (pr.ld y0 0) fun x1 => (pr.cond x1
  (pr.out 0 [.d (pr.lit (.int Go.IntKind.i64 (40)))])
  (pr.bin .lss false a1 (pr.lit (.int Go.IntKind.i64 (1))) fun x2 =>
  (pr.cond x2
   (pr.out 0 [.d (pr.lit (.int Go.IntKind.i64 (40)))])
   (pr.bin .lss false a2 a1 fun x3 =>
   (pr.cond x3
    (pr.out 0 [.d (pr.lit (.int Go.IntKind.i64 (40)))])
    (pr.bin .gtr false a2 (pr.lit (.int Go.IntKind.i64 (1000))) fun x4 =>
    (pr.cond x4
     (pr.out 0 [.d (pr.lit (.int Go.IntKind.i64 (40)))])
     (pr.out 0 [.d (pr.lit (.int Go.IntKind.i64 (0)))])))))))))])
/-! leazing/drift.CheckCell -/
def G21 (a0 a1 a2 : Δ) : Ω :=
 (pr.bnd (pr.call 59 [a0, (pr.lit (.int Go.IntKind.i64 (1))), (pr.lit (.int Go.IntKind.i64 (99)))]) [fun y0 => (pr.un .not (pr.ld y0 0) fun x1 => (pr.cond x1
  (pr.out 0 [.d (pr.lit (.int Go.IntKind.i64 (41)))])
  (pr.bnd (pr.call 59 [a1, (pr.lit (.int Go.IntKind.i64 (1))), (pr.lit (.int Go.IntKind.i64 (1000)))]) [fun y2 => (pr.un .not (pr.ld y2 0) fun x3 => (pr.cond x3
    (pr.out 0 [.d (pr.lit (.int Go.IntKind.i64 (41)))])
    (pr.bnd (pr.call 59 [a2, (pr.lit (.int Go.IntKind.i64 (0))), (pr.lit (.int Go.IntKind.i64 (10000)))]) [fun y4 => (pr.un .not (pr.ld y4 0) fun x5 => (pr.cond x5
      (pr.out 0 [.d (pr.lit (.int Go.IntKind.i64 (41)))])
      (pr.out 0 [.d (pr.lit (.int Go.IntKind.i64 (0)))])))])))])))])
/-! leazing/drift.CheckClaim -/
def G23 (a0 a1 a2 a3 : Δ) : Ω :=
 (pr.bnd (pr.call 59 [a0, (pr.lit (.int Go.IntKind.i64 (1))), (pr.lit (.int Go.IntKind.i64 (99)))]) [fun y0 => (pr.un .not (pr.ld y0 0) fun x1 => (pr.cond x1
  (pr.out 0 [.d (pr.lit (.int Go.IntKind.i64 (43)))])
  (pr.bnd (pr.call 59 [a1, (pr.lit (.int Go.IntKind.i64 (1))), (pr.lit (.int Go.IntKind.i64 (20)))]) [fun y2 => (pr.un .not (pr.ld y2 0) fun x3 => (pr.cond x3
    (pr.out 0 [.d (pr.lit (.int Go.IntKind.i64 (43)))])
    (pr.bin .lss false a2 (pr.lit (.int Go.IntKind.i64 (0))) fun x4 =>
    (pr.cond x4
     (pr.out 0 [.d (pr.lit (.int Go.IntKind.i64 (43)))])
     (pr.bin .lss false a3 a2 fun x5 =>
     (pr.cond x5
      (pr.out 0 [.d (pr.lit (.int Go.IntKind.i64 (43)))])
      (pr.bin .geq false a3 (pr.lit (.int Go.IntKind.i64 (24))) fun x6 =>
      (pr.cond x6
       (pr.out 0 [.d (pr.lit (.int Go.IntKind.i64 (43)))])
       (pr.out 0 [.d (pr.lit (.int Go.IntKind.i64 (0)))])))))))))])))])
end
theorem G15_eq {Δ N R W M E Ω : Type} (pr : Pr Δ N R W M E Ω) (a0 a1 : Δ) : fun3 pr tb Try.prog 400 15 [a0, a1] = G15 pr a0 a1 := by kernel_rfl
theorem F15 (n : Nat) (a0 a1 : D) : FN (n + 1) 15 [a0, a1] = G15 (RP n) a0 a1 := G15_eq _ a0 a1
theorem G17_eq {Δ N R W M E Ω : Type} (pr : Pr Δ N R W M E Ω) (a0 a1 a2 : Δ) : fun3 pr tb Try.prog 400 17 [a0, a1, a2] = G17 pr a0 a1 a2 := by kernel_rfl
theorem F17 (n : Nat) (a0 a1 a2 : D) : FN (n + 1) 17 [a0, a1, a2] = G17 (RP n) a0 a1 a2 := G17_eq _ a0 a1 a2
theorem G19_eq {Δ N R W M E Ω : Type} (pr : Pr Δ N R W M E Ω) (a0 a1 a2 : Δ) : fun3 pr tb Try.prog 400 19 [a0, a1, a2] = G19 pr a0 a1 a2 := by kernel_rfl
theorem F19 (n : Nat) (a0 a1 a2 : D) : FN (n + 1) 19 [a0, a1, a2] = G19 (RP n) a0 a1 a2 := G19_eq _ a0 a1 a2
theorem G21_eq {Δ N R W M E Ω : Type} (pr : Pr Δ N R W M E Ω) (a0 a1 a2 : Δ) : fun3 pr tb Try.prog 400 21 [a0, a1, a2] = G21 pr a0 a1 a2 := by kernel_rfl
theorem F21 (n : Nat) (a0 a1 a2 : D) : FN (n + 1) 21 [a0, a1, a2] = G21 (RP n) a0 a1 a2 := G21_eq _ a0 a1 a2
theorem G23_eq {Δ N R W M E Ω : Type} (pr : Pr Δ N R W M E Ω) (a0 a1 a2 a3 : Δ) : fun3 pr tb Try.prog 400 23 [a0, a1, a2, a3] = G23 pr a0 a1 a2 a3 := by kernel_rfl
theorem F23 (n : Nat) (a0 a1 a2 a3 : D) : FN (n + 1) 23 [a0, a1, a2, a3] = G23 (RP n) a0 a1 a2 a3 := G23_eq _ a0 a1 a2 a3
end Go.VE
/- What the functions of this program do, made by a program of ours out of the evaluator itself. -/
namespace Go.VE
open Go.RowKit Go.Proofs
set_option maxRecDepth 100000
set_option maxHeartbeats 4000000
section
variable {Δ N R W M E Ω : Type} (pr : Pr Δ N R W M E Ω)
/-! leazing/leazingref04.Made -/
def L25_0  : (Nat → List (Y Δ N R M) → Ω) → E → Ω := fun J0 y0 =>
 (pr.lenD (pr.ld y0 1) fun x1 =>
 (pr.bin .lss false (pr.ld y0 0) x1 fun x2 =>
  (pr.cond x2
   (pr.bin .lss false (pr.ld y0 0) (pr.lit (.int Go.IntKind.i64 (3))) fun x3 =>
   (pr.cond x3
    (pr.bnd (pr.lenD (pr.ld y0 1) fun x4 =>
    (pr.bin .lss false (pr.ld y0 0) x4 fun x5 =>
     (pr.cond x5
      (pr.rowD 2 (pr.ld y0 1) (pr.ld y0 0) fun w6 =>
      (pr.out 0 [.d (pr.ld y0 0), .d (pr.cell w6 0), .d (pr.cell w6 1), .d (pr.ld y0 1), .d (pr.ld y0 2), .d (pr.ld y0 3)]))
      (pr.out 0 [.d (pr.ld y0 0), .d (pr.lit (.int Go.IntKind.i64 (0))), .d (pr.lit (.int Go.IntKind.i64 (0))), .d (pr.ld y0 1), .d (pr.ld y0 2), .d (pr.ld y0 3)])))) [fun y4 => (pr.bin .add false (pr.lit (.int Go.IntKind.i64 (1))) (pr.ld y4 0) fun x5 =>
     (pr.bnd (pr.call 26 [(pr.ld y4 1), (pr.lit (.int Go.IntKind.i64 (20)))]) [fun y6 => (pr.bin .add false (pr.lit (.int Go.IntKind.i64 (90))) (pr.ld y6 0) fun x7 =>
       (pr.bnd (pr.call 26 [(pr.ld y4 2), (pr.lit (.int Go.IntKind.i64 (12)))]) [fun y8 => (pr.bin .add false x7 (pr.ld y8 0) fun x9 =>
         (pr.eqN (pr.natN 1) (pr.len (pr.rows [[x5, x7, x9]])) (pr.isNil (pr.seg (pr.rows [[x5, x7, x9]]) none (pr.natN 1))
          (pr.bin .add false (pr.ld y4 0) (pr.lit (.int Go.IntKind.i64 (1))) fun x10 =>
          (J0 0 [.d x10, .d (pr.ld y4 3), .d (pr.ld y4 4), .d (pr.ld y4 5)]))
          (pr.fits 24 (pr.len (pr.seg (pr.rows [[x5, x7, x9]]) none (pr.natN 1)))
          (pr.bin .add false (pr.ld y4 0) (pr.lit (.int Go.IntKind.i64 (1))) fun x10 =>
          (J0 1 [.d x10, .r (pr.seg (pr.rows [[x5, x7, x9]]) none (pr.natN 1)), .n (pr.len (pr.seg (pr.rows [[x5, x7, x9]]) none (pr.natN 1))), .n (pr.len (pr.seg (pr.rows [[x5, x7, x9]]) none (pr.natN 1))), .d (pr.ld y4 3), .d (pr.ld y4 4), .d (pr.ld y4 5)]))))))]))]))])
    (pr.bin .eql false (pr.ld y0 0) (pr.lit (.int Go.IntKind.i64 (0))) fun x4 =>
    (pr.cond x4
     (pr.bnd (pr.lenD (pr.ld y0 1) fun x5 =>
     (pr.bin .lss false (pr.ld y0 0) x5 fun x6 =>
      (pr.cond x6
       (pr.rowD 2 (pr.ld y0 1) (pr.ld y0 0) fun w7 =>
       (pr.out 0 [.d (pr.ld y0 0), .d (pr.cell w7 0), .d (pr.cell w7 1), .d (pr.ld y0 1), .d (pr.ld y0 2), .d (pr.ld y0 3)]))
       (pr.out 0 [.d (pr.ld y0 0), .d (pr.lit (.int Go.IntKind.i64 (0))), .d (pr.lit (.int Go.IntKind.i64 (0))), .d (pr.ld y0 1), .d (pr.ld y0 2), .d (pr.ld y0 3)])))) [fun y5 => (pr.bin .add false (pr.lit (.int Go.IntKind.i64 (1))) (pr.ld y5 0) fun x6 =>
      (pr.bnd (pr.call 26 [(pr.ld y5 1), (pr.lit (.int Go.IntKind.i64 (20)))]) [fun y7 => (pr.bin .add false (pr.lit (.int Go.IntKind.i64 (90))) (pr.ld y7 0) fun x8 =>
        (pr.bnd (pr.call 26 [(pr.ld y5 2), (pr.lit (.int Go.IntKind.i64 (12)))]) [fun y9 => (pr.bin .add false x8 (pr.ld y9 0) fun x10 =>
          (pr.eqN (pr.natN 1) (pr.len (pr.rows [[x6, x8, x10]])) (pr.isNil (pr.seg (pr.rows [[x6, x8, x10]]) none (pr.natN 1))
           (pr.bin .add false (pr.ld y5 0) (pr.lit (.int Go.IntKind.i64 (1))) fun x11 =>
           (J0 0 [.d x11, .d (pr.ld y5 3), .d (pr.ld y5 4), .d (pr.ld y5 5)]))
           (pr.fits 24 (pr.len (pr.seg (pr.rows [[x6, x8, x10]]) none (pr.natN 1)))
           (pr.bin .add false (pr.ld y5 0) (pr.lit (.int Go.IntKind.i64 (1))) fun x11 =>
           (J0 1 [.d x11, .r (pr.seg (pr.rows [[x6, x8, x10]]) none (pr.natN 1)), .n (pr.len (pr.seg (pr.rows [[x6, x8, x10]]) none (pr.natN 1))), .n (pr.len (pr.seg (pr.rows [[x6, x8, x10]]) none (pr.natN 1))), .d (pr.ld y5 3), .d (pr.ld y5 4), .d (pr.ld y5 5)]))))))]))]))])
     (pr.out 0 [.d (pr.ld y0 1), .d (pr.ld y0 2), .d (pr.ld y0 3)])))))
   (pr.bin .eql false (pr.ld y0 0) (pr.lit (.int Go.IntKind.i64 (0))) fun x3 =>
   (pr.cond x3
    (pr.bnd (pr.lenD (pr.ld y0 1) fun x4 =>
    (pr.bin .lss false (pr.ld y0 0) x4 fun x5 =>
     (pr.cond x5
      (pr.rowD 2 (pr.ld y0 1) (pr.ld y0 0) fun w6 =>
      (pr.out 0 [.d (pr.ld y0 0), .d (pr.cell w6 0), .d (pr.cell w6 1), .d (pr.ld y0 1), .d (pr.ld y0 2), .d (pr.ld y0 3)]))
      (pr.out 0 [.d (pr.ld y0 0), .d (pr.lit (.int Go.IntKind.i64 (0))), .d (pr.lit (.int Go.IntKind.i64 (0))), .d (pr.ld y0 1), .d (pr.ld y0 2), .d (pr.ld y0 3)])))) [fun y4 => (pr.bin .add false (pr.lit (.int Go.IntKind.i64 (1))) (pr.ld y4 0) fun x5 =>
     (pr.bnd (pr.call 26 [(pr.ld y4 1), (pr.lit (.int Go.IntKind.i64 (20)))]) [fun y6 => (pr.bin .add false (pr.lit (.int Go.IntKind.i64 (90))) (pr.ld y6 0) fun x7 =>
       (pr.bnd (pr.call 26 [(pr.ld y4 2), (pr.lit (.int Go.IntKind.i64 (12)))]) [fun y8 => (pr.bin .add false x7 (pr.ld y8 0) fun x9 =>
         (pr.eqN (pr.natN 1) (pr.len (pr.rows [[x5, x7, x9]])) (pr.isNil (pr.seg (pr.rows [[x5, x7, x9]]) none (pr.natN 1))
          (pr.bin .add false (pr.ld y4 0) (pr.lit (.int Go.IntKind.i64 (1))) fun x10 =>
          (J0 0 [.d x10, .d (pr.ld y4 3), .d (pr.ld y4 4), .d (pr.ld y4 5)]))
          (pr.fits 24 (pr.len (pr.seg (pr.rows [[x5, x7, x9]]) none (pr.natN 1)))
          (pr.bin .add false (pr.ld y4 0) (pr.lit (.int Go.IntKind.i64 (1))) fun x10 =>
          (J0 1 [.d x10, .r (pr.seg (pr.rows [[x5, x7, x9]]) none (pr.natN 1)), .n (pr.len (pr.seg (pr.rows [[x5, x7, x9]]) none (pr.natN 1))), .n (pr.len (pr.seg (pr.rows [[x5, x7, x9]]) none (pr.natN 1))), .d (pr.ld y4 3), .d (pr.ld y4 4), .d (pr.ld y4 5)]))))))]))]))])
    (pr.out 0 [.d (pr.ld y0 1), .d (pr.ld y0 2), .d (pr.ld y0 3)]))))))
def L25_1  : (Nat → List (Y Δ N R M) → Ω) → E → Ω := fun J0 y0 =>
 (pr.lenD (pr.ld y0 4) fun x1 =>
 (pr.bin .lss false (pr.ld y0 0) x1 fun x2 =>
  (pr.cond x2
   (pr.bin .lss false (pr.ld y0 0) (pr.lit (.int Go.IntKind.i64 (3))) fun x3 =>
   (pr.cond x3
    (pr.bnd (pr.lenD (pr.ld y0 4) fun x4 =>
    (pr.bin .lss false (pr.ld y0 0) x4 fun x5 =>
     (pr.cond x5
      (pr.rowD 2 (pr.ld y0 4) (pr.ld y0 0) fun w6 =>
      (pr.out 0 [.d (pr.ld y0 0), .r (pr.lr y0 1), .d (pr.cell w6 0), .d (pr.cell w6 1), .n (pr.ln y0 2), .n (pr.ln y0 3), .d (pr.ld y0 4), .d (pr.ld y0 5), .d (pr.ld y0 6)]))
      (pr.out 0 [.d (pr.ld y0 0), .r (pr.lr y0 1), .d (pr.lit (.int Go.IntKind.i64 (0))), .d (pr.lit (.int Go.IntKind.i64 (0))), .n (pr.ln y0 2), .n (pr.ln y0 3), .d (pr.ld y0 4), .d (pr.ld y0 5), .d (pr.ld y0 6)])))) [fun y4 => (pr.bin .add false (pr.lit (.int Go.IntKind.i64 (1))) (pr.ld y4 0) fun x5 =>
     (pr.bnd (pr.call 26 [(pr.ld y4 2), (pr.lit (.int Go.IntKind.i64 (20)))]) [fun y6 => (pr.bin .add false (pr.lit (.int Go.IntKind.i64 (90))) (pr.ld y6 0) fun x7 =>
       (pr.bnd (pr.call 26 [(pr.ld y4 3), (pr.lit (.int Go.IntKind.i64 (12)))]) [fun y8 => (pr.bin .add false x7 (pr.ld y8 0) fun x9 =>
         (pr.eqN (pr.natN 1) (pr.len (pr.rows [[x5, x7, x9]])) (pr.eqN (pr.ln y4 5) (pr.len (pr.lr y4 1)) (pr.eqN (pr.ln y4 4) (pr.len (pr.lr y4 1)) (pr.fits 24 (pr.addN (pr.ln y4 4) (pr.len (pr.seg (pr.rows [[x5, x7, x9]]) none (pr.natN 1))))
          (pr.bin .add false (pr.ld y4 0) (pr.lit (.int Go.IntKind.i64 (1))) fun x10 =>
          (J0 1 [.d x10, .r (pr.app (pr.lr y4 1) (pr.seg (pr.rows [[x5, x7, x9]]) none (pr.natN 1))), .n (pr.addN (pr.ln y4 4) (pr.len (pr.seg (pr.rows [[x5, x7, x9]]) none (pr.natN 1)))), .n (pr.addN (pr.ln y4 4) (pr.len (pr.seg (pr.rows [[x5, x7, x9]]) none (pr.natN 1)))), .d (pr.ld y4 6), .d (pr.ld y4 7), .d (pr.ld y4 8)])))))))]))]))])
    (pr.bin .eql false (pr.ld y0 0) (pr.lit (.int Go.IntKind.i64 (0))) fun x4 =>
    (pr.cond x4
     (pr.bnd (pr.lenD (pr.ld y0 4) fun x5 =>
     (pr.bin .lss false (pr.ld y0 0) x5 fun x6 =>
      (pr.cond x6
       (pr.rowD 2 (pr.ld y0 4) (pr.ld y0 0) fun w7 =>
       (pr.out 0 [.d (pr.ld y0 0), .r (pr.lr y0 1), .d (pr.cell w7 0), .d (pr.cell w7 1), .n (pr.ln y0 2), .n (pr.ln y0 3), .d (pr.ld y0 4), .d (pr.ld y0 5), .d (pr.ld y0 6)]))
       (pr.out 0 [.d (pr.ld y0 0), .r (pr.lr y0 1), .d (pr.lit (.int Go.IntKind.i64 (0))), .d (pr.lit (.int Go.IntKind.i64 (0))), .n (pr.ln y0 2), .n (pr.ln y0 3), .d (pr.ld y0 4), .d (pr.ld y0 5), .d (pr.ld y0 6)])))) [fun y5 => (pr.bin .add false (pr.lit (.int Go.IntKind.i64 (1))) (pr.ld y5 0) fun x6 =>
      (pr.bnd (pr.call 26 [(pr.ld y5 2), (pr.lit (.int Go.IntKind.i64 (20)))]) [fun y7 => (pr.bin .add false (pr.lit (.int Go.IntKind.i64 (90))) (pr.ld y7 0) fun x8 =>
        (pr.bnd (pr.call 26 [(pr.ld y5 3), (pr.lit (.int Go.IntKind.i64 (12)))]) [fun y9 => (pr.bin .add false x8 (pr.ld y9 0) fun x10 =>
          (pr.eqN (pr.natN 1) (pr.len (pr.rows [[x6, x8, x10]])) (pr.eqN (pr.ln y5 5) (pr.len (pr.lr y5 1)) (pr.eqN (pr.ln y5 4) (pr.len (pr.lr y5 1)) (pr.fits 24 (pr.addN (pr.ln y5 4) (pr.len (pr.seg (pr.rows [[x6, x8, x10]]) none (pr.natN 1))))
           (pr.bin .add false (pr.ld y5 0) (pr.lit (.int Go.IntKind.i64 (1))) fun x11 =>
           (J0 1 [.d x11, .r (pr.app (pr.lr y5 1) (pr.seg (pr.rows [[x6, x8, x10]]) none (pr.natN 1))), .n (pr.addN (pr.ln y5 4) (pr.len (pr.seg (pr.rows [[x6, x8, x10]]) none (pr.natN 1)))), .n (pr.addN (pr.ln y5 4) (pr.len (pr.seg (pr.rows [[x6, x8, x10]]) none (pr.natN 1)))), .d (pr.ld y5 6), .d (pr.ld y5 7), .d (pr.ld y5 8)])))))))]))]))])
     (pr.out 1 [.r (pr.lr y0 1), .n (pr.ln y0 2), .n (pr.ln y0 3), .d (pr.ld y0 4), .d (pr.ld y0 5), .d (pr.ld y0 6)])))))
   (pr.bin .eql false (pr.ld y0 0) (pr.lit (.int Go.IntKind.i64 (0))) fun x3 =>
   (pr.cond x3
    (pr.bnd (pr.lenD (pr.ld y0 4) fun x4 =>
    (pr.bin .lss false (pr.ld y0 0) x4 fun x5 =>
     (pr.cond x5
      (pr.rowD 2 (pr.ld y0 4) (pr.ld y0 0) fun w6 =>
      (pr.out 0 [.d (pr.ld y0 0), .r (pr.lr y0 1), .d (pr.cell w6 0), .d (pr.cell w6 1), .n (pr.ln y0 2), .n (pr.ln y0 3), .d (pr.ld y0 4), .d (pr.ld y0 5), .d (pr.ld y0 6)]))
      (pr.out 0 [.d (pr.ld y0 0), .r (pr.lr y0 1), .d (pr.lit (.int Go.IntKind.i64 (0))), .d (pr.lit (.int Go.IntKind.i64 (0))), .n (pr.ln y0 2), .n (pr.ln y0 3), .d (pr.ld y0 4), .d (pr.ld y0 5), .d (pr.ld y0 6)])))) [fun y4 => (pr.bin .add false (pr.lit (.int Go.IntKind.i64 (1))) (pr.ld y4 0) fun x5 =>
     (pr.bnd (pr.call 26 [(pr.ld y4 2), (pr.lit (.int Go.IntKind.i64 (20)))]) [fun y6 => (pr.bin .add false (pr.lit (.int Go.IntKind.i64 (90))) (pr.ld y6 0) fun x7 =>
       (pr.bnd (pr.call 26 [(pr.ld y4 3), (pr.lit (.int Go.IntKind.i64 (12)))]) [fun y8 => (pr.bin .add false x7 (pr.ld y8 0) fun x9 =>
         (pr.eqN (pr.natN 1) (pr.len (pr.rows [[x5, x7, x9]])) (pr.eqN (pr.ln y4 5) (pr.len (pr.lr y4 1)) (pr.eqN (pr.ln y4 4) (pr.len (pr.lr y4 1)) (pr.fits 24 (pr.addN (pr.ln y4 4) (pr.len (pr.seg (pr.rows [[x5, x7, x9]]) none (pr.natN 1))))
          (pr.bin .add false (pr.ld y4 0) (pr.lit (.int Go.IntKind.i64 (1))) fun x10 =>
          (J0 1 [.d x10, .r (pr.app (pr.lr y4 1) (pr.seg (pr.rows [[x5, x7, x9]]) none (pr.natN 1))), .n (pr.addN (pr.ln y4 4) (pr.len (pr.seg (pr.rows [[x5, x7, x9]]) none (pr.natN 1)))), .n (pr.addN (pr.ln y4 4) (pr.len (pr.seg (pr.rows [[x5, x7, x9]]) none (pr.natN 1)))), .d (pr.ld y4 6), .d (pr.ld y4 7), .d (pr.ld y4 8)])))))))]))]))])
    (pr.out 1 [.r (pr.lr y0 1), .n (pr.ln y0 2), .n (pr.ln y0 3), .d (pr.ld y0 4), .d (pr.ld y0 5), .d (pr.ld y0 6)]))))))
def L25_2  : (Nat → List (Y Δ N R M) → Ω) → E → Ω := fun J1 y1 =>
 (pr.lenD (pr.ld y1 2) fun x2 =>
  (pr.bin .lss false (pr.ld y1 0) x2 fun x3 =>
   (pr.cond x3
    (pr.bin .lss false (pr.ld y1 0) (pr.lit (.int Go.IntKind.i64 (10))) fun x4 =>
    (pr.cond x4
     (pr.bnd (pr.lenD (pr.ld y1 2) fun x5 =>
     (pr.bin .lss false (pr.ld y1 0) x5 fun x6 =>
      (pr.cond x6
       (pr.rowD 3 (pr.ld y1 2) (pr.ld y1 0) fun w7 =>
       (pr.out 0 [.d (pr.ld y1 0), .d (pr.cell w7 0), .d (pr.cell w7 1), .d (pr.cell w7 2), .d (pr.ld y1 1), .d (pr.ld y1 2), .d (pr.ld y1 3)]))
       (pr.out 0 [.d (pr.ld y1 0), .d (pr.lit (.int Go.IntKind.i64 (0))), .d (pr.lit (.int Go.IntKind.i64 (0))), .d (pr.lit (.int Go.IntKind.i64 (0))), .d (pr.ld y1 1), .d (pr.ld y1 2), .d (pr.ld y1 3)])))) [fun y5 => (pr.bnd (pr.call 26 [(pr.ld y5 1), (pr.lit (.int Go.IntKind.i64 (0)))]) [fun y6 => (pr.bin .add false (pr.lit (.int Go.IntKind.i64 (1))) (pr.ld y6 0) fun x7 =>
       (pr.bnd (pr.call 26 [(pr.ld y5 2), (pr.lit (.int Go.IntKind.i64 (9)))]) [fun y8 => (pr.bin .add false (pr.lit (.int Go.IntKind.i64 (1))) (pr.ld y8 0) fun x9 =>
         (pr.bnd (pr.call 26 [(pr.ld y5 3), (pr.lit (.int Go.IntKind.i64 (12)))]) [fun y10 => (pr.eqN (pr.natN 1) (pr.len (pr.rows [[x7, x9, (pr.ld y10 0)]])) (pr.isNil (pr.seg (pr.rows [[x7, x9, (pr.ld y10 0)]]) none (pr.natN 1))
           (pr.bin .add false (pr.ld y5 0) (pr.lit (.int Go.IntKind.i64 (1))) fun x11 =>
           (J1 0 [.d x11, .d (pr.ld y5 4), .d (pr.ld y5 5), .d (pr.ld y5 6)]))
           (pr.fits 24 (pr.len (pr.seg (pr.rows [[x7, x9, (pr.ld y10 0)]]) none (pr.natN 1)))
           (pr.bin .add false (pr.ld y5 0) (pr.lit (.int Go.IntKind.i64 (1))) fun x11 =>
           (J1 1 [.d x11, .r (pr.seg (pr.rows [[x7, x9, (pr.ld y10 0)]]) none (pr.natN 1)), .n (pr.len (pr.seg (pr.rows [[x7, x9, (pr.ld y10 0)]]) none (pr.natN 1))), .n (pr.len (pr.seg (pr.rows [[x7, x9, (pr.ld y10 0)]]) none (pr.natN 1))), .d (pr.ld y5 4), .d (pr.ld y5 5), .d (pr.ld y5 6)])))))]))]))])])
     (pr.bin .eql false (pr.ld y1 0) (pr.lit (.int Go.IntKind.i64 (0))) fun x5 =>
     (pr.cond x5
      (pr.bnd (pr.lenD (pr.ld y1 2) fun x6 =>
      (pr.bin .lss false (pr.ld y1 0) x6 fun x7 =>
       (pr.cond x7
        (pr.rowD 3 (pr.ld y1 2) (pr.ld y1 0) fun w8 =>
        (pr.out 0 [.d (pr.ld y1 0), .d (pr.cell w8 0), .d (pr.cell w8 1), .d (pr.cell w8 2), .d (pr.ld y1 1), .d (pr.ld y1 2), .d (pr.ld y1 3)]))
        (pr.out 0 [.d (pr.ld y1 0), .d (pr.lit (.int Go.IntKind.i64 (0))), .d (pr.lit (.int Go.IntKind.i64 (0))), .d (pr.lit (.int Go.IntKind.i64 (0))), .d (pr.ld y1 1), .d (pr.ld y1 2), .d (pr.ld y1 3)])))) [fun y6 => (pr.bnd (pr.call 26 [(pr.ld y6 1), (pr.lit (.int Go.IntKind.i64 (0)))]) [fun y7 => (pr.bin .add false (pr.lit (.int Go.IntKind.i64 (1))) (pr.ld y7 0) fun x8 =>
        (pr.bnd (pr.call 26 [(pr.ld y6 2), (pr.lit (.int Go.IntKind.i64 (9)))]) [fun y9 => (pr.bin .add false (pr.lit (.int Go.IntKind.i64 (1))) (pr.ld y9 0) fun x10 =>
          (pr.bnd (pr.call 26 [(pr.ld y6 3), (pr.lit (.int Go.IntKind.i64 (12)))]) [fun y11 => (pr.eqN (pr.natN 1) (pr.len (pr.rows [[x8, x10, (pr.ld y11 0)]])) (pr.isNil (pr.seg (pr.rows [[x8, x10, (pr.ld y11 0)]]) none (pr.natN 1))
            (pr.bin .add false (pr.ld y6 0) (pr.lit (.int Go.IntKind.i64 (1))) fun x12 =>
            (J1 0 [.d x12, .d (pr.ld y6 4), .d (pr.ld y6 5), .d (pr.ld y6 6)]))
            (pr.fits 24 (pr.len (pr.seg (pr.rows [[x8, x10, (pr.ld y11 0)]]) none (pr.natN 1)))
            (pr.bin .add false (pr.ld y6 0) (pr.lit (.int Go.IntKind.i64 (1))) fun x12 =>
            (J1 1 [.d x12, .r (pr.seg (pr.rows [[x8, x10, (pr.ld y11 0)]]) none (pr.natN 1)), .n (pr.len (pr.seg (pr.rows [[x8, x10, (pr.ld y11 0)]]) none (pr.natN 1))), .n (pr.len (pr.seg (pr.rows [[x8, x10, (pr.ld y11 0)]]) none (pr.natN 1))), .d (pr.ld y6 4), .d (pr.ld y6 5), .d (pr.ld y6 6)])))))]))]))])])
      (pr.out 0 [.d (pr.ld y1 1), .d (pr.ld y1 2), .d (pr.ld y1 3)])))))
    (pr.bin .eql false (pr.ld y1 0) (pr.lit (.int Go.IntKind.i64 (0))) fun x4 =>
    (pr.cond x4
     (pr.bnd (pr.lenD (pr.ld y1 2) fun x5 =>
     (pr.bin .lss false (pr.ld y1 0) x5 fun x6 =>
      (pr.cond x6
       (pr.rowD 3 (pr.ld y1 2) (pr.ld y1 0) fun w7 =>
       (pr.out 0 [.d (pr.ld y1 0), .d (pr.cell w7 0), .d (pr.cell w7 1), .d (pr.cell w7 2), .d (pr.ld y1 1), .d (pr.ld y1 2), .d (pr.ld y1 3)]))
       (pr.out 0 [.d (pr.ld y1 0), .d (pr.lit (.int Go.IntKind.i64 (0))), .d (pr.lit (.int Go.IntKind.i64 (0))), .d (pr.lit (.int Go.IntKind.i64 (0))), .d (pr.ld y1 1), .d (pr.ld y1 2), .d (pr.ld y1 3)])))) [fun y5 => (pr.bnd (pr.call 26 [(pr.ld y5 1), (pr.lit (.int Go.IntKind.i64 (0)))]) [fun y6 => (pr.bin .add false (pr.lit (.int Go.IntKind.i64 (1))) (pr.ld y6 0) fun x7 =>
       (pr.bnd (pr.call 26 [(pr.ld y5 2), (pr.lit (.int Go.IntKind.i64 (9)))]) [fun y8 => (pr.bin .add false (pr.lit (.int Go.IntKind.i64 (1))) (pr.ld y8 0) fun x9 =>
         (pr.bnd (pr.call 26 [(pr.ld y5 3), (pr.lit (.int Go.IntKind.i64 (12)))]) [fun y10 => (pr.eqN (pr.natN 1) (pr.len (pr.rows [[x7, x9, (pr.ld y10 0)]])) (pr.isNil (pr.seg (pr.rows [[x7, x9, (pr.ld y10 0)]]) none (pr.natN 1))
           (pr.bin .add false (pr.ld y5 0) (pr.lit (.int Go.IntKind.i64 (1))) fun x11 =>
           (J1 0 [.d x11, .d (pr.ld y5 4), .d (pr.ld y5 5), .d (pr.ld y5 6)]))
           (pr.fits 24 (pr.len (pr.seg (pr.rows [[x7, x9, (pr.ld y10 0)]]) none (pr.natN 1)))
           (pr.bin .add false (pr.ld y5 0) (pr.lit (.int Go.IntKind.i64 (1))) fun x11 =>
           (J1 1 [.d x11, .r (pr.seg (pr.rows [[x7, x9, (pr.ld y10 0)]]) none (pr.natN 1)), .n (pr.len (pr.seg (pr.rows [[x7, x9, (pr.ld y10 0)]]) none (pr.natN 1))), .n (pr.len (pr.seg (pr.rows [[x7, x9, (pr.ld y10 0)]]) none (pr.natN 1))), .d (pr.ld y5 4), .d (pr.ld y5 5), .d (pr.ld y5 6)])))))]))]))])])
     (pr.out 0 [.d (pr.ld y1 1), .d (pr.ld y1 2), .d (pr.ld y1 3)]))))))
def L25_3  : (Nat → List (Y Δ N R M) → Ω) → E → Ω := fun J1 y1 =>
 (pr.lenD (pr.ld y1 5) fun x2 =>
  (pr.bin .lss false (pr.ld y1 0) x2 fun x3 =>
   (pr.cond x3
    (pr.bin .lss false (pr.ld y1 0) (pr.lit (.int Go.IntKind.i64 (10))) fun x4 =>
    (pr.cond x4
     (pr.bnd (pr.lenD (pr.ld y1 5) fun x5 =>
     (pr.bin .lss false (pr.ld y1 0) x5 fun x6 =>
      (pr.cond x6
       (pr.rowD 3 (pr.ld y1 5) (pr.ld y1 0) fun w7 =>
       (pr.out 0 [.d (pr.ld y1 0), .r (pr.lr y1 1), .d (pr.cell w7 0), .d (pr.cell w7 1), .d (pr.cell w7 2), .n (pr.ln y1 2), .n (pr.ln y1 3), .d (pr.ld y1 4), .d (pr.ld y1 5), .d (pr.ld y1 6)]))
       (pr.out 0 [.d (pr.ld y1 0), .r (pr.lr y1 1), .d (pr.lit (.int Go.IntKind.i64 (0))), .d (pr.lit (.int Go.IntKind.i64 (0))), .d (pr.lit (.int Go.IntKind.i64 (0))), .n (pr.ln y1 2), .n (pr.ln y1 3), .d (pr.ld y1 4), .d (pr.ld y1 5), .d (pr.ld y1 6)])))) [fun y5 => (pr.bnd (pr.call 26 [(pr.ld y5 2), (pr.lit (.int Go.IntKind.i64 (0)))]) [fun y6 => (pr.bin .add false (pr.lit (.int Go.IntKind.i64 (1))) (pr.ld y6 0) fun x7 =>
       (pr.bnd (pr.call 26 [(pr.ld y5 3), (pr.lit (.int Go.IntKind.i64 (9)))]) [fun y8 => (pr.bin .add false (pr.lit (.int Go.IntKind.i64 (1))) (pr.ld y8 0) fun x9 =>
         (pr.bnd (pr.call 26 [(pr.ld y5 4), (pr.lit (.int Go.IntKind.i64 (12)))]) [fun y10 => (pr.eqN (pr.natN 1) (pr.len (pr.rows [[x7, x9, (pr.ld y10 0)]])) (pr.eqN (pr.ln y5 6) (pr.len (pr.lr y5 1)) (pr.eqN (pr.ln y5 5) (pr.len (pr.lr y5 1)) (pr.fits 24 (pr.addN (pr.ln y5 5) (pr.len (pr.seg (pr.rows [[x7, x9, (pr.ld y10 0)]]) none (pr.natN 1))))
           (pr.bin .add false (pr.ld y5 0) (pr.lit (.int Go.IntKind.i64 (1))) fun x11 =>
           (J1 1 [.d x11, .r (pr.app (pr.lr y5 1) (pr.seg (pr.rows [[x7, x9, (pr.ld y10 0)]]) none (pr.natN 1))), .n (pr.addN (pr.ln y5 5) (pr.len (pr.seg (pr.rows [[x7, x9, (pr.ld y10 0)]]) none (pr.natN 1)))), .n (pr.addN (pr.ln y5 5) (pr.len (pr.seg (pr.rows [[x7, x9, (pr.ld y10 0)]]) none (pr.natN 1)))), .d (pr.ld y5 7), .d (pr.ld y5 8), .d (pr.ld y5 9)]))))))]))]))])])
     (pr.bin .eql false (pr.ld y1 0) (pr.lit (.int Go.IntKind.i64 (0))) fun x5 =>
     (pr.cond x5
      (pr.bnd (pr.lenD (pr.ld y1 5) fun x6 =>
      (pr.bin .lss false (pr.ld y1 0) x6 fun x7 =>
       (pr.cond x7
        (pr.rowD 3 (pr.ld y1 5) (pr.ld y1 0) fun w8 =>
        (pr.out 0 [.d (pr.ld y1 0), .r (pr.lr y1 1), .d (pr.cell w8 0), .d (pr.cell w8 1), .d (pr.cell w8 2), .n (pr.ln y1 2), .n (pr.ln y1 3), .d (pr.ld y1 4), .d (pr.ld y1 5), .d (pr.ld y1 6)]))
        (pr.out 0 [.d (pr.ld y1 0), .r (pr.lr y1 1), .d (pr.lit (.int Go.IntKind.i64 (0))), .d (pr.lit (.int Go.IntKind.i64 (0))), .d (pr.lit (.int Go.IntKind.i64 (0))), .n (pr.ln y1 2), .n (pr.ln y1 3), .d (pr.ld y1 4), .d (pr.ld y1 5), .d (pr.ld y1 6)])))) [fun y6 => (pr.bnd (pr.call 26 [(pr.ld y6 2), (pr.lit (.int Go.IntKind.i64 (0)))]) [fun y7 => (pr.bin .add false (pr.lit (.int Go.IntKind.i64 (1))) (pr.ld y7 0) fun x8 =>
        (pr.bnd (pr.call 26 [(pr.ld y6 3), (pr.lit (.int Go.IntKind.i64 (9)))]) [fun y9 => (pr.bin .add false (pr.lit (.int Go.IntKind.i64 (1))) (pr.ld y9 0) fun x10 =>
          (pr.bnd (pr.call 26 [(pr.ld y6 4), (pr.lit (.int Go.IntKind.i64 (12)))]) [fun y11 => (pr.eqN (pr.natN 1) (pr.len (pr.rows [[x8, x10, (pr.ld y11 0)]])) (pr.eqN (pr.ln y6 6) (pr.len (pr.lr y6 1)) (pr.eqN (pr.ln y6 5) (pr.len (pr.lr y6 1)) (pr.fits 24 (pr.addN (pr.ln y6 5) (pr.len (pr.seg (pr.rows [[x8, x10, (pr.ld y11 0)]]) none (pr.natN 1))))
            (pr.bin .add false (pr.ld y6 0) (pr.lit (.int Go.IntKind.i64 (1))) fun x12 =>
            (J1 1 [.d x12, .r (pr.app (pr.lr y6 1) (pr.seg (pr.rows [[x8, x10, (pr.ld y11 0)]]) none (pr.natN 1))), .n (pr.addN (pr.ln y6 5) (pr.len (pr.seg (pr.rows [[x8, x10, (pr.ld y11 0)]]) none (pr.natN 1)))), .n (pr.addN (pr.ln y6 5) (pr.len (pr.seg (pr.rows [[x8, x10, (pr.ld y11 0)]]) none (pr.natN 1)))), .d (pr.ld y6 7), .d (pr.ld y6 8), .d (pr.ld y6 9)]))))))]))]))])])
      (pr.out 1 [.r (pr.lr y1 1), .n (pr.ln y1 2), .n (pr.ln y1 3), .d (pr.ld y1 4), .d (pr.ld y1 5), .d (pr.ld y1 6)])))))
    (pr.bin .eql false (pr.ld y1 0) (pr.lit (.int Go.IntKind.i64 (0))) fun x4 =>
    (pr.cond x4
     (pr.bnd (pr.lenD (pr.ld y1 5) fun x5 =>
     (pr.bin .lss false (pr.ld y1 0) x5 fun x6 =>
      (pr.cond x6
       (pr.rowD 3 (pr.ld y1 5) (pr.ld y1 0) fun w7 =>
       (pr.out 0 [.d (pr.ld y1 0), .r (pr.lr y1 1), .d (pr.cell w7 0), .d (pr.cell w7 1), .d (pr.cell w7 2), .n (pr.ln y1 2), .n (pr.ln y1 3), .d (pr.ld y1 4), .d (pr.ld y1 5), .d (pr.ld y1 6)]))
       (pr.out 0 [.d (pr.ld y1 0), .r (pr.lr y1 1), .d (pr.lit (.int Go.IntKind.i64 (0))), .d (pr.lit (.int Go.IntKind.i64 (0))), .d (pr.lit (.int Go.IntKind.i64 (0))), .n (pr.ln y1 2), .n (pr.ln y1 3), .d (pr.ld y1 4), .d (pr.ld y1 5), .d (pr.ld y1 6)])))) [fun y5 => (pr.bnd (pr.call 26 [(pr.ld y5 2), (pr.lit (.int Go.IntKind.i64 (0)))]) [fun y6 => (pr.bin .add false (pr.lit (.int Go.IntKind.i64 (1))) (pr.ld y6 0) fun x7 =>
       (pr.bnd (pr.call 26 [(pr.ld y5 3), (pr.lit (.int Go.IntKind.i64 (9)))]) [fun y8 => (pr.bin .add false (pr.lit (.int Go.IntKind.i64 (1))) (pr.ld y8 0) fun x9 =>
         (pr.bnd (pr.call 26 [(pr.ld y5 4), (pr.lit (.int Go.IntKind.i64 (12)))]) [fun y10 => (pr.eqN (pr.natN 1) (pr.len (pr.rows [[x7, x9, (pr.ld y10 0)]])) (pr.eqN (pr.ln y5 6) (pr.len (pr.lr y5 1)) (pr.eqN (pr.ln y5 5) (pr.len (pr.lr y5 1)) (pr.fits 24 (pr.addN (pr.ln y5 5) (pr.len (pr.seg (pr.rows [[x7, x9, (pr.ld y10 0)]]) none (pr.natN 1))))
           (pr.bin .add false (pr.ld y5 0) (pr.lit (.int Go.IntKind.i64 (1))) fun x11 =>
           (J1 1 [.d x11, .r (pr.app (pr.lr y5 1) (pr.seg (pr.rows [[x7, x9, (pr.ld y10 0)]]) none (pr.natN 1))), .n (pr.addN (pr.ln y5 5) (pr.len (pr.seg (pr.rows [[x7, x9, (pr.ld y10 0)]]) none (pr.natN 1)))), .n (pr.addN (pr.ln y5 5) (pr.len (pr.seg (pr.rows [[x7, x9, (pr.ld y10 0)]]) none (pr.natN 1)))), .d (pr.ld y5 7), .d (pr.ld y5 8), .d (pr.ld y5 9)]))))))]))]))])])
     (pr.out 1 [.r (pr.lr y1 1), .n (pr.ln y1 2), .n (pr.ln y1 3), .d (pr.ld y1 4), .d (pr.ld y1 5), .d (pr.ld y1 6)]))))))
def L25_4  : (Nat → List (Y Δ N R M) → Ω) → E → Ω := fun J2 y2 =>
 (pr.lenD (pr.ld y2 3) fun x3 =>
   (pr.bin .lss false (pr.ld y2 0) x3 fun x4 =>
    (pr.cond x4
     (pr.bin .lss false (pr.ld y2 0) (pr.lit (.int Go.IntKind.i64 (6))) fun x5 =>
     (pr.cond x5
      (pr.bnd (pr.lenD (pr.ld y2 3) fun x6 =>
      (pr.bin .lss false (pr.ld y2 0) x6 fun x7 =>
       (pr.cond x7
        (pr.rowD 3 (pr.ld y2 3) (pr.ld y2 0) fun w8 =>
        (pr.out 0 [.d (pr.ld y2 0), .d (pr.cell w8 0), .d (pr.cell w8 1), .d (pr.cell w8 2), .d (pr.ld y2 1), .d (pr.ld y2 2), .d (pr.ld y2 3)]))
        (pr.out 0 [.d (pr.ld y2 0), .d (pr.lit (.int Go.IntKind.i64 (0))), .d (pr.lit (.int Go.IntKind.i64 (0))), .d (pr.lit (.int Go.IntKind.i64 (0))), .d (pr.ld y2 1), .d (pr.ld y2 2), .d (pr.ld y2 3)])))) [fun y6 => (pr.bin .mul false (pr.lit (.int Go.IntKind.i64 (2))) (pr.ld y6 0) fun x7 =>
       (pr.bin .add false (pr.lit (.int Go.IntKind.i64 (3))) x7 fun x8 =>
        (pr.bnd (pr.call 26 [(pr.ld y6 1), (pr.lit (.int Go.IntKind.i64 (4)))]) [fun y9 => (pr.bin .add false (pr.lit (.int Go.IntKind.i64 (1))) (pr.ld y9 0) fun x10 =>
          (pr.bnd (pr.call 26 [(pr.ld y6 2), (pr.lit (.int Go.IntKind.i64 (0)))]) [fun y11 => (pr.bin .sub false (pr.lit (.int Go.IntKind.i64 (0))) (pr.ld y11 0) fun x12 =>
            (pr.bnd (pr.call 26 [(pr.ld y6 3), x12]) [fun y13 => (pr.bin .add false (pr.ld y11 0) (pr.ld y13 0) fun x14 =>
              (pr.eqN (pr.natN 1) (pr.len (pr.rows [[x8, x10, (pr.ld y11 0), x14]])) (pr.isNil (pr.seg (pr.rows [[x8, x10, (pr.ld y11 0), x14]]) none (pr.natN 1))
               (pr.bin .add false (pr.ld y6 0) (pr.lit (.int Go.IntKind.i64 (1))) fun x15 =>
               (J2 0 [.d x15, .d (pr.ld y6 4), .d (pr.ld y6 5), .d (pr.ld y6 6)]))
               (pr.fits 32 (pr.len (pr.seg (pr.rows [[x8, x10, (pr.ld y11 0), x14]]) none (pr.natN 1)))
               (pr.bin .add false (pr.ld y6 0) (pr.lit (.int Go.IntKind.i64 (1))) fun x15 =>
               (J2 1 [.n (pr.len (pr.seg (pr.rows [[x8, x10, (pr.ld y11 0), x14]]) none (pr.natN 1))), .n (pr.len (pr.seg (pr.rows [[x8, x10, (pr.ld y11 0), x14]]) none (pr.natN 1))), .d x15, .r (pr.seg (pr.rows [[x8, x10, (pr.ld y11 0), x14]]) none (pr.natN 1)), .d (pr.ld y6 4), .d (pr.ld y6 5), .d (pr.ld y6 6)]))))))]))]))])))])
      (pr.bin .eql false (pr.ld y2 0) (pr.lit (.int Go.IntKind.i64 (0))) fun x6 =>
      (pr.cond x6
       (pr.bnd (pr.lenD (pr.ld y2 3) fun x7 =>
       (pr.bin .lss false (pr.ld y2 0) x7 fun x8 =>
        (pr.cond x8
         (pr.rowD 3 (pr.ld y2 3) (pr.ld y2 0) fun w9 =>
         (pr.out 0 [.d (pr.ld y2 0), .d (pr.cell w9 0), .d (pr.cell w9 1), .d (pr.cell w9 2), .d (pr.ld y2 1), .d (pr.ld y2 2), .d (pr.ld y2 3)]))
         (pr.out 0 [.d (pr.ld y2 0), .d (pr.lit (.int Go.IntKind.i64 (0))), .d (pr.lit (.int Go.IntKind.i64 (0))), .d (pr.lit (.int Go.IntKind.i64 (0))), .d (pr.ld y2 1), .d (pr.ld y2 2), .d (pr.ld y2 3)])))) [fun y7 => (pr.bin .mul false (pr.lit (.int Go.IntKind.i64 (2))) (pr.ld y7 0) fun x8 =>
        (pr.bin .add false (pr.lit (.int Go.IntKind.i64 (3))) x8 fun x9 =>
         (pr.bnd (pr.call 26 [(pr.ld y7 1), (pr.lit (.int Go.IntKind.i64 (4)))]) [fun y10 => (pr.bin .add false (pr.lit (.int Go.IntKind.i64 (1))) (pr.ld y10 0) fun x11 =>
           (pr.bnd (pr.call 26 [(pr.ld y7 2), (pr.lit (.int Go.IntKind.i64 (0)))]) [fun y12 => (pr.bin .sub false (pr.lit (.int Go.IntKind.i64 (0))) (pr.ld y12 0) fun x13 =>
             (pr.bnd (pr.call 26 [(pr.ld y7 3), x13]) [fun y14 => (pr.bin .add false (pr.ld y12 0) (pr.ld y14 0) fun x15 =>
               (pr.eqN (pr.natN 1) (pr.len (pr.rows [[x9, x11, (pr.ld y12 0), x15]])) (pr.isNil (pr.seg (pr.rows [[x9, x11, (pr.ld y12 0), x15]]) none (pr.natN 1))
                (pr.bin .add false (pr.ld y7 0) (pr.lit (.int Go.IntKind.i64 (1))) fun x16 =>
                (J2 0 [.d x16, .d (pr.ld y7 4), .d (pr.ld y7 5), .d (pr.ld y7 6)]))
                (pr.fits 32 (pr.len (pr.seg (pr.rows [[x9, x11, (pr.ld y12 0), x15]]) none (pr.natN 1)))
                (pr.bin .add false (pr.ld y7 0) (pr.lit (.int Go.IntKind.i64 (1))) fun x16 =>
                (J2 1 [.n (pr.len (pr.seg (pr.rows [[x9, x11, (pr.ld y12 0), x15]]) none (pr.natN 1))), .n (pr.len (pr.seg (pr.rows [[x9, x11, (pr.ld y12 0), x15]]) none (pr.natN 1))), .d x16, .r (pr.seg (pr.rows [[x9, x11, (pr.ld y12 0), x15]]) none (pr.natN 1)), .d (pr.ld y7 4), .d (pr.ld y7 5), .d (pr.ld y7 6)]))))))]))]))])))])
       (pr.out 0 [])))))
     (pr.bin .eql false (pr.ld y2 0) (pr.lit (.int Go.IntKind.i64 (0))) fun x5 =>
     (pr.cond x5
      (pr.bnd (pr.lenD (pr.ld y2 3) fun x6 =>
      (pr.bin .lss false (pr.ld y2 0) x6 fun x7 =>
       (pr.cond x7
        (pr.rowD 3 (pr.ld y2 3) (pr.ld y2 0) fun w8 =>
        (pr.out 0 [.d (pr.ld y2 0), .d (pr.cell w8 0), .d (pr.cell w8 1), .d (pr.cell w8 2), .d (pr.ld y2 1), .d (pr.ld y2 2), .d (pr.ld y2 3)]))
        (pr.out 0 [.d (pr.ld y2 0), .d (pr.lit (.int Go.IntKind.i64 (0))), .d (pr.lit (.int Go.IntKind.i64 (0))), .d (pr.lit (.int Go.IntKind.i64 (0))), .d (pr.ld y2 1), .d (pr.ld y2 2), .d (pr.ld y2 3)])))) [fun y6 => (pr.bin .mul false (pr.lit (.int Go.IntKind.i64 (2))) (pr.ld y6 0) fun x7 =>
       (pr.bin .add false (pr.lit (.int Go.IntKind.i64 (3))) x7 fun x8 =>
        (pr.bnd (pr.call 26 [(pr.ld y6 1), (pr.lit (.int Go.IntKind.i64 (4)))]) [fun y9 => (pr.bin .add false (pr.lit (.int Go.IntKind.i64 (1))) (pr.ld y9 0) fun x10 =>
          (pr.bnd (pr.call 26 [(pr.ld y6 2), (pr.lit (.int Go.IntKind.i64 (0)))]) [fun y11 => (pr.bin .sub false (pr.lit (.int Go.IntKind.i64 (0))) (pr.ld y11 0) fun x12 =>
            (pr.bnd (pr.call 26 [(pr.ld y6 3), x12]) [fun y13 => (pr.bin .add false (pr.ld y11 0) (pr.ld y13 0) fun x14 =>
              (pr.eqN (pr.natN 1) (pr.len (pr.rows [[x8, x10, (pr.ld y11 0), x14]])) (pr.isNil (pr.seg (pr.rows [[x8, x10, (pr.ld y11 0), x14]]) none (pr.natN 1))
               (pr.bin .add false (pr.ld y6 0) (pr.lit (.int Go.IntKind.i64 (1))) fun x15 =>
               (J2 0 [.d x15, .d (pr.ld y6 4), .d (pr.ld y6 5), .d (pr.ld y6 6)]))
               (pr.fits 32 (pr.len (pr.seg (pr.rows [[x8, x10, (pr.ld y11 0), x14]]) none (pr.natN 1)))
               (pr.bin .add false (pr.ld y6 0) (pr.lit (.int Go.IntKind.i64 (1))) fun x15 =>
               (J2 1 [.n (pr.len (pr.seg (pr.rows [[x8, x10, (pr.ld y11 0), x14]]) none (pr.natN 1))), .n (pr.len (pr.seg (pr.rows [[x8, x10, (pr.ld y11 0), x14]]) none (pr.natN 1))), .d x15, .r (pr.seg (pr.rows [[x8, x10, (pr.ld y11 0), x14]]) none (pr.natN 1)), .d (pr.ld y6 4), .d (pr.ld y6 5), .d (pr.ld y6 6)]))))))]))]))])))])
      (pr.out 0 []))))))
def L25_5  : (Nat → List (Y Δ N R M) → Ω) → E → Ω := fun J2 y2 =>
 (pr.lenD (pr.ld y2 6) fun x3 =>
   (pr.bin .lss false (pr.ld y2 2) x3 fun x4 =>
    (pr.cond x4
     (pr.bin .lss false (pr.ld y2 2) (pr.lit (.int Go.IntKind.i64 (6))) fun x5 =>
     (pr.cond x5
      (pr.bnd (pr.lenD (pr.ld y2 6) fun x6 =>
      (pr.bin .lss false (pr.ld y2 2) x6 fun x7 =>
       (pr.cond x7
        (pr.rowD 3 (pr.ld y2 6) (pr.ld y2 2) fun w8 =>
        (pr.out 0 [.n (pr.ln y2 0), .n (pr.ln y2 1), .d (pr.ld y2 2), .d (pr.cell w8 0), .d (pr.cell w8 1), .d (pr.cell w8 2), .r (pr.lr y2 3), .d (pr.ld y2 4), .d (pr.ld y2 5), .d (pr.ld y2 6)]))
        (pr.out 0 [.n (pr.ln y2 0), .n (pr.ln y2 1), .d (pr.ld y2 2), .d (pr.lit (.int Go.IntKind.i64 (0))), .d (pr.lit (.int Go.IntKind.i64 (0))), .d (pr.lit (.int Go.IntKind.i64 (0))), .r (pr.lr y2 3), .d (pr.ld y2 4), .d (pr.ld y2 5), .d (pr.ld y2 6)])))) [fun y6 => (pr.bin .mul false (pr.lit (.int Go.IntKind.i64 (2))) (pr.ld y6 2) fun x7 =>
       (pr.bin .add false (pr.lit (.int Go.IntKind.i64 (3))) x7 fun x8 =>
        (pr.bnd (pr.call 26 [(pr.ld y6 3), (pr.lit (.int Go.IntKind.i64 (4)))]) [fun y9 => (pr.bin .add false (pr.lit (.int Go.IntKind.i64 (1))) (pr.ld y9 0) fun x10 =>
          (pr.bnd (pr.call 26 [(pr.ld y6 4), (pr.lit (.int Go.IntKind.i64 (0)))]) [fun y11 => (pr.bin .sub false (pr.lit (.int Go.IntKind.i64 (0))) (pr.ld y11 0) fun x12 =>
            (pr.bnd (pr.call 26 [(pr.ld y6 5), x12]) [fun y13 => (pr.bin .add false (pr.ld y11 0) (pr.ld y13 0) fun x14 =>
              (pr.eqN (pr.natN 1) (pr.len (pr.rows [[x8, x10, (pr.ld y11 0), x14]])) (pr.eqN (pr.ln y6 1) (pr.len (pr.lr y6 6)) (pr.eqN (pr.ln y6 0) (pr.len (pr.lr y6 6)) (pr.fits 32 (pr.addN (pr.ln y6 0) (pr.len (pr.seg (pr.rows [[x8, x10, (pr.ld y11 0), x14]]) none (pr.natN 1))))
               (pr.bin .add false (pr.ld y6 2) (pr.lit (.int Go.IntKind.i64 (1))) fun x15 =>
               (J2 1 [.n (pr.addN (pr.ln y6 0) (pr.len (pr.seg (pr.rows [[x8, x10, (pr.ld y11 0), x14]]) none (pr.natN 1)))), .n (pr.addN (pr.ln y6 0) (pr.len (pr.seg (pr.rows [[x8, x10, (pr.ld y11 0), x14]]) none (pr.natN 1)))), .d x15, .r (pr.app (pr.lr y6 6) (pr.seg (pr.rows [[x8, x10, (pr.ld y11 0), x14]]) none (pr.natN 1))), .d (pr.ld y6 7), .d (pr.ld y6 8), .d (pr.ld y6 9)])))))))]))]))])))])
      (pr.bin .eql false (pr.ld y2 2) (pr.lit (.int Go.IntKind.i64 (0))) fun x6 =>
      (pr.cond x6
       (pr.bnd (pr.lenD (pr.ld y2 6) fun x7 =>
       (pr.bin .lss false (pr.ld y2 2) x7 fun x8 =>
        (pr.cond x8
         (pr.rowD 3 (pr.ld y2 6) (pr.ld y2 2) fun w9 =>
         (pr.out 0 [.n (pr.ln y2 0), .n (pr.ln y2 1), .d (pr.ld y2 2), .d (pr.cell w9 0), .d (pr.cell w9 1), .d (pr.cell w9 2), .r (pr.lr y2 3), .d (pr.ld y2 4), .d (pr.ld y2 5), .d (pr.ld y2 6)]))
         (pr.out 0 [.n (pr.ln y2 0), .n (pr.ln y2 1), .d (pr.ld y2 2), .d (pr.lit (.int Go.IntKind.i64 (0))), .d (pr.lit (.int Go.IntKind.i64 (0))), .d (pr.lit (.int Go.IntKind.i64 (0))), .r (pr.lr y2 3), .d (pr.ld y2 4), .d (pr.ld y2 5), .d (pr.ld y2 6)])))) [fun y7 => (pr.bin .mul false (pr.lit (.int Go.IntKind.i64 (2))) (pr.ld y7 2) fun x8 =>
        (pr.bin .add false (pr.lit (.int Go.IntKind.i64 (3))) x8 fun x9 =>
         (pr.bnd (pr.call 26 [(pr.ld y7 3), (pr.lit (.int Go.IntKind.i64 (4)))]) [fun y10 => (pr.bin .add false (pr.lit (.int Go.IntKind.i64 (1))) (pr.ld y10 0) fun x11 =>
           (pr.bnd (pr.call 26 [(pr.ld y7 4), (pr.lit (.int Go.IntKind.i64 (0)))]) [fun y12 => (pr.bin .sub false (pr.lit (.int Go.IntKind.i64 (0))) (pr.ld y12 0) fun x13 =>
             (pr.bnd (pr.call 26 [(pr.ld y7 5), x13]) [fun y14 => (pr.bin .add false (pr.ld y12 0) (pr.ld y14 0) fun x15 =>
               (pr.eqN (pr.natN 1) (pr.len (pr.rows [[x9, x11, (pr.ld y12 0), x15]])) (pr.eqN (pr.ln y7 1) (pr.len (pr.lr y7 6)) (pr.eqN (pr.ln y7 0) (pr.len (pr.lr y7 6)) (pr.fits 32 (pr.addN (pr.ln y7 0) (pr.len (pr.seg (pr.rows [[x9, x11, (pr.ld y12 0), x15]]) none (pr.natN 1))))
                (pr.bin .add false (pr.ld y7 2) (pr.lit (.int Go.IntKind.i64 (1))) fun x16 =>
                (J2 1 [.n (pr.addN (pr.ln y7 0) (pr.len (pr.seg (pr.rows [[x9, x11, (pr.ld y12 0), x15]]) none (pr.natN 1)))), .n (pr.addN (pr.ln y7 0) (pr.len (pr.seg (pr.rows [[x9, x11, (pr.ld y12 0), x15]]) none (pr.natN 1)))), .d x16, .r (pr.app (pr.lr y7 6) (pr.seg (pr.rows [[x9, x11, (pr.ld y12 0), x15]]) none (pr.natN 1))), .d (pr.ld y7 7), .d (pr.ld y7 8), .d (pr.ld y7 9)])))))))]))]))])))])
       (pr.out 1 [.n (pr.ln y2 0), .n (pr.ln y2 1), .r (pr.lr y2 3)])))))
     (pr.bin .eql false (pr.ld y2 2) (pr.lit (.int Go.IntKind.i64 (0))) fun x5 =>
     (pr.cond x5
      (pr.bnd (pr.lenD (pr.ld y2 6) fun x6 =>
      (pr.bin .lss false (pr.ld y2 2) x6 fun x7 =>
       (pr.cond x7
        (pr.rowD 3 (pr.ld y2 6) (pr.ld y2 2) fun w8 =>
        (pr.out 0 [.n (pr.ln y2 0), .n (pr.ln y2 1), .d (pr.ld y2 2), .d (pr.cell w8 0), .d (pr.cell w8 1), .d (pr.cell w8 2), .r (pr.lr y2 3), .d (pr.ld y2 4), .d (pr.ld y2 5), .d (pr.ld y2 6)]))
        (pr.out 0 [.n (pr.ln y2 0), .n (pr.ln y2 1), .d (pr.ld y2 2), .d (pr.lit (.int Go.IntKind.i64 (0))), .d (pr.lit (.int Go.IntKind.i64 (0))), .d (pr.lit (.int Go.IntKind.i64 (0))), .r (pr.lr y2 3), .d (pr.ld y2 4), .d (pr.ld y2 5), .d (pr.ld y2 6)])))) [fun y6 => (pr.bin .mul false (pr.lit (.int Go.IntKind.i64 (2))) (pr.ld y6 2) fun x7 =>
       (pr.bin .add false (pr.lit (.int Go.IntKind.i64 (3))) x7 fun x8 =>
        (pr.bnd (pr.call 26 [(pr.ld y6 3), (pr.lit (.int Go.IntKind.i64 (4)))]) [fun y9 => (pr.bin .add false (pr.lit (.int Go.IntKind.i64 (1))) (pr.ld y9 0) fun x10 =>
          (pr.bnd (pr.call 26 [(pr.ld y6 4), (pr.lit (.int Go.IntKind.i64 (0)))]) [fun y11 => (pr.bin .sub false (pr.lit (.int Go.IntKind.i64 (0))) (pr.ld y11 0) fun x12 =>
            (pr.bnd (pr.call 26 [(pr.ld y6 5), x12]) [fun y13 => (pr.bin .add false (pr.ld y11 0) (pr.ld y13 0) fun x14 =>
              (pr.eqN (pr.natN 1) (pr.len (pr.rows [[x8, x10, (pr.ld y11 0), x14]])) (pr.eqN (pr.ln y6 1) (pr.len (pr.lr y6 6)) (pr.eqN (pr.ln y6 0) (pr.len (pr.lr y6 6)) (pr.fits 32 (pr.addN (pr.ln y6 0) (pr.len (pr.seg (pr.rows [[x8, x10, (pr.ld y11 0), x14]]) none (pr.natN 1))))
               (pr.bin .add false (pr.ld y6 2) (pr.lit (.int Go.IntKind.i64 (1))) fun x15 =>
               (J2 1 [.n (pr.addN (pr.ln y6 0) (pr.len (pr.seg (pr.rows [[x8, x10, (pr.ld y11 0), x14]]) none (pr.natN 1)))), .n (pr.addN (pr.ln y6 0) (pr.len (pr.seg (pr.rows [[x8, x10, (pr.ld y11 0), x14]]) none (pr.natN 1)))), .d x15, .r (pr.app (pr.lr y6 6) (pr.seg (pr.rows [[x8, x10, (pr.ld y11 0), x14]]) none (pr.natN 1))), .d (pr.ld y6 7), .d (pr.ld y6 8), .d (pr.ld y6 9)])))))))]))]))])))])
      (pr.out 1 [.n (pr.ln y2 0), .n (pr.ln y2 1), .r (pr.lr y2 3)]))))))
def L25_6  : (Nat → List (Y Δ N R M) → Ω) → E → Ω := fun J2 y2 =>
 (pr.lenD (pr.ld y2 6) fun x3 =>
   (pr.bin .lss false (pr.ld y2 0) x3 fun x4 =>
    (pr.cond x4
     (pr.bin .lss false (pr.ld y2 0) (pr.lit (.int Go.IntKind.i64 (6))) fun x5 =>
     (pr.cond x5
      (pr.bnd (pr.lenD (pr.ld y2 6) fun x6 =>
      (pr.bin .lss false (pr.ld y2 0) x6 fun x7 =>
       (pr.cond x7
        (pr.rowD 3 (pr.ld y2 6) (pr.ld y2 0) fun w8 =>
        (pr.out 0 [.d (pr.ld y2 0), .r (pr.lr y2 1), .d (pr.cell w8 0), .d (pr.cell w8 1), .d (pr.cell w8 2), .n (pr.ln y2 2), .n (pr.ln y2 3), .d (pr.ld y2 4), .d (pr.ld y2 5), .d (pr.ld y2 6)]))
        (pr.out 0 [.d (pr.ld y2 0), .r (pr.lr y2 1), .d (pr.lit (.int Go.IntKind.i64 (0))), .d (pr.lit (.int Go.IntKind.i64 (0))), .d (pr.lit (.int Go.IntKind.i64 (0))), .n (pr.ln y2 2), .n (pr.ln y2 3), .d (pr.ld y2 4), .d (pr.ld y2 5), .d (pr.ld y2 6)])))) [fun y6 => (pr.bin .mul false (pr.lit (.int Go.IntKind.i64 (2))) (pr.ld y6 0) fun x7 =>
       (pr.bin .add false (pr.lit (.int Go.IntKind.i64 (3))) x7 fun x8 =>
        (pr.bnd (pr.call 26 [(pr.ld y6 2), (pr.lit (.int Go.IntKind.i64 (4)))]) [fun y9 => (pr.bin .add false (pr.lit (.int Go.IntKind.i64 (1))) (pr.ld y9 0) fun x10 =>
          (pr.bnd (pr.call 26 [(pr.ld y6 3), (pr.natD (pr.ln y6 5))]) [fun y11 => (pr.bin .sub false (pr.natD (pr.ln y6 5)) (pr.ld y11 0) fun x12 =>
            (pr.bnd (pr.call 26 [(pr.ld y6 4), x12]) [fun y13 => (pr.bin .add false (pr.ld y11 0) (pr.ld y13 0) fun x14 =>
              (pr.eqN (pr.natN 1) (pr.len (pr.rows [[x8, x10, (pr.ld y11 0), x14]])) (pr.isNil (pr.seg (pr.rows [[x8, x10, (pr.ld y11 0), x14]]) none (pr.natN 1))
               (pr.bin .add false (pr.ld y6 0) (pr.lit (.int Go.IntKind.i64 (1))) fun x15 =>
               (J2 0 [.d x15, .r (pr.lr y6 1), .n (pr.ln y6 5), .n (pr.ln y6 6), .d (pr.ld y6 7), .d (pr.ld y6 8), .d (pr.ld y6 9)]))
               (pr.fits 32 (pr.len (pr.seg (pr.rows [[x8, x10, (pr.ld y11 0), x14]]) none (pr.natN 1)))
               (pr.bin .add false (pr.ld y6 0) (pr.lit (.int Go.IntKind.i64 (1))) fun x15 =>
               (J2 1 [.n (pr.len (pr.seg (pr.rows [[x8, x10, (pr.ld y11 0), x14]]) none (pr.natN 1))), .n (pr.len (pr.seg (pr.rows [[x8, x10, (pr.ld y11 0), x14]]) none (pr.natN 1))), .d x15, .r (pr.lr y6 1), .r (pr.seg (pr.rows [[x8, x10, (pr.ld y11 0), x14]]) none (pr.natN 1)), .n (pr.ln y6 5), .n (pr.ln y6 6), .d (pr.ld y6 7), .d (pr.ld y6 8), .d (pr.ld y6 9)]))))))]))]))])))])
      (pr.bin .eql false (pr.ld y2 0) (pr.lit (.int Go.IntKind.i64 (0))) fun x6 =>
      (pr.cond x6
       (pr.bnd (pr.lenD (pr.ld y2 6) fun x7 =>
       (pr.bin .lss false (pr.ld y2 0) x7 fun x8 =>
        (pr.cond x8
         (pr.rowD 3 (pr.ld y2 6) (pr.ld y2 0) fun w9 =>
         (pr.out 0 [.d (pr.ld y2 0), .r (pr.lr y2 1), .d (pr.cell w9 0), .d (pr.cell w9 1), .d (pr.cell w9 2), .n (pr.ln y2 2), .n (pr.ln y2 3), .d (pr.ld y2 4), .d (pr.ld y2 5), .d (pr.ld y2 6)]))
         (pr.out 0 [.d (pr.ld y2 0), .r (pr.lr y2 1), .d (pr.lit (.int Go.IntKind.i64 (0))), .d (pr.lit (.int Go.IntKind.i64 (0))), .d (pr.lit (.int Go.IntKind.i64 (0))), .n (pr.ln y2 2), .n (pr.ln y2 3), .d (pr.ld y2 4), .d (pr.ld y2 5), .d (pr.ld y2 6)])))) [fun y7 => (pr.bin .mul false (pr.lit (.int Go.IntKind.i64 (2))) (pr.ld y7 0) fun x8 =>
        (pr.bin .add false (pr.lit (.int Go.IntKind.i64 (3))) x8 fun x9 =>
         (pr.bnd (pr.call 26 [(pr.ld y7 2), (pr.lit (.int Go.IntKind.i64 (4)))]) [fun y10 => (pr.bin .add false (pr.lit (.int Go.IntKind.i64 (1))) (pr.ld y10 0) fun x11 =>
           (pr.bnd (pr.call 26 [(pr.ld y7 3), (pr.natD (pr.ln y7 5))]) [fun y12 => (pr.bin .sub false (pr.natD (pr.ln y7 5)) (pr.ld y12 0) fun x13 =>
             (pr.bnd (pr.call 26 [(pr.ld y7 4), x13]) [fun y14 => (pr.bin .add false (pr.ld y12 0) (pr.ld y14 0) fun x15 =>
               (pr.eqN (pr.natN 1) (pr.len (pr.rows [[x9, x11, (pr.ld y12 0), x15]])) (pr.isNil (pr.seg (pr.rows [[x9, x11, (pr.ld y12 0), x15]]) none (pr.natN 1))
                (pr.bin .add false (pr.ld y7 0) (pr.lit (.int Go.IntKind.i64 (1))) fun x16 =>
                (J2 0 [.d x16, .r (pr.lr y7 1), .n (pr.ln y7 5), .n (pr.ln y7 6), .d (pr.ld y7 7), .d (pr.ld y7 8), .d (pr.ld y7 9)]))
                (pr.fits 32 (pr.len (pr.seg (pr.rows [[x9, x11, (pr.ld y12 0), x15]]) none (pr.natN 1)))
                (pr.bin .add false (pr.ld y7 0) (pr.lit (.int Go.IntKind.i64 (1))) fun x16 =>
                (J2 1 [.n (pr.len (pr.seg (pr.rows [[x9, x11, (pr.ld y12 0), x15]]) none (pr.natN 1))), .n (pr.len (pr.seg (pr.rows [[x9, x11, (pr.ld y12 0), x15]]) none (pr.natN 1))), .d x16, .r (pr.lr y7 1), .r (pr.seg (pr.rows [[x9, x11, (pr.ld y12 0), x15]]) none (pr.natN 1)), .n (pr.ln y7 5), .n (pr.ln y7 6), .d (pr.ld y7 7), .d (pr.ld y7 8), .d (pr.ld y7 9)]))))))]))]))])))])
       (pr.out 0 [.r (pr.lr y2 1), .n (pr.ln y2 2), .n (pr.ln y2 3)])))))
     (pr.bin .eql false (pr.ld y2 0) (pr.lit (.int Go.IntKind.i64 (0))) fun x5 =>
     (pr.cond x5
      (pr.bnd (pr.lenD (pr.ld y2 6) fun x6 =>
      (pr.bin .lss false (pr.ld y2 0) x6 fun x7 =>
       (pr.cond x7
        (pr.rowD 3 (pr.ld y2 6) (pr.ld y2 0) fun w8 =>
        (pr.out 0 [.d (pr.ld y2 0), .r (pr.lr y2 1), .d (pr.cell w8 0), .d (pr.cell w8 1), .d (pr.cell w8 2), .n (pr.ln y2 2), .n (pr.ln y2 3), .d (pr.ld y2 4), .d (pr.ld y2 5), .d (pr.ld y2 6)]))
        (pr.out 0 [.d (pr.ld y2 0), .r (pr.lr y2 1), .d (pr.lit (.int Go.IntKind.i64 (0))), .d (pr.lit (.int Go.IntKind.i64 (0))), .d (pr.lit (.int Go.IntKind.i64 (0))), .n (pr.ln y2 2), .n (pr.ln y2 3), .d (pr.ld y2 4), .d (pr.ld y2 5), .d (pr.ld y2 6)])))) [fun y6 => (pr.bin .mul false (pr.lit (.int Go.IntKind.i64 (2))) (pr.ld y6 0) fun x7 =>
       (pr.bin .add false (pr.lit (.int Go.IntKind.i64 (3))) x7 fun x8 =>
        (pr.bnd (pr.call 26 [(pr.ld y6 2), (pr.lit (.int Go.IntKind.i64 (4)))]) [fun y9 => (pr.bin .add false (pr.lit (.int Go.IntKind.i64 (1))) (pr.ld y9 0) fun x10 =>
          (pr.bnd (pr.call 26 [(pr.ld y6 3), (pr.natD (pr.ln y6 5))]) [fun y11 => (pr.bin .sub false (pr.natD (pr.ln y6 5)) (pr.ld y11 0) fun x12 =>
            (pr.bnd (pr.call 26 [(pr.ld y6 4), x12]) [fun y13 => (pr.bin .add false (pr.ld y11 0) (pr.ld y13 0) fun x14 =>
              (pr.eqN (pr.natN 1) (pr.len (pr.rows [[x8, x10, (pr.ld y11 0), x14]])) (pr.isNil (pr.seg (pr.rows [[x8, x10, (pr.ld y11 0), x14]]) none (pr.natN 1))
               (pr.bin .add false (pr.ld y6 0) (pr.lit (.int Go.IntKind.i64 (1))) fun x15 =>
               (J2 0 [.d x15, .r (pr.lr y6 1), .n (pr.ln y6 5), .n (pr.ln y6 6), .d (pr.ld y6 7), .d (pr.ld y6 8), .d (pr.ld y6 9)]))
               (pr.fits 32 (pr.len (pr.seg (pr.rows [[x8, x10, (pr.ld y11 0), x14]]) none (pr.natN 1)))
               (pr.bin .add false (pr.ld y6 0) (pr.lit (.int Go.IntKind.i64 (1))) fun x15 =>
               (J2 1 [.n (pr.len (pr.seg (pr.rows [[x8, x10, (pr.ld y11 0), x14]]) none (pr.natN 1))), .n (pr.len (pr.seg (pr.rows [[x8, x10, (pr.ld y11 0), x14]]) none (pr.natN 1))), .d x15, .r (pr.lr y6 1), .r (pr.seg (pr.rows [[x8, x10, (pr.ld y11 0), x14]]) none (pr.natN 1)), .n (pr.ln y6 5), .n (pr.ln y6 6), .d (pr.ld y6 7), .d (pr.ld y6 8), .d (pr.ld y6 9)]))))))]))]))])))])
      (pr.out 0 [.r (pr.lr y2 1), .n (pr.ln y2 2), .n (pr.ln y2 3)]))))))
def L25_7  : (Nat → List (Y Δ N R M) → Ω) → E → Ω := fun J2 y2 =>
 (pr.lenD (pr.ld y2 9) fun x3 =>
   (pr.bin .lss false (pr.ld y2 2) x3 fun x4 =>
    (pr.cond x4
     (pr.bin .lss false (pr.ld y2 2) (pr.lit (.int Go.IntKind.i64 (6))) fun x5 =>
     (pr.cond x5
      (pr.bnd (pr.lenD (pr.ld y2 9) fun x6 =>
      (pr.bin .lss false (pr.ld y2 2) x6 fun x7 =>
       (pr.cond x7
        (pr.rowD 3 (pr.ld y2 9) (pr.ld y2 2) fun w8 =>
        (pr.out 0 [.n (pr.ln y2 0), .n (pr.ln y2 1), .d (pr.ld y2 2), .r (pr.lr y2 3), .d (pr.cell w8 0), .d (pr.cell w8 1), .d (pr.cell w8 2), .r (pr.lr y2 4), .n (pr.ln y2 5), .n (pr.ln y2 6), .d (pr.ld y2 7), .d (pr.ld y2 8), .d (pr.ld y2 9)]))
        (pr.out 0 [.n (pr.ln y2 0), .n (pr.ln y2 1), .d (pr.ld y2 2), .r (pr.lr y2 3), .d (pr.lit (.int Go.IntKind.i64 (0))), .d (pr.lit (.int Go.IntKind.i64 (0))), .d (pr.lit (.int Go.IntKind.i64 (0))), .r (pr.lr y2 4), .n (pr.ln y2 5), .n (pr.ln y2 6), .d (pr.ld y2 7), .d (pr.ld y2 8), .d (pr.ld y2 9)])))) [fun y6 => (pr.bin .mul false (pr.lit (.int Go.IntKind.i64 (2))) (pr.ld y6 2) fun x7 =>
       (pr.bin .add false (pr.lit (.int Go.IntKind.i64 (3))) x7 fun x8 =>
        (pr.bnd (pr.call 26 [(pr.ld y6 4), (pr.lit (.int Go.IntKind.i64 (4)))]) [fun y9 => (pr.bin .add false (pr.lit (.int Go.IntKind.i64 (1))) (pr.ld y9 0) fun x10 =>
          (pr.bnd (pr.call 26 [(pr.ld y6 5), (pr.natD (pr.ln y6 8))]) [fun y11 => (pr.bin .sub false (pr.natD (pr.ln y6 8)) (pr.ld y11 0) fun x12 =>
            (pr.bnd (pr.call 26 [(pr.ld y6 6), x12]) [fun y13 => (pr.bin .add false (pr.ld y11 0) (pr.ld y13 0) fun x14 =>
              (pr.eqN (pr.natN 1) (pr.len (pr.rows [[x8, x10, (pr.ld y11 0), x14]])) (pr.eqN (pr.ln y6 1) (pr.len (pr.lr y6 7)) (pr.eqN (pr.ln y6 0) (pr.len (pr.lr y6 7)) (pr.fits 32 (pr.addN (pr.ln y6 0) (pr.len (pr.seg (pr.rows [[x8, x10, (pr.ld y11 0), x14]]) none (pr.natN 1))))
               (pr.bin .add false (pr.ld y6 2) (pr.lit (.int Go.IntKind.i64 (1))) fun x15 =>
               (J2 1 [.n (pr.addN (pr.ln y6 0) (pr.len (pr.seg (pr.rows [[x8, x10, (pr.ld y11 0), x14]]) none (pr.natN 1)))), .n (pr.addN (pr.ln y6 0) (pr.len (pr.seg (pr.rows [[x8, x10, (pr.ld y11 0), x14]]) none (pr.natN 1)))), .d x15, .r (pr.lr y6 3), .r (pr.app (pr.lr y6 7) (pr.seg (pr.rows [[x8, x10, (pr.ld y11 0), x14]]) none (pr.natN 1))), .n (pr.ln y6 8), .n (pr.ln y6 9), .d (pr.ld y6 10), .d (pr.ld y6 11), .d (pr.ld y6 12)])))))))]))]))])))])
      (pr.bin .eql false (pr.ld y2 2) (pr.lit (.int Go.IntKind.i64 (0))) fun x6 =>
      (pr.cond x6
       (pr.bnd (pr.lenD (pr.ld y2 9) fun x7 =>
       (pr.bin .lss false (pr.ld y2 2) x7 fun x8 =>
        (pr.cond x8
         (pr.rowD 3 (pr.ld y2 9) (pr.ld y2 2) fun w9 =>
         (pr.out 0 [.n (pr.ln y2 0), .n (pr.ln y2 1), .d (pr.ld y2 2), .r (pr.lr y2 3), .d (pr.cell w9 0), .d (pr.cell w9 1), .d (pr.cell w9 2), .r (pr.lr y2 4), .n (pr.ln y2 5), .n (pr.ln y2 6), .d (pr.ld y2 7), .d (pr.ld y2 8), .d (pr.ld y2 9)]))
         (pr.out 0 [.n (pr.ln y2 0), .n (pr.ln y2 1), .d (pr.ld y2 2), .r (pr.lr y2 3), .d (pr.lit (.int Go.IntKind.i64 (0))), .d (pr.lit (.int Go.IntKind.i64 (0))), .d (pr.lit (.int Go.IntKind.i64 (0))), .r (pr.lr y2 4), .n (pr.ln y2 5), .n (pr.ln y2 6), .d (pr.ld y2 7), .d (pr.ld y2 8), .d (pr.ld y2 9)])))) [fun y7 => (pr.bin .mul false (pr.lit (.int Go.IntKind.i64 (2))) (pr.ld y7 2) fun x8 =>
        (pr.bin .add false (pr.lit (.int Go.IntKind.i64 (3))) x8 fun x9 =>
         (pr.bnd (pr.call 26 [(pr.ld y7 4), (pr.lit (.int Go.IntKind.i64 (4)))]) [fun y10 => (pr.bin .add false (pr.lit (.int Go.IntKind.i64 (1))) (pr.ld y10 0) fun x11 =>
           (pr.bnd (pr.call 26 [(pr.ld y7 5), (pr.natD (pr.ln y7 8))]) [fun y12 => (pr.bin .sub false (pr.natD (pr.ln y7 8)) (pr.ld y12 0) fun x13 =>
             (pr.bnd (pr.call 26 [(pr.ld y7 6), x13]) [fun y14 => (pr.bin .add false (pr.ld y12 0) (pr.ld y14 0) fun x15 =>
               (pr.eqN (pr.natN 1) (pr.len (pr.rows [[x9, x11, (pr.ld y12 0), x15]])) (pr.eqN (pr.ln y7 1) (pr.len (pr.lr y7 7)) (pr.eqN (pr.ln y7 0) (pr.len (pr.lr y7 7)) (pr.fits 32 (pr.addN (pr.ln y7 0) (pr.len (pr.seg (pr.rows [[x9, x11, (pr.ld y12 0), x15]]) none (pr.natN 1))))
                (pr.bin .add false (pr.ld y7 2) (pr.lit (.int Go.IntKind.i64 (1))) fun x16 =>
                (J2 1 [.n (pr.addN (pr.ln y7 0) (pr.len (pr.seg (pr.rows [[x9, x11, (pr.ld y12 0), x15]]) none (pr.natN 1)))), .n (pr.addN (pr.ln y7 0) (pr.len (pr.seg (pr.rows [[x9, x11, (pr.ld y12 0), x15]]) none (pr.natN 1)))), .d x16, .r (pr.lr y7 3), .r (pr.app (pr.lr y7 7) (pr.seg (pr.rows [[x9, x11, (pr.ld y12 0), x15]]) none (pr.natN 1))), .n (pr.ln y7 8), .n (pr.ln y7 9), .d (pr.ld y7 10), .d (pr.ld y7 11), .d (pr.ld y7 12)])))))))]))]))])))])
       (pr.out 1 [.n (pr.ln y2 0), .n (pr.ln y2 1), .r (pr.lr y2 3), .r (pr.lr y2 4), .n (pr.ln y2 5), .n (pr.ln y2 6)])))))
     (pr.bin .eql false (pr.ld y2 2) (pr.lit (.int Go.IntKind.i64 (0))) fun x5 =>
     (pr.cond x5
      (pr.bnd (pr.lenD (pr.ld y2 9) fun x6 =>
      (pr.bin .lss false (pr.ld y2 2) x6 fun x7 =>
       (pr.cond x7
        (pr.rowD 3 (pr.ld y2 9) (pr.ld y2 2) fun w8 =>
        (pr.out 0 [.n (pr.ln y2 0), .n (pr.ln y2 1), .d (pr.ld y2 2), .r (pr.lr y2 3), .d (pr.cell w8 0), .d (pr.cell w8 1), .d (pr.cell w8 2), .r (pr.lr y2 4), .n (pr.ln y2 5), .n (pr.ln y2 6), .d (pr.ld y2 7), .d (pr.ld y2 8), .d (pr.ld y2 9)]))
        (pr.out 0 [.n (pr.ln y2 0), .n (pr.ln y2 1), .d (pr.ld y2 2), .r (pr.lr y2 3), .d (pr.lit (.int Go.IntKind.i64 (0))), .d (pr.lit (.int Go.IntKind.i64 (0))), .d (pr.lit (.int Go.IntKind.i64 (0))), .r (pr.lr y2 4), .n (pr.ln y2 5), .n (pr.ln y2 6), .d (pr.ld y2 7), .d (pr.ld y2 8), .d (pr.ld y2 9)])))) [fun y6 => (pr.bin .mul false (pr.lit (.int Go.IntKind.i64 (2))) (pr.ld y6 2) fun x7 =>
       (pr.bin .add false (pr.lit (.int Go.IntKind.i64 (3))) x7 fun x8 =>
        (pr.bnd (pr.call 26 [(pr.ld y6 4), (pr.lit (.int Go.IntKind.i64 (4)))]) [fun y9 => (pr.bin .add false (pr.lit (.int Go.IntKind.i64 (1))) (pr.ld y9 0) fun x10 =>
          (pr.bnd (pr.call 26 [(pr.ld y6 5), (pr.natD (pr.ln y6 8))]) [fun y11 => (pr.bin .sub false (pr.natD (pr.ln y6 8)) (pr.ld y11 0) fun x12 =>
            (pr.bnd (pr.call 26 [(pr.ld y6 6), x12]) [fun y13 => (pr.bin .add false (pr.ld y11 0) (pr.ld y13 0) fun x14 =>
              (pr.eqN (pr.natN 1) (pr.len (pr.rows [[x8, x10, (pr.ld y11 0), x14]])) (pr.eqN (pr.ln y6 1) (pr.len (pr.lr y6 7)) (pr.eqN (pr.ln y6 0) (pr.len (pr.lr y6 7)) (pr.fits 32 (pr.addN (pr.ln y6 0) (pr.len (pr.seg (pr.rows [[x8, x10, (pr.ld y11 0), x14]]) none (pr.natN 1))))
               (pr.bin .add false (pr.ld y6 2) (pr.lit (.int Go.IntKind.i64 (1))) fun x15 =>
               (J2 1 [.n (pr.addN (pr.ln y6 0) (pr.len (pr.seg (pr.rows [[x8, x10, (pr.ld y11 0), x14]]) none (pr.natN 1)))), .n (pr.addN (pr.ln y6 0) (pr.len (pr.seg (pr.rows [[x8, x10, (pr.ld y11 0), x14]]) none (pr.natN 1)))), .d x15, .r (pr.lr y6 3), .r (pr.app (pr.lr y6 7) (pr.seg (pr.rows [[x8, x10, (pr.ld y11 0), x14]]) none (pr.natN 1))), .n (pr.ln y6 8), .n (pr.ln y6 9), .d (pr.ld y6 10), .d (pr.ld y6 11), .d (pr.ld y6 12)])))))))]))]))])))])
      (pr.out 1 [.n (pr.ln y2 0), .n (pr.ln y2 1), .r (pr.lr y2 3), .r (pr.lr y2 4), .n (pr.ln y2 5), .n (pr.ln y2 6)]))))))
def L25_8  : (Nat → List (Y Δ N R M) → Ω) → E → Ω := fun J1 y1 =>
 (pr.lenD (pr.ld y1 5) fun x2 =>
  (pr.bin .lss false (pr.ld y1 0) x2 fun x3 =>
   (pr.cond x3
    (pr.bin .lss false (pr.ld y1 0) (pr.lit (.int Go.IntKind.i64 (10))) fun x4 =>
    (pr.cond x4
     (pr.bnd (pr.lenD (pr.ld y1 5) fun x5 =>
     (pr.bin .lss false (pr.ld y1 0) x5 fun x6 =>
      (pr.cond x6
       (pr.rowD 3 (pr.ld y1 5) (pr.ld y1 0) fun w7 =>
       (pr.out 0 [.d (pr.ld y1 0), .r (pr.lr y1 1), .d (pr.cell w7 0), .d (pr.cell w7 1), .d (pr.cell w7 2), .n (pr.ln y1 2), .n (pr.ln y1 3), .d (pr.ld y1 4), .d (pr.ld y1 5), .d (pr.ld y1 6)]))
       (pr.out 0 [.d (pr.ld y1 0), .r (pr.lr y1 1), .d (pr.lit (.int Go.IntKind.i64 (0))), .d (pr.lit (.int Go.IntKind.i64 (0))), .d (pr.lit (.int Go.IntKind.i64 (0))), .n (pr.ln y1 2), .n (pr.ln y1 3), .d (pr.ld y1 4), .d (pr.ld y1 5), .d (pr.ld y1 6)])))) [fun y5 => (pr.bnd (pr.call 26 [(pr.ld y5 2), (pr.natD (pr.ln y5 5))]) [fun y6 => (pr.bin .add false (pr.lit (.int Go.IntKind.i64 (1))) (pr.ld y6 0) fun x7 =>
       (pr.bnd (pr.call 26 [(pr.ld y5 3), (pr.lit (.int Go.IntKind.i64 (9)))]) [fun y8 => (pr.bin .add false (pr.lit (.int Go.IntKind.i64 (1))) (pr.ld y8 0) fun x9 =>
         (pr.bnd (pr.call 26 [(pr.ld y5 4), (pr.lit (.int Go.IntKind.i64 (12)))]) [fun y10 => (pr.eqN (pr.natN 1) (pr.len (pr.rows [[x7, x9, (pr.ld y10 0)]])) (pr.isNil (pr.seg (pr.rows [[x7, x9, (pr.ld y10 0)]]) none (pr.natN 1))
           (pr.bin .add false (pr.ld y5 0) (pr.lit (.int Go.IntKind.i64 (1))) fun x11 =>
           (J1 0 [.d x11, .r (pr.lr y5 1), .n (pr.ln y5 5), .n (pr.ln y5 6), .d (pr.ld y5 7), .d (pr.ld y5 8), .d (pr.ld y5 9)]))
           (pr.fits 24 (pr.len (pr.seg (pr.rows [[x7, x9, (pr.ld y10 0)]]) none (pr.natN 1)))
           (pr.bin .add false (pr.ld y5 0) (pr.lit (.int Go.IntKind.i64 (1))) fun x11 =>
           (J1 1 [.d x11, .r (pr.seg (pr.rows [[x7, x9, (pr.ld y10 0)]]) none (pr.natN 1)), .r (pr.lr y5 1), .n (pr.ln y5 5), .n (pr.ln y5 6), .n (pr.len (pr.seg (pr.rows [[x7, x9, (pr.ld y10 0)]]) none (pr.natN 1))), .n (pr.len (pr.seg (pr.rows [[x7, x9, (pr.ld y10 0)]]) none (pr.natN 1))), .d (pr.ld y5 7), .d (pr.ld y5 8), .d (pr.ld y5 9)])))))]))]))])])
     (pr.bin .eql false (pr.ld y1 0) (pr.lit (.int Go.IntKind.i64 (0))) fun x5 =>
     (pr.cond x5
      (pr.bnd (pr.lenD (pr.ld y1 5) fun x6 =>
      (pr.bin .lss false (pr.ld y1 0) x6 fun x7 =>
       (pr.cond x7
        (pr.rowD 3 (pr.ld y1 5) (pr.ld y1 0) fun w8 =>
        (pr.out 0 [.d (pr.ld y1 0), .r (pr.lr y1 1), .d (pr.cell w8 0), .d (pr.cell w8 1), .d (pr.cell w8 2), .n (pr.ln y1 2), .n (pr.ln y1 3), .d (pr.ld y1 4), .d (pr.ld y1 5), .d (pr.ld y1 6)]))
        (pr.out 0 [.d (pr.ld y1 0), .r (pr.lr y1 1), .d (pr.lit (.int Go.IntKind.i64 (0))), .d (pr.lit (.int Go.IntKind.i64 (0))), .d (pr.lit (.int Go.IntKind.i64 (0))), .n (pr.ln y1 2), .n (pr.ln y1 3), .d (pr.ld y1 4), .d (pr.ld y1 5), .d (pr.ld y1 6)])))) [fun y6 => (pr.bnd (pr.call 26 [(pr.ld y6 2), (pr.natD (pr.ln y6 5))]) [fun y7 => (pr.bin .add false (pr.lit (.int Go.IntKind.i64 (1))) (pr.ld y7 0) fun x8 =>
        (pr.bnd (pr.call 26 [(pr.ld y6 3), (pr.lit (.int Go.IntKind.i64 (9)))]) [fun y9 => (pr.bin .add false (pr.lit (.int Go.IntKind.i64 (1))) (pr.ld y9 0) fun x10 =>
          (pr.bnd (pr.call 26 [(pr.ld y6 4), (pr.lit (.int Go.IntKind.i64 (12)))]) [fun y11 => (pr.eqN (pr.natN 1) (pr.len (pr.rows [[x8, x10, (pr.ld y11 0)]])) (pr.isNil (pr.seg (pr.rows [[x8, x10, (pr.ld y11 0)]]) none (pr.natN 1))
            (pr.bin .add false (pr.ld y6 0) (pr.lit (.int Go.IntKind.i64 (1))) fun x12 =>
            (J1 0 [.d x12, .r (pr.lr y6 1), .n (pr.ln y6 5), .n (pr.ln y6 6), .d (pr.ld y6 7), .d (pr.ld y6 8), .d (pr.ld y6 9)]))
            (pr.fits 24 (pr.len (pr.seg (pr.rows [[x8, x10, (pr.ld y11 0)]]) none (pr.natN 1)))
            (pr.bin .add false (pr.ld y6 0) (pr.lit (.int Go.IntKind.i64 (1))) fun x12 =>
            (J1 1 [.d x12, .r (pr.seg (pr.rows [[x8, x10, (pr.ld y11 0)]]) none (pr.natN 1)), .r (pr.lr y6 1), .n (pr.ln y6 5), .n (pr.ln y6 6), .n (pr.len (pr.seg (pr.rows [[x8, x10, (pr.ld y11 0)]]) none (pr.natN 1))), .n (pr.len (pr.seg (pr.rows [[x8, x10, (pr.ld y11 0)]]) none (pr.natN 1))), .d (pr.ld y6 7), .d (pr.ld y6 8), .d (pr.ld y6 9)])))))]))]))])])
      (pr.out 0 [.r (pr.lr y1 1), .n (pr.ln y1 2), .n (pr.ln y1 3), .d (pr.ld y1 4), .d (pr.ld y1 5), .d (pr.ld y1 6)])))))
    (pr.bin .eql false (pr.ld y1 0) (pr.lit (.int Go.IntKind.i64 (0))) fun x4 =>
    (pr.cond x4
     (pr.bnd (pr.lenD (pr.ld y1 5) fun x5 =>
     (pr.bin .lss false (pr.ld y1 0) x5 fun x6 =>
      (pr.cond x6
       (pr.rowD 3 (pr.ld y1 5) (pr.ld y1 0) fun w7 =>
       (pr.out 0 [.d (pr.ld y1 0), .r (pr.lr y1 1), .d (pr.cell w7 0), .d (pr.cell w7 1), .d (pr.cell w7 2), .n (pr.ln y1 2), .n (pr.ln y1 3), .d (pr.ld y1 4), .d (pr.ld y1 5), .d (pr.ld y1 6)]))
       (pr.out 0 [.d (pr.ld y1 0), .r (pr.lr y1 1), .d (pr.lit (.int Go.IntKind.i64 (0))), .d (pr.lit (.int Go.IntKind.i64 (0))), .d (pr.lit (.int Go.IntKind.i64 (0))), .n (pr.ln y1 2), .n (pr.ln y1 3), .d (pr.ld y1 4), .d (pr.ld y1 5), .d (pr.ld y1 6)])))) [fun y5 => (pr.bnd (pr.call 26 [(pr.ld y5 2), (pr.natD (pr.ln y5 5))]) [fun y6 => (pr.bin .add false (pr.lit (.int Go.IntKind.i64 (1))) (pr.ld y6 0) fun x7 =>
       (pr.bnd (pr.call 26 [(pr.ld y5 3), (pr.lit (.int Go.IntKind.i64 (9)))]) [fun y8 => (pr.bin .add false (pr.lit (.int Go.IntKind.i64 (1))) (pr.ld y8 0) fun x9 =>
         (pr.bnd (pr.call 26 [(pr.ld y5 4), (pr.lit (.int Go.IntKind.i64 (12)))]) [fun y10 => (pr.eqN (pr.natN 1) (pr.len (pr.rows [[x7, x9, (pr.ld y10 0)]])) (pr.isNil (pr.seg (pr.rows [[x7, x9, (pr.ld y10 0)]]) none (pr.natN 1))
           (pr.bin .add false (pr.ld y5 0) (pr.lit (.int Go.IntKind.i64 (1))) fun x11 =>
           (J1 0 [.d x11, .r (pr.lr y5 1), .n (pr.ln y5 5), .n (pr.ln y5 6), .d (pr.ld y5 7), .d (pr.ld y5 8), .d (pr.ld y5 9)]))
           (pr.fits 24 (pr.len (pr.seg (pr.rows [[x7, x9, (pr.ld y10 0)]]) none (pr.natN 1)))
           (pr.bin .add false (pr.ld y5 0) (pr.lit (.int Go.IntKind.i64 (1))) fun x11 =>
           (J1 1 [.d x11, .r (pr.seg (pr.rows [[x7, x9, (pr.ld y10 0)]]) none (pr.natN 1)), .r (pr.lr y5 1), .n (pr.ln y5 5), .n (pr.ln y5 6), .n (pr.len (pr.seg (pr.rows [[x7, x9, (pr.ld y10 0)]]) none (pr.natN 1))), .n (pr.len (pr.seg (pr.rows [[x7, x9, (pr.ld y10 0)]]) none (pr.natN 1))), .d (pr.ld y5 7), .d (pr.ld y5 8), .d (pr.ld y5 9)])))))]))]))])])
     (pr.out 0 [.r (pr.lr y1 1), .n (pr.ln y1 2), .n (pr.ln y1 3), .d (pr.ld y1 4), .d (pr.ld y1 5), .d (pr.ld y1 6)]))))))
def L25_9  : (Nat → List (Y Δ N R M) → Ω) → E → Ω := fun J1 y1 =>
 (pr.lenD (pr.ld y1 8) fun x2 =>
  (pr.bin .lss false (pr.ld y1 0) x2 fun x3 =>
   (pr.cond x3
    (pr.bin .lss false (pr.ld y1 0) (pr.lit (.int Go.IntKind.i64 (10))) fun x4 =>
    (pr.cond x4
     (pr.bnd (pr.lenD (pr.ld y1 8) fun x5 =>
     (pr.bin .lss false (pr.ld y1 0) x5 fun x6 =>
      (pr.cond x6
       (pr.rowD 3 (pr.ld y1 8) (pr.ld y1 0) fun w7 =>
       (pr.out 0 [.d (pr.ld y1 0), .r (pr.lr y1 1), .r (pr.lr y1 2), .d (pr.cell w7 0), .d (pr.cell w7 1), .d (pr.cell w7 2), .n (pr.ln y1 3), .n (pr.ln y1 4), .n (pr.ln y1 5), .n (pr.ln y1 6), .d (pr.ld y1 7), .d (pr.ld y1 8), .d (pr.ld y1 9)]))
       (pr.out 0 [.d (pr.ld y1 0), .r (pr.lr y1 1), .r (pr.lr y1 2), .d (pr.lit (.int Go.IntKind.i64 (0))), .d (pr.lit (.int Go.IntKind.i64 (0))), .d (pr.lit (.int Go.IntKind.i64 (0))), .n (pr.ln y1 3), .n (pr.ln y1 4), .n (pr.ln y1 5), .n (pr.ln y1 6), .d (pr.ld y1 7), .d (pr.ld y1 8), .d (pr.ld y1 9)])))) [fun y5 => (pr.bnd (pr.call 26 [(pr.ld y5 3), (pr.natD (pr.ln y5 6))]) [fun y6 => (pr.bin .add false (pr.lit (.int Go.IntKind.i64 (1))) (pr.ld y6 0) fun x7 =>
       (pr.bnd (pr.call 26 [(pr.ld y5 4), (pr.lit (.int Go.IntKind.i64 (9)))]) [fun y8 => (pr.bin .add false (pr.lit (.int Go.IntKind.i64 (1))) (pr.ld y8 0) fun x9 =>
         (pr.bnd (pr.call 26 [(pr.ld y5 5), (pr.lit (.int Go.IntKind.i64 (12)))]) [fun y10 => (pr.eqN (pr.natN 1) (pr.len (pr.rows [[x7, x9, (pr.ld y10 0)]])) (pr.eqN (pr.ln y5 9) (pr.len (pr.lr y5 1)) (pr.eqN (pr.ln y5 8) (pr.len (pr.lr y5 1)) (pr.fits 24 (pr.addN (pr.ln y5 8) (pr.len (pr.seg (pr.rows [[x7, x9, (pr.ld y10 0)]]) none (pr.natN 1))))
           (pr.bin .add false (pr.ld y5 0) (pr.lit (.int Go.IntKind.i64 (1))) fun x11 =>
           (J1 1 [.d x11, .r (pr.app (pr.lr y5 1) (pr.seg (pr.rows [[x7, x9, (pr.ld y10 0)]]) none (pr.natN 1))), .r (pr.lr y5 2), .n (pr.ln y5 6), .n (pr.ln y5 7), .n (pr.addN (pr.ln y5 8) (pr.len (pr.seg (pr.rows [[x7, x9, (pr.ld y10 0)]]) none (pr.natN 1)))), .n (pr.addN (pr.ln y5 8) (pr.len (pr.seg (pr.rows [[x7, x9, (pr.ld y10 0)]]) none (pr.natN 1)))), .d (pr.ld y5 10), .d (pr.ld y5 11), .d (pr.ld y5 12)]))))))]))]))])])
     (pr.bin .eql false (pr.ld y1 0) (pr.lit (.int Go.IntKind.i64 (0))) fun x5 =>
     (pr.cond x5
      (pr.bnd (pr.lenD (pr.ld y1 8) fun x6 =>
      (pr.bin .lss false (pr.ld y1 0) x6 fun x7 =>
       (pr.cond x7
        (pr.rowD 3 (pr.ld y1 8) (pr.ld y1 0) fun w8 =>
        (pr.out 0 [.d (pr.ld y1 0), .r (pr.lr y1 1), .r (pr.lr y1 2), .d (pr.cell w8 0), .d (pr.cell w8 1), .d (pr.cell w8 2), .n (pr.ln y1 3), .n (pr.ln y1 4), .n (pr.ln y1 5), .n (pr.ln y1 6), .d (pr.ld y1 7), .d (pr.ld y1 8), .d (pr.ld y1 9)]))
        (pr.out 0 [.d (pr.ld y1 0), .r (pr.lr y1 1), .r (pr.lr y1 2), .d (pr.lit (.int Go.IntKind.i64 (0))), .d (pr.lit (.int Go.IntKind.i64 (0))), .d (pr.lit (.int Go.IntKind.i64 (0))), .n (pr.ln y1 3), .n (pr.ln y1 4), .n (pr.ln y1 5), .n (pr.ln y1 6), .d (pr.ld y1 7), .d (pr.ld y1 8), .d (pr.ld y1 9)])))) [fun y6 => (pr.bnd (pr.call 26 [(pr.ld y6 3), (pr.natD (pr.ln y6 6))]) [fun y7 => (pr.bin .add false (pr.lit (.int Go.IntKind.i64 (1))) (pr.ld y7 0) fun x8 =>
        (pr.bnd (pr.call 26 [(pr.ld y6 4), (pr.lit (.int Go.IntKind.i64 (9)))]) [fun y9 => (pr.bin .add false (pr.lit (.int Go.IntKind.i64 (1))) (pr.ld y9 0) fun x10 =>
          (pr.bnd (pr.call 26 [(pr.ld y6 5), (pr.lit (.int Go.IntKind.i64 (12)))]) [fun y11 => (pr.eqN (pr.natN 1) (pr.len (pr.rows [[x8, x10, (pr.ld y11 0)]])) (pr.eqN (pr.ln y6 9) (pr.len (pr.lr y6 1)) (pr.eqN (pr.ln y6 8) (pr.len (pr.lr y6 1)) (pr.fits 24 (pr.addN (pr.ln y6 8) (pr.len (pr.seg (pr.rows [[x8, x10, (pr.ld y11 0)]]) none (pr.natN 1))))
            (pr.bin .add false (pr.ld y6 0) (pr.lit (.int Go.IntKind.i64 (1))) fun x12 =>
            (J1 1 [.d x12, .r (pr.app (pr.lr y6 1) (pr.seg (pr.rows [[x8, x10, (pr.ld y11 0)]]) none (pr.natN 1))), .r (pr.lr y6 2), .n (pr.ln y6 6), .n (pr.ln y6 7), .n (pr.addN (pr.ln y6 8) (pr.len (pr.seg (pr.rows [[x8, x10, (pr.ld y11 0)]]) none (pr.natN 1)))), .n (pr.addN (pr.ln y6 8) (pr.len (pr.seg (pr.rows [[x8, x10, (pr.ld y11 0)]]) none (pr.natN 1)))), .d (pr.ld y6 10), .d (pr.ld y6 11), .d (pr.ld y6 12)]))))))]))]))])])
      (pr.out 1 [.r (pr.lr y1 1), .r (pr.lr y1 2), .n (pr.ln y1 3), .n (pr.ln y1 4), .n (pr.ln y1 5), .n (pr.ln y1 6), .d (pr.ld y1 7), .d (pr.ld y1 8), .d (pr.ld y1 9)])))))
    (pr.bin .eql false (pr.ld y1 0) (pr.lit (.int Go.IntKind.i64 (0))) fun x4 =>
    (pr.cond x4
     (pr.bnd (pr.lenD (pr.ld y1 8) fun x5 =>
     (pr.bin .lss false (pr.ld y1 0) x5 fun x6 =>
      (pr.cond x6
       (pr.rowD 3 (pr.ld y1 8) (pr.ld y1 0) fun w7 =>
       (pr.out 0 [.d (pr.ld y1 0), .r (pr.lr y1 1), .r (pr.lr y1 2), .d (pr.cell w7 0), .d (pr.cell w7 1), .d (pr.cell w7 2), .n (pr.ln y1 3), .n (pr.ln y1 4), .n (pr.ln y1 5), .n (pr.ln y1 6), .d (pr.ld y1 7), .d (pr.ld y1 8), .d (pr.ld y1 9)]))
       (pr.out 0 [.d (pr.ld y1 0), .r (pr.lr y1 1), .r (pr.lr y1 2), .d (pr.lit (.int Go.IntKind.i64 (0))), .d (pr.lit (.int Go.IntKind.i64 (0))), .d (pr.lit (.int Go.IntKind.i64 (0))), .n (pr.ln y1 3), .n (pr.ln y1 4), .n (pr.ln y1 5), .n (pr.ln y1 6), .d (pr.ld y1 7), .d (pr.ld y1 8), .d (pr.ld y1 9)])))) [fun y5 => (pr.bnd (pr.call 26 [(pr.ld y5 3), (pr.natD (pr.ln y5 6))]) [fun y6 => (pr.bin .add false (pr.lit (.int Go.IntKind.i64 (1))) (pr.ld y6 0) fun x7 =>
       (pr.bnd (pr.call 26 [(pr.ld y5 4), (pr.lit (.int Go.IntKind.i64 (9)))]) [fun y8 => (pr.bin .add false (pr.lit (.int Go.IntKind.i64 (1))) (pr.ld y8 0) fun x9 =>
         (pr.bnd (pr.call 26 [(pr.ld y5 5), (pr.lit (.int Go.IntKind.i64 (12)))]) [fun y10 => (pr.eqN (pr.natN 1) (pr.len (pr.rows [[x7, x9, (pr.ld y10 0)]])) (pr.eqN (pr.ln y5 9) (pr.len (pr.lr y5 1)) (pr.eqN (pr.ln y5 8) (pr.len (pr.lr y5 1)) (pr.fits 24 (pr.addN (pr.ln y5 8) (pr.len (pr.seg (pr.rows [[x7, x9, (pr.ld y10 0)]]) none (pr.natN 1))))
           (pr.bin .add false (pr.ld y5 0) (pr.lit (.int Go.IntKind.i64 (1))) fun x11 =>
           (J1 1 [.d x11, .r (pr.app (pr.lr y5 1) (pr.seg (pr.rows [[x7, x9, (pr.ld y10 0)]]) none (pr.natN 1))), .r (pr.lr y5 2), .n (pr.ln y5 6), .n (pr.ln y5 7), .n (pr.addN (pr.ln y5 8) (pr.len (pr.seg (pr.rows [[x7, x9, (pr.ld y10 0)]]) none (pr.natN 1)))), .n (pr.addN (pr.ln y5 8) (pr.len (pr.seg (pr.rows [[x7, x9, (pr.ld y10 0)]]) none (pr.natN 1)))), .d (pr.ld y5 10), .d (pr.ld y5 11), .d (pr.ld y5 12)]))))))]))]))])])
     (pr.out 1 [.r (pr.lr y1 1), .r (pr.lr y1 2), .n (pr.ln y1 3), .n (pr.ln y1 4), .n (pr.ln y1 5), .n (pr.ln y1 6), .d (pr.ld y1 7), .d (pr.ld y1 8), .d (pr.ld y1 9)]))))))
def L25_10  : (Nat → List (Y Δ N R M) → Ω) → E → Ω := fun J2 y2 =>
 (pr.lenD (pr.ld y2 6) fun x3 =>
   (pr.bin .lss false (pr.ld y2 0) x3 fun x4 =>
    (pr.cond x4
     (pr.bin .lss false (pr.ld y2 0) (pr.lit (.int Go.IntKind.i64 (6))) fun x5 =>
     (pr.cond x5
      (pr.bnd (pr.lenD (pr.ld y2 6) fun x6 =>
      (pr.bin .lss false (pr.ld y2 0) x6 fun x7 =>
       (pr.cond x7
        (pr.rowD 3 (pr.ld y2 6) (pr.ld y2 0) fun w8 =>
        (pr.out 0 [.d (pr.ld y2 0), .r (pr.lr y2 1), .d (pr.cell w8 0), .d (pr.cell w8 1), .d (pr.cell w8 2), .n (pr.ln y2 2), .n (pr.ln y2 3), .d (pr.ld y2 4), .d (pr.ld y2 5), .d (pr.ld y2 6)]))
        (pr.out 0 [.d (pr.ld y2 0), .r (pr.lr y2 1), .d (pr.lit (.int Go.IntKind.i64 (0))), .d (pr.lit (.int Go.IntKind.i64 (0))), .d (pr.lit (.int Go.IntKind.i64 (0))), .n (pr.ln y2 2), .n (pr.ln y2 3), .d (pr.ld y2 4), .d (pr.ld y2 5), .d (pr.ld y2 6)])))) [fun y6 => (pr.bin .mul false (pr.lit (.int Go.IntKind.i64 (2))) (pr.ld y6 0) fun x7 =>
       (pr.bin .add false (pr.lit (.int Go.IntKind.i64 (3))) x7 fun x8 =>
        (pr.bnd (pr.call 26 [(pr.ld y6 2), (pr.lit (.int Go.IntKind.i64 (4)))]) [fun y9 => (pr.bin .add false (pr.lit (.int Go.IntKind.i64 (1))) (pr.ld y9 0) fun x10 =>
          (pr.bnd (pr.call 26 [(pr.ld y6 3), (pr.lit (.int Go.IntKind.i64 (0)))]) [fun y11 => (pr.bin .sub false (pr.lit (.int Go.IntKind.i64 (0))) (pr.ld y11 0) fun x12 =>
            (pr.bnd (pr.call 26 [(pr.ld y6 4), x12]) [fun y13 => (pr.bin .add false (pr.ld y11 0) (pr.ld y13 0) fun x14 =>
              (pr.eqN (pr.natN 1) (pr.len (pr.rows [[x8, x10, (pr.ld y11 0), x14]])) (pr.isNil (pr.seg (pr.rows [[x8, x10, (pr.ld y11 0), x14]]) none (pr.natN 1))
               (pr.bin .add false (pr.ld y6 0) (pr.lit (.int Go.IntKind.i64 (1))) fun x15 =>
               (J2 0 [.d x15, .r (pr.lr y6 1), .n (pr.ln y6 5), .n (pr.ln y6 6), .d (pr.ld y6 7), .d (pr.ld y6 8), .d (pr.ld y6 9)]))
               (pr.fits 32 (pr.len (pr.seg (pr.rows [[x8, x10, (pr.ld y11 0), x14]]) none (pr.natN 1)))
               (pr.bin .add false (pr.ld y6 0) (pr.lit (.int Go.IntKind.i64 (1))) fun x15 =>
               (J2 1 [.n (pr.len (pr.seg (pr.rows [[x8, x10, (pr.ld y11 0), x14]]) none (pr.natN 1))), .n (pr.len (pr.seg (pr.rows [[x8, x10, (pr.ld y11 0), x14]]) none (pr.natN 1))), .d x15, .r (pr.lr y6 1), .r (pr.seg (pr.rows [[x8, x10, (pr.ld y11 0), x14]]) none (pr.natN 1)), .n (pr.ln y6 5), .n (pr.ln y6 6), .d (pr.ld y6 7), .d (pr.ld y6 8), .d (pr.ld y6 9)]))))))]))]))])))])
      (pr.bin .eql false (pr.ld y2 0) (pr.lit (.int Go.IntKind.i64 (0))) fun x6 =>
      (pr.cond x6
       (pr.bnd (pr.lenD (pr.ld y2 6) fun x7 =>
       (pr.bin .lss false (pr.ld y2 0) x7 fun x8 =>
        (pr.cond x8
         (pr.rowD 3 (pr.ld y2 6) (pr.ld y2 0) fun w9 =>
         (pr.out 0 [.d (pr.ld y2 0), .r (pr.lr y2 1), .d (pr.cell w9 0), .d (pr.cell w9 1), .d (pr.cell w9 2), .n (pr.ln y2 2), .n (pr.ln y2 3), .d (pr.ld y2 4), .d (pr.ld y2 5), .d (pr.ld y2 6)]))
         (pr.out 0 [.d (pr.ld y2 0), .r (pr.lr y2 1), .d (pr.lit (.int Go.IntKind.i64 (0))), .d (pr.lit (.int Go.IntKind.i64 (0))), .d (pr.lit (.int Go.IntKind.i64 (0))), .n (pr.ln y2 2), .n (pr.ln y2 3), .d (pr.ld y2 4), .d (pr.ld y2 5), .d (pr.ld y2 6)])))) [fun y7 => (pr.bin .mul false (pr.lit (.int Go.IntKind.i64 (2))) (pr.ld y7 0) fun x8 =>
        (pr.bin .add false (pr.lit (.int Go.IntKind.i64 (3))) x8 fun x9 =>
         (pr.bnd (pr.call 26 [(pr.ld y7 2), (pr.lit (.int Go.IntKind.i64 (4)))]) [fun y10 => (pr.bin .add false (pr.lit (.int Go.IntKind.i64 (1))) (pr.ld y10 0) fun x11 =>
           (pr.bnd (pr.call 26 [(pr.ld y7 3), (pr.lit (.int Go.IntKind.i64 (0)))]) [fun y12 => (pr.bin .sub false (pr.lit (.int Go.IntKind.i64 (0))) (pr.ld y12 0) fun x13 =>
             (pr.bnd (pr.call 26 [(pr.ld y7 4), x13]) [fun y14 => (pr.bin .add false (pr.ld y12 0) (pr.ld y14 0) fun x15 =>
               (pr.eqN (pr.natN 1) (pr.len (pr.rows [[x9, x11, (pr.ld y12 0), x15]])) (pr.isNil (pr.seg (pr.rows [[x9, x11, (pr.ld y12 0), x15]]) none (pr.natN 1))
                (pr.bin .add false (pr.ld y7 0) (pr.lit (.int Go.IntKind.i64 (1))) fun x16 =>
                (J2 0 [.d x16, .r (pr.lr y7 1), .n (pr.ln y7 5), .n (pr.ln y7 6), .d (pr.ld y7 7), .d (pr.ld y7 8), .d (pr.ld y7 9)]))
                (pr.fits 32 (pr.len (pr.seg (pr.rows [[x9, x11, (pr.ld y12 0), x15]]) none (pr.natN 1)))
                (pr.bin .add false (pr.ld y7 0) (pr.lit (.int Go.IntKind.i64 (1))) fun x16 =>
                (J2 1 [.n (pr.len (pr.seg (pr.rows [[x9, x11, (pr.ld y12 0), x15]]) none (pr.natN 1))), .n (pr.len (pr.seg (pr.rows [[x9, x11, (pr.ld y12 0), x15]]) none (pr.natN 1))), .d x16, .r (pr.lr y7 1), .r (pr.seg (pr.rows [[x9, x11, (pr.ld y12 0), x15]]) none (pr.natN 1)), .n (pr.ln y7 5), .n (pr.ln y7 6), .d (pr.ld y7 7), .d (pr.ld y7 8), .d (pr.ld y7 9)]))))))]))]))])))])
       (pr.out 0 [.r (pr.lr y2 1), .n (pr.ln y2 2), .n (pr.ln y2 3)])))))
     (pr.bin .eql false (pr.ld y2 0) (pr.lit (.int Go.IntKind.i64 (0))) fun x5 =>
     (pr.cond x5
      (pr.bnd (pr.lenD (pr.ld y2 6) fun x6 =>
      (pr.bin .lss false (pr.ld y2 0) x6 fun x7 =>
       (pr.cond x7
        (pr.rowD 3 (pr.ld y2 6) (pr.ld y2 0) fun w8 =>
        (pr.out 0 [.d (pr.ld y2 0), .r (pr.lr y2 1), .d (pr.cell w8 0), .d (pr.cell w8 1), .d (pr.cell w8 2), .n (pr.ln y2 2), .n (pr.ln y2 3), .d (pr.ld y2 4), .d (pr.ld y2 5), .d (pr.ld y2 6)]))
        (pr.out 0 [.d (pr.ld y2 0), .r (pr.lr y2 1), .d (pr.lit (.int Go.IntKind.i64 (0))), .d (pr.lit (.int Go.IntKind.i64 (0))), .d (pr.lit (.int Go.IntKind.i64 (0))), .n (pr.ln y2 2), .n (pr.ln y2 3), .d (pr.ld y2 4), .d (pr.ld y2 5), .d (pr.ld y2 6)])))) [fun y6 => (pr.bin .mul false (pr.lit (.int Go.IntKind.i64 (2))) (pr.ld y6 0) fun x7 =>
       (pr.bin .add false (pr.lit (.int Go.IntKind.i64 (3))) x7 fun x8 =>
        (pr.bnd (pr.call 26 [(pr.ld y6 2), (pr.lit (.int Go.IntKind.i64 (4)))]) [fun y9 => (pr.bin .add false (pr.lit (.int Go.IntKind.i64 (1))) (pr.ld y9 0) fun x10 =>
          (pr.bnd (pr.call 26 [(pr.ld y6 3), (pr.lit (.int Go.IntKind.i64 (0)))]) [fun y11 => (pr.bin .sub false (pr.lit (.int Go.IntKind.i64 (0))) (pr.ld y11 0) fun x12 =>
            (pr.bnd (pr.call 26 [(pr.ld y6 4), x12]) [fun y13 => (pr.bin .add false (pr.ld y11 0) (pr.ld y13 0) fun x14 =>
              (pr.eqN (pr.natN 1) (pr.len (pr.rows [[x8, x10, (pr.ld y11 0), x14]])) (pr.isNil (pr.seg (pr.rows [[x8, x10, (pr.ld y11 0), x14]]) none (pr.natN 1))
               (pr.bin .add false (pr.ld y6 0) (pr.lit (.int Go.IntKind.i64 (1))) fun x15 =>
               (J2 0 [.d x15, .r (pr.lr y6 1), .n (pr.ln y6 5), .n (pr.ln y6 6), .d (pr.ld y6 7), .d (pr.ld y6 8), .d (pr.ld y6 9)]))
               (pr.fits 32 (pr.len (pr.seg (pr.rows [[x8, x10, (pr.ld y11 0), x14]]) none (pr.natN 1)))
               (pr.bin .add false (pr.ld y6 0) (pr.lit (.int Go.IntKind.i64 (1))) fun x15 =>
               (J2 1 [.n (pr.len (pr.seg (pr.rows [[x8, x10, (pr.ld y11 0), x14]]) none (pr.natN 1))), .n (pr.len (pr.seg (pr.rows [[x8, x10, (pr.ld y11 0), x14]]) none (pr.natN 1))), .d x15, .r (pr.lr y6 1), .r (pr.seg (pr.rows [[x8, x10, (pr.ld y11 0), x14]]) none (pr.natN 1)), .n (pr.ln y6 5), .n (pr.ln y6 6), .d (pr.ld y6 7), .d (pr.ld y6 8), .d (pr.ld y6 9)]))))))]))]))])))])
      (pr.out 0 [.r (pr.lr y2 1), .n (pr.ln y2 2), .n (pr.ln y2 3)]))))))
def L25_11  : (Nat → List (Y Δ N R M) → Ω) → E → Ω := fun J2 y2 =>
 (pr.lenD (pr.ld y2 9) fun x3 =>
   (pr.bin .lss false (pr.ld y2 2) x3 fun x4 =>
    (pr.cond x4
     (pr.bin .lss false (pr.ld y2 2) (pr.lit (.int Go.IntKind.i64 (6))) fun x5 =>
     (pr.cond x5
      (pr.bnd (pr.lenD (pr.ld y2 9) fun x6 =>
      (pr.bin .lss false (pr.ld y2 2) x6 fun x7 =>
       (pr.cond x7
        (pr.rowD 3 (pr.ld y2 9) (pr.ld y2 2) fun w8 =>
        (pr.out 0 [.n (pr.ln y2 0), .n (pr.ln y2 1), .d (pr.ld y2 2), .r (pr.lr y2 3), .d (pr.cell w8 0), .d (pr.cell w8 1), .d (pr.cell w8 2), .r (pr.lr y2 4), .n (pr.ln y2 5), .n (pr.ln y2 6), .d (pr.ld y2 7), .d (pr.ld y2 8), .d (pr.ld y2 9)]))
        (pr.out 0 [.n (pr.ln y2 0), .n (pr.ln y2 1), .d (pr.ld y2 2), .r (pr.lr y2 3), .d (pr.lit (.int Go.IntKind.i64 (0))), .d (pr.lit (.int Go.IntKind.i64 (0))), .d (pr.lit (.int Go.IntKind.i64 (0))), .r (pr.lr y2 4), .n (pr.ln y2 5), .n (pr.ln y2 6), .d (pr.ld y2 7), .d (pr.ld y2 8), .d (pr.ld y2 9)])))) [fun y6 => (pr.bin .mul false (pr.lit (.int Go.IntKind.i64 (2))) (pr.ld y6 2) fun x7 =>
       (pr.bin .add false (pr.lit (.int Go.IntKind.i64 (3))) x7 fun x8 =>
        (pr.bnd (pr.call 26 [(pr.ld y6 4), (pr.lit (.int Go.IntKind.i64 (4)))]) [fun y9 => (pr.bin .add false (pr.lit (.int Go.IntKind.i64 (1))) (pr.ld y9 0) fun x10 =>
          (pr.bnd (pr.call 26 [(pr.ld y6 5), (pr.lit (.int Go.IntKind.i64 (0)))]) [fun y11 => (pr.bin .sub false (pr.lit (.int Go.IntKind.i64 (0))) (pr.ld y11 0) fun x12 =>
            (pr.bnd (pr.call 26 [(pr.ld y6 6), x12]) [fun y13 => (pr.bin .add false (pr.ld y11 0) (pr.ld y13 0) fun x14 =>
              (pr.eqN (pr.natN 1) (pr.len (pr.rows [[x8, x10, (pr.ld y11 0), x14]])) (pr.eqN (pr.ln y6 1) (pr.len (pr.lr y6 7)) (pr.eqN (pr.ln y6 0) (pr.len (pr.lr y6 7)) (pr.fits 32 (pr.addN (pr.ln y6 0) (pr.len (pr.seg (pr.rows [[x8, x10, (pr.ld y11 0), x14]]) none (pr.natN 1))))
               (pr.bin .add false (pr.ld y6 2) (pr.lit (.int Go.IntKind.i64 (1))) fun x15 =>
               (J2 1 [.n (pr.addN (pr.ln y6 0) (pr.len (pr.seg (pr.rows [[x8, x10, (pr.ld y11 0), x14]]) none (pr.natN 1)))), .n (pr.addN (pr.ln y6 0) (pr.len (pr.seg (pr.rows [[x8, x10, (pr.ld y11 0), x14]]) none (pr.natN 1)))), .d x15, .r (pr.lr y6 3), .r (pr.app (pr.lr y6 7) (pr.seg (pr.rows [[x8, x10, (pr.ld y11 0), x14]]) none (pr.natN 1))), .n (pr.ln y6 8), .n (pr.ln y6 9), .d (pr.ld y6 10), .d (pr.ld y6 11), .d (pr.ld y6 12)])))))))]))]))])))])
      (pr.bin .eql false (pr.ld y2 2) (pr.lit (.int Go.IntKind.i64 (0))) fun x6 =>
      (pr.cond x6
       (pr.bnd (pr.lenD (pr.ld y2 9) fun x7 =>
       (pr.bin .lss false (pr.ld y2 2) x7 fun x8 =>
        (pr.cond x8
         (pr.rowD 3 (pr.ld y2 9) (pr.ld y2 2) fun w9 =>
         (pr.out 0 [.n (pr.ln y2 0), .n (pr.ln y2 1), .d (pr.ld y2 2), .r (pr.lr y2 3), .d (pr.cell w9 0), .d (pr.cell w9 1), .d (pr.cell w9 2), .r (pr.lr y2 4), .n (pr.ln y2 5), .n (pr.ln y2 6), .d (pr.ld y2 7), .d (pr.ld y2 8), .d (pr.ld y2 9)]))
         (pr.out 0 [.n (pr.ln y2 0), .n (pr.ln y2 1), .d (pr.ld y2 2), .r (pr.lr y2 3), .d (pr.lit (.int Go.IntKind.i64 (0))), .d (pr.lit (.int Go.IntKind.i64 (0))), .d (pr.lit (.int Go.IntKind.i64 (0))), .r (pr.lr y2 4), .n (pr.ln y2 5), .n (pr.ln y2 6), .d (pr.ld y2 7), .d (pr.ld y2 8), .d (pr.ld y2 9)])))) [fun y7 => (pr.bin .mul false (pr.lit (.int Go.IntKind.i64 (2))) (pr.ld y7 2) fun x8 =>
        (pr.bin .add false (pr.lit (.int Go.IntKind.i64 (3))) x8 fun x9 =>
         (pr.bnd (pr.call 26 [(pr.ld y7 4), (pr.lit (.int Go.IntKind.i64 (4)))]) [fun y10 => (pr.bin .add false (pr.lit (.int Go.IntKind.i64 (1))) (pr.ld y10 0) fun x11 =>
           (pr.bnd (pr.call 26 [(pr.ld y7 5), (pr.lit (.int Go.IntKind.i64 (0)))]) [fun y12 => (pr.bin .sub false (pr.lit (.int Go.IntKind.i64 (0))) (pr.ld y12 0) fun x13 =>
             (pr.bnd (pr.call 26 [(pr.ld y7 6), x13]) [fun y14 => (pr.bin .add false (pr.ld y12 0) (pr.ld y14 0) fun x15 =>
               (pr.eqN (pr.natN 1) (pr.len (pr.rows [[x9, x11, (pr.ld y12 0), x15]])) (pr.eqN (pr.ln y7 1) (pr.len (pr.lr y7 7)) (pr.eqN (pr.ln y7 0) (pr.len (pr.lr y7 7)) (pr.fits 32 (pr.addN (pr.ln y7 0) (pr.len (pr.seg (pr.rows [[x9, x11, (pr.ld y12 0), x15]]) none (pr.natN 1))))
                (pr.bin .add false (pr.ld y7 2) (pr.lit (.int Go.IntKind.i64 (1))) fun x16 =>
                (J2 1 [.n (pr.addN (pr.ln y7 0) (pr.len (pr.seg (pr.rows [[x9, x11, (pr.ld y12 0), x15]]) none (pr.natN 1)))), .n (pr.addN (pr.ln y7 0) (pr.len (pr.seg (pr.rows [[x9, x11, (pr.ld y12 0), x15]]) none (pr.natN 1)))), .d x16, .r (pr.lr y7 3), .r (pr.app (pr.lr y7 7) (pr.seg (pr.rows [[x9, x11, (pr.ld y12 0), x15]]) none (pr.natN 1))), .n (pr.ln y7 8), .n (pr.ln y7 9), .d (pr.ld y7 10), .d (pr.ld y7 11), .d (pr.ld y7 12)])))))))]))]))])))])
       (pr.out 1 [.n (pr.ln y2 0), .n (pr.ln y2 1), .r (pr.lr y2 3), .r (pr.lr y2 4), .n (pr.ln y2 5), .n (pr.ln y2 6)])))))
     (pr.bin .eql false (pr.ld y2 2) (pr.lit (.int Go.IntKind.i64 (0))) fun x5 =>
     (pr.cond x5
      (pr.bnd (pr.lenD (pr.ld y2 9) fun x6 =>
      (pr.bin .lss false (pr.ld y2 2) x6 fun x7 =>
       (pr.cond x7
        (pr.rowD 3 (pr.ld y2 9) (pr.ld y2 2) fun w8 =>
        (pr.out 0 [.n (pr.ln y2 0), .n (pr.ln y2 1), .d (pr.ld y2 2), .r (pr.lr y2 3), .d (pr.cell w8 0), .d (pr.cell w8 1), .d (pr.cell w8 2), .r (pr.lr y2 4), .n (pr.ln y2 5), .n (pr.ln y2 6), .d (pr.ld y2 7), .d (pr.ld y2 8), .d (pr.ld y2 9)]))
        (pr.out 0 [.n (pr.ln y2 0), .n (pr.ln y2 1), .d (pr.ld y2 2), .r (pr.lr y2 3), .d (pr.lit (.int Go.IntKind.i64 (0))), .d (pr.lit (.int Go.IntKind.i64 (0))), .d (pr.lit (.int Go.IntKind.i64 (0))), .r (pr.lr y2 4), .n (pr.ln y2 5), .n (pr.ln y2 6), .d (pr.ld y2 7), .d (pr.ld y2 8), .d (pr.ld y2 9)])))) [fun y6 => (pr.bin .mul false (pr.lit (.int Go.IntKind.i64 (2))) (pr.ld y6 2) fun x7 =>
       (pr.bin .add false (pr.lit (.int Go.IntKind.i64 (3))) x7 fun x8 =>
        (pr.bnd (pr.call 26 [(pr.ld y6 4), (pr.lit (.int Go.IntKind.i64 (4)))]) [fun y9 => (pr.bin .add false (pr.lit (.int Go.IntKind.i64 (1))) (pr.ld y9 0) fun x10 =>
          (pr.bnd (pr.call 26 [(pr.ld y6 5), (pr.lit (.int Go.IntKind.i64 (0)))]) [fun y11 => (pr.bin .sub false (pr.lit (.int Go.IntKind.i64 (0))) (pr.ld y11 0) fun x12 =>
            (pr.bnd (pr.call 26 [(pr.ld y6 6), x12]) [fun y13 => (pr.bin .add false (pr.ld y11 0) (pr.ld y13 0) fun x14 =>
              (pr.eqN (pr.natN 1) (pr.len (pr.rows [[x8, x10, (pr.ld y11 0), x14]])) (pr.eqN (pr.ln y6 1) (pr.len (pr.lr y6 7)) (pr.eqN (pr.ln y6 0) (pr.len (pr.lr y6 7)) (pr.fits 32 (pr.addN (pr.ln y6 0) (pr.len (pr.seg (pr.rows [[x8, x10, (pr.ld y11 0), x14]]) none (pr.natN 1))))
               (pr.bin .add false (pr.ld y6 2) (pr.lit (.int Go.IntKind.i64 (1))) fun x15 =>
               (J2 1 [.n (pr.addN (pr.ln y6 0) (pr.len (pr.seg (pr.rows [[x8, x10, (pr.ld y11 0), x14]]) none (pr.natN 1)))), .n (pr.addN (pr.ln y6 0) (pr.len (pr.seg (pr.rows [[x8, x10, (pr.ld y11 0), x14]]) none (pr.natN 1)))), .d x15, .r (pr.lr y6 3), .r (pr.app (pr.lr y6 7) (pr.seg (pr.rows [[x8, x10, (pr.ld y11 0), x14]]) none (pr.natN 1))), .n (pr.ln y6 8), .n (pr.ln y6 9), .d (pr.ld y6 10), .d (pr.ld y6 11), .d (pr.ld y6 12)])))))))]))]))])))])
      (pr.out 1 [.n (pr.ln y2 0), .n (pr.ln y2 1), .r (pr.lr y2 3), .r (pr.lr y2 4), .n (pr.ln y2 5), .n (pr.ln y2 6)]))))))
def L25_12  : (Nat → List (Y Δ N R M) → Ω) → E → Ω := fun J2 y2 =>
 (pr.lenD (pr.ld y2 9) fun x3 =>
   (pr.bin .lss false (pr.ld y2 0) x3 fun x4 =>
    (pr.cond x4
     (pr.bin .lss false (pr.ld y2 0) (pr.lit (.int Go.IntKind.i64 (6))) fun x5 =>
     (pr.cond x5
      (pr.bnd (pr.lenD (pr.ld y2 9) fun x6 =>
      (pr.bin .lss false (pr.ld y2 0) x6 fun x7 =>
       (pr.cond x7
        (pr.rowD 3 (pr.ld y2 9) (pr.ld y2 0) fun w8 =>
        (pr.out 0 [.d (pr.ld y2 0), .r (pr.lr y2 1), .r (pr.lr y2 2), .d (pr.cell w8 0), .d (pr.cell w8 1), .d (pr.cell w8 2), .n (pr.ln y2 3), .n (pr.ln y2 4), .n (pr.ln y2 5), .n (pr.ln y2 6), .d (pr.ld y2 7), .d (pr.ld y2 8), .d (pr.ld y2 9)]))
        (pr.out 0 [.d (pr.ld y2 0), .r (pr.lr y2 1), .r (pr.lr y2 2), .d (pr.lit (.int Go.IntKind.i64 (0))), .d (pr.lit (.int Go.IntKind.i64 (0))), .d (pr.lit (.int Go.IntKind.i64 (0))), .n (pr.ln y2 3), .n (pr.ln y2 4), .n (pr.ln y2 5), .n (pr.ln y2 6), .d (pr.ld y2 7), .d (pr.ld y2 8), .d (pr.ld y2 9)])))) [fun y6 => (pr.bin .mul false (pr.lit (.int Go.IntKind.i64 (2))) (pr.ld y6 0) fun x7 =>
       (pr.bin .add false (pr.lit (.int Go.IntKind.i64 (3))) x7 fun x8 =>
        (pr.bnd (pr.call 26 [(pr.ld y6 3), (pr.lit (.int Go.IntKind.i64 (4)))]) [fun y9 => (pr.bin .add false (pr.lit (.int Go.IntKind.i64 (1))) (pr.ld y9 0) fun x10 =>
          (pr.bnd (pr.call 26 [(pr.ld y6 4), (pr.natD (pr.ln y6 8))]) [fun y11 => (pr.bin .sub false (pr.natD (pr.ln y6 8)) (pr.ld y11 0) fun x12 =>
            (pr.bnd (pr.call 26 [(pr.ld y6 5), x12]) [fun y13 => (pr.bin .add false (pr.ld y11 0) (pr.ld y13 0) fun x14 =>
              (pr.eqN (pr.natN 1) (pr.len (pr.rows [[x8, x10, (pr.ld y11 0), x14]])) (pr.isNil (pr.seg (pr.rows [[x8, x10, (pr.ld y11 0), x14]]) none (pr.natN 1))
               (pr.bin .add false (pr.ld y6 0) (pr.lit (.int Go.IntKind.i64 (1))) fun x15 =>
               (J2 0 [.d x15, .r (pr.lr y6 1), .r (pr.lr y6 2), .n (pr.ln y6 6), .n (pr.ln y6 7), .n (pr.ln y6 8), .n (pr.ln y6 9), .d (pr.ld y6 10), .d (pr.ld y6 11), .d (pr.ld y6 12)]))
               (pr.fits 32 (pr.len (pr.seg (pr.rows [[x8, x10, (pr.ld y11 0), x14]]) none (pr.natN 1)))
               (pr.bin .add false (pr.ld y6 0) (pr.lit (.int Go.IntKind.i64 (1))) fun x15 =>
               (J2 1 [.n (pr.len (pr.seg (pr.rows [[x8, x10, (pr.ld y11 0), x14]]) none (pr.natN 1))), .n (pr.len (pr.seg (pr.rows [[x8, x10, (pr.ld y11 0), x14]]) none (pr.natN 1))), .d x15, .r (pr.lr y6 1), .r (pr.lr y6 2), .r (pr.seg (pr.rows [[x8, x10, (pr.ld y11 0), x14]]) none (pr.natN 1)), .n (pr.ln y6 6), .n (pr.ln y6 7), .n (pr.ln y6 8), .n (pr.ln y6 9), .d (pr.ld y6 10), .d (pr.ld y6 11), .d (pr.ld y6 12)]))))))]))]))])))])
      (pr.bin .eql false (pr.ld y2 0) (pr.lit (.int Go.IntKind.i64 (0))) fun x6 =>
      (pr.cond x6
       (pr.bnd (pr.lenD (pr.ld y2 9) fun x7 =>
       (pr.bin .lss false (pr.ld y2 0) x7 fun x8 =>
        (pr.cond x8
         (pr.rowD 3 (pr.ld y2 9) (pr.ld y2 0) fun w9 =>
         (pr.out 0 [.d (pr.ld y2 0), .r (pr.lr y2 1), .r (pr.lr y2 2), .d (pr.cell w9 0), .d (pr.cell w9 1), .d (pr.cell w9 2), .n (pr.ln y2 3), .n (pr.ln y2 4), .n (pr.ln y2 5), .n (pr.ln y2 6), .d (pr.ld y2 7), .d (pr.ld y2 8), .d (pr.ld y2 9)]))
         (pr.out 0 [.d (pr.ld y2 0), .r (pr.lr y2 1), .r (pr.lr y2 2), .d (pr.lit (.int Go.IntKind.i64 (0))), .d (pr.lit (.int Go.IntKind.i64 (0))), .d (pr.lit (.int Go.IntKind.i64 (0))), .n (pr.ln y2 3), .n (pr.ln y2 4), .n (pr.ln y2 5), .n (pr.ln y2 6), .d (pr.ld y2 7), .d (pr.ld y2 8), .d (pr.ld y2 9)])))) [fun y7 => (pr.bin .mul false (pr.lit (.int Go.IntKind.i64 (2))) (pr.ld y7 0) fun x8 =>
        (pr.bin .add false (pr.lit (.int Go.IntKind.i64 (3))) x8 fun x9 =>
         (pr.bnd (pr.call 26 [(pr.ld y7 3), (pr.lit (.int Go.IntKind.i64 (4)))]) [fun y10 => (pr.bin .add false (pr.lit (.int Go.IntKind.i64 (1))) (pr.ld y10 0) fun x11 =>
           (pr.bnd (pr.call 26 [(pr.ld y7 4), (pr.natD (pr.ln y7 8))]) [fun y12 => (pr.bin .sub false (pr.natD (pr.ln y7 8)) (pr.ld y12 0) fun x13 =>
             (pr.bnd (pr.call 26 [(pr.ld y7 5), x13]) [fun y14 => (pr.bin .add false (pr.ld y12 0) (pr.ld y14 0) fun x15 =>
               (pr.eqN (pr.natN 1) (pr.len (pr.rows [[x9, x11, (pr.ld y12 0), x15]])) (pr.isNil (pr.seg (pr.rows [[x9, x11, (pr.ld y12 0), x15]]) none (pr.natN 1))
                (pr.bin .add false (pr.ld y7 0) (pr.lit (.int Go.IntKind.i64 (1))) fun x16 =>
                (J2 0 [.d x16, .r (pr.lr y7 1), .r (pr.lr y7 2), .n (pr.ln y7 6), .n (pr.ln y7 7), .n (pr.ln y7 8), .n (pr.ln y7 9), .d (pr.ld y7 10), .d (pr.ld y7 11), .d (pr.ld y7 12)]))
                (pr.fits 32 (pr.len (pr.seg (pr.rows [[x9, x11, (pr.ld y12 0), x15]]) none (pr.natN 1)))
                (pr.bin .add false (pr.ld y7 0) (pr.lit (.int Go.IntKind.i64 (1))) fun x16 =>
                (J2 1 [.n (pr.len (pr.seg (pr.rows [[x9, x11, (pr.ld y12 0), x15]]) none (pr.natN 1))), .n (pr.len (pr.seg (pr.rows [[x9, x11, (pr.ld y12 0), x15]]) none (pr.natN 1))), .d x16, .r (pr.lr y7 1), .r (pr.lr y7 2), .r (pr.seg (pr.rows [[x9, x11, (pr.ld y12 0), x15]]) none (pr.natN 1)), .n (pr.ln y7 6), .n (pr.ln y7 7), .n (pr.ln y7 8), .n (pr.ln y7 9), .d (pr.ld y7 10), .d (pr.ld y7 11), .d (pr.ld y7 12)]))))))]))]))])))])
       (pr.out 0 [.r (pr.lr y2 1), .r (pr.lr y2 2), .n (pr.ln y2 3), .n (pr.ln y2 4), .n (pr.ln y2 5), .n (pr.ln y2 6)])))))
     (pr.bin .eql false (pr.ld y2 0) (pr.lit (.int Go.IntKind.i64 (0))) fun x5 =>
     (pr.cond x5
      (pr.bnd (pr.lenD (pr.ld y2 9) fun x6 =>
      (pr.bin .lss false (pr.ld y2 0) x6 fun x7 =>
       (pr.cond x7
        (pr.rowD 3 (pr.ld y2 9) (pr.ld y2 0) fun w8 =>
        (pr.out 0 [.d (pr.ld y2 0), .r (pr.lr y2 1), .r (pr.lr y2 2), .d (pr.cell w8 0), .d (pr.cell w8 1), .d (pr.cell w8 2), .n (pr.ln y2 3), .n (pr.ln y2 4), .n (pr.ln y2 5), .n (pr.ln y2 6), .d (pr.ld y2 7), .d (pr.ld y2 8), .d (pr.ld y2 9)]))
        (pr.out 0 [.d (pr.ld y2 0), .r (pr.lr y2 1), .r (pr.lr y2 2), .d (pr.lit (.int Go.IntKind.i64 (0))), .d (pr.lit (.int Go.IntKind.i64 (0))), .d (pr.lit (.int Go.IntKind.i64 (0))), .n (pr.ln y2 3), .n (pr.ln y2 4), .n (pr.ln y2 5), .n (pr.ln y2 6), .d (pr.ld y2 7), .d (pr.ld y2 8), .d (pr.ld y2 9)])))) [fun y6 => (pr.bin .mul false (pr.lit (.int Go.IntKind.i64 (2))) (pr.ld y6 0) fun x7 =>
       (pr.bin .add false (pr.lit (.int Go.IntKind.i64 (3))) x7 fun x8 =>
        (pr.bnd (pr.call 26 [(pr.ld y6 3), (pr.lit (.int Go.IntKind.i64 (4)))]) [fun y9 => (pr.bin .add false (pr.lit (.int Go.IntKind.i64 (1))) (pr.ld y9 0) fun x10 =>
          (pr.bnd (pr.call 26 [(pr.ld y6 4), (pr.natD (pr.ln y6 8))]) [fun y11 => (pr.bin .sub false (pr.natD (pr.ln y6 8)) (pr.ld y11 0) fun x12 =>
            (pr.bnd (pr.call 26 [(pr.ld y6 5), x12]) [fun y13 => (pr.bin .add false (pr.ld y11 0) (pr.ld y13 0) fun x14 =>
              (pr.eqN (pr.natN 1) (pr.len (pr.rows [[x8, x10, (pr.ld y11 0), x14]])) (pr.isNil (pr.seg (pr.rows [[x8, x10, (pr.ld y11 0), x14]]) none (pr.natN 1))
               (pr.bin .add false (pr.ld y6 0) (pr.lit (.int Go.IntKind.i64 (1))) fun x15 =>
               (J2 0 [.d x15, .r (pr.lr y6 1), .r (pr.lr y6 2), .n (pr.ln y6 6), .n (pr.ln y6 7), .n (pr.ln y6 8), .n (pr.ln y6 9), .d (pr.ld y6 10), .d (pr.ld y6 11), .d (pr.ld y6 12)]))
               (pr.fits 32 (pr.len (pr.seg (pr.rows [[x8, x10, (pr.ld y11 0), x14]]) none (pr.natN 1)))
               (pr.bin .add false (pr.ld y6 0) (pr.lit (.int Go.IntKind.i64 (1))) fun x15 =>
               (J2 1 [.n (pr.len (pr.seg (pr.rows [[x8, x10, (pr.ld y11 0), x14]]) none (pr.natN 1))), .n (pr.len (pr.seg (pr.rows [[x8, x10, (pr.ld y11 0), x14]]) none (pr.natN 1))), .d x15, .r (pr.lr y6 1), .r (pr.lr y6 2), .r (pr.seg (pr.rows [[x8, x10, (pr.ld y11 0), x14]]) none (pr.natN 1)), .n (pr.ln y6 6), .n (pr.ln y6 7), .n (pr.ln y6 8), .n (pr.ln y6 9), .d (pr.ld y6 10), .d (pr.ld y6 11), .d (pr.ld y6 12)]))))))]))]))])))])
      (pr.out 0 [.r (pr.lr y2 1), .r (pr.lr y2 2), .n (pr.ln y2 3), .n (pr.ln y2 4), .n (pr.ln y2 5), .n (pr.ln y2 6)]))))))
def L25_13  : (Nat → List (Y Δ N R M) → Ω) → E → Ω := fun J2 y2 =>
 (pr.lenD (pr.ld y2 12) fun x3 =>
   (pr.bin .lss false (pr.ld y2 2) x3 fun x4 =>
    (pr.cond x4
     (pr.bin .lss false (pr.ld y2 2) (pr.lit (.int Go.IntKind.i64 (6))) fun x5 =>
     (pr.cond x5
      (pr.bnd (pr.lenD (pr.ld y2 12) fun x6 =>
      (pr.bin .lss false (pr.ld y2 2) x6 fun x7 =>
       (pr.cond x7
        (pr.rowD 3 (pr.ld y2 12) (pr.ld y2 2) fun w8 =>
        (pr.out 0 [.n (pr.ln y2 0), .n (pr.ln y2 1), .d (pr.ld y2 2), .r (pr.lr y2 3), .r (pr.lr y2 4), .d (pr.cell w8 0), .d (pr.cell w8 1), .d (pr.cell w8 2), .r (pr.lr y2 5), .n (pr.ln y2 6), .n (pr.ln y2 7), .n (pr.ln y2 8), .n (pr.ln y2 9), .d (pr.ld y2 10), .d (pr.ld y2 11), .d (pr.ld y2 12)]))
        (pr.out 0 [.n (pr.ln y2 0), .n (pr.ln y2 1), .d (pr.ld y2 2), .r (pr.lr y2 3), .r (pr.lr y2 4), .d (pr.lit (.int Go.IntKind.i64 (0))), .d (pr.lit (.int Go.IntKind.i64 (0))), .d (pr.lit (.int Go.IntKind.i64 (0))), .r (pr.lr y2 5), .n (pr.ln y2 6), .n (pr.ln y2 7), .n (pr.ln y2 8), .n (pr.ln y2 9), .d (pr.ld y2 10), .d (pr.ld y2 11), .d (pr.ld y2 12)])))) [fun y6 => (pr.bin .mul false (pr.lit (.int Go.IntKind.i64 (2))) (pr.ld y6 2) fun x7 =>
       (pr.bin .add false (pr.lit (.int Go.IntKind.i64 (3))) x7 fun x8 =>
        (pr.bnd (pr.call 26 [(pr.ld y6 5), (pr.lit (.int Go.IntKind.i64 (4)))]) [fun y9 => (pr.bin .add false (pr.lit (.int Go.IntKind.i64 (1))) (pr.ld y9 0) fun x10 =>
          (pr.bnd (pr.call 26 [(pr.ld y6 6), (pr.natD (pr.ln y6 11))]) [fun y11 => (pr.bin .sub false (pr.natD (pr.ln y6 11)) (pr.ld y11 0) fun x12 =>
            (pr.bnd (pr.call 26 [(pr.ld y6 7), x12]) [fun y13 => (pr.bin .add false (pr.ld y11 0) (pr.ld y13 0) fun x14 =>
              (pr.eqN (pr.natN 1) (pr.len (pr.rows [[x8, x10, (pr.ld y11 0), x14]])) (pr.eqN (pr.ln y6 1) (pr.len (pr.lr y6 8)) (pr.eqN (pr.ln y6 0) (pr.len (pr.lr y6 8)) (pr.fits 32 (pr.addN (pr.ln y6 0) (pr.len (pr.seg (pr.rows [[x8, x10, (pr.ld y11 0), x14]]) none (pr.natN 1))))
               (pr.bin .add false (pr.ld y6 2) (pr.lit (.int Go.IntKind.i64 (1))) fun x15 =>
               (J2 1 [.n (pr.addN (pr.ln y6 0) (pr.len (pr.seg (pr.rows [[x8, x10, (pr.ld y11 0), x14]]) none (pr.natN 1)))), .n (pr.addN (pr.ln y6 0) (pr.len (pr.seg (pr.rows [[x8, x10, (pr.ld y11 0), x14]]) none (pr.natN 1)))), .d x15, .r (pr.lr y6 3), .r (pr.lr y6 4), .r (pr.app (pr.lr y6 8) (pr.seg (pr.rows [[x8, x10, (pr.ld y11 0), x14]]) none (pr.natN 1))), .n (pr.ln y6 9), .n (pr.ln y6 10), .n (pr.ln y6 11), .n (pr.ln y6 12), .d (pr.ld y6 13), .d (pr.ld y6 14), .d (pr.ld y6 15)])))))))]))]))])))])
      (pr.bin .eql false (pr.ld y2 2) (pr.lit (.int Go.IntKind.i64 (0))) fun x6 =>
      (pr.cond x6
       (pr.bnd (pr.lenD (pr.ld y2 12) fun x7 =>
       (pr.bin .lss false (pr.ld y2 2) x7 fun x8 =>
        (pr.cond x8
         (pr.rowD 3 (pr.ld y2 12) (pr.ld y2 2) fun w9 =>
         (pr.out 0 [.n (pr.ln y2 0), .n (pr.ln y2 1), .d (pr.ld y2 2), .r (pr.lr y2 3), .r (pr.lr y2 4), .d (pr.cell w9 0), .d (pr.cell w9 1), .d (pr.cell w9 2), .r (pr.lr y2 5), .n (pr.ln y2 6), .n (pr.ln y2 7), .n (pr.ln y2 8), .n (pr.ln y2 9), .d (pr.ld y2 10), .d (pr.ld y2 11), .d (pr.ld y2 12)]))
         (pr.out 0 [.n (pr.ln y2 0), .n (pr.ln y2 1), .d (pr.ld y2 2), .r (pr.lr y2 3), .r (pr.lr y2 4), .d (pr.lit (.int Go.IntKind.i64 (0))), .d (pr.lit (.int Go.IntKind.i64 (0))), .d (pr.lit (.int Go.IntKind.i64 (0))), .r (pr.lr y2 5), .n (pr.ln y2 6), .n (pr.ln y2 7), .n (pr.ln y2 8), .n (pr.ln y2 9), .d (pr.ld y2 10), .d (pr.ld y2 11), .d (pr.ld y2 12)])))) [fun y7 => (pr.bin .mul false (pr.lit (.int Go.IntKind.i64 (2))) (pr.ld y7 2) fun x8 =>
        (pr.bin .add false (pr.lit (.int Go.IntKind.i64 (3))) x8 fun x9 =>
         (pr.bnd (pr.call 26 [(pr.ld y7 5), (pr.lit (.int Go.IntKind.i64 (4)))]) [fun y10 => (pr.bin .add false (pr.lit (.int Go.IntKind.i64 (1))) (pr.ld y10 0) fun x11 =>
           (pr.bnd (pr.call 26 [(pr.ld y7 6), (pr.natD (pr.ln y7 11))]) [fun y12 => (pr.bin .sub false (pr.natD (pr.ln y7 11)) (pr.ld y12 0) fun x13 =>
             (pr.bnd (pr.call 26 [(pr.ld y7 7), x13]) [fun y14 => (pr.bin .add false (pr.ld y12 0) (pr.ld y14 0) fun x15 =>
               (pr.eqN (pr.natN 1) (pr.len (pr.rows [[x9, x11, (pr.ld y12 0), x15]])) (pr.eqN (pr.ln y7 1) (pr.len (pr.lr y7 8)) (pr.eqN (pr.ln y7 0) (pr.len (pr.lr y7 8)) (pr.fits 32 (pr.addN (pr.ln y7 0) (pr.len (pr.seg (pr.rows [[x9, x11, (pr.ld y12 0), x15]]) none (pr.natN 1))))
                (pr.bin .add false (pr.ld y7 2) (pr.lit (.int Go.IntKind.i64 (1))) fun x16 =>
                (J2 1 [.n (pr.addN (pr.ln y7 0) (pr.len (pr.seg (pr.rows [[x9, x11, (pr.ld y12 0), x15]]) none (pr.natN 1)))), .n (pr.addN (pr.ln y7 0) (pr.len (pr.seg (pr.rows [[x9, x11, (pr.ld y12 0), x15]]) none (pr.natN 1)))), .d x16, .r (pr.lr y7 3), .r (pr.lr y7 4), .r (pr.app (pr.lr y7 8) (pr.seg (pr.rows [[x9, x11, (pr.ld y12 0), x15]]) none (pr.natN 1))), .n (pr.ln y7 9), .n (pr.ln y7 10), .n (pr.ln y7 11), .n (pr.ln y7 12), .d (pr.ld y7 13), .d (pr.ld y7 14), .d (pr.ld y7 15)])))))))]))]))])))])
       (pr.out 1 [.n (pr.ln y2 0), .n (pr.ln y2 1), .r (pr.lr y2 3), .r (pr.lr y2 4), .r (pr.lr y2 5), .n (pr.ln y2 6), .n (pr.ln y2 7), .n (pr.ln y2 8), .n (pr.ln y2 9)])))))
     (pr.bin .eql false (pr.ld y2 2) (pr.lit (.int Go.IntKind.i64 (0))) fun x5 =>
     (pr.cond x5
      (pr.bnd (pr.lenD (pr.ld y2 12) fun x6 =>
      (pr.bin .lss false (pr.ld y2 2) x6 fun x7 =>
       (pr.cond x7
        (pr.rowD 3 (pr.ld y2 12) (pr.ld y2 2) fun w8 =>
        (pr.out 0 [.n (pr.ln y2 0), .n (pr.ln y2 1), .d (pr.ld y2 2), .r (pr.lr y2 3), .r (pr.lr y2 4), .d (pr.cell w8 0), .d (pr.cell w8 1), .d (pr.cell w8 2), .r (pr.lr y2 5), .n (pr.ln y2 6), .n (pr.ln y2 7), .n (pr.ln y2 8), .n (pr.ln y2 9), .d (pr.ld y2 10), .d (pr.ld y2 11), .d (pr.ld y2 12)]))
        (pr.out 0 [.n (pr.ln y2 0), .n (pr.ln y2 1), .d (pr.ld y2 2), .r (pr.lr y2 3), .r (pr.lr y2 4), .d (pr.lit (.int Go.IntKind.i64 (0))), .d (pr.lit (.int Go.IntKind.i64 (0))), .d (pr.lit (.int Go.IntKind.i64 (0))), .r (pr.lr y2 5), .n (pr.ln y2 6), .n (pr.ln y2 7), .n (pr.ln y2 8), .n (pr.ln y2 9), .d (pr.ld y2 10), .d (pr.ld y2 11), .d (pr.ld y2 12)])))) [fun y6 => (pr.bin .mul false (pr.lit (.int Go.IntKind.i64 (2))) (pr.ld y6 2) fun x7 =>
       (pr.bin .add false (pr.lit (.int Go.IntKind.i64 (3))) x7 fun x8 =>
        (pr.bnd (pr.call 26 [(pr.ld y6 5), (pr.lit (.int Go.IntKind.i64 (4)))]) [fun y9 => (pr.bin .add false (pr.lit (.int Go.IntKind.i64 (1))) (pr.ld y9 0) fun x10 =>
          (pr.bnd (pr.call 26 [(pr.ld y6 6), (pr.natD (pr.ln y6 11))]) [fun y11 => (pr.bin .sub false (pr.natD (pr.ln y6 11)) (pr.ld y11 0) fun x12 =>
            (pr.bnd (pr.call 26 [(pr.ld y6 7), x12]) [fun y13 => (pr.bin .add false (pr.ld y11 0) (pr.ld y13 0) fun x14 =>
              (pr.eqN (pr.natN 1) (pr.len (pr.rows [[x8, x10, (pr.ld y11 0), x14]])) (pr.eqN (pr.ln y6 1) (pr.len (pr.lr y6 8)) (pr.eqN (pr.ln y6 0) (pr.len (pr.lr y6 8)) (pr.fits 32 (pr.addN (pr.ln y6 0) (pr.len (pr.seg (pr.rows [[x8, x10, (pr.ld y11 0), x14]]) none (pr.natN 1))))
               (pr.bin .add false (pr.ld y6 2) (pr.lit (.int Go.IntKind.i64 (1))) fun x15 =>
               (J2 1 [.n (pr.addN (pr.ln y6 0) (pr.len (pr.seg (pr.rows [[x8, x10, (pr.ld y11 0), x14]]) none (pr.natN 1)))), .n (pr.addN (pr.ln y6 0) (pr.len (pr.seg (pr.rows [[x8, x10, (pr.ld y11 0), x14]]) none (pr.natN 1)))), .d x15, .r (pr.lr y6 3), .r (pr.lr y6 4), .r (pr.app (pr.lr y6 8) (pr.seg (pr.rows [[x8, x10, (pr.ld y11 0), x14]]) none (pr.natN 1))), .n (pr.ln y6 9), .n (pr.ln y6 10), .n (pr.ln y6 11), .n (pr.ln y6 12), .d (pr.ld y6 13), .d (pr.ld y6 14), .d (pr.ld y6 15)])))))))]))]))])))])
      (pr.out 1 [.n (pr.ln y2 0), .n (pr.ln y2 1), .r (pr.lr y2 3), .r (pr.lr y2 4), .r (pr.lr y2 5), .n (pr.ln y2 6), .n (pr.ln y2 7), .n (pr.ln y2 8), .n (pr.ln y2 9)]))))))
def G25 (a0 a1 a2 : Δ) : Ω :=
 (pr.bnd (pr.loop [(L25_0 pr), (L25_1 pr)] 0 [.d (pr.lit (.int Go.IntKind.i64 (0))), .d a0, .d a1, .d a2]) [fun y0 => (pr.bnd (pr.loop [(L25_2 pr), (L25_3 pr)] 0 [.d (pr.lit (.int Go.IntKind.i64 (0))), .d (pr.ld y0 0), .d (pr.ld y0 1), .d (pr.ld y0 2)]) [fun y1 => (pr.bnd (pr.loop [(L25_4 pr), (L25_5 pr)] 0 [.d (pr.lit (.int Go.IntKind.i64 (0))), .d (pr.ld y1 0), .d (pr.ld y1 1), .d (pr.ld y1 2)]) [fun y2 => (pr.out 0 [.d (pr.lit (.slice none 0 0)), .d (pr.lit (.slice none 0 0)), .d (pr.lit (.slice none 0 0))]), fun y2 => (pr.eqN (pr.ln y2 1) (pr.len (pr.lr y2 2)) (pr.out 0 [.d (pr.lit (.slice none 0 0)), .d (pr.lit (.slice none 0 0)), .d (pr.slD 4 (pr.seg (pr.lr y2 2) none (pr.ln y2 0)))]))]), fun y1 => (pr.bnd (pr.loop [(L25_6 pr), (L25_7 pr)] 0 [.d (pr.lit (.int Go.IntKind.i64 (0))), .r (pr.lr y1 0), .n (pr.ln y1 1), .n (pr.ln y1 2), .d (pr.ld y1 3), .d (pr.ld y1 4), .d (pr.ld y1 5)]) [fun y2 => (pr.eqN (pr.ln y2 2) (pr.len (pr.lr y2 0)) (pr.out 0 [.d (pr.lit (.slice none 0 0)), .d (pr.slD 3 (pr.seg (pr.lr y2 0) none (pr.ln y2 1))), .d (pr.lit (.slice none 0 0))])), fun y2 => (pr.eqN (pr.ln y2 5) (pr.len (pr.lr y2 2)) (pr.eqN (pr.ln y2 1) (pr.len (pr.lr y2 3)) (pr.out 0 [.d (pr.lit (.slice none 0 0)), .d (pr.slD 3 (pr.seg (pr.lr y2 2) none (pr.ln y2 4))), .d (pr.slD 4 (pr.seg (pr.lr y2 3) none (pr.ln y2 0)))])))])]), fun y0 => (pr.bnd (pr.loop [(L25_8 pr), (L25_9 pr)] 0 [.d (pr.lit (.int Go.IntKind.i64 (0))), .r (pr.lr y0 0), .n (pr.ln y0 1), .n (pr.ln y0 2), .d (pr.ld y0 3), .d (pr.ld y0 4), .d (pr.ld y0 5)]) [fun y1 => (pr.bnd (pr.loop [(L25_10 pr), (L25_11 pr)] 0 [.d (pr.lit (.int Go.IntKind.i64 (0))), .r (pr.lr y1 0), .n (pr.ln y1 1), .n (pr.ln y1 2), .d (pr.ld y1 3), .d (pr.ld y1 4), .d (pr.ld y1 5)]) [fun y2 => (pr.eqN (pr.ln y2 2) (pr.len (pr.lr y2 0)) (pr.out 0 [.d (pr.slD 3 (pr.seg (pr.lr y2 0) none (pr.ln y2 1))), .d (pr.lit (.slice none 0 0)), .d (pr.lit (.slice none 0 0))])), fun y2 => (pr.eqN (pr.ln y2 5) (pr.len (pr.lr y2 2)) (pr.eqN (pr.ln y2 1) (pr.len (pr.lr y2 3)) (pr.out 0 [.d (pr.slD 3 (pr.seg (pr.lr y2 2) none (pr.ln y2 4))), .d (pr.lit (.slice none 0 0)), .d (pr.slD 4 (pr.seg (pr.lr y2 3) none (pr.ln y2 0)))])))]), fun y1 => (pr.bnd (pr.loop [(L25_12 pr), (L25_13 pr)] 0 [.d (pr.lit (.int Go.IntKind.i64 (0))), .r (pr.lr y1 0), .r (pr.lr y1 1), .n (pr.ln y1 2), .n (pr.ln y1 3), .n (pr.ln y1 4), .n (pr.ln y1 5), .d (pr.ld y1 6), .d (pr.ld y1 7), .d (pr.ld y1 8)]) [fun y2 => (pr.eqN (pr.ln y2 3) (pr.len (pr.lr y2 1)) (pr.eqN (pr.ln y2 5) (pr.len (pr.lr y2 0)) (pr.out 0 [.d (pr.slD 3 (pr.seg (pr.lr y2 1) none (pr.ln y2 2))), .d (pr.slD 3 (pr.seg (pr.lr y2 0) none (pr.ln y2 4))), .d (pr.lit (.slice none 0 0))]))), fun y2 => (pr.eqN (pr.ln y2 6) (pr.len (pr.lr y2 3)) (pr.eqN (pr.ln y2 8) (pr.len (pr.lr y2 2)) (pr.eqN (pr.ln y2 1) (pr.len (pr.lr y2 4)) (pr.out 0 [.d (pr.slD 3 (pr.seg (pr.lr y2 3) none (pr.ln y2 5))), .d (pr.slD 3 (pr.seg (pr.lr y2 2) none (pr.ln y2 7))), .d (pr.slD 4 (pr.seg (pr.lr y2 4) none (pr.ln y2 0)))]))))])])])
end
theorem G25_eq {Δ N R W M E Ω : Type} (pr : Pr Δ N R W M E Ω) (a0 a1 a2 : Δ) : fun3 pr tb Try.prog 400 25 [a0, a1, a2] = G25 pr a0 a1 a2 := by kernel_rfl
theorem F25 (n : Nat) (a0 a1 a2 : D) : FN (n + 1) 25 [a0, a1, a2] = G25 (RP n) a0 a1 a2 := G25_eq _ a0 a1 a2
end Go.VE
