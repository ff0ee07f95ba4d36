/- What the functions of this program do, made by a program of ours out of the evaluator itself. -/
import Derived.Test.YtdeodfmhbgejoaaMt
import Derived.KernelRfl
namespace Go.VE
open Go.RowKit Go.Proofs
set_option maxRecDepth 100000
set_option maxHeartbeats 4000000
section
variable {Δ N R W M E Ω : Type} (pr : Pr Δ N R W M E Ω)
/-! leazing/leazinglaw04.DriftShares -/
def L10_0  : (Nat → List (Y Δ N R M) → Ω) → E → Ω := fun J42 y42 =>
 (pr.lenD (pr.ld y42 0) fun x43 =>
             (pr.bin .lss false (pr.ld y42 2) x43 fun x44 =>
              (pr.cond x44
               (pr.rowD 2 (pr.ld y42 0) (pr.ld y42 2) fun w45 =>
               (pr.bnd (pr.call 56 [(pr.cell w45 0), (pr.cell w45 1), (pr.ld y42 3), (pr.ld y42 4)]) [fun y46 => (pr.cond (pr.ld y46 0)
                 (pr.out 0 [.d (pr.lit (.bool false))])
                 (pr.cond (pr.ld y42 1)
                 (pr.bin .add false (pr.ld y42 2) (pr.lit (.int Go.IntKind.i64 (1))) fun x47 =>
                 (J42 0 [.d (pr.ld y42 0), .d (pr.lit (.bool true)), .d x47, .d (pr.ld y42 3), .d (pr.ld y42 4)]))
                 (pr.rowD 2 (pr.ld y42 0) (pr.ld y42 2) fun w47 =>
                 (pr.eqs [true, true] false [(pr.cell w47 0), (pr.cell w47 1)] [(pr.ld y42 3), (pr.ld y42 4)] fun x48 => (pr.bin .add false (pr.ld y42 2) (pr.lit (.int Go.IntKind.i64 (1))) fun x49 =>
                   (J42 0 [.d (pr.ld y42 0), .d x48, .d x49, .d (pr.ld y42 3), .d (pr.ld y42 4)]))))))]))
               (pr.out 1 [.d (pr.ld y42 1)]))))
def L10_1  : (Nat → List (Y Δ N R M) → Ω) → E → Ω := fun J40 y40 =>
 (pr.lenD (pr.ld y40 0) fun x41 =>
           (pr.bin .lss false (pr.ld y40 2) x41 fun x42 =>
            (pr.cond x42
             (pr.rowD 2 (pr.ld y40 0) (pr.ld y40 2) fun w43 =>
             (pr.bnd (pr.call 56 [(pr.cell w43 0), (pr.cell w43 1), (pr.ld y40 3), (pr.ld y40 4)]) [fun y44 => (pr.cond (pr.ld y44 0)
               (pr.out 0 [.d (pr.lit (.bool false))])
               (pr.cond (pr.ld y40 1)
               (pr.bin .add false (pr.ld y40 2) (pr.lit (.int Go.IntKind.i64 (1))) fun x45 =>
               (J40 0 [.d (pr.ld y40 0), .d (pr.lit (.bool true)), .d x45, .d (pr.ld y40 3), .d (pr.ld y40 4)]))
               (pr.rowD 2 (pr.ld y40 0) (pr.ld y40 2) fun w45 =>
               (pr.eqs [true, true] false [(pr.cell w45 0), (pr.cell w45 1)] [(pr.ld y40 3), (pr.ld y40 4)] fun x46 => (pr.bin .add false (pr.ld y40 2) (pr.lit (.int Go.IntKind.i64 (1))) fun x47 =>
                 (J40 0 [.d (pr.ld y40 0), .d x46, .d x47, .d (pr.ld y40 3), .d (pr.ld y40 4)]))))))]))
             (pr.out 1 [.d (pr.ld y40 1)]))))
def G10 (a0 a1 a2 a3 a4 a5 a6 a7 a8 a9 : Δ) : Ω :=
 (pr.bnd (pr.call 11 []) [fun y0 => (pr.bnd (pr.call 45 [a0, a1, a2, a3]) [fun y1 => (pr.bnd (pr.call 46 [a0, a1, a2, a3]) [fun y2 => (pr.bnd (pr.call 27 [a0, a1, a2]) [fun y3 => (pr.bnd (pr.call 47 [a0, a1, a2]) [fun y4 => (pr.bnd (pr.call 48 [a0, a1, a2]) [fun y5 => (pr.bnd (pr.call 49 [a0, a1, a2]) [fun y6 => (pr.bnd (pr.call 50 [(pr.ld y1 0), (pr.ld y2 0)]) [fun y7 => (pr.bnd (pr.call 51 [(pr.ld y5 0), (pr.ld y6 0)]) [fun y8 => (pr.un .not (pr.ld y0 0) fun x9 => (pr.cond x9
          (pr.out 0 [.d (pr.lit (.bool false))])
          (pr.un .not (pr.ld y7 0) fun x10 => (pr.cond x10
           (pr.out 0 [.d (pr.lit (.bool false))])
           (pr.bin .neq false (pr.ld y1 1) (pr.ld y2 1) fun x11 =>
           (pr.cond x11
            (pr.out 0 [.d (pr.lit (.bool false))])
            (pr.eqs [true, true] true [(pr.ld y3 0), (pr.ld y3 1)] [(pr.ld y4 0), (pr.ld y4 1)] fun x12 => (pr.cond x12
             (pr.out 0 [.d (pr.lit (.bool false))])
             (pr.bin .neq false (pr.ld y3 2) (pr.ld y4 2) fun x13 =>
             (pr.cond x13
              (pr.out 0 [.d (pr.lit (.bool false))])
              (pr.un .not (pr.ld y8 0) fun x14 => (pr.cond x14
               (pr.out 0 [.d (pr.lit (.bool false))])
               (pr.bin .neq false (pr.ld y5 1) (pr.ld y6 1) fun x15 =>
               (pr.cond x15
                (pr.out 0 [.d (pr.lit (.bool false))])
                (pr.bnd (pr.call 36 [a0, a1, a2, a3]) [fun y16 => (pr.bnd (pr.call 52 [a0, a1, a2, a3]) [fun y17 => (pr.bin .neq false (pr.ld y16 0) (pr.ld y17 0) fun x18 =>
                  (pr.cond x18
                   (pr.out 0 [.d (pr.lit (.bool false))])
                   (pr.bnd (pr.call 35 [a0, a1, a2, a4, a5]) [fun y19 => (pr.bnd (pr.call 53 [a0, a1, a2, a4, a5]) [fun y20 => (pr.bin .neq false (pr.ld y19 0) (pr.ld y20 0) fun x21 =>
                     (pr.cond x21
                      (pr.out 0 [.d (pr.lit (.bool false))])
                      (pr.bnd (pr.call 44 [a0, a1, a2, a6, a7, a8, a9]) [fun y22 => (pr.bnd (pr.call 54 [a0, a1, a2, a6, a7, a8, a9]) [fun y23 => (pr.bin .neq false (pr.ld y22 0) (pr.ld y23 0) fun x24 =>
                        (pr.cond x24
                         (pr.out 0 [.d (pr.lit (.bool false))])
                         (pr.bnd (pr.call 33 [a0, a1, a2]) [fun y25 => (pr.bnd (pr.call 43 [a0, a1, a2]) [fun y26 => (pr.bnd (pr.call 34 [a0, a1, a2]) [fun y27 => (pr.bin .neq false (pr.ld y25 1) (pr.ld y4 2) fun x28 =>
                            (pr.cond x28
                             (pr.out 0 [.d (pr.lit (.bool false))])
                             (pr.bin .neq false (pr.ld y26 2) (pr.ld y4 2) fun x29 =>
                             (pr.cond x29
(pr.out 0 [.d (pr.lit (.bool false))])
(pr.bnd (pr.call 55 [a0, a1, a2]) [fun y30 => (pr.bin .neq false (pr.ld y27 2) (pr.ld y30 0) fun x31 =>
 (pr.cond x31
  (pr.out 0 [.d (pr.lit (.bool false))])
  (pr.bin .eql false (pr.ld y27 2) (pr.lit (.int Go.IntKind.i64 (0))) fun x32 =>
  (pr.cond x32
   (pr.bnd (pr.call 53 [a0, a1, a2, (pr.ld y27 0), (pr.ld y27 1)]) [fun y33 => (pr.bin .neq false (pr.ld y33 0) (pr.lit (.int Go.IntKind.i64 (0))) fun x34 =>
    (pr.cond x34
     (pr.out 0 [.d (pr.lit (.bool false))])
     (pr.bin .neq false (pr.ld y27 2) (pr.lit (.int Go.IntKind.i64 (0))) fun x35 =>
     (pr.bnd (pr.cond x35
      (pr.eqs [true, true] true [(pr.ld y27 0), (pr.ld y27 1)] [(pr.lit (.int Go.IntKind.i64 (0))), (pr.lit (.int Go.IntKind.i64 (0)))] fun x36 => (pr.out 0 [.d a2, .d (pr.ld y4 2), .d (pr.ld y25 0), .d x36, .d (pr.ld y26 0), .d (pr.ld y26 1), .d (pr.ld y4 0), .d (pr.ld y4 1), .d a0, .d a1]))
      (pr.out 0 [.d a2, .d (pr.ld y4 2), .d (pr.ld y25 0), .d (pr.lit (.bool false)), .d (pr.ld y26 0), .d (pr.ld y26 1), .d (pr.ld y4 0), .d (pr.ld y4 1), .d a0, .d a1])) [fun y36 => (pr.cond (pr.ld y36 3)
       (pr.out 0 [.d (pr.lit (.bool false))])
       (pr.bin .neq false (pr.ld y36 1) (pr.lit (.int Go.IntKind.i64 (0))) fun x37 =>
       (pr.cond x37
        (pr.lenD (pr.ld y36 2) fun x38 =>
        (pr.bin .eql false x38 (pr.lit (.int Go.IntKind.i64 (0))) fun x39 =>
         (pr.cond x39
          (pr.bin .eql false (pr.ld y36 4) (pr.lit (.int Go.IntKind.i64 (0))) fun x40 =>
          (pr.cond x40
           (pr.lenD (pr.ld y36 5) fun x41 =>
           (pr.bin .eql false x41 (pr.lit (.int Go.IntKind.i64 (0))) fun x42 =>
            (pr.out 0 [.d x42])))
           (pr.out 0 [.d (pr.lit (.bool false))])))
          (pr.out 0 [.d (pr.lit (.bool false))]))))
        (pr.bnd (pr.call 46 [(pr.ld y36 8), (pr.ld y36 9), (pr.ld y36 0), (pr.ld y36 2)]) [fun y38 => (pr.bin .neq false (pr.ld y38 1) (pr.lit (.int Go.IntKind.i64 (0))) fun x39 =>
         (pr.cond x39
          (pr.out 0 [.d (pr.lit (.bool false))])
          (pr.bnd (pr.call 54 [(pr.ld y36 8), (pr.ld y36 9), (pr.ld y36 0), (pr.ld y36 4), (pr.ld y36 5), (pr.ld y36 6), (pr.ld y36 7)]) [fun y40 => (pr.bin .neq false (pr.ld y40 0) (pr.lit (.int Go.IntKind.i64 (0))) fun x41 =>
           (pr.cond x41
            (pr.out 0 [.d (pr.lit (.bool false))])
            (pr.bnd (pr.loop [(L10_0 pr)] 0 [.d (pr.ld y38 0), .d (pr.lit (.bool false)), .d (pr.lit (.int Go.IntKind.i64 (0))), .d (pr.ld y36 6), .d (pr.ld y36 7)]) [fun y42 => (pr.out 0 [.d (pr.ld y42 0)]), fun y42 => (pr.out 0 [.d (pr.ld y42 0)])])))])))]))))]))))])
   (pr.bin .neq false (pr.ld y27 2) (pr.lit (.int Go.IntKind.i64 (0))) fun x33 =>
   (pr.bnd (pr.cond x33
    (pr.eqs [true, true] true [(pr.ld y27 0), (pr.ld y27 1)] [(pr.lit (.int Go.IntKind.i64 (0))), (pr.lit (.int Go.IntKind.i64 (0)))] fun x34 => (pr.out 0 [.d a2, .d (pr.ld y4 2), .d (pr.ld y25 0), .d x34, .d (pr.ld y26 0), .d (pr.ld y26 1), .d (pr.ld y4 0), .d (pr.ld y4 1), .d a0, .d a1]))
    (pr.out 0 [.d a2, .d (pr.ld y4 2), .d (pr.ld y25 0), .d (pr.lit (.bool false)), .d (pr.ld y26 0), .d (pr.ld y26 1), .d (pr.ld y4 0), .d (pr.ld y4 1), .d a0, .d a1])) [fun y34 => (pr.cond (pr.ld y34 3)
     (pr.out 0 [.d (pr.lit (.bool false))])
     (pr.bin .neq false (pr.ld y34 1) (pr.lit (.int Go.IntKind.i64 (0))) fun x35 =>
     (pr.cond x35
      (pr.lenD (pr.ld y34 2) fun x36 =>
      (pr.bin .eql false x36 (pr.lit (.int Go.IntKind.i64 (0))) fun x37 =>
       (pr.cond x37
        (pr.bin .eql false (pr.ld y34 4) (pr.lit (.int Go.IntKind.i64 (0))) fun x38 =>
        (pr.cond x38
         (pr.lenD (pr.ld y34 5) fun x39 =>
         (pr.bin .eql false x39 (pr.lit (.int Go.IntKind.i64 (0))) fun x40 =>
          (pr.out 0 [.d x40])))
         (pr.out 0 [.d (pr.lit (.bool false))])))
        (pr.out 0 [.d (pr.lit (.bool false))]))))
      (pr.bnd (pr.call 46 [(pr.ld y34 8), (pr.ld y34 9), (pr.ld y34 0), (pr.ld y34 2)]) [fun y36 => (pr.bin .neq false (pr.ld y36 1) (pr.lit (.int Go.IntKind.i64 (0))) fun x37 =>
       (pr.cond x37
        (pr.out 0 [.d (pr.lit (.bool false))])
        (pr.bnd (pr.call 54 [(pr.ld y34 8), (pr.ld y34 9), (pr.ld y34 0), (pr.ld y34 4), (pr.ld y34 5), (pr.ld y34 6), (pr.ld y34 7)]) [fun y38 => (pr.bin .neq false (pr.ld y38 0) (pr.lit (.int Go.IntKind.i64 (0))) fun x39 =>
         (pr.cond x39
          (pr.out 0 [.d (pr.lit (.bool false))])
          (pr.bnd (pr.loop [(L10_1 pr)] 0 [.d (pr.ld y36 0), .d (pr.lit (.bool false)), .d (pr.lit (.int Go.IntKind.i64 (0))), .d (pr.ld y34 6), .d (pr.ld y34 7)]) [fun y40 => (pr.out 0 [.d (pr.ld y40 0)]), fun y40 => (pr.out 0 [.d (pr.ld y40 0)])])))])))]))))]))))))])))))])])])))])])))])])))])])))))))))))))))])])])])])])])])])
/-! leazing/drift.Check -/
def L15_0  : (Nat → List (Y Δ N R M) → Ω) → E → Ω := fun J7 y7 =>
 (pr.bin .lss false (pr.ld y7 2) (pr.ld y7 1) fun x8 =>
        (pr.cond x8
         (pr.rowD 3 (pr.ld y7 0) (pr.ld y7 2) fun w9 =>
         (pr.bnd (pr.call 19 [(pr.cell w9 0), (pr.cell w9 1), (pr.cell w9 2)]) [fun y10 => (pr.bin .neq false (pr.ld y10 0) (pr.lit (.int Go.IntKind.i64 (0))) fun x11 =>
           (pr.cond x11
            (pr.out 0 [.d (pr.lit (.int Go.IntKind.i64 (42)))])
            (pr.bin .gtr false (pr.ld y7 2) (pr.lit (.int Go.IntKind.i64 (0))) fun x12 =>
            (pr.cond x12
             (pr.bin .sub false (pr.ld y7 2) (pr.lit (.int Go.IntKind.i64 (1))) fun x13 =>
             (pr.rowD 3 (pr.ld y7 3) x13 fun w14 =>
              (pr.bin .geq false (pr.cell w14 0) (pr.cell w9 0) fun x15 =>
               (pr.cond x15
                (pr.out 0 [.d (pr.lit (.int Go.IntKind.i64 (42)))])
                (pr.bin .add false (pr.ld y7 2) (pr.lit (.int Go.IntKind.i64 (1))) fun x16 =>
                (J7 0 [.d (pr.ld y7 0), .d (pr.ld y7 1), .d x16, .d (pr.ld y7 3), .d (pr.ld y7 4)]))))))
             (pr.bin .add false (pr.ld y7 2) (pr.lit (.int Go.IntKind.i64 (1))) fun x13 =>
             (J7 0 [.d (pr.ld y7 0), .d (pr.ld y7 1), .d x13, .d (pr.ld y7 3), .d (pr.ld y7 4)]))))))]))
         (pr.out 1 [.d (pr.ld y7 3), .d (pr.ld y7 4)])))
def L15_1  : (Nat → List (Y Δ N R M) → Ω) → E → Ω := fun J10 y10 =>
 (pr.bin .lss false (pr.ld y10 2) (pr.ld y10 1) fun x11 =>
           (pr.cond x11
            (pr.rowD 3 (pr.ld y10 0) (pr.ld y10 2) fun w12 =>
            (pr.look 0 [(.int Go.IntKind.i64 (0))] (pr.lm y10 3) (pr.cell w12 0) fun w13 x13 =>
             (pr.bnd (pr.call 21 [(pr.cell w12 0), (pr.cell w12 1), (pr.cell w12 2)]) [fun y14 => (pr.bin .neq false (pr.ld y14 0) (pr.lit (.int Go.IntKind.i64 (0))) fun x15 =>
               (pr.cond x15
                (pr.out 0 [.d (pr.lit (.int Go.IntKind.i64 (42)))])
                (pr.un .not x13 fun x16 => (pr.cond x16
                 (pr.out 0 [.d (pr.lit (.int Go.IntKind.i64 (42)))])
                 (pr.bin .add false (pr.ld y10 2) (pr.lit (.int Go.IntKind.i64 (1))) fun x17 =>
                 (J10 0 [.d (pr.ld y10 0), .d (pr.ld y10 1), .d x17, .m (pr.lm y10 3)]))))))])))
            (pr.out 1 [])))
def G15 (a0 a1 : Δ) : Ω :=
 (pr.lenD a0 fun x0 =>
(pr.bnd (pr.call 59 [x0, (pr.lit (.int Go.IntKind.i64 (1))), (pr.lit (.int Go.IntKind.i64 (6)))]) [fun y1 => (pr.un .not (pr.ld y1 0) fun x2 => (pr.cond x2
   (pr.out 0 [.d (pr.lit (.int Go.IntKind.i64 (42)))])
   (pr.lenD a1 fun x3 =>
   (pr.bnd (pr.call 59 [x3, (pr.lit (.int Go.IntKind.i64 (1))), (pr.lit (.int Go.IntKind.i64 (24)))]) [fun y4 => (pr.un .not (pr.ld y4 0) fun x5 => (pr.cond x5
      (pr.out 0 [.d (pr.lit (.int Go.IntKind.i64 (42)))])
      (pr.lenD a0 fun x6 =>
      (pr.bnd (pr.loop [(L15_0 pr)] 0 [.d a0, .d x6, .d (pr.lit (.int Go.IntKind.i64 (0))), .d a0, .d a1]) [fun y7 => (pr.out 0 [.d (pr.ld y7 0)]), fun y7 => (pr.bnd (pr.call 62 [(pr.ld y7 0), (pr.ld y7 1)]) [fun y8 => (pr.lenD (pr.ld y7 1) fun x9 =>
         (pr.bnd (pr.loop [(L15_1 pr)] 0 [.d (pr.ld y7 1), .d x9, .d (pr.lit (.int Go.IntKind.i64 (0))), .m (pr.lm y8 0)]) [fun y10 => (pr.out 0 [.d (pr.ld y10 0)]), fun y10 => (pr.out 0 [.d (pr.lit (.int Go.IntKind.i64 (0)))])]))])]))))]))))]))
/-! leazing/leazingref04.Check -/
def L16_0  : (Nat → List (Y Δ N R M) → Ω) → E → Ω := fun J6 y6 =>
 (pr.lenD (pr.ld y6 1) fun x7 =>
       (pr.bin .lss false (pr.ld y6 0) x7 fun x8 =>
        (pr.cond x8
         (pr.rowD 3 (pr.ld y6 1) (pr.ld y6 0) fun w9 =>
         (pr.bnd (pr.call 20 [(pr.cell w9 0), (pr.cell w9 1), (pr.cell w9 2)]) [fun y10 => (pr.bin .neq false (pr.ld y10 0) (pr.lit (.int Go.IntKind.i64 (0))) fun x11 =>
           (pr.cond x11
            (pr.out 0 [.d (pr.lit (.int Go.IntKind.i64 (42)))])
            (pr.bin .gtr false (pr.ld y6 0) (pr.lit (.int Go.IntKind.i64 (0))) fun x12 =>
            (pr.cond x12
             (pr.bin .sub false (pr.ld y6 0) (pr.lit (.int Go.IntKind.i64 (1))) fun x13 =>
             (pr.rowD 3 (pr.ld y6 1) x13 fun w14 =>
              (pr.rowD 3 (pr.ld y6 1) (pr.ld y6 0) fun w15 =>
               (pr.bin .geq false (pr.cell w14 0) (pr.cell w15 0) fun x16 =>
                (pr.cond x16
                 (pr.out 0 [.d (pr.lit (.int Go.IntKind.i64 (42)))])
                 (pr.bin .add false (pr.ld y6 0) (pr.lit (.int Go.IntKind.i64 (1))) fun x17 =>
                 (J6 0 [.d x17, .d (pr.ld y6 1), .d (pr.ld y6 2)])))))))
             (pr.bin .add false (pr.ld y6 0) (pr.lit (.int Go.IntKind.i64 (1))) fun x13 =>
             (J6 0 [.d x13, .d (pr.ld y6 1), .d (pr.ld y6 2)]))))))]))
         (pr.out 1 [.d (pr.ld y6 1), .d (pr.ld y6 2)]))))
def L16_1  : (Nat → List (Y Δ N R M) → Ω) → E → Ω := fun J7 y7 =>
 (pr.lenD (pr.ld y7 2) fun x8 =>
        (pr.bin .lss false (pr.ld y7 0) x8 fun x9 =>
         (pr.cond x9
          (pr.rowD 3 (pr.ld y7 2) (pr.ld y7 0) fun w10 =>
          (pr.bnd (pr.call 22 [(pr.cell w10 0), (pr.cell w10 1), (pr.cell w10 2)]) [fun y11 => (pr.bin .neq false (pr.ld y11 0) (pr.lit (.int Go.IntKind.i64 (0))) fun x12 =>
            (pr.cond x12
             (pr.out 0 [.d (pr.lit (.int Go.IntKind.i64 (42)))])
             (pr.rowD 3 (pr.ld y7 2) (pr.ld y7 0) fun w13 =>
             (pr.bnd (pr.call 63 [(pr.ld y7 1), (pr.ld y7 2), (pr.cell w13 0)]) [fun y14 => (pr.bin .lss false (pr.ld y14 0) (pr.lit (.int Go.IntKind.i64 (0))) fun x15 =>
               (pr.cond x15
                (pr.out 0 [.d (pr.lit (.int Go.IntKind.i64 (42)))])
                (pr.bin .add false (pr.ld y7 0) (pr.lit (.int Go.IntKind.i64 (1))) fun x16 =>
                (J7 0 [.d x16, .d (pr.ld y7 1), .d (pr.ld y7 2)]))))]))))]))
          (pr.out 1 []))))
def G16 (a0 a1 : Δ) : Ω :=
 (pr.lenD a0 fun x0 =>
(pr.bnd (pr.call 61 [x0, (pr.lit (.int Go.IntKind.i64 (1))), (pr.lit (.int Go.IntKind.i64 (6)))]) [fun y1 => (pr.un .not (pr.ld y1 0) fun x2 => (pr.cond x2
   (pr.out 0 [.d (pr.lit (.int Go.IntKind.i64 (42)))])
   (pr.lenD a1 fun x3 =>
   (pr.bnd (pr.call 61 [x3, (pr.lit (.int Go.IntKind.i64 (1))), (pr.lit (.int Go.IntKind.i64 (24)))]) [fun y4 => (pr.un .not (pr.ld y4 0) fun x5 => (pr.cond x5
      (pr.out 0 [.d (pr.lit (.int Go.IntKind.i64 (42)))])
      (pr.bnd (pr.loop [(L16_0 pr)] 0 [.d (pr.lit (.int Go.IntKind.i64 (0))), .d a0, .d a1]) [fun y6 => (pr.out 0 [.d (pr.ld y6 0)]), fun y6 => (pr.bnd (pr.loop [(L16_1 pr)] 0 [.d (pr.lit (.int Go.IntKind.i64 (0))), .d (pr.ld y6 0), .d (pr.ld y6 1)]) [fun y7 => (pr.out 0 [.d (pr.ld y7 0)]), fun y7 => (pr.out 0 [.d (pr.lit (.int Go.IntKind.i64 (0)))])])])))]))))]))
/-! leazing/drift.CheckClaims -/
def L17_0  : (Nat → List (Y Δ N R M) → Ω) → E → Ω := fun J6 y6 =>
 (pr.bin .lss false (pr.ld y6 3) (pr.ld y6 2) fun x7 =>
       (pr.cond x7
        (pr.rowD 4 (pr.ld y6 1) (pr.ld y6 3) fun w8 =>
        (pr.cutD 4 (pr.ld y6 0) none (some (pr.ld y6 3)) fun x9 =>
         (pr.bnd (pr.call 64 [x9, (pr.fnD 65 [(pr.dpD [(pr.cell w8 0), (pr.cell w8 1), (pr.cell w8 2), (pr.cell w8 3)] 0)])]) [fun y10 => (pr.lits [.d (pr.ld y10 0)]
           (pr.bnd (pr.call 23 [(pr.cell w8 0), (pr.cell w8 1), (pr.cell w8 2), (pr.cell w8 3)]) [fun y11 => (pr.bin .neq false (pr.ld y11 0) (pr.lit (.int Go.IntKind.i64 (0))) fun x12 =>
            (pr.cond x12
             (pr.out 0 [.d (pr.lit (.int Go.IntKind.i64 (44)))])
             (pr.cond (pr.ld y10 0)
             (pr.out 0 [.d (pr.lit (.int Go.IntKind.i64 (44)))])
             (pr.lenD (pr.ld y6 5) fun x13 =>
             (pr.bin .geq false (pr.cell w8 3) x13 fun x14 =>
              (pr.cond x14
               (pr.out 0 [.d (pr.lit (.int Go.IntKind.i64 (44)))])
               (pr.bin .add false (pr.ld y6 3) (pr.lit (.int Go.IntKind.i64 (1))) fun x15 =>
               (J6 0 [.d (pr.ld y6 0), .d (pr.ld y6 1), .d (pr.ld y6 2), .d x15, .d (pr.ld y6 4), .d (pr.ld y6 5)]))))))))]))])))
        (pr.out 1 [])))
def G17 (a0 a1 a2 : Δ) : Ω :=
 (pr.bnd (pr.call 15 [a0, a1]) [fun y0 => (pr.bin .neq false (pr.ld y0 0) (pr.lit (.int Go.IntKind.i64 (0))) fun x1 =>
 (pr.cond x1
  (pr.out 0 [.d (pr.ld y0 0)])
  (pr.lenD a2 fun x2 =>
  (pr.bnd (pr.call 59 [x2, (pr.lit (.int Go.IntKind.i64 (1))), (pr.lit (.int Go.IntKind.i64 (12)))]) [fun y3 => (pr.un .not (pr.ld y3 0) fun x4 => (pr.cond x4
     (pr.out 0 [.d (pr.lit (.int Go.IntKind.i64 (44)))])
     (pr.lenD a2 fun x5 =>
     (pr.bnd (pr.loop [(L17_0 pr)] 0 [.d a2, .d a2, .d x5, .d (pr.lit (.int Go.IntKind.i64 (0))), .d a0, .d a1]) [fun y6 => (pr.out 0 [.d (pr.ld y6 0)]), fun y6 => (pr.out 0 [.d (pr.lit (.int Go.IntKind.i64 (0)))])]))))]))))])
/-! leazing/leazingref04.CheckClaims -/
def G18 (a0 a1 a2 : Δ) : Ω :=
 (pr.bnd (pr.call 16 [a0, a1]) [fun y0 => (pr.bin .neq false (pr.ld y0 0) (pr.lit (.int Go.IntKind.i64 (0))) fun x1 =>
 (pr.cond x1
  (pr.out 0 [.d (pr.lit (.int Go.IntKind.i64 (42)))])
  (pr.bnd (pr.call 66 [a0, a1, a2]) [fun y2 => (pr.un .not (pr.ld y2 0) fun x3 => (pr.cond x3
    (pr.out 0 [.d (pr.lit (.int Go.IntKind.i64 (44)))])
    (pr.out 0 [.d (pr.lit (.int Go.IntKind.i64 (0)))])))])))])
/-! leazing/drift.CheckChain -/
def G19 (a0 a1 a2 : Δ) : Ω :=
 (pr.bnd (pr.call 59 [a0, (pr.lit (.int Go.IntKind.i64 (1))), (pr.lit (.int Go.IntKind.i64 (99)))]) [fun y0 => (pr.un .not (pr.ld y0 0) fun x1 => (pr.cond x1
  (pr.out 0 [.d (pr.lit (.int Go.IntKind.i64 (40)))])
  (pr.bin .lss false a1 (pr.lit (.int Go.IntKind.i64 (1))) fun x2 =>
  (pr.cond x2
   (pr.out 0 [.d (pr.lit (.int Go.IntKind.i64 (40)))])
   (pr.bin .lss false a2 a1 fun x3 =>
   (pr.cond x3
    (pr.out 0 [.d (pr.lit (.int Go.IntKind.i64 (40)))])
    (pr.bin .gtr false a2 (pr.lit (.int Go.IntKind.i64 (1000))) fun x4 =>
    (pr.cond x4
     (pr.out 0 [.d (pr.lit (.int Go.IntKind.i64 (40)))])
     (pr.out 0 [.d (pr.lit (.int Go.IntKind.i64 (0)))])))))))))])
/-! leazing/leazingref04.CheckChain -/
def G20 (a0 a1 a2 : Δ) : Ω :=
 (pr.bnd (pr.call 61 [a0, (pr.lit (.int Go.IntKind.i64 (1))), (pr.lit (.int Go.IntKind.i64 (99)))]) [fun y0 => (pr.un .not (pr.ld y0 0) fun x1 => (pr.cond x1
  (pr.out 0 [.d (pr.lit (.int Go.IntKind.i64 (40)))])
  (pr.bnd (pr.call 61 [a1, (pr.lit (.int Go.IntKind.i64 (1))), a2]) [fun y2 => (pr.un .not (pr.ld y2 0) fun x3 => (pr.cond x3
    (pr.out 0 [.d (pr.lit (.int Go.IntKind.i64 (40)))])
    (pr.bin .gtr false a2 (pr.lit (.int Go.IntKind.i64 (1000))) fun x4 =>
    (pr.cond x4
     (pr.out 0 [.d (pr.lit (.int Go.IntKind.i64 (40)))])
     (pr.out 0 [.d (pr.lit (.int Go.IntKind.i64 (0)))])))))])))])
/-! leazing/drift.CheckCell -/
def G21 (a0 a1 a2 : Δ) : Ω :=
 (pr.bnd (pr.call 59 [a0, (pr.lit (.int Go.IntKind.i64 (1))), (pr.lit (.int Go.IntKind.i64 (99)))]) [fun y0 => (pr.un .not (pr.ld y0 0) fun x1 => (pr.cond x1
  (pr.out 0 [.d (pr.lit (.int Go.IntKind.i64 (41)))])
  (pr.bnd (pr.call 59 [a1, (pr.lit (.int Go.IntKind.i64 (1))), (pr.lit (.int Go.IntKind.i64 (1000)))]) [fun y2 => (pr.un .not (pr.ld y2 0) fun x3 => (pr.cond x3
    (pr.out 0 [.d (pr.lit (.int Go.IntKind.i64 (41)))])
    (pr.bnd (pr.call 59 [a2, (pr.lit (.int Go.IntKind.i64 (0))), (pr.lit (.int Go.IntKind.i64 (10000)))]) [fun y4 => (pr.un .not (pr.ld y4 0) fun x5 => (pr.cond x5
      (pr.out 0 [.d (pr.lit (.int Go.IntKind.i64 (41)))])
      (pr.out 0 [.d (pr.lit (.int Go.IntKind.i64 (0)))])))])))])))])
/-! leazing/leazingref04.CheckCell -/
def G22 (a0 a1 a2 : Δ) : Ω :=
 (pr.bnd (pr.call 61 [a0, (pr.lit (.int Go.IntKind.i64 (1))), (pr.lit (.int Go.IntKind.i64 (99)))]) [fun y0 => (pr.un .not (pr.ld y0 0) fun x1 => (pr.cond x1
  (pr.out 0 [.d (pr.lit (.int Go.IntKind.i64 (41)))])
  (pr.bnd (pr.call 61 [a1, (pr.lit (.int Go.IntKind.i64 (1))), (pr.lit (.int Go.IntKind.i64 (1000)))]) [fun y2 => (pr.un .not (pr.ld y2 0) fun x3 => (pr.cond x3
    (pr.out 0 [.d (pr.lit (.int Go.IntKind.i64 (41)))])
    (pr.bnd (pr.call 61 [a2, (pr.lit (.int Go.IntKind.i64 (0))), (pr.lit (.int Go.IntKind.i64 (10000)))]) [fun y4 => (pr.un .not (pr.ld y4 0) fun x5 => (pr.cond x5
      (pr.out 0 [.d (pr.lit (.int Go.IntKind.i64 (41)))])
      (pr.out 0 [.d (pr.lit (.int Go.IntKind.i64 (0)))])))])))])))])
/-! leazing/drift.CheckClaim -/
def G23 (a0 a1 a2 a3 : Δ) : Ω :=
 (pr.bnd (pr.call 59 [a0, (pr.lit (.int Go.IntKind.i64 (1))), (pr.lit (.int Go.IntKind.i64 (99)))]) [fun y0 => (pr.un .not (pr.ld y0 0) fun x1 => (pr.cond x1
  (pr.out 0 [.d (pr.lit (.int Go.IntKind.i64 (43)))])
  (pr.bnd (pr.call 59 [a1, (pr.lit (.int Go.IntKind.i64 (1))), (pr.lit (.int Go.IntKind.i64 (20)))]) [fun y2 => (pr.un .not (pr.ld y2 0) fun x3 => (pr.cond x3
    (pr.out 0 [.d (pr.lit (.int Go.IntKind.i64 (43)))])
    (pr.bin .lss false a2 (pr.lit (.int Go.IntKind.i64 (0))) fun x4 =>
    (pr.cond x4
     (pr.out 0 [.d (pr.lit (.int Go.IntKind.i64 (43)))])
     (pr.bin .lss false a3 a2 fun x5 =>
     (pr.cond x5
      (pr.out 0 [.d (pr.lit (.int Go.IntKind.i64 (43)))])
      (pr.bin .geq false a3 (pr.lit (.int Go.IntKind.i64 (24))) fun x6 =>
      (pr.cond x6
       (pr.out 0 [.d (pr.lit (.int Go.IntKind.i64 (43)))])
       (pr.out 0 [.d (pr.lit (.int Go.IntKind.i64 (0)))])))))))))])))])
/-! leazing/leazingref04.CheckClaim -/
def G24 (a0 a1 a2 a3 : Δ) : Ω :=
 (pr.bnd (pr.call 61 [a0, (pr.lit (.int Go.IntKind.i64 (1))), (pr.lit (.int Go.IntKind.i64 (99)))]) [fun y0 => (pr.un .not (pr.ld y0 0) fun x1 => (pr.cond x1
  (pr.out 0 [.d (pr.lit (.int Go.IntKind.i64 (43)))])
  (pr.bnd (pr.call 61 [a1, (pr.lit (.int Go.IntKind.i64 (1))), (pr.lit (.int Go.IntKind.i64 (20)))]) [fun y2 => (pr.un .not (pr.ld y2 0) fun x3 => (pr.cond x3
    (pr.out 0 [.d (pr.lit (.int Go.IntKind.i64 (43)))])
    (pr.bnd (pr.call 61 [a2, (pr.lit (.int Go.IntKind.i64 (0))), a3]) [fun y4 => (pr.un .not (pr.ld y4 0) fun x5 => (pr.cond x5
      (pr.out 0 [.d (pr.lit (.int Go.IntKind.i64 (43)))])
      (pr.bin .geq false a3 (pr.lit (.int Go.IntKind.i64 (24))) fun x6 =>
      (pr.cond x6
       (pr.out 0 [.d (pr.lit (.int Go.IntKind.i64 (43)))])
       (pr.out 0 [.d (pr.lit (.int Go.IntKind.i64 (0)))])))))])))])))])
/-! leazing/drift.Least -/
def G27 (a0 a1 a2 : Δ) : Ω :=
 (pr.bnd (pr.call 67 [a0, a1, a2]) [fun y0 => (pr.bin .neq false (pr.ld y0 1) (pr.lit (.int Go.IntKind.i64 (0))) fun x1 =>
 (pr.cond x1
  (pr.out 0 [.d (pr.lit (.int Go.IntKind.i64 (0))), .d (pr.lit (.int Go.IntKind.i64 (0))), .d (pr.ld y0 1)])
  (pr.ptrW 3 (pr.ld y0 0) fun w2 => (pr.bnd (pr.call 68 [(pr.cell w2 0), (pr.cell w2 1), (pr.cell w2 2)]) [fun y3 => (pr.un .not (pr.ld y3 6) fun x4 => (pr.cond x4
     (pr.out 0 [.d (pr.lit (.int Go.IntKind.i64 (0))), .d (pr.lit (.int Go.IntKind.i64 (0))), .d (pr.lit (.int Go.IntKind.i64 (47)))])
     (pr.out 0 [.d (pr.ld y3 1), .d (pr.ld y3 2), .d (pr.lit (.int Go.IntKind.i64 (0)))]))), fun y3 => (pr.un .not (pr.ld y3 6) fun x4 => (pr.cond x4
     (pr.out 0 [.d (pr.lit (.int Go.IntKind.i64 (0))), .d (pr.lit (.int Go.IntKind.i64 (0))), .d (pr.lit (.int Go.IntKind.i64 (47)))])
     (pr.out 0 [.d (pr.ld y3 1), .d (pr.ld y3 2), .d (pr.lit (.int Go.IntKind.i64 (0)))])))]))))])
/-! leazing/drift.Share -/
def G33 (a0 a1 a2 : Δ) : Ω :=
 (pr.bnd (pr.call 67 [a0, a1, a2]) [fun y0 => (pr.bin .neq false (pr.ld y0 1) (pr.lit (.int Go.IntKind.i64 (0))) fun x1 =>
 (pr.cond x1
  (pr.out 0 [.d (pr.lit (.slice none 0 0)), .d (pr.ld y0 1)])
  (pr.ptrW 3 (pr.ld y0 0) fun w2 => (pr.bnd (pr.call 68 [(pr.cell w2 0), (pr.cell w2 1), (pr.cell w2 2)]) [fun y3 => (pr.un .not (pr.ld y3 6) fun x4 => (pr.cond x4
     (pr.out 0 [.d (pr.lit (.slice none 0 0)), .d (pr.lit (.int Go.IntKind.i64 (47)))])
     (pr.out 0 [.d (pr.ld y3 0), .d (pr.lit (.int Go.IntKind.i64 (0)))]))), fun y3 => (pr.un .not (pr.ld y3 6) fun x4 => (pr.cond x4
     (pr.out 0 [.d (pr.lit (.slice none 0 0)), .d (pr.lit (.int Go.IntKind.i64 (47)))])
     (pr.out 0 [.d (pr.ld y3 0), .d (pr.lit (.int Go.IntKind.i64 (0)))])))]))))])
/-! leazing/drift.Crowded -/
def L34_0  : (Nat → List (Y Δ N R M) → Ω) → E → Ω := fun J5 y5 =>
 (pr.eqN (pr.ln y5 6) (pr.len (pr.lr y5 1)) (pr.inx (pr.ld y5 2) (pr.ln y5 5) fun n6 => (pr.eqN (pr.ln y5 6) (pr.len (pr.lr y5 1)) (pr.rowAt 1 (pr.lr y5 1) n6 fun w7 => (pr.rowD 4 (pr.ld y5 0) (pr.ld y5 2) fun w8 =>
        (pr.bin .gtr false (pr.cell w7 0) (pr.cell w8 2) fun x9 =>
         (pr.cond x9
          (pr.bin .sub false (pr.ld y5 2) (pr.lit (.int Go.IntKind.i64 (1))) fun x10 =>
          (J5 0 [.d (pr.ld y5 0), .r (pr.lr y5 1), .d x10, .d (pr.ld y5 3), .d (pr.ld y5 4), .n (pr.ln y5 5), .n (pr.ln y5 6), .d (pr.ld y5 7), .d (pr.ld y5 8), .d (pr.ld y5 9)]))
          (pr.out 0 [.d (pr.ld y5 2), .d (pr.ld y5 3), .d (pr.ld y5 8), .d (pr.ld y5 9)]))))))))
def L34_1  : (Nat → List (Y Δ N R M) → Ω) → E → Ω := fun J6 y6 =>
 (pr.rowD 1 (pr.ld y6 4) (pr.ld y6 1) fun w7 =>
       (pr.rowD 4 (pr.ld y6 0) (pr.ld y6 1) fun w8 =>
        (pr.bin .gtr false (pr.cell w7 0) (pr.cell w8 2) fun x9 =>
         (pr.cond x9
          (pr.bin .sub false (pr.ld y6 1) (pr.lit (.int Go.IntKind.i64 (1))) fun x10 =>
          (J6 0 [.d (pr.ld y6 0), .d x10, .d (pr.ld y6 2), .d (pr.ld y6 3), .d (pr.ld y6 4), .d (pr.ld y6 5), .d (pr.ld y6 6), .d (pr.ld y6 7)]))
          (pr.out 0 [.d (pr.ld y6 1), .d (pr.ld y6 2), .d (pr.ld y6 6), .d (pr.ld y6 7)])))))
def G34 (a0 a1 a2 : Δ) : Ω :=
 (pr.bnd (pr.call 67 [a0, a1, a2]) [fun y0 => (pr.bin .neq false (pr.ld y0 1) (pr.lit (.int Go.IntKind.i64 (0))) fun x1 =>
 (pr.cond x1
  (pr.out 0 [.d (pr.lit (.int Go.IntKind.i64 (0))), .d (pr.lit (.int Go.IntKind.i64 (0))), .d (pr.ld y0 1)])
  (pr.ptrW 3 (pr.ld y0 0) fun w2 => (pr.bnd (pr.call 74 [(pr.cell w2 0), (pr.cell w2 1), (pr.cell w2 2), (pr.fnD 75 [])]) [fun y3 => (pr.cond (pr.ld y3 2)
    (pr.out 0 [.d (pr.lit (.int Go.IntKind.i64 (0))), .d (pr.lit (.int Go.IntKind.i64 (0))), .d (pr.lit (.int Go.IntKind.i64 (48)))])
    (pr.bin .sub false (pr.natD (pr.len (pr.lr y3 1))) (pr.lit (.int Go.IntKind.i64 (1))) fun x4 =>
    (pr.bnd (pr.loop [(L34_0 pr)] 0 [.d a2, .r (pr.lr y3 1), .d x4, .d x4, .d (pr.ld y3 0), .n (pr.len (pr.lr y3 1)), .n (pr.len (pr.lr y3 1)), .d (pr.ld y3 2), .d (pr.lit (.int Go.IntKind.i64 (0))), .d (pr.lit (.int Go.IntKind.i64 (0)))]) [fun y5 => (pr.out 0 [.d (pr.ld y5 0), .d (pr.ld y5 1), .d (pr.lit (.int Go.IntKind.i64 (0)))])]))), fun y3 => (pr.cond (pr.ld y3 2)
    (pr.out 0 [.d (pr.lit (.int Go.IntKind.i64 (0))), .d (pr.lit (.int Go.IntKind.i64 (0))), .d (pr.lit (.int Go.IntKind.i64 (48)))])
    (pr.lenD (pr.ld y3 1) fun x4 =>
    (pr.bin .sub false x4 (pr.lit (.int Go.IntKind.i64 (1))) fun x5 =>
     (pr.bnd (pr.loop [(L34_1 pr)] 0 [.d a2, .d x5, .d x5, .d (pr.ld y3 0), .d (pr.ld y3 1), .d (pr.ld y3 2), .d (pr.lit (.int Go.IntKind.i64 (0))), .d (pr.lit (.int Go.IntKind.i64 (0)))]) [fun y6 => (pr.out 0 [.d (pr.ld y6 0), .d (pr.ld y6 1), .d (pr.lit (.int Go.IntKind.i64 (0)))])]))))]))))])
/-! leazing/drift.CheckCrowd -/
def G35 (a0 a1 a2 a3 a4 : Δ) : Ω :=
 (pr.bnd (pr.call 67 [a0, a1, a2]) [fun y0 => (pr.bin .neq false (pr.ld y0 1) (pr.lit (.int Go.IntKind.i64 (0))) fun x1 =>
 (pr.cond x1
  (pr.out 0 [.d (pr.ld y0 1)])
  (pr.bin .lss false a3 (pr.lit (.int Go.IntKind.i64 (0))) fun x2 =>
  (pr.cond x2
   (pr.out 0 [.d (pr.lit (.int Go.IntKind.i64 (48)))])
   (pr.bin .lss false a4 a3 fun x3 =>
   (pr.cond x3
    (pr.out 0 [.d (pr.lit (.int Go.IntKind.i64 (48)))])
    (pr.lenD a2 fun x4 =>
    (pr.bin .geq false a4 x4 fun x5 =>
     (pr.cond x5
      (pr.out 0 [.d (pr.lit (.int Go.IntKind.i64 (48)))])
      (pr.rowD 4 a2 a4 fun w6 =>
      (pr.rowD 4 a2 a3 fun w7 =>
       (pr.bin .sub false (pr.cell w6 3) (pr.cell w7 2) fun x8 =>
        (pr.bin .add false x8 (pr.lit (.int Go.IntKind.i64 (1))) fun x9 =>
         (pr.mm true (pr.lit (.int Go.IntKind.i64 (0))) x9 fun x10 => (pr.bin .sub false a4 a3 fun x11 =>
           (pr.bin .gtr false x10 x11 fun x12 =>
            (pr.cond x12
             (pr.out 0 [.d (pr.lit (.int Go.IntKind.i64 (48)))])
             (pr.out 0 [.d (pr.lit (.int Go.IntKind.i64 (0)))]))))))))))))))))))])
/-! leazing/drift.CheckDrifts -/
def G36 (a0 a1 a2 a3 : Δ) : Ω :=
 (pr.bnd (pr.call 67 [a0, a1, a2]) [fun y0 => (pr.bin .neq false (pr.ld y0 1) (pr.lit (.int Go.IntKind.i64 (0))) fun x1 =>
 (pr.cond x1
  (pr.out 0 [.d (pr.ld y0 1)])
  (pr.ptrW 3 (pr.ld y0 0) fun w2 => (pr.bnd (pr.call 76 [(pr.cell w2 0), (pr.cell w2 1), (pr.cell w2 2), a3]) [fun y3 => (pr.un .not (pr.ld y3 0) fun x4 => (pr.cond x4
     (pr.out 0 [.d (pr.lit (.int Go.IntKind.i64 (46)))])
     (pr.out 0 [.d (pr.lit (.int Go.IntKind.i64 (0)))])))]))))])
/-! leazing/drift.Wall -/
def G43 (a0 a1 a2 : Δ) : Ω :=
 (pr.bnd (pr.call 67 [a0, a1, a2]) [fun y0 => (pr.bin .neq false (pr.ld y0 1) (pr.lit (.int Go.IntKind.i64 (0))) fun x1 =>
 (pr.cond x1
  (pr.out 0 [.d (pr.lit (.int Go.IntKind.i64 (0))), .d (pr.lit (.slice none 0 0)), .d (pr.ld y0 1)])
  (pr.ptrW 3 (pr.ld y0 0) fun w2 => (pr.bnd (pr.call 68 [(pr.cell w2 0), (pr.cell w2 1), (pr.cell w2 2)]) [fun y3 => (pr.un .not (pr.ld y3 6) fun x4 => (pr.cond x4
     (pr.out 0 [.d (pr.lit (.int Go.IntKind.i64 (0))), .d (pr.lit (.slice none 0 0)), .d (pr.lit (.int Go.IntKind.i64 (47)))])
     (pr.rowD 4 a2 (pr.lit (.int Go.IntKind.i64 (0))) fun w5 =>
     (pr.eqN (pr.len (pr.lr y3 4)) (pr.len (pr.lr y3 4)) (pr.inx (pr.lit (.int Go.IntKind.i64 (0))) (pr.len (pr.lr y3 4)) fun n6 => (pr.eqN (pr.len (pr.lr y3 4)) (pr.len (pr.lr y3 4)) (pr.rowAt 1 (pr.lr y3 4) n6 fun w7 => (pr.bin .sub false (pr.natD (pr.len (pr.lr y3 4))) (pr.lit (.int Go.IntKind.i64 (1))) fun x8 =>
        (pr.eqN (pr.len (pr.lr y3 4)) (pr.len (pr.setR (pr.lr y3 4) n6 [(pr.cell w5 2)])) (pr.inx x8 (pr.len (pr.lr y3 4)) fun n9 => (pr.eqN (pr.len (pr.lr y3 4)) (pr.len (pr.setR (pr.lr y3 4) n6 [(pr.cell w5 2)])) (pr.rowAt 1 (pr.setR (pr.lr y3 4) n6 [(pr.cell w5 2)]) n9 fun w10 => (pr.rowD 4 a2 x8 fun w11 =>
           (pr.mm true (pr.cell w10 0) (pr.cell w11 2) fun x12 => (pr.bin .add false x12 (pr.lit (.int Go.IntKind.i64 (1))) fun x13 =>
             (pr.rowD 4 a2 x8 fun w14 =>
              (pr.bin .add false (pr.cell w14 3) (pr.lit (.int Go.IntKind.i64 (2))) fun x15 =>
               (pr.mm true x13 x15 fun x16 => (pr.eqN (pr.natN 1) (pr.len (pr.rows [[x16]])) (pr.eqN (pr.len (pr.lr y3 4)) (pr.len (pr.setR (pr.lr y3 4) n6 [(pr.cell w5 2)])) (pr.eqN (pr.len (pr.lr y3 4)) (pr.len (pr.setR (pr.lr y3 4) n6 [(pr.cell w5 2)])) (pr.fits 8 (pr.addN (pr.len (pr.lr y3 4)) (pr.len (pr.seg (pr.rows [[x16]]) none (pr.natN 1))))
                 (pr.eqN (pr.addN (pr.len (pr.lr y3 4)) (pr.len (pr.seg (pr.rows [[x16]]) none (pr.natN 1)))) (pr.len (pr.app (pr.setR (pr.lr y3 4) n6 [(pr.cell w5 2)]) (pr.seg (pr.rows [[x16]]) none (pr.natN 1)))) (pr.out 0 [.d (pr.lit (.int Go.IntKind.i64 (0))), .d (pr.slD 1 (pr.seg (pr.app (pr.setR (pr.lr y3 4) n6 [(pr.cell w5 2)]) (pr.seg (pr.rows [[x16]]) none (pr.natN 1))) none (pr.addN (pr.len (pr.lr y3 4)) (pr.len (pr.seg (pr.rows [[x16]]) none (pr.natN 1)))))), .d (pr.lit (.int Go.IntKind.i64 (0)))])))))))))))))))))))))))), fun y3 => (pr.un .not (pr.ld y3 6) fun x4 => (pr.cond x4
     (pr.out 0 [.d (pr.lit (.int Go.IntKind.i64 (0))), .d (pr.lit (.slice none 0 0)), .d (pr.lit (.int Go.IntKind.i64 (47)))])
     (pr.rowD 4 a2 (pr.lit (.int Go.IntKind.i64 (0))) fun w5 =>
     (pr.rowD 1 (pr.ld y3 4) (pr.lit (.int Go.IntKind.i64 (0))) fun w6 =>
      pr.fail))))]))))])
/-! leazing/drift.CheckWall -/
def G44 (a0 a1 a2 a3 a4 a5 a6 : Δ) : Ω :=
 (pr.bnd (pr.call 67 [a0, a1, a2]) [fun y0 => (pr.bin .neq false (pr.ld y0 1) (pr.lit (.int Go.IntKind.i64 (0))) fun x1 =>
 (pr.cond x1
  (pr.out 0 [.d (pr.ld y0 1)])
  (pr.bnd (pr.call 69 [a5, a6]) [fun y2 => (pr.un .not (pr.ld y2 0) fun x3 => (pr.cond x3
    (pr.out 0 [.d (pr.lit (.int Go.IntKind.i64 (1)))])
    (pr.ptrW 3 (pr.ld y0 0) fun w4 => (pr.bnd (pr.call 84 [(pr.cell w4 0), (pr.cell w4 1), (pr.cell w4 2), a3, a4, a5, a6]) [fun y5 => (pr.un .not (pr.ld y5 0) fun x6 => (pr.cond x6
       (pr.out 0 [.d (pr.lit (.int Go.IntKind.i64 (49)))])
       (pr.out 0 [.d (pr.lit (.int Go.IntKind.i64 (0)))])))]))))])))])
/-! leazing/drift.Gains -/
def G45 (a0 a1 a2 a3 : Δ) : Ω :=
 (pr.bnd (pr.call 36 [a0, a1, a2, a3]) [fun y0 => (pr.bin .neq false (pr.ld y0 0) (pr.lit (.int Go.IntKind.i64 (0))) fun x1 =>
 (pr.cond x1
  (pr.out 0 [.d (pr.lit (.slice none 0 0)), .d (pr.ld y0 0)])
  (pr.bnd (pr.call 85 [a0, a1, a2, a3]) [fun y2 => (pr.lits [.r (pr.lr y2 0)]
   (pr.eqN (pr.len (pr.lr y2 0)) (pr.len (pr.lr y2 0)) (pr.out 0 [.d (pr.slD 2 (pr.seg (pr.lr y2 0) none (pr.len (pr.lr y2 0)))), .d (pr.lit (.int Go.IntKind.i64 (0)))]))), fun y2 => (pr.lits [.d (pr.ld y2 0)]
   (pr.out 0 [.d (pr.ld y2 0), .d (pr.lit (.int Go.IntKind.i64 (0)))]))])))])
/-! leazing/leazingref04.Gains -/
def L46_0  : (Nat → List (Y Δ N R M) → Ω) → E → Ω := fun J2 y2 =>
 (pr.lenD (pr.ld y2 0) fun x3 =>
   (pr.bin .lss false (pr.ld y2 2) x3 fun x4 =>
    (pr.cond x4
     (pr.rowD 2 (pr.ld y2 1) (pr.ld y2 2) fun w5 =>
     (pr.rowD 2 (pr.ld y2 1) (pr.ld y2 2) fun w6 =>
      (pr.bnd (pr.call 82 [(pr.ld y2 3), (pr.ld y2 4), (pr.cell w5 0), (pr.cell w6 1)]) [fun y7 => (pr.rowD 4 (pr.ld y2 0) (pr.ld y2 2) fun w8 =>
        (pr.bnd (pr.call 86 [(pr.ld y7 0), (pr.cell w8 1)]) [fun y9 => (pr.eqN (pr.natN 1) (pr.len (pr.rows [[(pr.ld y9 0), (pr.ld y9 1)]])) (pr.isNil (pr.seg (pr.rows [[(pr.ld y9 0), (pr.ld y9 1)]]) none (pr.natN 1))
          (pr.bin .add false (pr.ld y2 2) (pr.lit (.int Go.IntKind.i64 (1))) fun x10 =>
          (J2 0 [.d (pr.ld y2 0), .d (pr.ld y2 1), .d x10, .d (pr.ld y2 3), .d (pr.ld y2 4)]))
          (pr.fits 16 (pr.len (pr.seg (pr.rows [[(pr.ld y9 0), (pr.ld y9 1)]]) none (pr.natN 1)))
          (pr.bin .add false (pr.ld y2 2) (pr.lit (.int Go.IntKind.i64 (1))) fun x10 =>
          (J2 1 [.d (pr.ld y2 0), .d (pr.ld y2 1), .n (pr.len (pr.seg (pr.rows [[(pr.ld y9 0), (pr.ld y9 1)]]) none (pr.natN 1))), .n (pr.len (pr.seg (pr.rows [[(pr.ld y9 0), (pr.ld y9 1)]]) none (pr.natN 1))), .d x10, .r (pr.seg (pr.rows [[(pr.ld y9 0), (pr.ld y9 1)]]) none (pr.natN 1)), .d (pr.ld y2 3), .d (pr.ld y2 4)])))))]))])))
     (pr.out 0 []))))
def L46_1  : (Nat → List (Y Δ N R M) → Ω) → E → Ω := fun J2 y2 =>
 (pr.lenD (pr.ld y2 0) fun x3 =>
   (pr.bin .lss false (pr.ld y2 4) x3 fun x4 =>
    (pr.cond x4
     (pr.rowD 2 (pr.ld y2 1) (pr.ld y2 4) fun w5 =>
     (pr.rowD 2 (pr.ld y2 1) (pr.ld y2 4) fun w6 =>
      (pr.bnd (pr.call 82 [(pr.ld y2 6), (pr.ld y2 7), (pr.cell w5 0), (pr.cell w6 1)]) [fun y7 => (pr.rowD 4 (pr.ld y2 0) (pr.ld y2 4) fun w8 =>
        (pr.bnd (pr.call 86 [(pr.ld y7 0), (pr.cell w8 1)]) [fun y9 => (pr.eqN (pr.natN 1) (pr.len (pr.rows [[(pr.ld y9 0), (pr.ld y9 1)]])) (pr.eqN (pr.ln y2 3) (pr.len (pr.lr y2 5)) (pr.eqN (pr.ln y2 2) (pr.len (pr.lr y2 5)) (pr.fits 16 (pr.addN (pr.ln y2 2) (pr.len (pr.seg (pr.rows [[(pr.ld y9 0), (pr.ld y9 1)]]) none (pr.natN 1))))
          (pr.bin .add false (pr.ld y2 4) (pr.lit (.int Go.IntKind.i64 (1))) fun x10 =>
          (J2 1 [.d (pr.ld y2 0), .d (pr.ld y2 1), .n (pr.addN (pr.ln y2 2) (pr.len (pr.seg (pr.rows [[(pr.ld y9 0), (pr.ld y9 1)]]) none (pr.natN 1)))), .n (pr.addN (pr.ln y2 2) (pr.len (pr.seg (pr.rows [[(pr.ld y9 0), (pr.ld y9 1)]]) none (pr.natN 1)))), .d x10, .r (pr.app (pr.lr y2 5) (pr.seg (pr.rows [[(pr.ld y9 0), (pr.ld y9 1)]]) none (pr.natN 1))), .d (pr.ld y2 6), .d (pr.ld y2 7)]))))))]))])))
     (pr.out 1 [.n (pr.ln y2 2), .n (pr.ln y2 3), .r (pr.lr y2 5)]))))
def G46 (a0 a1 a2 a3 : Δ) : Ω :=
 (pr.bnd (pr.call 52 [a0, a1, a2, a3]) [fun y0 => (pr.bin .neq false (pr.ld y0 0) (pr.lit (.int Go.IntKind.i64 (0))) fun x1 =>
 (pr.cond x1
  (pr.out 0 [.d (pr.lit (.slice none 0 0)), .d (pr.ld y0 0)])
  (pr.bnd (pr.loop [(L46_0 pr), (L46_1 pr)] 0 [.d a2, .d a3, .d (pr.lit (.int Go.IntKind.i64 (0))), .d a0, .d a1]) [fun y2 => (pr.out 0 [.d (pr.lit (.slice none 0 0)), .d (pr.lit (.int Go.IntKind.i64 (0)))]), fun y2 => (pr.eqN (pr.ln y2 1) (pr.len (pr.lr y2 2)) (pr.out 0 [.d (pr.slD 2 (pr.seg (pr.lr y2 2) none (pr.ln y2 0))), .d (pr.lit (.int Go.IntKind.i64 (0)))]))])))])
/-! leazing/leazingref04.Least -/
def G47 (a0 a1 a2 : Δ) : Ω :=
 (pr.bnd (pr.call 18 [a0, a1, a2]) [fun y0 => (pr.bin .neq false (pr.ld y0 0) (pr.lit (.int Go.IntKind.i64 (0))) fun x1 =>
 (pr.cond x1
  (pr.out 0 [.d (pr.lit (.int Go.IntKind.i64 (0))), .d (pr.lit (.int Go.IntKind.i64 (0))), .d (pr.ld y0 0)])
  (pr.bnd (pr.call 87 [a0, a1, a2]) [fun y2 => (pr.bin .eql false (pr.ld y2 1) (pr.lit (.int Go.IntKind.i64 (0))) fun x3 =>
   (pr.cond x3
    (pr.out 0 [.d (pr.lit (.int Go.IntKind.i64 (0))), .d (pr.lit (.int Go.IntKind.i64 (0))), .d (pr.lit (.int Go.IntKind.i64 (47)))])
    (pr.out 0 [.d (pr.ld y2 0), .d (pr.ld y2 1), .d (pr.lit (.int Go.IntKind.i64 (0)))])))])))])
/-! leazing/drift.Moved -/
def L48_0  : (Nat → List (Y Δ N R M) → Ω) → E → Ω := fun J4 y4 =>
 (pr.bin .lss false (pr.ld y4 4) (pr.ld y4 3) fun x5 =>
     (pr.cond x5
      (pr.rowD 4 (pr.ld y4 2) (pr.ld y4 4) fun w6 =>
      (pr.cutD 4 (pr.ld y4 0) none (some (pr.ld y4 4)) fun x7 =>
       (pr.bin .add false (pr.ld y4 4) (pr.lit (.int Go.IntKind.i64 (1))) fun x8 =>
        (pr.cutD 4 (pr.ld y4 0) (some x8) none fun x9 =>
         (pr.eqN (pr.natN 2) (pr.len (pr.rows [[x7], [x9]])) (pr.bnd (pr.call 60 [(pr.slD 1 (pr.seg (pr.rows [[x7], [x9]]) none (pr.natN 2)))]) [fun y10 => (pr.lits [.r (pr.lr y10 0)]
           (pr.eqN (pr.len (pr.lr y10 0)) (pr.len (pr.lr y10 0)) (pr.bnd (pr.call 27 [(pr.ld y4 7), (pr.ld y4 8), (pr.slD 4 (pr.seg (pr.lr y10 0) none (pr.len (pr.lr y10 0))))]) [fun y11 => (pr.lits [.d (pr.ld y11 0), .d (pr.ld y11 1), .d (pr.ld y11 2)]
            (pr.bin .neq false (pr.ld y4 1) (pr.ld y11 2) fun x12 =>
            (pr.cond x12
             (pr.eqN (pr.natN 1) (pr.len (pr.rows [[(pr.cell w6 0)]])) (pr.isNil (pr.seg (pr.rows [[(pr.cell w6 0)]]) none (pr.natN 1))
             (pr.bin .add false (pr.ld y4 4) (pr.lit (.int Go.IntKind.i64 (1))) fun x13 =>
             (J4 0 [.d (pr.ld y4 0), .d (pr.ld y4 1), .d (pr.ld y4 2), .d (pr.ld y4 3), .d x13, .d (pr.ld y4 5), .d (pr.ld y4 6), .d (pr.ld y4 7), .d (pr.ld y4 8)]))
             (pr.fits 8 (pr.len (pr.seg (pr.rows [[(pr.cell w6 0)]]) none (pr.natN 1)))
             (pr.bin .add false (pr.ld y4 4) (pr.lit (.int Go.IntKind.i64 (1))) fun x13 =>
             (J4 1 [.d (pr.ld y4 0), .d (pr.ld y4 1), .n (pr.len (pr.seg (pr.rows [[(pr.cell w6 0)]]) none (pr.natN 1))), .n (pr.len (pr.seg (pr.rows [[(pr.cell w6 0)]]) none (pr.natN 1))), .d (pr.ld y4 2), .d (pr.ld y4 3), .d x13, .r (pr.seg (pr.rows [[(pr.cell w6 0)]]) none (pr.natN 1)), .d (pr.ld y4 5), .d (pr.ld y4 6), .d (pr.ld y4 7), .d (pr.ld y4 8)])))))
             (pr.eqs [true, true] true [(pr.ld y4 5), (pr.ld y4 6)] [(pr.ld y11 0), (pr.ld y11 1)] fun x13 => (pr.cond x13
              (pr.eqN (pr.natN 1) (pr.len (pr.rows [[(pr.cell w6 0)]])) (pr.isNil (pr.seg (pr.rows [[(pr.cell w6 0)]]) none (pr.natN 1))
              (pr.bin .add false (pr.ld y4 4) (pr.lit (.int Go.IntKind.i64 (1))) fun x14 =>
              (J4 0 [.d (pr.ld y4 0), .d (pr.ld y4 1), .d (pr.ld y4 2), .d (pr.ld y4 3), .d x14, .d (pr.ld y4 5), .d (pr.ld y4 6), .d (pr.ld y4 7), .d (pr.ld y4 8)]))
              (pr.fits 8 (pr.len (pr.seg (pr.rows [[(pr.cell w6 0)]]) none (pr.natN 1)))
              (pr.bin .add false (pr.ld y4 4) (pr.lit (.int Go.IntKind.i64 (1))) fun x14 =>
              (J4 1 [.d (pr.ld y4 0), .d (pr.ld y4 1), .n (pr.len (pr.seg (pr.rows [[(pr.cell w6 0)]]) none (pr.natN 1))), .n (pr.len (pr.seg (pr.rows [[(pr.cell w6 0)]]) none (pr.natN 1))), .d (pr.ld y4 2), .d (pr.ld y4 3), .d x14, .r (pr.seg (pr.rows [[(pr.cell w6 0)]]) none (pr.natN 1)), .d (pr.ld y4 5), .d (pr.ld y4 6), .d (pr.ld y4 7), .d (pr.ld y4 8)])))))
              (pr.bin .add false (pr.ld y4 4) (pr.lit (.int Go.IntKind.i64 (1))) fun x14 =>
              (J4 0 [.d (pr.ld y4 0), .d (pr.ld y4 1), .d (pr.ld y4 2), .d (pr.ld y4 3), .d x14, .d (pr.ld y4 5), .d (pr.ld y4 6), .d (pr.ld y4 7), .d (pr.ld y4 8)])))))))]))), fun y10 => (pr.lits [.d (pr.ld y10 0)]
           (pr.bnd (pr.call 27 [(pr.ld y4 7), (pr.ld y4 8), (pr.ld y10 0)]) [fun y11 => (pr.bin .neq false (pr.ld y4 1) (pr.ld y11 2) fun x12 =>
            (pr.cond x12
             (pr.eqN (pr.natN 1) (pr.len (pr.rows [[(pr.cell w6 0)]])) (pr.isNil (pr.seg (pr.rows [[(pr.cell w6 0)]]) none (pr.natN 1))
             (pr.bin .add false (pr.ld y4 4) (pr.lit (.int Go.IntKind.i64 (1))) fun x13 =>
             (J4 0 [.d (pr.ld y4 0), .d (pr.ld y4 1), .d (pr.ld y4 2), .d (pr.ld y4 3), .d x13, .d (pr.ld y4 5), .d (pr.ld y4 6), .d (pr.ld y4 7), .d (pr.ld y4 8)]))
             (pr.fits 8 (pr.len (pr.seg (pr.rows [[(pr.cell w6 0)]]) none (pr.natN 1)))
             (pr.bin .add false (pr.ld y4 4) (pr.lit (.int Go.IntKind.i64 (1))) fun x13 =>
             (J4 1 [.d (pr.ld y4 0), .d (pr.ld y4 1), .n (pr.len (pr.seg (pr.rows [[(pr.cell w6 0)]]) none (pr.natN 1))), .n (pr.len (pr.seg (pr.rows [[(pr.cell w6 0)]]) none (pr.natN 1))), .d (pr.ld y4 2), .d (pr.ld y4 3), .d x13, .r (pr.seg (pr.rows [[(pr.cell w6 0)]]) none (pr.natN 1)), .d (pr.ld y4 5), .d (pr.ld y4 6), .d (pr.ld y4 7), .d (pr.ld y4 8)])))))
             (pr.eqs [true, true] true [(pr.ld y4 5), (pr.ld y4 6)] [(pr.ld y11 0), (pr.ld y11 1)] fun x13 => (pr.cond x13
              (pr.eqN (pr.natN 1) (pr.len (pr.rows [[(pr.cell w6 0)]])) (pr.isNil (pr.seg (pr.rows [[(pr.cell w6 0)]]) none (pr.natN 1))
              (pr.bin .add false (pr.ld y4 4) (pr.lit (.int Go.IntKind.i64 (1))) fun x14 =>
              (J4 0 [.d (pr.ld y4 0), .d (pr.ld y4 1), .d (pr.ld y4 2), .d (pr.ld y4 3), .d x14, .d (pr.ld y4 5), .d (pr.ld y4 6), .d (pr.ld y4 7), .d (pr.ld y4 8)]))
              (pr.fits 8 (pr.len (pr.seg (pr.rows [[(pr.cell w6 0)]]) none (pr.natN 1)))
              (pr.bin .add false (pr.ld y4 4) (pr.lit (.int Go.IntKind.i64 (1))) fun x14 =>
              (J4 1 [.d (pr.ld y4 0), .d (pr.ld y4 1), .n (pr.len (pr.seg (pr.rows [[(pr.cell w6 0)]]) none (pr.natN 1))), .n (pr.len (pr.seg (pr.rows [[(pr.cell w6 0)]]) none (pr.natN 1))), .d (pr.ld y4 2), .d (pr.ld y4 3), .d x14, .r (pr.seg (pr.rows [[(pr.cell w6 0)]]) none (pr.natN 1)), .d (pr.ld y4 5), .d (pr.ld y4 6), .d (pr.ld y4 7), .d (pr.ld y4 8)])))))
              (pr.bin .add false (pr.ld y4 4) (pr.lit (.int Go.IntKind.i64 (1))) fun x14 =>
              (J4 0 [.d (pr.ld y4 0), .d (pr.ld y4 1), .d (pr.ld y4 2), .d (pr.ld y4 3), .d x14, .d (pr.ld y4 5), .d (pr.ld y4 6), .d (pr.ld y4 7), .d (pr.ld y4 8)]))))))]))]))))))
      (pr.out 0 [])))
def L48_1  : (Nat → List (Y Δ N R M) → Ω) → E → Ω := fun J4 y4 =>
 (pr.bin .lss false (pr.ld y4 6) (pr.ld y4 5) fun x5 =>
     (pr.cond x5
      (pr.rowD 4 (pr.ld y4 4) (pr.ld y4 6) fun w6 =>
      (pr.cutD 4 (pr.ld y4 0) none (some (pr.ld y4 6)) fun x7 =>
       (pr.bin .add false (pr.ld y4 6) (pr.lit (.int Go.IntKind.i64 (1))) fun x8 =>
        (pr.cutD 4 (pr.ld y4 0) (some x8) none fun x9 =>
         (pr.eqN (pr.natN 2) (pr.len (pr.rows [[x7], [x9]])) (pr.bnd (pr.call 60 [(pr.slD 1 (pr.seg (pr.rows [[x7], [x9]]) none (pr.natN 2)))]) [fun y10 => (pr.lits [.r (pr.lr y10 0)]
           (pr.eqN (pr.len (pr.lr y10 0)) (pr.len (pr.lr y10 0)) (pr.bnd (pr.call 27 [(pr.ld y4 10), (pr.ld y4 11), (pr.slD 4 (pr.seg (pr.lr y10 0) none (pr.len (pr.lr y10 0))))]) [fun y11 => (pr.lits [.d (pr.ld y11 0), .d (pr.ld y11 1), .d (pr.ld y11 2)]
            (pr.bin .neq false (pr.ld y4 1) (pr.ld y11 2) fun x12 =>
            (pr.cond x12
             (pr.eqN (pr.natN 1) (pr.len (pr.rows [[(pr.cell w6 0)]])) (pr.eqN (pr.ln y4 3) (pr.len (pr.lr y4 7)) (pr.eqN (pr.ln y4 2) (pr.len (pr.lr y4 7)) (pr.fits 8 (pr.addN (pr.ln y4 2) (pr.len (pr.seg (pr.rows [[(pr.cell w6 0)]]) none (pr.natN 1))))
             (pr.bin .add false (pr.ld y4 6) (pr.lit (.int Go.IntKind.i64 (1))) fun x13 =>
             (J4 1 [.d (pr.ld y4 0), .d (pr.ld y4 1), .n (pr.addN (pr.ln y4 2) (pr.len (pr.seg (pr.rows [[(pr.cell w6 0)]]) none (pr.natN 1)))), .n (pr.addN (pr.ln y4 2) (pr.len (pr.seg (pr.rows [[(pr.cell w6 0)]]) none (pr.natN 1)))), .d (pr.ld y4 4), .d (pr.ld y4 5), .d x13, .r (pr.app (pr.lr y4 7) (pr.seg (pr.rows [[(pr.cell w6 0)]]) none (pr.natN 1))), .d (pr.ld y4 8), .d (pr.ld y4 9), .d (pr.ld y4 10), .d (pr.ld y4 11)]))))))
             (pr.eqs [true, true] true [(pr.ld y4 8), (pr.ld y4 9)] [(pr.ld y11 0), (pr.ld y11 1)] fun x13 => (pr.cond x13
              (pr.eqN (pr.natN 1) (pr.len (pr.rows [[(pr.cell w6 0)]])) (pr.eqN (pr.ln y4 3) (pr.len (pr.lr y4 7)) (pr.eqN (pr.ln y4 2) (pr.len (pr.lr y4 7)) (pr.fits 8 (pr.addN (pr.ln y4 2) (pr.len (pr.seg (pr.rows [[(pr.cell w6 0)]]) none (pr.natN 1))))
              (pr.bin .add false (pr.ld y4 6) (pr.lit (.int Go.IntKind.i64 (1))) fun x14 =>
              (J4 1 [.d (pr.ld y4 0), .d (pr.ld y4 1), .n (pr.addN (pr.ln y4 2) (pr.len (pr.seg (pr.rows [[(pr.cell w6 0)]]) none (pr.natN 1)))), .n (pr.addN (pr.ln y4 2) (pr.len (pr.seg (pr.rows [[(pr.cell w6 0)]]) none (pr.natN 1)))), .d (pr.ld y4 4), .d (pr.ld y4 5), .d x14, .r (pr.app (pr.lr y4 7) (pr.seg (pr.rows [[(pr.cell w6 0)]]) none (pr.natN 1))), .d (pr.ld y4 8), .d (pr.ld y4 9), .d (pr.ld y4 10), .d (pr.ld y4 11)]))))))
              (pr.bin .add false (pr.ld y4 6) (pr.lit (.int Go.IntKind.i64 (1))) fun x14 =>
              (J4 1 [.d (pr.ld y4 0), .d (pr.ld y4 1), .n (pr.ln y4 2), .n (pr.ln y4 3), .d (pr.ld y4 4), .d (pr.ld y4 5), .d x14, .r (pr.lr y4 7), .d (pr.ld y4 8), .d (pr.ld y4 9), .d (pr.ld y4 10), .d (pr.ld y4 11)])))))))]))), fun y10 => (pr.lits [.d (pr.ld y10 0)]
           (pr.bnd (pr.call 27 [(pr.ld y4 10), (pr.ld y4 11), (pr.ld y10 0)]) [fun y11 => (pr.bin .neq false (pr.ld y4 1) (pr.ld y11 2) fun x12 =>
            (pr.cond x12
             (pr.eqN (pr.natN 1) (pr.len (pr.rows [[(pr.cell w6 0)]])) (pr.eqN (pr.ln y4 3) (pr.len (pr.lr y4 7)) (pr.eqN (pr.ln y4 2) (pr.len (pr.lr y4 7)) (pr.fits 8 (pr.addN (pr.ln y4 2) (pr.len (pr.seg (pr.rows [[(pr.cell w6 0)]]) none (pr.natN 1))))
             (pr.bin .add false (pr.ld y4 6) (pr.lit (.int Go.IntKind.i64 (1))) fun x13 =>
             (J4 1 [.d (pr.ld y4 0), .d (pr.ld y4 1), .n (pr.addN (pr.ln y4 2) (pr.len (pr.seg (pr.rows [[(pr.cell w6 0)]]) none (pr.natN 1)))), .n (pr.addN (pr.ln y4 2) (pr.len (pr.seg (pr.rows [[(pr.cell w6 0)]]) none (pr.natN 1)))), .d (pr.ld y4 4), .d (pr.ld y4 5), .d x13, .r (pr.app (pr.lr y4 7) (pr.seg (pr.rows [[(pr.cell w6 0)]]) none (pr.natN 1))), .d (pr.ld y4 8), .d (pr.ld y4 9), .d (pr.ld y4 10), .d (pr.ld y4 11)]))))))
             (pr.eqs [true, true] true [(pr.ld y4 8), (pr.ld y4 9)] [(pr.ld y11 0), (pr.ld y11 1)] fun x13 => (pr.cond x13
              (pr.eqN (pr.natN 1) (pr.len (pr.rows [[(pr.cell w6 0)]])) (pr.eqN (pr.ln y4 3) (pr.len (pr.lr y4 7)) (pr.eqN (pr.ln y4 2) (pr.len (pr.lr y4 7)) (pr.fits 8 (pr.addN (pr.ln y4 2) (pr.len (pr.seg (pr.rows [[(pr.cell w6 0)]]) none (pr.natN 1))))
              (pr.bin .add false (pr.ld y4 6) (pr.lit (.int Go.IntKind.i64 (1))) fun x14 =>
              (J4 1 [.d (pr.ld y4 0), .d (pr.ld y4 1), .n (pr.addN (pr.ln y4 2) (pr.len (pr.seg (pr.rows [[(pr.cell w6 0)]]) none (pr.natN 1)))), .n (pr.addN (pr.ln y4 2) (pr.len (pr.seg (pr.rows [[(pr.cell w6 0)]]) none (pr.natN 1)))), .d (pr.ld y4 4), .d (pr.ld y4 5), .d x14, .r (pr.app (pr.lr y4 7) (pr.seg (pr.rows [[(pr.cell w6 0)]]) none (pr.natN 1))), .d (pr.ld y4 8), .d (pr.ld y4 9), .d (pr.ld y4 10), .d (pr.ld y4 11)]))))))
              (pr.bin .add false (pr.ld y4 6) (pr.lit (.int Go.IntKind.i64 (1))) fun x14 =>
              (J4 1 [.d (pr.ld y4 0), .d (pr.ld y4 1), .n (pr.ln y4 2), .n (pr.ln y4 3), .d (pr.ld y4 4), .d (pr.ld y4 5), .d x14, .r (pr.lr y4 7), .d (pr.ld y4 8), .d (pr.ld y4 9), .d (pr.ld y4 10), .d (pr.ld y4 11)]))))))]))]))))))
      (pr.out 1 [.n (pr.ln y4 2), .n (pr.ln y4 3), .r (pr.lr y4 7)])))
def G48 (a0 a1 a2 : Δ) : Ω :=
 (pr.bnd (pr.call 67 [a0, a1, a2]) [fun y0 => (pr.bin .neq false (pr.ld y0 1) (pr.lit (.int Go.IntKind.i64 (0))) fun x1 =>
 (pr.cond x1
  (pr.out 0 [.d (pr.lit (.slice none 0 0)), .d (pr.ld y0 1)])
  (pr.bnd (pr.call 27 [a0, a1, a2]) [fun y2 => (pr.lenD a2 fun x3 =>
   (pr.bnd (pr.loop [(L48_0 pr), (L48_1 pr)] 0 [.d a2, .d (pr.ld y2 2), .d a2, .d x3, .d (pr.lit (.int Go.IntKind.i64 (0))), .d (pr.ld y2 0), .d (pr.ld y2 1), .d a0, .d a1]) [fun y4 => (pr.out 0 [.d (pr.lit (.slice none 0 0)), .d (pr.lit (.int Go.IntKind.i64 (0)))]), fun y4 => (pr.eqN (pr.ln y4 1) (pr.len (pr.lr y4 2)) (pr.out 0 [.d (pr.slD 1 (pr.seg (pr.lr y4 2) none (pr.ln y4 0))), .d (pr.lit (.int Go.IntKind.i64 (0)))]))]))])))])
end
theorem G10_eq {Δ N R W M E Ω : Type} (pr : Pr Δ N R W M E Ω) (a0 a1 a2 a3 a4 a5 a6 a7 a8 a9 : Δ) : fun3 pr tb Try.prog 400 10 [a0, a1, a2, a3, a4, a5, a6, a7, a8, a9] = G10 pr a0 a1 a2 a3 a4 a5 a6 a7 a8 a9 := by kernel_rfl
theorem F10 (n : Nat) (a0 a1 a2 a3 a4 a5 a6 a7 a8 a9 : D) : FN (n + 1) 10 [a0, a1, a2, a3, a4, a5, a6, a7, a8, a9] = G10 (RP n) a0 a1 a2 a3 a4 a5 a6 a7 a8 a9 := G10_eq _ a0 a1 a2 a3 a4 a5 a6 a7 a8 a9
theorem G15_eq {Δ N R W M E Ω : Type} (pr : Pr Δ N R W M E Ω) (a0 a1 : Δ) : fun3 pr tb Try.prog 400 15 [a0, a1] = G15 pr a0 a1 := by kernel_rfl
theorem F15 (n : Nat) (a0 a1 : D) : FN (n + 1) 15 [a0, a1] = G15 (RP n) a0 a1 := G15_eq _ a0 a1
theorem G16_eq {Δ N R W M E Ω : Type} (pr : Pr Δ N R W M E Ω) (a0 a1 : Δ) : fun3 pr tb Try.prog 400 16 [a0, a1] = G16 pr a0 a1 := by kernel_rfl
theorem F16 (n : Nat) (a0 a1 : D) : FN (n + 1) 16 [a0, a1] = G16 (RP n) a0 a1 := G16_eq _ a0 a1
theorem G17_eq {Δ N R W M E Ω : Type} (pr : Pr Δ N R W M E Ω) (a0 a1 a2 : Δ) : fun3 pr tb Try.prog 400 17 [a0, a1, a2] = G17 pr a0 a1 a2 := by kernel_rfl
theorem F17 (n : Nat) (a0 a1 a2 : D) : FN (n + 1) 17 [a0, a1, a2] = G17 (RP n) a0 a1 a2 := G17_eq _ a0 a1 a2
theorem G18_eq {Δ N R W M E Ω : Type} (pr : Pr Δ N R W M E Ω) (a0 a1 a2 : Δ) : fun3 pr tb Try.prog 400 18 [a0, a1, a2] = G18 pr a0 a1 a2 := by kernel_rfl
theorem F18 (n : Nat) (a0 a1 a2 : D) : FN (n + 1) 18 [a0, a1, a2] = G18 (RP n) a0 a1 a2 := G18_eq _ a0 a1 a2
theorem G19_eq {Δ N R W M E Ω : Type} (pr : Pr Δ N R W M E Ω) (a0 a1 a2 : Δ) : fun3 pr tb Try.prog 400 19 [a0, a1, a2] = G19 pr a0 a1 a2 := by kernel_rfl
theorem F19 (n : Nat) (a0 a1 a2 : D) : FN (n + 1) 19 [a0, a1, a2] = G19 (RP n) a0 a1 a2 := G19_eq _ a0 a1 a2
theorem G20_eq {Δ N R W M E Ω : Type} (pr : Pr Δ N R W M E Ω) (a0 a1 a2 : Δ) : fun3 pr tb Try.prog 400 20 [a0, a1, a2] = G20 pr a0 a1 a2 := by kernel_rfl
theorem F20 (n : Nat) (a0 a1 a2 : D) : FN (n + 1) 20 [a0, a1, a2] = G20 (RP n) a0 a1 a2 := G20_eq _ a0 a1 a2
theorem G21_eq {Δ N R W M E Ω : Type} (pr : Pr Δ N R W M E Ω) (a0 a1 a2 : Δ) : fun3 pr tb Try.prog 400 21 [a0, a1, a2] = G21 pr a0 a1 a2 := by kernel_rfl
theorem F21 (n : Nat) (a0 a1 a2 : D) : FN (n + 1) 21 [a0, a1, a2] = G21 (RP n) a0 a1 a2 := G21_eq _ a0 a1 a2
theorem G22_eq {Δ N R W M E Ω : Type} (pr : Pr Δ N R W M E Ω) (a0 a1 a2 : Δ) : fun3 pr tb Try.prog 400 22 [a0, a1, a2] = G22 pr a0 a1 a2 := by kernel_rfl
theorem F22 (n : Nat) (a0 a1 a2 : D) : FN (n + 1) 22 [a0, a1, a2] = G22 (RP n) a0 a1 a2 := G22_eq _ a0 a1 a2
theorem G23_eq {Δ N R W M E Ω : Type} (pr : Pr Δ N R W M E Ω) (a0 a1 a2 a3 : Δ) : fun3 pr tb Try.prog 400 23 [a0, a1, a2, a3] = G23 pr a0 a1 a2 a3 := by kernel_rfl
theorem F23 (n : Nat) (a0 a1 a2 a3 : D) : FN (n + 1) 23 [a0, a1, a2, a3] = G23 (RP n) a0 a1 a2 a3 := G23_eq _ a0 a1 a2 a3
theorem G24_eq {Δ N R W M E Ω : Type} (pr : Pr Δ N R W M E Ω) (a0 a1 a2 a3 : Δ) : fun3 pr tb Try.prog 400 24 [a0, a1, a2, a3] = G24 pr a0 a1 a2 a3 := by kernel_rfl
theorem F24 (n : Nat) (a0 a1 a2 a3 : D) : FN (n + 1) 24 [a0, a1, a2, a3] = G24 (RP n) a0 a1 a2 a3 := G24_eq _ a0 a1 a2 a3
theorem G27_eq {Δ N R W M E Ω : Type} (pr : Pr Δ N R W M E Ω) (a0 a1 a2 : Δ) : fun3 pr tb Try.prog 400 27 [a0, a1, a2] = G27 pr a0 a1 a2 := by kernel_rfl
theorem F27 (n : Nat) (a0 a1 a2 : D) : FN (n + 1) 27 [a0, a1, a2] = G27 (RP n) a0 a1 a2 := G27_eq _ a0 a1 a2
theorem G33_eq {Δ N R W M E Ω : Type} (pr : Pr Δ N R W M E Ω) (a0 a1 a2 : Δ) : fun3 pr tb Try.prog 400 33 [a0, a1, a2] = G33 pr a0 a1 a2 := by kernel_rfl
theorem F33 (n : Nat) (a0 a1 a2 : D) : FN (n + 1) 33 [a0, a1, a2] = G33 (RP n) a0 a1 a2 := G33_eq _ a0 a1 a2
theorem G34_eq {Δ N R W M E Ω : Type} (pr : Pr Δ N R W M E Ω) (a0 a1 a2 : Δ) : fun3 pr tb Try.prog 400 34 [a0, a1, a2] = G34 pr a0 a1 a2 := by kernel_rfl
theorem F34 (n : Nat) (a0 a1 a2 : D) : FN (n + 1) 34 [a0, a1, a2] = G34 (RP n) a0 a1 a2 := G34_eq _ a0 a1 a2
theorem G35_eq {Δ N R W M E Ω : Type} (pr : Pr Δ N R W M E Ω) (a0 a1 a2 a3 a4 : Δ) : fun3 pr tb Try.prog 400 35 [a0, a1, a2, a3, a4] = G35 pr a0 a1 a2 a3 a4 := by kernel_rfl
theorem F35 (n : Nat) (a0 a1 a2 a3 a4 : D) : FN (n + 1) 35 [a0, a1, a2, a3, a4] = G35 (RP n) a0 a1 a2 a3 a4 := G35_eq _ a0 a1 a2 a3 a4
theorem G36_eq {Δ N R W M E Ω : Type} (pr : Pr Δ N R W M E Ω) (a0 a1 a2 a3 : Δ) : fun3 pr tb Try.prog 400 36 [a0, a1, a2, a3] = G36 pr a0 a1 a2 a3 := by kernel_rfl
theorem F36 (n : Nat) (a0 a1 a2 a3 : D) : FN (n + 1) 36 [a0, a1, a2, a3] = G36 (RP n) a0 a1 a2 a3 := G36_eq _ a0 a1 a2 a3
theorem G43_eq {Δ N R W M E Ω : Type} (pr : Pr Δ N R W M E Ω) (a0 a1 a2 : Δ) : fun3 pr tb Try.prog 400 43 [a0, a1, a2] = G43 pr a0 a1 a2 := by kernel_rfl
theorem F43 (n : Nat) (a0 a1 a2 : D) : FN (n + 1) 43 [a0, a1, a2] = G43 (RP n) a0 a1 a2 := G43_eq _ a0 a1 a2
theorem G44_eq {Δ N R W M E Ω : Type} (pr : Pr Δ N R W M E Ω) (a0 a1 a2 a3 a4 a5 a6 : Δ) : fun3 pr tb Try.prog 400 44 [a0, a1, a2, a3, a4, a5, a6] = G44 pr a0 a1 a2 a3 a4 a5 a6 := by kernel_rfl
theorem F44 (n : Nat) (a0 a1 a2 a3 a4 a5 a6 : D) : FN (n + 1) 44 [a0, a1, a2, a3, a4, a5, a6] = G44 (RP n) a0 a1 a2 a3 a4 a5 a6 := G44_eq _ a0 a1 a2 a3 a4 a5 a6
theorem G45_eq {Δ N R W M E Ω : Type} (pr : Pr Δ N R W M E Ω) (a0 a1 a2 a3 : Δ) : fun3 pr tb Try.prog 400 45 [a0, a1, a2, a3] = G45 pr a0 a1 a2 a3 := by kernel_rfl
theorem F45 (n : Nat) (a0 a1 a2 a3 : D) : FN (n + 1) 45 [a0, a1, a2, a3] = G45 (RP n) a0 a1 a2 a3 := G45_eq _ a0 a1 a2 a3
theorem G46_eq {Δ N R W M E Ω : Type} (pr : Pr Δ N R W M E Ω) (a0 a1 a2 a3 : Δ) : fun3 pr tb Try.prog 400 46 [a0, a1, a2, a3] = G46 pr a0 a1 a2 a3 := by kernel_rfl
theorem F46 (n : Nat) (a0 a1 a2 a3 : D) : FN (n + 1) 46 [a0, a1, a2, a3] = G46 (RP n) a0 a1 a2 a3 := G46_eq _ a0 a1 a2 a3
theorem G47_eq {Δ N R W M E Ω : Type} (pr : Pr Δ N R W M E Ω) (a0 a1 a2 : Δ) : fun3 pr tb Try.prog 400 47 [a0, a1, a2] = G47 pr a0 a1 a2 := by kernel_rfl
theorem F47 (n : Nat) (a0 a1 a2 : D) : FN (n + 1) 47 [a0, a1, a2] = G47 (RP n) a0 a1 a2 := G47_eq _ a0 a1 a2
theorem G48_eq {Δ N R W M E Ω : Type} (pr : Pr Δ N R W M E Ω) (a0 a1 a2 : Δ) : fun3 pr tb Try.prog 400 48 [a0, a1, a2] = G48 pr a0 a1 a2 := by kernel_rfl
theorem F48 (n : Nat) (a0 a1 a2 : D) : FN (n + 1) 48 [a0, a1, a2] = G48 (RP n) a0 a1 a2 := G48_eq _ a0 a1 a2
end Go.VE
/- What the functions of this program do, made by a program of ours out of the evaluator itself. -/
namespace Go.VE
open Go.RowKit Go.Proofs
set_option maxRecDepth 100000
set_option maxHeartbeats 4000000
section
variable {Δ N R W M E Ω : Type} (pr : Pr Δ N R W M E Ω)
/-! leazing/leazingref04.Moved -/
def L49_0  : (Nat → List (Y Δ N R M) → Ω) → E → Ω := fun J3 y3 =>
 (pr.lenD (pr.ld y3 0) fun x4 =>
    (pr.bin .lss false (pr.ld y3 1) x4 fun x5 =>
     (pr.cond x5
      (pr.cutD 4 (pr.ld y3 0) none (some (pr.ld y3 1)) fun x6 =>
      (pr.rowsD 4 x6 fun r7 => (pr.eqN (pr.natN 0) (pr.len (pr.rows [])) (pr.eqN (pr.natN 0) (pr.len (pr.rows [])) (pr.fits 32 (pr.addN (pr.natN 0) (pr.len r7))
        (pr.bin .add false (pr.ld y3 1) (pr.lit (.int Go.IntKind.i64 (1))) fun x8 =>
        (pr.cutD 4 (pr.ld y3 0) (some x8) none fun x9 =>
         (pr.rowsD 4 x9 fun r10 => (pr.eqN (pr.addN (pr.natN 0) (pr.len r7)) (pr.len (pr.app (pr.rows []) r7)) (pr.eqN (pr.addN (pr.natN 0) (pr.len r7)) (pr.len (pr.app (pr.rows []) r7)) (pr.fits 32 (pr.addN (pr.addN (pr.natN 0) (pr.len r7)) (pr.len r10))
           (pr.bin .eql false (pr.natD (pr.addN (pr.addN (pr.natN 0) (pr.len r7)) (pr.len r10))) (pr.lit (.int Go.IntKind.i64 (0))) fun x11 =>
           (pr.cond x11
            (pr.rowD 4 (pr.ld y3 0) (pr.ld y3 1) fun w12 =>
            (pr.eqN (pr.natN 1) (pr.len (pr.rows [[(pr.cell w12 0)]])) (pr.isNil (pr.seg (pr.rows [[(pr.cell w12 0)]]) none (pr.natN 1))
             (pr.bin .add false (pr.ld y3 1) (pr.lit (.int Go.IntKind.i64 (1))) fun x13 =>
             (J3 0 [.d (pr.ld y3 0), .d x13, .d (pr.ld y3 2), .d (pr.ld y3 3), .d (pr.ld y3 4), .d (pr.ld y3 5)]))
             (pr.fits 8 (pr.len (pr.seg (pr.rows [[(pr.cell w12 0)]]) none (pr.natN 1)))
             (pr.bin .add false (pr.ld y3 1) (pr.lit (.int Go.IntKind.i64 (1))) fun x13 =>
             (J3 1 [.d (pr.ld y3 0), .n (pr.len (pr.seg (pr.rows [[(pr.cell w12 0)]]) none (pr.natN 1))), .n (pr.len (pr.seg (pr.rows [[(pr.cell w12 0)]]) none (pr.natN 1))), .d x13, .r (pr.seg (pr.rows [[(pr.cell w12 0)]]) none (pr.natN 1)), .d (pr.ld y3 2), .d (pr.ld y3 3), .d (pr.ld y3 4), .d (pr.ld y3 5)]))))))
            (pr.eqN (pr.addN (pr.addN (pr.natN 0) (pr.len r7)) (pr.len r10)) (pr.len (pr.app (pr.app (pr.rows []) r7) r10)) (pr.bnd (pr.call 87 [(pr.ld y3 4), (pr.ld y3 5), (pr.slD 4 (pr.seg (pr.app (pr.app (pr.rows []) r7) r10) none (pr.addN (pr.addN (pr.natN 0) (pr.len r7)) (pr.len r10))))]) [fun y12 => (pr.lits [.d (pr.ld y12 0), .d (pr.ld y12 1)]
             (pr.eqs [true, true] true [(pr.ld y12 0), (pr.ld y12 1)] [(pr.ld y3 2), (pr.ld y3 3)] fun x13 => (pr.cond x13
              (pr.rowD 4 (pr.ld y3 0) (pr.ld y3 1) fun w14 =>
              (pr.eqN (pr.natN 1) (pr.len (pr.rows [[(pr.cell w14 0)]])) (pr.isNil (pr.seg (pr.rows [[(pr.cell w14 0)]]) none (pr.natN 1))
               (pr.bin .add false (pr.ld y3 1) (pr.lit (.int Go.IntKind.i64 (1))) fun x15 =>
               (J3 0 [.d (pr.ld y3 0), .d x15, .d (pr.ld y3 2), .d (pr.ld y3 3), .d (pr.ld y3 4), .d (pr.ld y3 5)]))
               (pr.fits 8 (pr.len (pr.seg (pr.rows [[(pr.cell w14 0)]]) none (pr.natN 1)))
               (pr.bin .add false (pr.ld y3 1) (pr.lit (.int Go.IntKind.i64 (1))) fun x15 =>
               (J3 1 [.d (pr.ld y3 0), .n (pr.len (pr.seg (pr.rows [[(pr.cell w14 0)]]) none (pr.natN 1))), .n (pr.len (pr.seg (pr.rows [[(pr.cell w14 0)]]) none (pr.natN 1))), .d x15, .r (pr.seg (pr.rows [[(pr.cell w14 0)]]) none (pr.natN 1)), .d (pr.ld y3 2), .d (pr.ld y3 3), .d (pr.ld y3 4), .d (pr.ld y3 5)]))))))
              (pr.bin .add false (pr.ld y3 1) (pr.lit (.int Go.IntKind.i64 (1))) fun x14 =>
              (J3 0 [.d (pr.ld y3 0), .d x14, .d (pr.ld y3 2), .d (pr.ld y3 3), .d (pr.ld y3 4), .d (pr.ld y3 5)])))))])))))))))))))))
      (pr.out 0 []))))
def L49_1  : (Nat → List (Y Δ N R M) → Ω) → E → Ω := fun J3 y3 =>
 (pr.lenD (pr.ld y3 0) fun x4 =>
    (pr.bin .lss false (pr.ld y3 3) x4 fun x5 =>
     (pr.cond x5
      (pr.cutD 4 (pr.ld y3 0) none (some (pr.ld y3 3)) fun x6 =>
      (pr.rowsD 4 x6 fun r7 => (pr.eqN (pr.natN 0) (pr.len (pr.rows [])) (pr.eqN (pr.natN 0) (pr.len (pr.rows [])) (pr.fits 32 (pr.addN (pr.natN 0) (pr.len r7))
        (pr.bin .add false (pr.ld y3 3) (pr.lit (.int Go.IntKind.i64 (1))) fun x8 =>
        (pr.cutD 4 (pr.ld y3 0) (some x8) none fun x9 =>
         (pr.rowsD 4 x9 fun r10 => (pr.eqN (pr.addN (pr.natN 0) (pr.len r7)) (pr.len (pr.app (pr.rows []) r7)) (pr.eqN (pr.addN (pr.natN 0) (pr.len r7)) (pr.len (pr.app (pr.rows []) r7)) (pr.fits 32 (pr.addN (pr.addN (pr.natN 0) (pr.len r7)) (pr.len r10))
           (pr.bin .eql false (pr.natD (pr.addN (pr.addN (pr.natN 0) (pr.len r7)) (pr.len r10))) (pr.lit (.int Go.IntKind.i64 (0))) fun x11 =>
           (pr.cond x11
            (pr.rowD 4 (pr.ld y3 0) (pr.ld y3 3) fun w12 =>
            (pr.eqN (pr.natN 1) (pr.len (pr.rows [[(pr.cell w12 0)]])) (pr.eqN (pr.ln y3 2) (pr.len (pr.lr y3 4)) (pr.eqN (pr.ln y3 1) (pr.len (pr.lr y3 4)) (pr.fits 8 (pr.addN (pr.ln y3 1) (pr.len (pr.seg (pr.rows [[(pr.cell w12 0)]]) none (pr.natN 1))))
             (pr.bin .add false (pr.ld y3 3) (pr.lit (.int Go.IntKind.i64 (1))) fun x13 =>
             (J3 1 [.d (pr.ld y3 0), .n (pr.addN (pr.ln y3 1) (pr.len (pr.seg (pr.rows [[(pr.cell w12 0)]]) none (pr.natN 1)))), .n (pr.addN (pr.ln y3 1) (pr.len (pr.seg (pr.rows [[(pr.cell w12 0)]]) none (pr.natN 1)))), .d x13, .r (pr.app (pr.lr y3 4) (pr.seg (pr.rows [[(pr.cell w12 0)]]) none (pr.natN 1))), .d (pr.ld y3 5), .d (pr.ld y3 6), .d (pr.ld y3 7), .d (pr.ld y3 8)])))))))
            (pr.eqN (pr.addN (pr.addN (pr.natN 0) (pr.len r7)) (pr.len r10)) (pr.len (pr.app (pr.app (pr.rows []) r7) r10)) (pr.bnd (pr.call 87 [(pr.ld y3 7), (pr.ld y3 8), (pr.slD 4 (pr.seg (pr.app (pr.app (pr.rows []) r7) r10) none (pr.addN (pr.addN (pr.natN 0) (pr.len r7)) (pr.len r10))))]) [fun y12 => (pr.lits [.d (pr.ld y12 0), .d (pr.ld y12 1)]
             (pr.eqs [true, true] true [(pr.ld y12 0), (pr.ld y12 1)] [(pr.ld y3 5), (pr.ld y3 6)] fun x13 => (pr.cond x13
              (pr.rowD 4 (pr.ld y3 0) (pr.ld y3 3) fun w14 =>
              (pr.eqN (pr.natN 1) (pr.len (pr.rows [[(pr.cell w14 0)]])) (pr.eqN (pr.ln y3 2) (pr.len (pr.lr y3 4)) (pr.eqN (pr.ln y3 1) (pr.len (pr.lr y3 4)) (pr.fits 8 (pr.addN (pr.ln y3 1) (pr.len (pr.seg (pr.rows [[(pr.cell w14 0)]]) none (pr.natN 1))))
               (pr.bin .add false (pr.ld y3 3) (pr.lit (.int Go.IntKind.i64 (1))) fun x15 =>
               (J3 1 [.d (pr.ld y3 0), .n (pr.addN (pr.ln y3 1) (pr.len (pr.seg (pr.rows [[(pr.cell w14 0)]]) none (pr.natN 1)))), .n (pr.addN (pr.ln y3 1) (pr.len (pr.seg (pr.rows [[(pr.cell w14 0)]]) none (pr.natN 1)))), .d x15, .r (pr.app (pr.lr y3 4) (pr.seg (pr.rows [[(pr.cell w14 0)]]) none (pr.natN 1))), .d (pr.ld y3 5), .d (pr.ld y3 6), .d (pr.ld y3 7), .d (pr.ld y3 8)])))))))
              (pr.bin .add false (pr.ld y3 3) (pr.lit (.int Go.IntKind.i64 (1))) fun x14 =>
              (J3 1 [.d (pr.ld y3 0), .n (pr.ln y3 1), .n (pr.ln y3 2), .d x14, .r (pr.lr y3 4), .d (pr.ld y3 5), .d (pr.ld y3 6), .d (pr.ld y3 7), .d (pr.ld y3 8)])))))])))))))))))))))
      (pr.out 1 [.n (pr.ln y3 1), .n (pr.ln y3 2), .r (pr.lr y3 4)]))))
def G49 (a0 a1 a2 : Δ) : Ω :=
 (pr.bnd (pr.call 18 [a0, a1, a2]) [fun y0 => (pr.bin .neq false (pr.ld y0 0) (pr.lit (.int Go.IntKind.i64 (0))) fun x1 =>
 (pr.cond x1
  (pr.out 0 [.d (pr.lit (.slice none 0 0)), .d (pr.ld y0 0)])
  (pr.bnd (pr.call 87 [a0, a1, a2]) [fun y2 => (pr.bnd (pr.loop [(L49_0 pr), (L49_1 pr)] 0 [.d a2, .d (pr.lit (.int Go.IntKind.i64 (0))), .d (pr.ld y2 0), .d (pr.ld y2 1), .d a0, .d a1]) [fun y3 => (pr.out 0 [.d (pr.lit (.slice none 0 0)), .d (pr.lit (.int Go.IntKind.i64 (0)))]), fun y3 => (pr.eqN (pr.ln y3 1) (pr.len (pr.lr y3 2)) (pr.out 0 [.d (pr.slD 1 (pr.seg (pr.lr y3 2) none (pr.ln y3 0))), .d (pr.lit (.int Go.IntKind.i64 (0)))]))])])))])
/-! leazing/leazingref04.SameGains -/
def L50_0  : (Nat → List (Y Δ N R M) → Ω) → E → Ω := fun J3 y3 =>
 (pr.lenD (pr.ld y3 0) fun x4 =>
    (pr.bin .lss false (pr.ld y3 3) x4 fun x5 =>
     (pr.cond x5
      (pr.cond (pr.ld y3 2)
      (pr.rowD 2 (pr.ld y3 0) (pr.ld y3 3) fun w6 =>
      (pr.rowD 2 (pr.ld y3 1) (pr.ld y3 3) fun w7 =>
       (pr.eqs [true, true] false [(pr.cell w6 0), (pr.cell w6 1)] [(pr.cell w7 0), (pr.cell w7 1)] fun x8 => (pr.bin .add false (pr.ld y3 3) (pr.lit (.int Go.IntKind.i64 (1))) fun x9 =>
         (J3 0 [.d (pr.ld y3 0), .d (pr.ld y3 1), .d x8, .d x9])))))
      (pr.out 0 [.d (pr.ld y3 2)]))
      (pr.out 0 [.d (pr.ld y3 2)]))))
def G50 (a0 a1 : Δ) : Ω :=
 (pr.lenD a0 fun x0 =>
(pr.lenD a1 fun x1 =>
 (pr.bin .eql false x0 x1 fun x2 =>
  (pr.bnd (pr.loop [(L50_0 pr)] 0 [.d a0, .d a1, .d x2, .d (pr.lit (.int Go.IntKind.i64 (0)))]) [fun y3 => (pr.out 0 [.d (pr.ld y3 0)])]))))
/-! leazing/leazingref04.Same -/
def L51_0  : (Nat → List (Y Δ N R M) → Ω) → E → Ω := fun J3 y3 =>
 (pr.lenD (pr.ld y3 0) fun x4 =>
    (pr.bin .lss false (pr.ld y3 3) x4 fun x5 =>
     (pr.cond x5
      (pr.cond (pr.ld y3 2)
      (pr.rowD 1 (pr.ld y3 0) (pr.ld y3 3) fun w6 =>
      (pr.rowD 1 (pr.ld y3 1) (pr.ld y3 3) fun w7 =>
       (pr.bin .eql false (pr.cell w6 0) (pr.cell w7 0) fun x8 =>
        (pr.bin .add false (pr.ld y3 3) (pr.lit (.int Go.IntKind.i64 (1))) fun x9 =>
         (J3 0 [.d (pr.ld y3 0), .d (pr.ld y3 1), .d x8, .d x9])))))
      (pr.out 0 [.d (pr.ld y3 2)]))
      (pr.out 0 [.d (pr.ld y3 2)]))))
def G51 (a0 a1 : Δ) : Ω :=
 (pr.lenD a0 fun x0 =>
(pr.lenD a1 fun x1 =>
 (pr.bin .eql false x0 x1 fun x2 =>
  (pr.bnd (pr.loop [(L51_0 pr)] 0 [.d a0, .d a1, .d x2, .d (pr.lit (.int Go.IntKind.i64 (0)))]) [fun y3 => (pr.out 0 [.d (pr.ld y3 0)])]))))
/-! leazing/leazingref04.CheckDrifts -/
def G52 (a0 a1 a2 a3 : Δ) : Ω :=
 (pr.bnd (pr.call 18 [a0, a1, a2]) [fun y0 => (pr.bin .eql false (pr.ld y0 0) (pr.lit (.int Go.IntKind.i64 (0))) fun x1 =>
 (pr.cond x1
  (pr.bnd (pr.call 88 [a0, a1, a2, a3]) [fun y2 => (pr.un .not (pr.ld y2 0) fun x3 => (pr.cond x3
    (pr.out 0 [.d (pr.lit (.int Go.IntKind.i64 (46)))])
    (pr.out 0 [.d (pr.ld y0 0)])))])
  (pr.out 0 [.d (pr.ld y0 0)])))])
/-! leazing/leazingref04.CheckCrowd -/
def G53 (a0 a1 a2 a3 a4 : Δ) : Ω :=
 (pr.bnd (pr.call 18 [a0, a1, a2]) [fun y0 => (pr.bin .neq false (pr.ld y0 0) (pr.lit (.int Go.IntKind.i64 (0))) fun x1 =>
 (pr.cond x1
  (pr.out 0 [.d (pr.ld y0 0)])
  (pr.bnd (pr.call 61 [a3, (pr.lit (.int Go.IntKind.i64 (0))), a4]) [fun y2 => (pr.un .not (pr.ld y2 0) fun x3 => (pr.cond x3
    (pr.out 0 [.d (pr.lit (.int Go.IntKind.i64 (48)))])
    (pr.lenD a2 fun x4 =>
    (pr.bin .geq false a4 x4 fun x5 =>
     (pr.cond x5
      (pr.out 0 [.d (pr.lit (.int Go.IntKind.i64 (48)))])
      (pr.rowD 4 a2 a4 fun w6 =>
      (pr.rowD 4 a2 a3 fun w7 =>
       (pr.bin .sub false (pr.cell w6 3) (pr.cell w7 2) fun x8 =>
        (pr.bin .add false x8 (pr.lit (.int Go.IntKind.i64 (1))) fun x9 =>
         (pr.mm true (pr.lit (.int Go.IntKind.i64 (0))) x9 fun x10 => (pr.bin .sub false a4 a3 fun x11 =>
           (pr.bin .add false x11 (pr.lit (.int Go.IntKind.i64 (1))) fun x12 =>
            (pr.bin .geq false x10 x12 fun x13 =>
             (pr.cond x13
              (pr.out 0 [.d (pr.lit (.int Go.IntKind.i64 (48)))])
              (pr.out 0 [.d (pr.lit (.int Go.IntKind.i64 (0)))])))))))))))))))])))])
/-! leazing/leazingref04.CheckWall -/
def L54_0  : (Nat → List (Y Δ N R M) → Ω) → E → Ω := fun J16 y16 =>
 (pr.bin .lss false (pr.ld y16 2) (pr.ld y16 1) fun x17 =>
                 (pr.cond x17
                  (pr.bin .add false (pr.ld y16 3) (pr.ld y16 2) fun x18 =>
                  (pr.rowD 4 (pr.ld y16 0) x18 fun w19 =>
                   (pr.rowD 1 (pr.ld y16 4) (pr.ld y16 2) fun w20 =>
                    (pr.mm true (pr.cell w20 0) (pr.cell w19 2) fun x21 => (pr.bin .add false (pr.ld y16 2) (pr.lit (.int Go.IntKind.i64 (1))) fun x22 =>
                      (pr.rowD 1 (pr.ld y16 4) x22 fun w23 =>
                       (pr.bin .add false x21 (pr.lit (.int Go.IntKind.i64 (1))) fun x24 =>
                        (pr.bnd (pr.call 61 [(pr.cell w23 0), x24, (pr.lit (.int Go.IntKind.i64 (25)))]) [fun y25 => (pr.un .not (pr.ld y25 0) fun x26 => (pr.cond x26
                           (pr.out 0 [.d (pr.lit (.int Go.IntKind.i64 (49)))])
                           (pr.bin .mul false (pr.cell w19 1) (pr.ld y16 7) fun x27 =>
                           (pr.bnd (pr.call 86 [x27, (pr.ld y16 8)]) [fun y28 => (pr.bin .add false (pr.ld y16 2) (pr.lit (.int Go.IntKind.i64 (1))) fun x29 =>
                             (pr.rowD 1 (pr.ld y16 4) x29 fun w30 =>
(pr.bin .sub false (pr.cell w30 0) (pr.lit (.int Go.IntKind.i64 (2))) fun x31 =>
 (pr.bnd (pr.call 82 [(pr.ld y16 9), (pr.ld y16 10), x21, x31]) [fun y32 => (pr.bnd (pr.call 86 [(pr.ld y32 0), (pr.lit (.int Go.IntKind.i64 (1)))]) [fun y33 => (pr.bnd (pr.call 56 [(pr.ld y28 0), (pr.ld y28 1), (pr.ld y33 0), (pr.ld y33 1)]) [fun y34 => (pr.cond (pr.ld y34 0)
     (pr.out 0 [.d (pr.lit (.int Go.IntKind.i64 (49)))])
     (pr.bin .add false (pr.ld y16 2) (pr.lit (.int Go.IntKind.i64 (1))) fun x35 =>
     (J16 0 [.d (pr.ld y16 0), .d (pr.ld y16 1), .d x35, .d (pr.ld y16 3), .d (pr.ld y16 4), .d (pr.ld y16 5), .d (pr.ld y16 6), .d (pr.ld y16 7), .d (pr.ld y16 8), .d (pr.ld y16 9), .d (pr.ld y16 10)])))])])]))))]))))]))))))))
                  (pr.out 1 [.d (pr.ld y16 0), .d (pr.ld y16 1), .d (pr.ld y16 3), .d (pr.ld y16 4)])))
def G54 (a0 a1 a2 a3 a4 a5 a6 : Δ) : Ω :=
 (pr.bnd (pr.call 18 [a0, a1, a2]) [fun y0 => (pr.bin .neq false (pr.ld y0 0) (pr.lit (.int Go.IntKind.i64 (0))) fun x1 =>
 (pr.cond x1
  (pr.out 0 [.d (pr.ld y0 0)])
  (pr.bnd (pr.call 83 [a5, a6]) [fun y2 => (pr.un .not (pr.ld y2 0) fun x3 => (pr.cond x3
    (pr.out 0 [.d (pr.lit (.int Go.IntKind.i64 (1)))])
    (pr.lenD a4 fun x4 =>
    (pr.bin .sub false x4 (pr.lit (.int Go.IntKind.i64 (1))) fun x5 =>
     (pr.bin .lss false x5 (pr.lit (.int Go.IntKind.i64 (1))) fun x6 =>
      (pr.cond x6
       (pr.out 0 [.d (pr.lit (.int Go.IntKind.i64 (49)))])
       (pr.lenD a2 fun x7 =>
       (pr.bin .gtr false x5 x7 fun x8 =>
        (pr.cond x8
         (pr.out 0 [.d (pr.lit (.int Go.IntKind.i64 (49)))])
         (pr.lenD a2 fun x9 =>
         (pr.bin .sub false x9 x5 fun x10 =>
          (pr.bnd (pr.call 61 [a3, (pr.lit (.int Go.IntKind.i64 (0))), x10]) [fun y11 => (pr.un .not (pr.ld y11 0) fun x12 => (pr.cond x12
             (pr.out 0 [.d (pr.lit (.int Go.IntKind.i64 (49)))])
             (pr.rowD 1 a4 (pr.lit (.int Go.IntKind.i64 (0))) fun w13 =>
             (pr.rowD 4 a2 a3 fun w14 =>
              (pr.bin .neq false (pr.cell w13 0) (pr.cell w14 2) fun x15 =>
               (pr.cond x15
                (pr.out 0 [.d (pr.lit (.int Go.IntKind.i64 (49)))])
                (pr.bnd (pr.loop [(L54_0 pr)] 0 [.d a2, .d x5, .d (pr.lit (.int Go.IntKind.i64 (0))), .d a3, .d a4, .d a3, .d a4, .d a5, .d a6, .d a0, .d a1]) [fun y16 => (pr.out 0 [.d (pr.ld y16 0)]), fun y16 => (pr.rowD 1 (pr.ld y16 3) (pr.ld y16 1) fun w17 =>
                 (pr.bin .sub false (pr.cell w17 0) (pr.lit (.int Go.IntKind.i64 (1))) fun x18 =>
                  (pr.bin .add false (pr.ld y16 2) (pr.ld y16 1) fun x19 =>
                   (pr.bin .sub false x19 (pr.lit (.int Go.IntKind.i64 (1))) fun x20 =>
                    (pr.rowD 4 (pr.ld y16 0) x20 fun w21 =>
                     (pr.bin .leq false x18 (pr.cell w21 3) fun x22 =>
                      (pr.cond x22
                       (pr.out 0 [.d (pr.lit (.int Go.IntKind.i64 (49)))])
                       (pr.out 0 [.d (pr.lit (.int Go.IntKind.i64 (0)))]))))))))])))))))]))))))))))))])))])
/-! leazing/leazingref04.CrowdedError -/
def G55 (a0 a1 a2 : Δ) : Ω :=
 (pr.bnd (pr.call 47 [a0, a1, a2]) [fun y0 => (pr.bin .eql false (pr.ld y0 2) (pr.lit (.int Go.IntKind.i64 (0))) fun x1 =>
 (pr.cond x1
  (pr.out 0 [.d (pr.lit (.int Go.IntKind.i64 (48)))])
  (pr.bin .eql false (pr.ld y0 2) (pr.lit (.int Go.IntKind.i64 (47))) fun x2 =>
  (pr.cond x2
   (pr.out 0 [.d (pr.lit (.int Go.IntKind.i64 (0)))])
   (pr.out 0 [.d (pr.ld y0 2)])))))])
/-! leazing/leazingref04.Less -/
def G56 (a0 a1 a2 a3 : Δ) : Ω :=
 (pr.bin .mul false a0 a3 fun x0 =>
(pr.bin .mul false a2 a1 fun x1 =>
 (pr.bin .lss false x0 x1 fun x2 =>
  (pr.out 0 [.d x2]))))
/-! leazing/drift.within -/
def G59 (a0 a1 a2 : Δ) : Ω :=
 (pr.bin .leq false a1 a0 fun x0 =>
(pr.cond x0
 (pr.bin .leq false a0 a2 fun x1 =>
 (pr.out 0 [.d x1]))
 (pr.out 0 [.d (pr.lit (.bool false))])))
/-! slices.Concat[[]leazing/api.Claim,leazing/api.Claim] -/
def L60_0  : (Nat → List (Y Δ N R M) → Ω) → E → Ω := fun J1 y1 =>
 (pr.bin .lss false (pr.ld y1 4) (pr.ld y1 3) fun x2 =>
  (pr.cond x2
   (pr.rowD 1 (pr.ld y1 2) (pr.ld y1 4) fun w3 =>
   (pr.lenD (pr.cell w3 0) fun x4 =>
    (pr.bin .add false (pr.ld y1 1) x4 fun x5 =>
     (pr.bin .lss false x5 (pr.lit (.int Go.IntKind.i64 (0))) fun x6 =>
      (pr.cond x6
       pr.fail
       (pr.bin .add false (pr.ld y1 4) (pr.lit (.int Go.IntKind.i64 (1))) fun x7 =>
       (J1 0 [.d (pr.ld y1 0), .d x5, .d (pr.ld y1 2), .d (pr.ld y1 3), .d x7])))))))
   (pr.out 0 [.d (pr.ld y1 0), .d (pr.ld y1 1)])))
def L60_1  : (Nat → List (Y Δ N R M) → Ω) → E → Ω := fun J4 y4 =>
 (pr.bin .lss false (pr.ld y4 4) (pr.ld y4 3) fun x5 =>
     (pr.cond x5
      (pr.rowD 1 (pr.ld y4 2) (pr.ld y4 4) fun w6 =>
      (pr.rowsD 4 (pr.cell w6 0) fun r7 => (pr.eqN (pr.ln y4 1) (pr.len (pr.lr y4 5)) (pr.eqN (pr.ln y4 0) (pr.len (pr.lr y4 5)) (pr.fits 32 (pr.addN (pr.ln y4 0) (pr.len r7))
        (pr.bin .add false (pr.ld y4 4) (pr.lit (.int Go.IntKind.i64 (1))) fun x8 =>
        (J4 0 [.n (pr.addN (pr.ln y4 0) (pr.len r7)), .n (pr.addN (pr.ln y4 0) (pr.len r7)), .d (pr.ld y4 2), .d (pr.ld y4 3), .d x8, .r (pr.app (pr.lr y4 5) r7)])))))))
      (pr.out 0 [.n (pr.ln y4 0), .n (pr.ln y4 1), .r (pr.lr y4 5)])))
def L60_2  : (Nat → List (Y Δ N R M) → Ω) → E → Ω := fun J4 y4 =>
 (pr.bin .lss false (pr.ld y4 3) (pr.ld y4 2) fun x5 =>
     (pr.cond x5
      (pr.rowD 1 (pr.ld y4 1) (pr.ld y4 3) fun w6 =>
      (pr.rowsD 4 (pr.cell w6 0) fun r7 => (pr.nilD (pr.ld y4 0) (pr.isNil r7
        (pr.bin .add false (pr.ld y4 3) (pr.lit (.int Go.IntKind.i64 (1))) fun x8 =>
        (J4 0 [.d (pr.lit (.slice none 0 0)), .d (pr.ld y4 1), .d (pr.ld y4 2), .d x8]))
        (pr.fits 32 (pr.len r7)
        (pr.bin .add false (pr.ld y4 3) (pr.lit (.int Go.IntKind.i64 (1))) fun x8 =>
        (J4 1 [.n (pr.len r7), .n (pr.len r7), .d (pr.ld y4 1), .d (pr.ld y4 2), .d x8, .r r7])))))))
      (pr.out 0 [.d (pr.ld y4 0)])))
def L60_3  : (Nat → List (Y Δ N R M) → Ω) → E → Ω := fun J4 y4 =>
 (pr.bin .lss false (pr.ld y4 4) (pr.ld y4 3) fun x5 =>
     (pr.cond x5
      (pr.rowD 1 (pr.ld y4 2) (pr.ld y4 4) fun w6 =>
      (pr.rowsD 4 (pr.cell w6 0) fun r7 => (pr.eqN (pr.ln y4 1) (pr.len (pr.lr y4 5)) (pr.eqN (pr.ln y4 0) (pr.len (pr.lr y4 5)) (pr.fits 32 (pr.addN (pr.ln y4 0) (pr.len r7))
        (pr.bin .add false (pr.ld y4 4) (pr.lit (.int Go.IntKind.i64 (1))) fun x8 =>
        (J4 1 [.n (pr.addN (pr.ln y4 0) (pr.len r7)), .n (pr.addN (pr.ln y4 0) (pr.len r7)), .d (pr.ld y4 2), .d (pr.ld y4 3), .d x8, .r (pr.app (pr.lr y4 5) r7)])))))))
      (pr.out 1 [.n (pr.ln y4 0), .n (pr.ln y4 1), .r (pr.lr y4 5)])))
def G60 (a0 : Δ) : Ω :=
 (pr.lenD a0 fun x0 =>
(pr.bnd (pr.loop [(L60_0 pr)] 0 [.d a0, .d (pr.lit (.int Go.IntKind.i64 (0))), .d a0, .d x0, .d (pr.lit (.int Go.IntKind.i64 (0)))]) [fun y1 => (pr.bnd (pr.call 89 [(pr.lit (.slice none 0 0)), (pr.ld y1 1)]) [fun y2 => (pr.lenD (pr.ld y1 0) fun x3 =>
   (pr.bnd (pr.loop [(L60_1 pr)] 0 [.n (pr.len (pr.lr y2 0)), .n (pr.len (pr.lr y2 0)), .d (pr.ld y1 0), .d x3, .d (pr.lit (.int Go.IntKind.i64 (0))), .r (pr.lr y2 0)]) [fun y4 => (pr.eqN (pr.ln y4 1) (pr.len (pr.lr y4 2)) (pr.leN (pr.ln y4 0) (pr.len (pr.lr y4 2)) (pr.out 0 [.r (pr.seg (pr.lr y4 2) none (pr.ln y4 0))])))])), fun y2 => (pr.lenD (pr.ld y1 0) fun x3 =>
   (pr.bnd (pr.loop [(L60_2 pr), (L60_3 pr)] 0 [.d (pr.ld y2 0), .d (pr.ld y1 0), .d x3, .d (pr.lit (.int Go.IntKind.i64 (0)))]) [fun y4 => (pr.out 1 [.d (pr.ld y4 0)]), fun y4 => (pr.eqN (pr.ln y4 1) (pr.len (pr.lr y4 2)) (pr.leN (pr.ln y4 0) (pr.len (pr.lr y4 2)) (pr.out 0 [.r (pr.seg (pr.lr y4 2) none (pr.ln y4 0))])))]))])]))
/-! leazing/leazingref04.In -/
def G61 (a0 a1 a2 : Δ) : Ω :=
 (pr.bin .geq false a0 a1 fun x0 =>
(pr.cond x0
 (pr.bin .leq false a0 a2 fun x1 =>
 (pr.out 0 [.d x1]))
 (pr.out 0 [.d (pr.lit (.bool false))])))
/-! leazing/drift.chains -/
def L62_0  : (Nat → List (Y Δ N R M) → Ω) → E → Ω := fun J1 y1 =>
 (pr.bin .lss false (pr.ld y1 2) (pr.ld y1 1) fun x2 =>
  (pr.cond x2
   (pr.rowD 3 (pr.ld y1 0) (pr.ld y1 2) fun w3 =>
   (pr.upd 0 (pr.lm y1 3) (pr.cell w3 0) [(pr.ld y1 2)] fun q4 => (pr.bin .add false (pr.ld y1 2) (pr.lit (.int Go.IntKind.i64 (1))) fun x5 =>
     (J1 0 [.d (pr.ld y1 0), .d (pr.ld y1 1), .d x5, .m q4]))))
   (pr.out 0 [.m (pr.lm y1 3)])))
def G62 (a0 a1 : Δ) : Ω :=
 (pr.lenD a0 fun x0 =>
(pr.bnd (pr.loop [(L62_0 pr)] 0 [.d a0, .d x0, .d (pr.lit (.int Go.IntKind.i64 (0))), .m pr.emp]) [fun y1 => (pr.out 0 [.m (pr.lm y1 0)])]))
/-! leazing/leazingref04.chain -/
def L63_0  : (Nat → List (Y Δ N R M) → Ω) → E → Ω := fun J0 y0 =>
 (pr.lenD (pr.ld y0 2) fun x1 =>
 (pr.bin .lss false (pr.ld y0 1) x1 fun x2 =>
  (pr.cond x2
   (pr.rowD 3 (pr.ld y0 2) (pr.ld y0 1) fun w3 =>
   (pr.bin .eql false (pr.cell w3 0) (pr.ld y0 0) fun x4 =>
    (pr.cond x4
     (pr.out 0 [.d (pr.ld y0 1)])
     (pr.bin .add false (pr.ld y0 1) (pr.lit (.int Go.IntKind.i64 (1))) fun x5 =>
     (J0 0 [.d (pr.ld y0 0), .d x5, .d (pr.ld y0 2), .d (pr.ld y0 3)])))))
   (pr.out 1 []))))
def G63 (a0 a1 a2 : Δ) : Ω :=
 (pr.bnd (pr.loop [(L63_0 pr)] 0 [.d a2, .d (pr.lit (.int Go.IntKind.i64 (0))), .d a0, .d a1]) [fun y0 => (pr.out 0 [.d (pr.ld y0 0)]), fun y0 => (pr.out 0 [.d (pr.lit (.int Go.IntKind.i64 (-1)))])])
/-! slices.ContainsFunc[[]leazing/api.Claim,leazing/api.Claim] -/
def G64 (a0 a1 : Δ) : Ω :=
 (pr.bnd (pr.call 90 [a0, a1]) [fun y0 => (pr.bin .geq false (pr.ld y0 0) (pr.lit (.int Go.IntKind.i64 (0))) fun x1 =>
 (pr.out 0 [.d x1]))])
/-! leazing/drift.CheckClaims$1 -/
def G65 (a0 a1 a2 a3 a4 a5 a6 a7 : Δ) : Ω :=
 (pr.bin .eql false a0 a4 fun x0 =>
(pr.out 0 [.d x0]))
/-! leazing/leazingref04.areClaims -/
def L66_0  : (Nat → List (Y Δ N R M) → Ω) → E → Ω := fun J9 y9 =>
 (pr.bin .lss false (pr.ld y9 2) (pr.ld y9 1) fun x10 =>
          (pr.cond x10
           (pr.rowD 4 (pr.ld y9 0) (pr.ld y9 2) fun w11 =>
           (pr.rowD 4 (pr.ld y9 0) (pr.ld y9 1) fun w12 =>
            (pr.bin .eql false (pr.cell w11 0) (pr.cell w12 0) fun x13 =>
             (pr.cond x13
              (pr.out 0 [.d (pr.lit (.bool false))])
              (pr.bin .add false (pr.ld y9 2) (pr.lit (.int Go.IntKind.i64 (1))) fun x14 =>
              (J9 0 [.d (pr.ld y9 0), .d (pr.ld y9 1), .d x14, .d (pr.ld y9 3), .d (pr.ld y9 4)]))))))
           (pr.out 1 [.d (pr.ld y9 0), .d (pr.ld y9 1), .d (pr.ld y9 3), .d (pr.ld y9 4)])))
def L66_1  : (Nat → List (Y Δ N R M) → Ω) → E → Ω := fun J0 y0 =>
 (pr.lenD (pr.ld y0 0) fun x1 =>
 (pr.bin .lss false (pr.ld y0 1) x1 fun x2 =>
  (pr.cond x2
   (pr.rowD 4 (pr.ld y0 0) (pr.ld y0 1) fun w3 =>
   (pr.bnd (pr.call 24 [(pr.cell w3 0), (pr.cell w3 1), (pr.cell w3 2), (pr.cell w3 3)]) [fun y4 => (pr.bin .neq false (pr.ld y4 0) (pr.lit (.int Go.IntKind.i64 (0))) fun x5 =>
     (pr.cond x5
      (pr.out 0 [.d (pr.lit (.bool false))])
      (pr.rowD 4 (pr.ld y0 0) (pr.ld y0 1) fun w6 =>
      (pr.lenD (pr.ld y0 3) fun x7 =>
       (pr.bin .geq false (pr.cell w6 3) x7 fun x8 =>
        (pr.cond x8
         (pr.out 0 [.d (pr.lit (.bool false))])
         (pr.bnd (pr.loop [(L66_0 pr)] 0 [.d (pr.ld y0 0), .d (pr.ld y0 1), .d (pr.lit (.int Go.IntKind.i64 (0))), .d (pr.ld y0 2), .d (pr.ld y0 3)]) [fun y9 => (pr.out 0 [.d (pr.ld y9 0)]), fun y9 => (pr.bin .add false (pr.ld y9 1) (pr.lit (.int Go.IntKind.i64 (1))) fun x10 =>
          (J0 0 [.d (pr.ld y9 0), .d x10, .d (pr.ld y9 2), .d (pr.ld y9 3)]))])))))))]))
   (pr.out 1 [.d (pr.ld y0 0)]))))
def G66 (a0 a1 a2 : Δ) : Ω :=
 (pr.bnd (pr.loop [(L66_1 pr)] 0 [.d a2, .d (pr.lit (.int Go.IntKind.i64 (0))), .d a0, .d a1]) [fun y0 => (pr.out 0 [.d (pr.ld y0 0)]), fun y0 => (pr.lenD (pr.ld y0 0) fun x1 =>
 (pr.bnd (pr.call 61 [x1, (pr.lit (.int Go.IntKind.i64 (1))), (pr.lit (.int Go.IntKind.i64 (12)))]) [fun y2 => (pr.out 0 [.d (pr.ld y2 0)])]))])
/-! leazing/drift.look -/
def G67 (a0 a1 a2 : Δ) : Ω :=
 (pr.bnd (pr.call 17 [a0, a1, a2]) [fun y0 => (pr.bin .neq false (pr.ld y0 0) (pr.lit (.int Go.IntKind.i64 (0))) fun x1 =>
 (pr.cond x1
  (pr.out 0 [.d (pr.lit (.pointer none)), .d (pr.ld y0 0)])
  (pr.out 0 [.d (pr.dpD [a0, a1, a2] 0), .d (pr.lit (.int Go.IntKind.i64 (0)))])))])
/-! (*leazing/drift.parted).fairest -/
def L68_0  : (Nat → List (Y Δ N R M) → Ω) → E → Ω := fun J1 y1 =>
 (pr.cond (pr.ld y1 8)
  (pr.bnd (pr.call 85 [(pr.ld y1 0), (pr.ld y1 1), (pr.ld y1 2), (pr.ld y1 5)]) [fun y2 => (pr.eqN (pr.len (pr.lr y2 0)) (pr.len (pr.lr y2 0)) (pr.bnd (pr.call 91 [(pr.slD 2 (pr.seg (pr.lr y2 0) none (pr.len (pr.lr y2 0))))]) [fun y3 => (pr.lits [.d (pr.ld y3 0), .d (pr.ld y3 1)]
    (pr.bnd (pr.call 92 [(pr.ld y3 0), (pr.ld y3 1)]) [fun y4 => (pr.bnd (pr.call 74 [(pr.ld y1 0), (pr.ld y1 1), (pr.ld y1 2), (pr.ld y4 0)]) [fun y5 => (J1 1 [.d (pr.ld y1 0), .d (pr.ld y1 1), .d (pr.ld y1 2), .d (pr.ld y1 5), .d (pr.lit (.bool true)), .r (pr.lr y5 1), .d (pr.ld y5 0), .n (pr.len (pr.lr y5 1)), .n (pr.len (pr.lr y5 1)), .d (pr.ld y5 2), .d (pr.ld y3 0), .d (pr.ld y3 1)]), fun y5 => (J1 2 [.d (pr.ld y1 0), .d (pr.ld y1 1), .d (pr.ld y1 2), .d (pr.ld y1 5), .d (pr.lit (.bool true)), .d (pr.ld y5 0), .d (pr.ld y5 1), .d (pr.ld y5 2), .d (pr.ld y3 0), .d (pr.ld y3 1)])])]))])), fun y2 => (pr.bnd (pr.call 91 [(pr.ld y2 0)]) [fun y3 => (pr.bnd (pr.call 92 [(pr.ld y3 0), (pr.ld y3 1)]) [fun y4 => (pr.bnd (pr.call 74 [(pr.ld y1 0), (pr.ld y1 1), (pr.ld y1 2), (pr.ld y4 0)]) [fun y5 => (J1 1 [.d (pr.ld y1 0), .d (pr.ld y1 1), .d (pr.ld y1 2), .d (pr.ld y1 5), .d (pr.lit (.bool true)), .r (pr.lr y5 1), .d (pr.ld y5 0), .n (pr.len (pr.lr y5 1)), .n (pr.len (pr.lr y5 1)), .d (pr.ld y5 2), .d (pr.ld y3 0), .d (pr.ld y3 1)]), fun y5 => (J1 2 [.d (pr.ld y1 0), .d (pr.ld y1 1), .d (pr.ld y1 2), .d (pr.ld y1 5), .d (pr.lit (.bool true)), .d (pr.ld y5 0), .d (pr.ld y5 1), .d (pr.ld y5 2), .d (pr.ld y3 0), .d (pr.ld y3 1)])])])])])
  (pr.out 0 [.d (pr.ld y1 3), .r (pr.lr y1 4), .d (pr.ld y1 5), .n (pr.ln y1 6), .n (pr.ln y1 7), .d (pr.ld y1 8), .d (pr.ld y1 9), .d (pr.ld y1 10)]))
def L68_1  : (Nat → List (Y Δ N R M) → Ω) → E → Ω := fun J1 y1 =>
 (pr.cond (pr.ld y1 9)
  (pr.bnd (pr.call 85 [(pr.ld y1 0), (pr.ld y1 1), (pr.ld y1 2), (pr.ld y1 6)]) [fun y2 => (pr.eqN (pr.len (pr.lr y2 0)) (pr.len (pr.lr y2 0)) (pr.bnd (pr.call 91 [(pr.slD 2 (pr.seg (pr.lr y2 0) none (pr.len (pr.lr y2 0))))]) [fun y3 => (pr.lits [.d (pr.ld y3 0), .d (pr.ld y3 1)]
    (pr.bnd (pr.call 92 [(pr.ld y3 0), (pr.ld y3 1)]) [fun y4 => (pr.bnd (pr.call 74 [(pr.ld y1 0), (pr.ld y1 1), (pr.ld y1 2), (pr.ld y4 0)]) [fun y5 => (J1 3 [.d (pr.ld y1 0), .d (pr.ld y1 1), .d (pr.ld y1 2), .d (pr.ld y1 6), .d (pr.lit (.bool true)), .r (pr.lr y5 1), .d (pr.ld y5 0), .n (pr.len (pr.lr y5 1)), .n (pr.len (pr.lr y5 1)), .d (pr.ld y5 2), .d (pr.ld y3 0), .d (pr.ld y3 1)]), fun y5 => (J1 2 [.d (pr.ld y1 0), .d (pr.ld y1 1), .d (pr.ld y1 2), .d (pr.ld y1 6), .d (pr.lit (.bool true)), .d (pr.ld y5 0), .d (pr.ld y5 1), .d (pr.ld y5 2), .d (pr.ld y3 0), .d (pr.ld y3 1)])])]))])), fun y2 => (pr.bnd (pr.call 91 [(pr.ld y2 0)]) [fun y3 => (pr.bnd (pr.call 92 [(pr.ld y3 0), (pr.ld y3 1)]) [fun y4 => (pr.bnd (pr.call 74 [(pr.ld y1 0), (pr.ld y1 1), (pr.ld y1 2), (pr.ld y4 0)]) [fun y5 => (J1 3 [.d (pr.ld y1 0), .d (pr.ld y1 1), .d (pr.ld y1 2), .d (pr.ld y1 6), .d (pr.lit (.bool true)), .r (pr.lr y5 1), .d (pr.ld y5 0), .n (pr.len (pr.lr y5 1)), .n (pr.len (pr.lr y5 1)), .d (pr.ld y5 2), .d (pr.ld y3 0), .d (pr.ld y3 1)]), fun y5 => (J1 2 [.d (pr.ld y1 0), .d (pr.ld y1 1), .d (pr.ld y1 2), .d (pr.ld y1 6), .d (pr.lit (.bool true)), .d (pr.ld y5 0), .d (pr.ld y5 1), .d (pr.ld y5 2), .d (pr.ld y3 0), .d (pr.ld y3 1)])])])])])
  (pr.out 1 [.d (pr.ld y1 3), .d (pr.ld y1 4), .r (pr.lr y1 5), .d (pr.ld y1 6), .n (pr.ln y1 7), .n (pr.ln y1 8), .d (pr.ld y1 9), .d (pr.ld y1 10), .d (pr.ld y1 11)]))
def L68_2  : (Nat → List (Y Δ N R M) → Ω) → E → Ω := fun J1 y1 =>
 (pr.cond (pr.ld y1 7)
  (pr.bnd (pr.call 85 [(pr.ld y1 0), (pr.ld y1 1), (pr.ld y1 2), (pr.ld y1 5)]) [fun y2 => (pr.eqN (pr.len (pr.lr y2 0)) (pr.len (pr.lr y2 0)) (pr.bnd (pr.call 91 [(pr.slD 2 (pr.seg (pr.lr y2 0) none (pr.len (pr.lr y2 0))))]) [fun y3 => (pr.lits [.d (pr.ld y3 0), .d (pr.ld y3 1)]
    (pr.bnd (pr.call 92 [(pr.ld y3 0), (pr.ld y3 1)]) [fun y4 => (pr.bnd (pr.call 74 [(pr.ld y1 0), (pr.ld y1 1), (pr.ld y1 2), (pr.ld y4 0)]) [fun y5 => (J1 1 [.d (pr.ld y1 0), .d (pr.ld y1 1), .d (pr.ld y1 2), .d (pr.ld y1 5), .d (pr.lit (.bool true)), .r (pr.lr y5 1), .d (pr.ld y5 0), .n (pr.len (pr.lr y5 1)), .n (pr.len (pr.lr y5 1)), .d (pr.ld y5 2), .d (pr.ld y3 0), .d (pr.ld y3 1)]), fun y5 => (J1 2 [.d (pr.ld y1 0), .d (pr.ld y1 1), .d (pr.ld y1 2), .d (pr.ld y1 5), .d (pr.lit (.bool true)), .d (pr.ld y5 0), .d (pr.ld y5 1), .d (pr.ld y5 2), .d (pr.ld y3 0), .d (pr.ld y3 1)])])]))])), fun y2 => (pr.bnd (pr.call 91 [(pr.ld y2 0)]) [fun y3 => (pr.bnd (pr.call 92 [(pr.ld y3 0), (pr.ld y3 1)]) [fun y4 => (pr.bnd (pr.call 74 [(pr.ld y1 0), (pr.ld y1 1), (pr.ld y1 2), (pr.ld y4 0)]) [fun y5 => (J1 1 [.d (pr.ld y1 0), .d (pr.ld y1 1), .d (pr.ld y1 2), .d (pr.ld y1 5), .d (pr.lit (.bool true)), .r (pr.lr y5 1), .d (pr.ld y5 0), .n (pr.len (pr.lr y5 1)), .n (pr.len (pr.lr y5 1)), .d (pr.ld y5 2), .d (pr.ld y3 0), .d (pr.ld y3 1)]), fun y5 => (J1 2 [.d (pr.ld y1 0), .d (pr.ld y1 1), .d (pr.ld y1 2), .d (pr.ld y1 5), .d (pr.lit (.bool true)), .d (pr.ld y5 0), .d (pr.ld y5 1), .d (pr.ld y5 2), .d (pr.ld y3 0), .d (pr.ld y3 1)])])])])])
  (pr.out 2 [.d (pr.ld y1 3), .d (pr.ld y1 4), .d (pr.ld y1 5), .d (pr.ld y1 6), .d (pr.ld y1 7), .d (pr.ld y1 8), .d (pr.ld y1 9)]))
def L68_3  : (Nat → List (Y Δ N R M) → Ω) → E → Ω := fun J1 y1 =>
 (pr.cond (pr.ld y1 9)
  (pr.bnd (pr.call 85 [(pr.ld y1 0), (pr.ld y1 1), (pr.ld y1 2), (pr.ld y1 6)]) [fun y2 => (pr.eqN (pr.len (pr.lr y2 0)) (pr.len (pr.lr y2 0)) (pr.bnd (pr.call 91 [(pr.slD 2 (pr.seg (pr.lr y2 0) none (pr.len (pr.lr y2 0))))]) [fun y3 => (pr.lits [.d (pr.ld y3 0), .d (pr.ld y3 1)]
    (pr.bnd (pr.call 92 [(pr.ld y3 0), (pr.ld y3 1)]) [fun y4 => (pr.bnd (pr.call 74 [(pr.ld y1 0), (pr.ld y1 1), (pr.ld y1 2), (pr.ld y4 0)]) [fun y5 => (J1 1 [.d (pr.ld y1 0), .d (pr.ld y1 1), .d (pr.ld y1 2), .d (pr.ld y1 6), .d (pr.lit (.bool true)), .r (pr.lr y5 1), .d (pr.ld y5 0), .n (pr.len (pr.lr y5 1)), .n (pr.len (pr.lr y5 1)), .d (pr.ld y5 2), .d (pr.ld y3 0), .d (pr.ld y3 1)]), fun y5 => (J1 2 [.d (pr.ld y1 0), .d (pr.ld y1 1), .d (pr.ld y1 2), .d (pr.ld y1 6), .d (pr.lit (.bool true)), .d (pr.ld y5 0), .d (pr.ld y5 1), .d (pr.ld y5 2), .d (pr.ld y3 0), .d (pr.ld y3 1)])])]))])), fun y2 => (pr.bnd (pr.call 91 [(pr.ld y2 0)]) [fun y3 => (pr.bnd (pr.call 92 [(pr.ld y3 0), (pr.ld y3 1)]) [fun y4 => (pr.bnd (pr.call 74 [(pr.ld y1 0), (pr.ld y1 1), (pr.ld y1 2), (pr.ld y4 0)]) [fun y5 => (J1 1 [.d (pr.ld y1 0), .d (pr.ld y1 1), .d (pr.ld y1 2), .d (pr.ld y1 6), .d (pr.lit (.bool true)), .r (pr.lr y5 1), .d (pr.ld y5 0), .n (pr.len (pr.lr y5 1)), .n (pr.len (pr.lr y5 1)), .d (pr.ld y5 2), .d (pr.ld y3 0), .d (pr.ld y3 1)]), fun y5 => (J1 2 [.d (pr.ld y1 0), .d (pr.ld y1 1), .d (pr.ld y1 2), .d (pr.ld y1 6), .d (pr.lit (.bool true)), .d (pr.ld y5 0), .d (pr.ld y5 1), .d (pr.ld y5 2), .d (pr.ld y3 0), .d (pr.ld y3 1)])])])])])
  (pr.out 3 [.d (pr.ld y1 3), .d (pr.ld y1 4), .r (pr.lr y1 5), .d (pr.ld y1 6), .n (pr.ln y1 7), .n (pr.ln y1 8), .d (pr.ld y1 9), .d (pr.ld y1 10), .d (pr.ld y1 11)]))
def L68_4  : (Nat → List (Y Δ N R M) → Ω) → E → Ω := fun J1 y1 =>
 (pr.cond (pr.ld y1 6)
  (pr.bnd (pr.call 85 [(pr.ld y1 0), (pr.ld y1 1), (pr.ld y1 2), (pr.ld y1 4)]) [fun y2 => (pr.eqN (pr.len (pr.lr y2 0)) (pr.len (pr.lr y2 0)) (pr.bnd (pr.call 91 [(pr.slD 2 (pr.seg (pr.lr y2 0) none (pr.len (pr.lr y2 0))))]) [fun y3 => (pr.lits [.d (pr.ld y3 0), .d (pr.ld y3 1)]
    (pr.bnd (pr.call 92 [(pr.ld y3 0), (pr.ld y3 1)]) [fun y4 => (pr.bnd (pr.call 74 [(pr.ld y1 0), (pr.ld y1 1), (pr.ld y1 2), (pr.ld y4 0)]) [fun y5 => (J1 1 [.d (pr.ld y1 0), .d (pr.ld y1 1), .d (pr.ld y1 2), .d (pr.ld y1 4), .d (pr.lit (.bool true)), .r (pr.lr y5 1), .d (pr.ld y5 0), .n (pr.len (pr.lr y5 1)), .n (pr.len (pr.lr y5 1)), .d (pr.ld y5 2), .d (pr.ld y3 0), .d (pr.ld y3 1)]), fun y5 => (J1 2 [.d (pr.ld y1 0), .d (pr.ld y1 1), .d (pr.ld y1 2), .d (pr.ld y1 4), .d (pr.lit (.bool true)), .d (pr.ld y5 0), .d (pr.ld y5 1), .d (pr.ld y5 2), .d (pr.ld y3 0), .d (pr.ld y3 1)])])]))])), fun y2 => (pr.bnd (pr.call 91 [(pr.ld y2 0)]) [fun y3 => (pr.bnd (pr.call 92 [(pr.ld y3 0), (pr.ld y3 1)]) [fun y4 => (pr.bnd (pr.call 74 [(pr.ld y1 0), (pr.ld y1 1), (pr.ld y1 2), (pr.ld y4 0)]) [fun y5 => (J1 1 [.d (pr.ld y1 0), .d (pr.ld y1 1), .d (pr.ld y1 2), .d (pr.ld y1 4), .d (pr.lit (.bool true)), .r (pr.lr y5 1), .d (pr.ld y5 0), .n (pr.len (pr.lr y5 1)), .n (pr.len (pr.lr y5 1)), .d (pr.ld y5 2), .d (pr.ld y3 0), .d (pr.ld y3 1)]), fun y5 => (J1 2 [.d (pr.ld y1 0), .d (pr.ld y1 1), .d (pr.ld y1 2), .d (pr.ld y1 4), .d (pr.lit (.bool true)), .d (pr.ld y5 0), .d (pr.ld y5 1), .d (pr.ld y5 2), .d (pr.ld y3 0), .d (pr.ld y3 1)])])])])])
  (pr.out 0 [.d (pr.ld y1 3), .d (pr.ld y1 4), .d (pr.ld y1 5), .d (pr.ld y1 6), .d (pr.ld y1 7), .d (pr.ld y1 8)]))
def L68_5  : (Nat → List (Y Δ N R M) → Ω) → E → Ω := fun J1 y1 =>
 (pr.cond (pr.ld y1 9)
  (pr.bnd (pr.call 85 [(pr.ld y1 0), (pr.ld y1 1), (pr.ld y1 2), (pr.ld y1 6)]) [fun y2 => (pr.eqN (pr.len (pr.lr y2 0)) (pr.len (pr.lr y2 0)) (pr.bnd (pr.call 91 [(pr.slD 2 (pr.seg (pr.lr y2 0) none (pr.len (pr.lr y2 0))))]) [fun y3 => (pr.lits [.d (pr.ld y3 0), .d (pr.ld y3 1)]
    (pr.bnd (pr.call 92 [(pr.ld y3 0), (pr.ld y3 1)]) [fun y4 => (pr.bnd (pr.call 74 [(pr.ld y1 0), (pr.ld y1 1), (pr.ld y1 2), (pr.ld y4 0)]) [fun y5 => (J1 3 [.d (pr.ld y1 0), .d (pr.ld y1 1), .d (pr.ld y1 2), .d (pr.ld y1 6), .d (pr.lit (.bool true)), .r (pr.lr y5 1), .d (pr.ld y5 0), .n (pr.len (pr.lr y5 1)), .n (pr.len (pr.lr y5 1)), .d (pr.ld y5 2), .d (pr.ld y3 0), .d (pr.ld y3 1)]), fun y5 => (J1 2 [.d (pr.ld y1 0), .d (pr.ld y1 1), .d (pr.ld y1 2), .d (pr.ld y1 6), .d (pr.lit (.bool true)), .d (pr.ld y5 0), .d (pr.ld y5 1), .d (pr.ld y5 2), .d (pr.ld y3 0), .d (pr.ld y3 1)])])]))])), fun y2 => (pr.bnd (pr.call 91 [(pr.ld y2 0)]) [fun y3 => (pr.bnd (pr.call 92 [(pr.ld y3 0), (pr.ld y3 1)]) [fun y4 => (pr.bnd (pr.call 74 [(pr.ld y1 0), (pr.ld y1 1), (pr.ld y1 2), (pr.ld y4 0)]) [fun y5 => (J1 3 [.d (pr.ld y1 0), .d (pr.ld y1 1), .d (pr.ld y1 2), .d (pr.ld y1 6), .d (pr.lit (.bool true)), .r (pr.lr y5 1), .d (pr.ld y5 0), .n (pr.len (pr.lr y5 1)), .n (pr.len (pr.lr y5 1)), .d (pr.ld y5 2), .d (pr.ld y3 0), .d (pr.ld y3 1)]), fun y5 => (J1 2 [.d (pr.ld y1 0), .d (pr.ld y1 1), .d (pr.ld y1 2), .d (pr.ld y1 6), .d (pr.lit (.bool true)), .d (pr.ld y5 0), .d (pr.ld y5 1), .d (pr.ld y5 2), .d (pr.ld y3 0), .d (pr.ld y3 1)])])])])])
  (pr.out 1 [.d (pr.ld y1 3), .d (pr.ld y1 4), .r (pr.lr y1 5), .d (pr.ld y1 6), .n (pr.ln y1 7), .n (pr.ln y1 8), .d (pr.ld y1 9), .d (pr.ld y1 10), .d (pr.ld y1 11)]))
def L68_6  : (Nat → List (Y Δ N R M) → Ω) → E → Ω := fun J1 y1 =>
 (pr.cond (pr.ld y1 7)
  (pr.bnd (pr.call 85 [(pr.ld y1 0), (pr.ld y1 1), (pr.ld y1 2), (pr.ld y1 5)]) [fun y2 => (pr.eqN (pr.len (pr.lr y2 0)) (pr.len (pr.lr y2 0)) (pr.bnd (pr.call 91 [(pr.slD 2 (pr.seg (pr.lr y2 0) none (pr.len (pr.lr y2 0))))]) [fun y3 => (pr.lits [.d (pr.ld y3 0), .d (pr.ld y3 1)]
    (pr.bnd (pr.call 92 [(pr.ld y3 0), (pr.ld y3 1)]) [fun y4 => (pr.bnd (pr.call 74 [(pr.ld y1 0), (pr.ld y1 1), (pr.ld y1 2), (pr.ld y4 0)]) [fun y5 => (J1 1 [.d (pr.ld y1 0), .d (pr.ld y1 1), .d (pr.ld y1 2), .d (pr.ld y1 5), .d (pr.lit (.bool true)), .r (pr.lr y5 1), .d (pr.ld y5 0), .n (pr.len (pr.lr y5 1)), .n (pr.len (pr.lr y5 1)), .d (pr.ld y5 2), .d (pr.ld y3 0), .d (pr.ld y3 1)]), fun y5 => (J1 2 [.d (pr.ld y1 0), .d (pr.ld y1 1), .d (pr.ld y1 2), .d (pr.ld y1 5), .d (pr.lit (.bool true)), .d (pr.ld y5 0), .d (pr.ld y5 1), .d (pr.ld y5 2), .d (pr.ld y3 0), .d (pr.ld y3 1)])])]))])), fun y2 => (pr.bnd (pr.call 91 [(pr.ld y2 0)]) [fun y3 => (pr.bnd (pr.call 92 [(pr.ld y3 0), (pr.ld y3 1)]) [fun y4 => (pr.bnd (pr.call 74 [(pr.ld y1 0), (pr.ld y1 1), (pr.ld y1 2), (pr.ld y4 0)]) [fun y5 => (J1 1 [.d (pr.ld y1 0), .d (pr.ld y1 1), .d (pr.ld y1 2), .d (pr.ld y1 5), .d (pr.lit (.bool true)), .r (pr.lr y5 1), .d (pr.ld y5 0), .n (pr.len (pr.lr y5 1)), .n (pr.len (pr.lr y5 1)), .d (pr.ld y5 2), .d (pr.ld y3 0), .d (pr.ld y3 1)]), fun y5 => (J1 2 [.d (pr.ld y1 0), .d (pr.ld y1 1), .d (pr.ld y1 2), .d (pr.ld y1 5), .d (pr.lit (.bool true)), .d (pr.ld y5 0), .d (pr.ld y5 1), .d (pr.ld y5 2), .d (pr.ld y3 0), .d (pr.ld y3 1)])])])])])
  (pr.out 2 [.d (pr.ld y1 3), .d (pr.ld y1 4), .d (pr.ld y1 5), .d (pr.ld y1 6), .d (pr.ld y1 7), .d (pr.ld y1 8), .d (pr.ld y1 9)]))
def L68_7  : (Nat → List (Y Δ N R M) → Ω) → E → Ω := fun J1 y1 =>
 (pr.cond (pr.ld y1 9)
  (pr.bnd (pr.call 85 [(pr.ld y1 0), (pr.ld y1 1), (pr.ld y1 2), (pr.ld y1 6)]) [fun y2 => (pr.eqN (pr.len (pr.lr y2 0)) (pr.len (pr.lr y2 0)) (pr.bnd (pr.call 91 [(pr.slD 2 (pr.seg (pr.lr y2 0) none (pr.len (pr.lr y2 0))))]) [fun y3 => (pr.lits [.d (pr.ld y3 0), .d (pr.ld y3 1)]
    (pr.bnd (pr.call 92 [(pr.ld y3 0), (pr.ld y3 1)]) [fun y4 => (pr.bnd (pr.call 74 [(pr.ld y1 0), (pr.ld y1 1), (pr.ld y1 2), (pr.ld y4 0)]) [fun y5 => (J1 1 [.d (pr.ld y1 0), .d (pr.ld y1 1), .d (pr.ld y1 2), .d (pr.ld y1 6), .d (pr.lit (.bool true)), .r (pr.lr y5 1), .d (pr.ld y5 0), .n (pr.len (pr.lr y5 1)), .n (pr.len (pr.lr y5 1)), .d (pr.ld y5 2), .d (pr.ld y3 0), .d (pr.ld y3 1)]), fun y5 => (J1 2 [.d (pr.ld y1 0), .d (pr.ld y1 1), .d (pr.ld y1 2), .d (pr.ld y1 6), .d (pr.lit (.bool true)), .d (pr.ld y5 0), .d (pr.ld y5 1), .d (pr.ld y5 2), .d (pr.ld y3 0), .d (pr.ld y3 1)])])]))])), fun y2 => (pr.bnd (pr.call 91 [(pr.ld y2 0)]) [fun y3 => (pr.bnd (pr.call 92 [(pr.ld y3 0), (pr.ld y3 1)]) [fun y4 => (pr.bnd (pr.call 74 [(pr.ld y1 0), (pr.ld y1 1), (pr.ld y1 2), (pr.ld y4 0)]) [fun y5 => (J1 1 [.d (pr.ld y1 0), .d (pr.ld y1 1), .d (pr.ld y1 2), .d (pr.ld y1 6), .d (pr.lit (.bool true)), .r (pr.lr y5 1), .d (pr.ld y5 0), .n (pr.len (pr.lr y5 1)), .n (pr.len (pr.lr y5 1)), .d (pr.ld y5 2), .d (pr.ld y3 0), .d (pr.ld y3 1)]), fun y5 => (J1 2 [.d (pr.ld y1 0), .d (pr.ld y1 1), .d (pr.ld y1 2), .d (pr.ld y1 6), .d (pr.lit (.bool true)), .d (pr.ld y5 0), .d (pr.ld y5 1), .d (pr.ld y5 2), .d (pr.ld y3 0), .d (pr.ld y3 1)])])])])])
  (pr.out 3 [.d (pr.ld y1 3), .d (pr.ld y1 4), .r (pr.lr y1 5), .d (pr.ld y1 6), .n (pr.ln y1 7), .n (pr.ln y1 8), .d (pr.ld y1 9), .d (pr.ld y1 10), .d (pr.ld y1 11)]))
def G68 (a0 a1 a2 : Δ) : Ω :=
 (pr.bnd (pr.call 74 [a0, a1, a2, (pr.fnD 75 [])]) [fun y0 => (pr.bnd (pr.loop [(L68_0 pr), (L68_1 pr), (L68_2 pr), (L68_3 pr)] 0 [.d a0, .d a1, .d a2, .d (pr.lit (.bool false)), .r (pr.lr y0 1), .d (pr.ld y0 0), .n (pr.len (pr.lr y0 1)), .n (pr.len (pr.lr y0 1)), .d (pr.ld y0 2), .d (pr.lit (.int Go.IntKind.i64 (0))), .d (pr.lit (.int Go.IntKind.i64 (0)))]) [fun y1 => (pr.eqN (pr.ln y1 4) (pr.len (pr.lr y1 1)) (pr.leN (pr.ln y1 3) (pr.len (pr.lr y1 1)) (pr.out 0 [.d (pr.lit (.slice none 0 0)), .d (pr.ld y1 6), .d (pr.ld y1 7), .d (pr.ld y1 2), .r (pr.seg (pr.lr y1 1) none (pr.ln y1 3)), .d (pr.ld y1 5), .d (pr.ld y1 0)]))), fun y1 => (pr.eqN (pr.ln y1 5) (pr.len (pr.lr y1 2)) (pr.leN (pr.ln y1 4) (pr.len (pr.lr y1 2)) (pr.out 0 [.d (pr.ld y1 0), .d (pr.ld y1 7), .d (pr.ld y1 8), .d (pr.ld y1 3), .r (pr.seg (pr.lr y1 2) none (pr.ln y1 4)), .d (pr.ld y1 6), .d (pr.ld y1 1)]))), fun y1 => (pr.out 1 [.d (pr.ld y1 0), .d (pr.ld y1 5), .d (pr.ld y1 6), .d (pr.ld y1 2), .d (pr.ld y1 3), .d (pr.ld y1 4), .d (pr.ld y1 1)]), fun y1 => (pr.eqN (pr.ln y1 5) (pr.len (pr.lr y1 2)) (pr.leN (pr.ln y1 4) (pr.len (pr.lr y1 2)) (pr.out 0 [.d (pr.ld y1 0), .d (pr.ld y1 7), .d (pr.ld y1 8), .d (pr.ld y1 3), .r (pr.seg (pr.lr y1 2) none (pr.ln y1 4)), .d (pr.ld y1 6), .d (pr.ld y1 1)])))]), fun y0 => (pr.bnd (pr.loop [(L68_4 pr), (L68_5 pr), (L68_6 pr), (L68_7 pr)] 0 [.d a0, .d a1, .d a2, .d (pr.lit (.bool false)), .d (pr.ld y0 0), .d (pr.ld y0 1), .d (pr.ld y0 2), .d (pr.lit (.int Go.IntKind.i64 (0))), .d (pr.lit (.int Go.IntKind.i64 (0)))]) [fun y1 => (pr.out 1 [.d (pr.lit (.slice none 0 0)), .d (pr.ld y1 4), .d (pr.ld y1 5), .d (pr.ld y1 1), .d (pr.ld y1 2), .d (pr.ld y1 3), .d (pr.ld y1 0)]), fun y1 => (pr.eqN (pr.ln y1 5) (pr.len (pr.lr y1 2)) (pr.leN (pr.ln y1 4) (pr.len (pr.lr y1 2)) (pr.out 0 [.d (pr.ld y1 0), .d (pr.ld y1 7), .d (pr.ld y1 8), .d (pr.ld y1 3), .r (pr.seg (pr.lr y1 2) none (pr.ln y1 4)), .d (pr.ld y1 6), .d (pr.ld y1 1)]))), fun y1 => (pr.out 1 [.d (pr.ld y1 0), .d (pr.ld y1 5), .d (pr.ld y1 6), .d (pr.ld y1 2), .d (pr.ld y1 3), .d (pr.ld y1 4), .d (pr.ld y1 1)]), fun y1 => (pr.eqN (pr.ln y1 5) (pr.len (pr.lr y1 2)) (pr.leN (pr.ln y1 4) (pr.len (pr.lr y1 2)) (pr.out 0 [.d (pr.ld y1 0), .d (pr.ld y1 7), .d (pr.ld y1 8), .d (pr.ld y1 3), .r (pr.seg (pr.lr y1 2) none (pr.ln y1 4)), .d (pr.ld y1 6), .d (pr.ld y1 1)])))])])
/-! leazing/drift.isGain -/
def G69 (a0 a1 : Δ) : Ω :=
 (pr.bnd (pr.call 59 [a0, (pr.lit (.int Go.IntKind.i64 (0))), (pr.lit (.int Go.IntKind.i64 (1000000)))]) [fun y0 => (pr.cond (pr.ld y0 0)
 (pr.bnd (pr.call 59 [a1, (pr.lit (.int Go.IntKind.i64 (1))), (pr.lit (.int Go.IntKind.i64 (1000000)))]) [fun y1 => (pr.out 0 [.d (pr.ld y1 0)])])
 (pr.out 0 [.d (pr.lit (.bool false))]))])
/-! (leazing/drift.gain).against -/
def G70 (a0 a1 a2 a3 : Δ) : Ω :=
 (pr.bin .mul false a0 a3 fun x0 =>
(pr.bin .mul false a2 a1 fun x1 =>
 (pr.bnd (pr.call 93 [x0, x1]) [fun y2 => (pr.out 0 [.d (pr.ld y2 0)])])))
end
theorem G49_eq {Δ N R W M E Ω : Type} (pr : Pr Δ N R W M E Ω) (a0 a1 a2 : Δ) : fun3 pr tb Try.prog 400 49 [a0, a1, a2] = G49 pr a0 a1 a2 := by kernel_rfl
theorem F49 (n : Nat) (a0 a1 a2 : D) : FN (n + 1) 49 [a0, a1, a2] = G49 (RP n) a0 a1 a2 := G49_eq _ a0 a1 a2
theorem G50_eq {Δ N R W M E Ω : Type} (pr : Pr Δ N R W M E Ω) (a0 a1 : Δ) : fun3 pr tb Try.prog 400 50 [a0, a1] = G50 pr a0 a1 := by kernel_rfl
theorem F50 (n : Nat) (a0 a1 : D) : FN (n + 1) 50 [a0, a1] = G50 (RP n) a0 a1 := G50_eq _ a0 a1
theorem G51_eq {Δ N R W M E Ω : Type} (pr : Pr Δ N R W M E Ω) (a0 a1 : Δ) : fun3 pr tb Try.prog 400 51 [a0, a1] = G51 pr a0 a1 := by kernel_rfl
theorem F51 (n : Nat) (a0 a1 : D) : FN (n + 1) 51 [a0, a1] = G51 (RP n) a0 a1 := G51_eq _ a0 a1
theorem G52_eq {Δ N R W M E Ω : Type} (pr : Pr Δ N R W M E Ω) (a0 a1 a2 a3 : Δ) : fun3 pr tb Try.prog 400 52 [a0, a1, a2, a3] = G52 pr a0 a1 a2 a3 := by kernel_rfl
theorem F52 (n : Nat) (a0 a1 a2 a3 : D) : FN (n + 1) 52 [a0, a1, a2, a3] = G52 (RP n) a0 a1 a2 a3 := G52_eq _ a0 a1 a2 a3
theorem G53_eq {Δ N R W M E Ω : Type} (pr : Pr Δ N R W M E Ω) (a0 a1 a2 a3 a4 : Δ) : fun3 pr tb Try.prog 400 53 [a0, a1, a2, a3, a4] = G53 pr a0 a1 a2 a3 a4 := by kernel_rfl
theorem F53 (n : Nat) (a0 a1 a2 a3 a4 : D) : FN (n + 1) 53 [a0, a1, a2, a3, a4] = G53 (RP n) a0 a1 a2 a3 a4 := G53_eq _ a0 a1 a2 a3 a4
theorem G54_eq {Δ N R W M E Ω : Type} (pr : Pr Δ N R W M E Ω) (a0 a1 a2 a3 a4 a5 a6 : Δ) : fun3 pr tb Try.prog 400 54 [a0, a1, a2, a3, a4, a5, a6] = G54 pr a0 a1 a2 a3 a4 a5 a6 := by kernel_rfl
theorem F54 (n : Nat) (a0 a1 a2 a3 a4 a5 a6 : D) : FN (n + 1) 54 [a0, a1, a2, a3, a4, a5, a6] = G54 (RP n) a0 a1 a2 a3 a4 a5 a6 := G54_eq _ a0 a1 a2 a3 a4 a5 a6
theorem G55_eq {Δ N R W M E Ω : Type} (pr : Pr Δ N R W M E Ω) (a0 a1 a2 : Δ) : fun3 pr tb Try.prog 400 55 [a0, a1, a2] = G55 pr a0 a1 a2 := by kernel_rfl
theorem F55 (n : Nat) (a0 a1 a2 : D) : FN (n + 1) 55 [a0, a1, a2] = G55 (RP n) a0 a1 a2 := G55_eq _ a0 a1 a2
theorem G56_eq {Δ N R W M E Ω : Type} (pr : Pr Δ N R W M E Ω) (a0 a1 a2 a3 : Δ) : fun3 pr tb Try.prog 400 56 [a0, a1, a2, a3] = G56 pr a0 a1 a2 a3 := by kernel_rfl
theorem F56 (n : Nat) (a0 a1 a2 a3 : D) : FN (n + 1) 56 [a0, a1, a2, a3] = G56 (RP n) a0 a1 a2 a3 := G56_eq _ a0 a1 a2 a3
theorem G59_eq {Δ N R W M E Ω : Type} (pr : Pr Δ N R W M E Ω) (a0 a1 a2 : Δ) : fun3 pr tb Try.prog 400 59 [a0, a1, a2] = G59 pr a0 a1 a2 := by kernel_rfl
theorem F59 (n : Nat) (a0 a1 a2 : D) : FN (n + 1) 59 [a0, a1, a2] = G59 (RP n) a0 a1 a2 := G59_eq _ a0 a1 a2
theorem G60_eq {Δ N R W M E Ω : Type} (pr : Pr Δ N R W M E Ω) (a0 : Δ) : fun3 pr tb Try.prog 400 60 [a0] = G60 pr a0 := by kernel_rfl
theorem F60 (n : Nat) (a0 : D) : FN (n + 1) 60 [a0] = G60 (RP n) a0 := G60_eq _ a0
theorem G61_eq {Δ N R W M E Ω : Type} (pr : Pr Δ N R W M E Ω) (a0 a1 a2 : Δ) : fun3 pr tb Try.prog 400 61 [a0, a1, a2] = G61 pr a0 a1 a2 := by kernel_rfl
theorem F61 (n : Nat) (a0 a1 a2 : D) : FN (n + 1) 61 [a0, a1, a2] = G61 (RP n) a0 a1 a2 := G61_eq _ a0 a1 a2
theorem G62_eq {Δ N R W M E Ω : Type} (pr : Pr Δ N R W M E Ω) (a0 a1 : Δ) : fun3 pr tb Try.prog 400 62 [a0, a1] = G62 pr a0 a1 := by kernel_rfl
theorem F62 (n : Nat) (a0 a1 : D) : FN (n + 1) 62 [a0, a1] = G62 (RP n) a0 a1 := G62_eq _ a0 a1
theorem G63_eq {Δ N R W M E Ω : Type} (pr : Pr Δ N R W M E Ω) (a0 a1 a2 : Δ) : fun3 pr tb Try.prog 400 63 [a0, a1, a2] = G63 pr a0 a1 a2 := by kernel_rfl
theorem F63 (n : Nat) (a0 a1 a2 : D) : FN (n + 1) 63 [a0, a1, a2] = G63 (RP n) a0 a1 a2 := G63_eq _ a0 a1 a2
theorem G64_eq {Δ N R W M E Ω : Type} (pr : Pr Δ N R W M E Ω) (a0 a1 : Δ) : fun3 pr tb Try.prog 400 64 [a0, a1] = G64 pr a0 a1 := by kernel_rfl
theorem F64 (n : Nat) (a0 a1 : D) : FN (n + 1) 64 [a0, a1] = G64 (RP n) a0 a1 := G64_eq _ a0 a1
theorem G65_eq {Δ N R W M E Ω : Type} (pr : Pr Δ N R W M E Ω) (a0 a1 a2 a3 a4 a5 a6 a7 : Δ) : fun3 pr tb Try.prog 400 65 [a0, a1, a2, a3, a4, a5, a6, a7] = G65 pr a0 a1 a2 a3 a4 a5 a6 a7 := by kernel_rfl
theorem F65 (n : Nat) (a0 a1 a2 a3 a4 a5 a6 a7 : D) : FN (n + 1) 65 [a0, a1, a2, a3, a4, a5, a6, a7] = G65 (RP n) a0 a1 a2 a3 a4 a5 a6 a7 := G65_eq _ a0 a1 a2 a3 a4 a5 a6 a7
theorem G66_eq {Δ N R W M E Ω : Type} (pr : Pr Δ N R W M E Ω) (a0 a1 a2 : Δ) : fun3 pr tb Try.prog 400 66 [a0, a1, a2] = G66 pr a0 a1 a2 := by kernel_rfl
theorem F66 (n : Nat) (a0 a1 a2 : D) : FN (n + 1) 66 [a0, a1, a2] = G66 (RP n) a0 a1 a2 := G66_eq _ a0 a1 a2
theorem G67_eq {Δ N R W M E Ω : Type} (pr : Pr Δ N R W M E Ω) (a0 a1 a2 : Δ) : fun3 pr tb Try.prog 400 67 [a0, a1, a2] = G67 pr a0 a1 a2 := by kernel_rfl
theorem F67 (n : Nat) (a0 a1 a2 : D) : FN (n + 1) 67 [a0, a1, a2] = G67 (RP n) a0 a1 a2 := G67_eq _ a0 a1 a2
theorem G68_eq {Δ N R W M E Ω : Type} (pr : Pr Δ N R W M E Ω) (a0 a1 a2 : Δ) : fun3 pr tb Try.prog 400 68 [a0, a1, a2] = G68 pr a0 a1 a2 := by kernel_rfl
theorem F68 (n : Nat) (a0 a1 a2 : D) : FN (n + 1) 68 [a0, a1, a2] = G68 (RP n) a0 a1 a2 := G68_eq _ a0 a1 a2
theorem G69_eq {Δ N R W M E Ω : Type} (pr : Pr Δ N R W M E Ω) (a0 a1 : Δ) : fun3 pr tb Try.prog 400 69 [a0, a1] = G69 pr a0 a1 := by kernel_rfl
theorem F69 (n : Nat) (a0 a1 : D) : FN (n + 1) 69 [a0, a1] = G69 (RP n) a0 a1 := G69_eq _ a0 a1
theorem G70_eq {Δ N R W M E Ω : Type} (pr : Pr Δ N R W M E Ω) (a0 a1 a2 a3 : Δ) : fun3 pr tb Try.prog 400 70 [a0, a1, a2, a3] = G70 pr a0 a1 a2 a3 := by kernel_rfl
theorem F70 (n : Nat) (a0 a1 a2 a3 : D) : FN (n + 1) 70 [a0, a1, a2, a3] = G70 (RP n) a0 a1 a2 a3 := G70_eq _ a0 a1 a2 a3
end Go.VE
/- What the functions of this program do, made by a program of ours out of the evaluator itself. -/
namespace Go.VE
open Go.RowKit Go.Proofs
set_option maxRecDepth 100000
set_option maxHeartbeats 4000000
section
variable {Δ N R W M E Ω : Type} (pr : Pr Δ N R W M E Ω)
/-! (*leazing/drift.parted).least -/
def L74_0  : (Nat → List (Y Δ N R M) → Ω) → E → Ω := fun J5 y5 =>
 (pr.bin .leq false (pr.ld y5 0) (pr.ld y5 22) fun x6 =>
      (pr.cond x6
       (pr.lenD (pr.ld y5 24) fun x7 =>
       (pr.bin .lss false (pr.ld y5 0) x7 fun x8 =>
        (pr.cond x8
         (pr.bnd (pr.call 81 [(pr.ld y5 13), (pr.ld y5 14), (pr.ld y5 18), (pr.ld y5 0)]) [fun y9 => (pr.bnd (pr.callD (pr.ld y5 12) [.agg 4, .one] [(pr.ld y5 2), (pr.ld y5 3), (pr.ld y5 4), (pr.ld y5 5), (pr.ld y9 0)]) [fun y10 => (pr.cond (pr.ld y10 0)
           (pr.eqN (pr.natN 1) (pr.len (pr.rows [[(pr.ld y5 18), (pr.ld y5 0)]])) (pr.isNil (pr.seg (pr.rows [[(pr.ld y5 18), (pr.ld y5 0)]]) none (pr.natN 1))
           (pr.bin .add false (pr.ld y5 0) (pr.lit (.int Go.IntKind.i64 (1))) fun x11 =>
           (pr.out 0 [.d (pr.lit (.bool true)), .d (pr.ld y5 2), .d (pr.ld y5 3), .d (pr.ld y5 4), .d (pr.ld y5 5), .d (pr.ld y5 6), .r (pr.lr y5 7), .d (pr.ld y5 8), .d (pr.ld y5 9), .d (pr.ld y5 10), .d (pr.ld y5 11), .d (pr.ld y5 12), .d (pr.ld y5 13), .d (pr.ld y5 14), .d (pr.ld y5 15), .d x11, .d (pr.ld y5 17), .d (pr.ld y5 18), .d (pr.ld y5 19), .d (pr.ld y5 20), .d (pr.ld y5 21), .d (pr.ld y5 22), .d (pr.ld y5 23), .d (pr.ld y5 24), .d (pr.ld y5 25)]))
           (pr.fits 16 (pr.len (pr.seg (pr.rows [[(pr.ld y5 18), (pr.ld y5 0)]]) none (pr.natN 1)))
           (pr.bin .add false (pr.ld y5 0) (pr.lit (.int Go.IntKind.i64 (1))) fun x11 =>
           (pr.out 1 [.r (pr.seg (pr.rows [[(pr.ld y5 18), (pr.ld y5 0)]]) none (pr.natN 1)), .d (pr.lit (.bool true)), .d (pr.ld y5 2), .d (pr.ld y5 3), .d (pr.ld y5 4), .d (pr.ld y5 5), .n (pr.len (pr.seg (pr.rows [[(pr.ld y5 18), (pr.ld y5 0)]]) none (pr.natN 1))), .n (pr.len (pr.seg (pr.rows [[(pr.ld y5 18), (pr.ld y5 0)]]) none (pr.natN 1))), .d (pr.ld y5 6), .r (pr.lr y5 7), .d (pr.ld y5 8), .d (pr.ld y5 9), .d (pr.ld y5 10), .d (pr.ld y5 11), .d (pr.ld y5 12), .d (pr.ld y5 13), .d (pr.ld y5 14), .d (pr.ld y5 15), .d x11, .d (pr.ld y5 17), .d (pr.ld y5 18), .d (pr.ld y5 19), .d (pr.ld y5 20), .d (pr.ld y5 21), .d (pr.ld y5 22), .d (pr.ld y5 23), .d (pr.ld y5 24), .d (pr.ld y5 25)])))))
           (pr.bin .add false (pr.ld y5 0) (pr.lit (.int Go.IntKind.i64 (1))) fun x11 =>
           (J5 0 [.d x11, .d (pr.ld y5 1), .d (pr.ld y5 2), .d (pr.ld y5 3), .d (pr.ld y5 4), .d (pr.ld y5 5), .d (pr.ld y5 6), .r (pr.lr y5 7), .d (pr.ld y5 8), .d (pr.ld y5 9), .d (pr.ld y5 10), .d (pr.ld y5 11), .d (pr.ld y5 12), .d (pr.ld y5 13), .d (pr.ld y5 14), .d (pr.ld y5 15), .d (pr.ld y5 16), .d (pr.ld y5 17), .d (pr.ld y5 18), .d (pr.ld y5 19), .d (pr.ld y5 20), .d (pr.ld y5 21), .d (pr.ld y5 22), .d (pr.ld y5 23), .d (pr.ld y5 24), .d (pr.ld y5 25)])))])])
         (pr.out 2 [.d (pr.ld y5 1), .d (pr.ld y5 2), .d (pr.ld y5 3), .d (pr.ld y5 4), .d (pr.ld y5 5), .d (pr.ld y5 6), .r (pr.lr y5 7), .d (pr.ld y5 8), .d (pr.ld y5 9), .d (pr.ld y5 10), .d (pr.ld y5 11), .d (pr.ld y5 12), .d (pr.ld y5 13), .d (pr.ld y5 14), .d (pr.ld y5 15), .d (pr.ld y5 16), .d (pr.ld y5 17), .d (pr.ld y5 18), .d (pr.ld y5 19), .d (pr.ld y5 20), .d (pr.ld y5 21), .d (pr.ld y5 22), .d (pr.ld y5 23), .d (pr.ld y5 24), .d (pr.ld y5 25)]))))
       (pr.out 2 [.d (pr.ld y5 1), .d (pr.ld y5 2), .d (pr.ld y5 3), .d (pr.ld y5 4), .d (pr.ld y5 5), .d (pr.ld y5 6), .r (pr.lr y5 7), .d (pr.ld y5 8), .d (pr.ld y5 9), .d (pr.ld y5 10), .d (pr.ld y5 11), .d (pr.ld y5 12), .d (pr.ld y5 13), .d (pr.ld y5 14), .d (pr.ld y5 15), .d (pr.ld y5 16), .d (pr.ld y5 17), .d (pr.ld y5 18), .d (pr.ld y5 19), .d (pr.ld y5 20), .d (pr.ld y5 21), .d (pr.ld y5 22), .d (pr.ld y5 23), .d (pr.ld y5 24), .d (pr.ld y5 25)])))
def L74_1  : (Nat → List (Y Δ N R M) → Ω) → E → Ω := fun J5 y5 =>
 (pr.bin .leq false (pr.ld y5 0) (pr.ld y5 25) fun x6 =>
      (pr.cond x6
       (pr.lenD (pr.ld y5 27) fun x7 =>
       (pr.bin .lss false (pr.ld y5 0) x7 fun x8 =>
        (pr.cond x8
         (pr.bnd (pr.call 81 [(pr.ld y5 16), (pr.ld y5 17), (pr.ld y5 21), (pr.ld y5 0)]) [fun y9 => (pr.bnd (pr.callD (pr.ld y5 15) [.agg 4, .one] [(pr.ld y5 2), (pr.ld y5 3), (pr.ld y5 4), (pr.ld y5 5), (pr.ld y9 0)]) [fun y10 => (pr.cond (pr.ld y10 0)
           (pr.eqN (pr.natN 1) (pr.len (pr.rows [[(pr.ld y5 21), (pr.ld y5 0)]])) (pr.isNil (pr.seg (pr.rows [[(pr.ld y5 21), (pr.ld y5 0)]]) none (pr.natN 1))
           (pr.bin .add false (pr.ld y5 0) (pr.lit (.int Go.IntKind.i64 (1))) fun x11 =>
           (pr.out 0 [.d (pr.lit (.bool true)), .d (pr.ld y5 2), .d (pr.ld y5 3), .d (pr.ld y5 4), .d (pr.ld y5 5), .n (pr.ln y5 6), .n (pr.ln y5 7), .d (pr.ld y5 8), .r (pr.lr y5 9), .r (pr.lr y5 10), .d (pr.ld y5 11), .d (pr.ld y5 12), .d (pr.ld y5 13), .d (pr.ld y5 14), .d (pr.ld y5 15), .d (pr.ld y5 16), .d (pr.ld y5 17), .d (pr.ld y5 18), .d x11, .d (pr.ld y5 20), .d (pr.ld y5 21), .d (pr.ld y5 22), .d (pr.ld y5 23), .d (pr.ld y5 24), .d (pr.ld y5 25), .d (pr.ld y5 26), .d (pr.ld y5 27), .d (pr.ld y5 28)]))
           (pr.fits 16 (pr.len (pr.seg (pr.rows [[(pr.ld y5 21), (pr.ld y5 0)]]) none (pr.natN 1)))
           (pr.bin .add false (pr.ld y5 0) (pr.lit (.int Go.IntKind.i64 (1))) fun x11 =>
           (pr.out 1 [.r (pr.seg (pr.rows [[(pr.ld y5 21), (pr.ld y5 0)]]) none (pr.natN 1)), .d (pr.lit (.bool true)), .d (pr.ld y5 2), .d (pr.ld y5 3), .d (pr.ld y5 4), .d (pr.ld y5 5), .n (pr.len (pr.seg (pr.rows [[(pr.ld y5 21), (pr.ld y5 0)]]) none (pr.natN 1))), .n (pr.len (pr.seg (pr.rows [[(pr.ld y5 21), (pr.ld y5 0)]]) none (pr.natN 1))), .n (pr.ln y5 6), .n (pr.ln y5 7), .d (pr.ld y5 8), .r (pr.lr y5 9), .r (pr.lr y5 10), .d (pr.ld y5 11), .d (pr.ld y5 12), .d (pr.ld y5 13), .d (pr.ld y5 14), .d (pr.ld y5 15), .d (pr.ld y5 16), .d (pr.ld y5 17), .d (pr.ld y5 18), .d x11, .d (pr.ld y5 20), .d (pr.ld y5 21), .d (pr.ld y5 22), .d (pr.ld y5 23), .d (pr.ld y5 24), .d (pr.ld y5 25), .d (pr.ld y5 26), .d (pr.ld y5 27), .d (pr.ld y5 28)])))))
           (pr.bin .add false (pr.ld y5 0) (pr.lit (.int Go.IntKind.i64 (1))) fun x11 =>
           (J5 0 [.d x11, .d (pr.ld y5 1), .d (pr.ld y5 2), .d (pr.ld y5 3), .d (pr.ld y5 4), .d (pr.ld y5 5), .n (pr.ln y5 6), .n (pr.ln y5 7), .d (pr.ld y5 8), .r (pr.lr y5 9), .r (pr.lr y5 10), .d (pr.ld y5 11), .d (pr.ld y5 12), .d (pr.ld y5 13), .d (pr.ld y5 14), .d (pr.ld y5 15), .d (pr.ld y5 16), .d (pr.ld y5 17), .d (pr.ld y5 18), .d (pr.ld y5 19), .d (pr.ld y5 20), .d (pr.ld y5 21), .d (pr.ld y5 22), .d (pr.ld y5 23), .d (pr.ld y5 24), .d (pr.ld y5 25), .d (pr.ld y5 26), .d (pr.ld y5 27), .d (pr.ld y5 28)])))])])
         (pr.out 2 [.d (pr.ld y5 1), .d (pr.ld y5 2), .d (pr.ld y5 3), .d (pr.ld y5 4), .d (pr.ld y5 5), .n (pr.ln y5 6), .n (pr.ln y5 7), .d (pr.ld y5 8), .r (pr.lr y5 9), .r (pr.lr y5 10), .d (pr.ld y5 11), .d (pr.ld y5 12), .d (pr.ld y5 13), .d (pr.ld y5 14), .d (pr.ld y5 15), .d (pr.ld y5 16), .d (pr.ld y5 17), .d (pr.ld y5 18), .d (pr.ld y5 19), .d (pr.ld y5 20), .d (pr.ld y5 21), .d (pr.ld y5 22), .d (pr.ld y5 23), .d (pr.ld y5 24), .d (pr.ld y5 25), .d (pr.ld y5 26), .d (pr.ld y5 27), .d (pr.ld y5 28)]))))
       (pr.out 2 [.d (pr.ld y5 1), .d (pr.ld y5 2), .d (pr.ld y5 3), .d (pr.ld y5 4), .d (pr.ld y5 5), .n (pr.ln y5 6), .n (pr.ln y5 7), .d (pr.ld y5 8), .r (pr.lr y5 9), .r (pr.lr y5 10), .d (pr.ld y5 11), .d (pr.ld y5 12), .d (pr.ld y5 13), .d (pr.ld y5 14), .d (pr.ld y5 15), .d (pr.ld y5 16), .d (pr.ld y5 17), .d (pr.ld y5 18), .d (pr.ld y5 19), .d (pr.ld y5 20), .d (pr.ld y5 21), .d (pr.ld y5 22), .d (pr.ld y5 23), .d (pr.ld y5 24), .d (pr.ld y5 25), .d (pr.ld y5 26), .d (pr.ld y5 27), .d (pr.ld y5 28)])))
def L74_2  : (Nat → List (Y Δ N R M) → Ω) → E → Ω := fun J1 y1 =>
 (pr.bin .lss false (pr.ld y1 2) (pr.ld y1 1) fun x2 =>
  (pr.cond x2
   (pr.rowD 4 (pr.ld y1 0) (pr.ld y1 2) fun w3 =>
   (pr.eqN (pr.natN 1) (pr.len (pr.rows [[(pr.ld y1 7)]])) (pr.isNil (pr.seg (pr.rows [[(pr.ld y1 7)]]) none (pr.natN 1))
    (pr.mm true (pr.ld y1 7) (pr.cell w3 2) fun x4 => (pr.bnd (pr.loop [(L74_0 pr)] 0 [.d x4, .d (pr.lit (.bool false)), .d (pr.cell w3 0), .d (pr.cell w3 1), .d (pr.cell w3 2), .d (pr.cell w3 3), .d (pr.ld y1 8), .r (pr.rows [[(pr.ld y1 7)]]), .d (pr.cell w3 0), .d (pr.cell w3 1), .d (pr.cell w3 2), .d (pr.cell w3 3), .d (pr.ld y1 3), .d (pr.ld y1 4), .d (pr.ld y1 5), .d (pr.ld y1 6), .d (pr.ld y1 7), .d (pr.ld y1 9), .d x4, .d (pr.cell w3 0), .d (pr.cell w3 1), .d (pr.cell w3 2), .d (pr.cell w3 3), .d (pr.ld y1 4), .d (pr.ld y1 5), .d (pr.ld y1 6)]) [fun y5 => (pr.un .not (pr.ld y5 0) fun x6 => (pr.cond x6
       (pr.out 1 [.d (pr.ld y5 5)])
       (pr.bin .add false (pr.ld y1 2) (pr.lit (.int Go.IntKind.i64 (1))) fun x7 =>
       (J1 0 [.d (pr.ld y1 0), .d (pr.ld y1 1), .d x7, .d (pr.ld y5 11), .d (pr.ld y5 12), .d (pr.ld y5 13), .d (pr.ld y5 14), .d (pr.ld y5 15), .d (pr.ld y5 5), .d (pr.ld y5 16)])))), fun y5 => (pr.un .not (pr.ld y5 1) fun x6 => (pr.cond x6
       (pr.out 2 [.r (pr.lr y5 0), .n (pr.ln y5 6), .n (pr.ln y5 7), .d (pr.ld y5 8)])
       (pr.bin .add false (pr.ld y1 2) (pr.lit (.int Go.IntKind.i64 (1))) fun x7 =>
       (J1 1 [.d (pr.ld y1 0), .d (pr.ld y1 1), .d x7, .r (pr.lr y5 0), .d (pr.ld y5 14), .d (pr.ld y5 15), .d (pr.ld y5 16), .d (pr.ld y5 17), .d (pr.ld y5 18), .n (pr.ln y5 6), .n (pr.ln y5 7), .d (pr.ld y5 8), .d (pr.ld y5 19)])))), fun y5 => (pr.out 1 [.d (pr.ld y5 5)])]))
    (pr.fits 8 (pr.len (pr.seg (pr.rows [[(pr.ld y1 7)]]) none (pr.natN 1)))
    (pr.mm true (pr.ld y1 7) (pr.cell w3 2) fun x4 => (pr.bnd (pr.loop [(L74_1 pr)] 0 [.d x4, .d (pr.lit (.bool false)), .d (pr.cell w3 0), .d (pr.cell w3 1), .d (pr.cell w3 2), .d (pr.cell w3 3), .n (pr.len (pr.seg (pr.rows [[(pr.ld y1 7)]]) none (pr.natN 1))), .n (pr.len (pr.seg (pr.rows [[(pr.ld y1 7)]]) none (pr.natN 1))), .d (pr.ld y1 8), .r (pr.seg (pr.rows [[(pr.ld y1 7)]]) none (pr.natN 1)), .r (pr.rows [[(pr.ld y1 7)]]), .d (pr.cell w3 0), .d (pr.cell w3 1), .d (pr.cell w3 2), .d (pr.cell w3 3), .d (pr.ld y1 3), .d (pr.ld y1 4), .d (pr.ld y1 5), .d (pr.ld y1 6), .d (pr.ld y1 7), .d (pr.ld y1 9), .d x4, .d (pr.cell w3 0), .d (pr.cell w3 1), .d (pr.cell w3 2), .d (pr.cell w3 3), .d (pr.ld y1 4), .d (pr.ld y1 5), .d (pr.ld y1 6)]) [fun y5 => (pr.un .not (pr.ld y5 0) fun x6 => (pr.cond x6
       (pr.out 3 [.r (pr.lr y5 8), .n (pr.ln y5 5), .n (pr.ln y5 6), .d (pr.ld y5 7)])
       (pr.bin .add false (pr.ld y1 2) (pr.lit (.int Go.IntKind.i64 (1))) fun x7 =>
       (J1 2 [.d (pr.ld y1 0), .d (pr.ld y1 1), .d x7, .r (pr.lr y5 8), .d (pr.ld y5 14), .d (pr.ld y5 15), .d (pr.ld y5 16), .d (pr.ld y5 17), .d (pr.ld y5 18), .n (pr.ln y5 5), .n (pr.ln y5 6), .d (pr.ld y5 7), .d (pr.ld y5 19)])))), fun y5 => (pr.un .not (pr.ld y5 1) fun x6 => (pr.cond x6
       (pr.out 4 [.r (pr.lr y5 11), .r (pr.lr y5 0), .n (pr.ln y5 6), .n (pr.ln y5 7), .n (pr.ln y5 8), .n (pr.ln y5 9), .d (pr.ld y5 10)])
       (pr.bin .add false (pr.ld y1 2) (pr.lit (.int Go.IntKind.i64 (1))) fun x7 =>
       (J1 3 [.d (pr.ld y1 0), .d (pr.ld y1 1), .d x7, .r (pr.lr y5 11), .r (pr.lr y5 0), .d (pr.ld y5 17), .d (pr.ld y5 18), .d (pr.ld y5 19), .d (pr.ld y5 20), .d (pr.ld y5 21), .n (pr.ln y5 6), .n (pr.ln y5 7), .n (pr.ln y5 8), .n (pr.ln y5 9), .d (pr.ld y5 10), .d (pr.ld y5 22)])))), fun y5 => (pr.out 3 [.r (pr.lr y5 8), .n (pr.ln y5 5), .n (pr.ln y5 6), .d (pr.ld y5 7)])]))))))
   (pr.out 0 [.d (pr.ld y1 8), .d (pr.ld y1 9)])))
def L74_3  : (Nat → List (Y Δ N R M) → Ω) → E → Ω := fun J5 y5 =>
 (pr.bin .leq false (pr.ld y5 0) (pr.ld y5 25) fun x6 =>
      (pr.cond x6
       (pr.lenD (pr.ld y5 27) fun x7 =>
       (pr.bin .lss false (pr.ld y5 0) x7 fun x8 =>
        (pr.cond x8
         (pr.bnd (pr.call 81 [(pr.ld y5 16), (pr.ld y5 17), (pr.ld y5 21), (pr.ld y5 0)]) [fun y9 => (pr.bnd (pr.callD (pr.ld y5 15) [.agg 4, .one] [(pr.ld y5 2), (pr.ld y5 3), (pr.ld y5 4), (pr.ld y5 5), (pr.ld y9 0)]) [fun y10 => (pr.cond (pr.ld y10 0)
           (pr.eqN (pr.natN 1) (pr.len (pr.rows [[(pr.ld y5 21), (pr.ld y5 0)]])) (pr.eqN (pr.ln y5 7) (pr.len (pr.lr y5 14)) (pr.eqN (pr.ln y5 6) (pr.len (pr.lr y5 14)) (pr.fits 16 (pr.addN (pr.ln y5 6) (pr.len (pr.seg (pr.rows [[(pr.ld y5 21), (pr.ld y5 0)]]) none (pr.natN 1))))
           (pr.bin .add false (pr.ld y5 0) (pr.lit (.int Go.IntKind.i64 (1))) fun x11 =>
           (pr.out 0 [.d (pr.lit (.bool true)), .d (pr.ld y5 2), .d (pr.ld y5 3), .d (pr.ld y5 4), .d (pr.ld y5 5), .n (pr.addN (pr.ln y5 6) (pr.len (pr.seg (pr.rows [[(pr.ld y5 21), (pr.ld y5 0)]]) none (pr.natN 1)))), .n (pr.addN (pr.ln y5 6) (pr.len (pr.seg (pr.rows [[(pr.ld y5 21), (pr.ld y5 0)]]) none (pr.natN 1)))), .d (pr.ld y5 8), .r (pr.lr y5 9), .d (pr.ld y5 10), .d (pr.ld y5 11), .d (pr.ld y5 12), .d (pr.ld y5 13), .r (pr.app (pr.lr y5 14) (pr.seg (pr.rows [[(pr.ld y5 21), (pr.ld y5 0)]]) none (pr.natN 1))), .d (pr.ld y5 15), .d (pr.ld y5 16), .d (pr.ld y5 17), .d (pr.ld y5 18), .d x11, .d (pr.ld y5 20), .d (pr.ld y5 21), .d (pr.ld y5 22), .d (pr.ld y5 23), .d (pr.ld y5 24), .d (pr.ld y5 25), .d (pr.ld y5 26), .d (pr.ld y5 27), .d (pr.ld y5 28)]))))))
           (pr.bin .add false (pr.ld y5 0) (pr.lit (.int Go.IntKind.i64 (1))) fun x11 =>
           (J5 0 [.d x11, .d (pr.ld y5 1), .d (pr.ld y5 2), .d (pr.ld y5 3), .d (pr.ld y5 4), .d (pr.ld y5 5), .n (pr.ln y5 6), .n (pr.ln y5 7), .d (pr.ld y5 8), .r (pr.lr y5 9), .d (pr.ld y5 10), .d (pr.ld y5 11), .d (pr.ld y5 12), .d (pr.ld y5 13), .r (pr.lr y5 14), .d (pr.ld y5 15), .d (pr.ld y5 16), .d (pr.ld y5 17), .d (pr.ld y5 18), .d (pr.ld y5 19), .d (pr.ld y5 20), .d (pr.ld y5 21), .d (pr.ld y5 22), .d (pr.ld y5 23), .d (pr.ld y5 24), .d (pr.ld y5 25), .d (pr.ld y5 26), .d (pr.ld y5 27), .d (pr.ld y5 28)])))])])
         (pr.out 1 [.d (pr.ld y5 1), .d (pr.ld y5 2), .d (pr.ld y5 3), .d (pr.ld y5 4), .d (pr.ld y5 5), .n (pr.ln y5 6), .n (pr.ln y5 7), .d (pr.ld y5 8), .r (pr.lr y5 9), .d (pr.ld y5 10), .d (pr.ld y5 11), .d (pr.ld y5 12), .d (pr.ld y5 13), .r (pr.lr y5 14), .d (pr.ld y5 15), .d (pr.ld y5 16), .d (pr.ld y5 17), .d (pr.ld y5 18), .d (pr.ld y5 19), .d (pr.ld y5 20), .d (pr.ld y5 21), .d (pr.ld y5 22), .d (pr.ld y5 23), .d (pr.ld y5 24), .d (pr.ld y5 25), .d (pr.ld y5 26), .d (pr.ld y5 27), .d (pr.ld y5 28)]))))
       (pr.out 1 [.d (pr.ld y5 1), .d (pr.ld y5 2), .d (pr.ld y5 3), .d (pr.ld y5 4), .d (pr.ld y5 5), .n (pr.ln y5 6), .n (pr.ln y5 7), .d (pr.ld y5 8), .r (pr.lr y5 9), .d (pr.ld y5 10), .d (pr.ld y5 11), .d (pr.ld y5 12), .d (pr.ld y5 13), .r (pr.lr y5 14), .d (pr.ld y5 15), .d (pr.ld y5 16), .d (pr.ld y5 17), .d (pr.ld y5 18), .d (pr.ld y5 19), .d (pr.ld y5 20), .d (pr.ld y5 21), .d (pr.ld y5 22), .d (pr.ld y5 23), .d (pr.ld y5 24), .d (pr.ld y5 25), .d (pr.ld y5 26), .d (pr.ld y5 27), .d (pr.ld y5 28)])))
def L74_4  : (Nat → List (Y Δ N R M) → Ω) → E → Ω := fun J5 y5 =>
 (pr.bin .leq false (pr.ld y5 0) (pr.ld y5 28) fun x6 =>
      (pr.cond x6
       (pr.lenD (pr.ld y5 30) fun x7 =>
       (pr.bin .lss false (pr.ld y5 0) x7 fun x8 =>
        (pr.cond x8
         (pr.bnd (pr.call 81 [(pr.ld y5 19), (pr.ld y5 20), (pr.ld y5 24), (pr.ld y5 0)]) [fun y9 => (pr.bnd (pr.callD (pr.ld y5 18) [.agg 4, .one] [(pr.ld y5 2), (pr.ld y5 3), (pr.ld y5 4), (pr.ld y5 5), (pr.ld y9 0)]) [fun y10 => (pr.cond (pr.ld y10 0)
           (pr.eqN (pr.natN 1) (pr.len (pr.rows [[(pr.ld y5 24), (pr.ld y5 0)]])) (pr.eqN (pr.ln y5 7) (pr.len (pr.lr y5 17)) (pr.eqN (pr.ln y5 6) (pr.len (pr.lr y5 17)) (pr.fits 16 (pr.addN (pr.ln y5 6) (pr.len (pr.seg (pr.rows [[(pr.ld y5 24), (pr.ld y5 0)]]) none (pr.natN 1))))
           (pr.bin .add false (pr.ld y5 0) (pr.lit (.int Go.IntKind.i64 (1))) fun x11 =>
           (pr.out 0 [.d (pr.lit (.bool true)), .d (pr.ld y5 2), .d (pr.ld y5 3), .d (pr.ld y5 4), .d (pr.ld y5 5), .n (pr.addN (pr.ln y5 6) (pr.len (pr.seg (pr.rows [[(pr.ld y5 24), (pr.ld y5 0)]]) none (pr.natN 1)))), .n (pr.addN (pr.ln y5 6) (pr.len (pr.seg (pr.rows [[(pr.ld y5 24), (pr.ld y5 0)]]) none (pr.natN 1)))), .n (pr.ln y5 8), .n (pr.ln y5 9), .d (pr.ld y5 10), .r (pr.lr y5 11), .r (pr.lr y5 12), .d (pr.ld y5 13), .d (pr.ld y5 14), .d (pr.ld y5 15), .d (pr.ld y5 16), .r (pr.app (pr.lr y5 17) (pr.seg (pr.rows [[(pr.ld y5 24), (pr.ld y5 0)]]) none (pr.natN 1))), .d (pr.ld y5 18), .d (pr.ld y5 19), .d (pr.ld y5 20), .d (pr.ld y5 21), .d x11, .d (pr.ld y5 23), .d (pr.ld y5 24), .d (pr.ld y5 25), .d (pr.ld y5 26), .d (pr.ld y5 27), .d (pr.ld y5 28), .d (pr.ld y5 29), .d (pr.ld y5 30), .d (pr.ld y5 31)]))))))
           (pr.bin .add false (pr.ld y5 0) (pr.lit (.int Go.IntKind.i64 (1))) fun x11 =>
           (J5 0 [.d x11, .d (pr.ld y5 1), .d (pr.ld y5 2), .d (pr.ld y5 3), .d (pr.ld y5 4), .d (pr.ld y5 5), .n (pr.ln y5 6), .n (pr.ln y5 7), .n (pr.ln y5 8), .n (pr.ln y5 9), .d (pr.ld y5 10), .r (pr.lr y5 11), .r (pr.lr y5 12), .d (pr.ld y5 13), .d (pr.ld y5 14), .d (pr.ld y5 15), .d (pr.ld y5 16), .r (pr.lr y5 17), .d (pr.ld y5 18), .d (pr.ld y5 19), .d (pr.ld y5 20), .d (pr.ld y5 21), .d (pr.ld y5 22), .d (pr.ld y5 23), .d (pr.ld y5 24), .d (pr.ld y5 25), .d (pr.ld y5 26), .d (pr.ld y5 27), .d (pr.ld y5 28), .d (pr.ld y5 29), .d (pr.ld y5 30), .d (pr.ld y5 31)])))])])
         (pr.out 1 [.d (pr.ld y5 1), .d (pr.ld y5 2), .d (pr.ld y5 3), .d (pr.ld y5 4), .d (pr.ld y5 5), .n (pr.ln y5 6), .n (pr.ln y5 7), .n (pr.ln y5 8), .n (pr.ln y5 9), .d (pr.ld y5 10), .r (pr.lr y5 11), .r (pr.lr y5 12), .d (pr.ld y5 13), .d (pr.ld y5 14), .d (pr.ld y5 15), .d (pr.ld y5 16), .r (pr.lr y5 17), .d (pr.ld y5 18), .d (pr.ld y5 19), .d (pr.ld y5 20), .d (pr.ld y5 21), .d (pr.ld y5 22), .d (pr.ld y5 23), .d (pr.ld y5 24), .d (pr.ld y5 25), .d (pr.ld y5 26), .d (pr.ld y5 27), .d (pr.ld y5 28), .d (pr.ld y5 29), .d (pr.ld y5 30), .d (pr.ld y5 31)]))))
       (pr.out 1 [.d (pr.ld y5 1), .d (pr.ld y5 2), .d (pr.ld y5 3), .d (pr.ld y5 4), .d (pr.ld y5 5), .n (pr.ln y5 6), .n (pr.ln y5 7), .n (pr.ln y5 8), .n (pr.ln y5 9), .d (pr.ld y5 10), .r (pr.lr y5 11), .r (pr.lr y5 12), .d (pr.ld y5 13), .d (pr.ld y5 14), .d (pr.ld y5 15), .d (pr.ld y5 16), .r (pr.lr y5 17), .d (pr.ld y5 18), .d (pr.ld y5 19), .d (pr.ld y5 20), .d (pr.ld y5 21), .d (pr.ld y5 22), .d (pr.ld y5 23), .d (pr.ld y5 24), .d (pr.ld y5 25), .d (pr.ld y5 26), .d (pr.ld y5 27), .d (pr.ld y5 28), .d (pr.ld y5 29), .d (pr.ld y5 30), .d (pr.ld y5 31)])))
def L74_5  : (Nat → List (Y Δ N R M) → Ω) → E → Ω := fun J1 y1 =>
 (pr.bin .lss false (pr.ld y1 2) (pr.ld y1 1) fun x2 =>
  (pr.cond x2
   (pr.rowD 4 (pr.ld y1 0) (pr.ld y1 2) fun w3 =>
   (pr.eqN (pr.natN 1) (pr.len (pr.rows [[(pr.ld y1 8)]])) (pr.isNil (pr.seg (pr.rows [[(pr.ld y1 8)]]) none (pr.natN 1))
    (pr.mm true (pr.ld y1 8) (pr.cell w3 2) fun x4 => (pr.bnd (pr.loop [(L74_3 pr)] 0 [.d x4, .d (pr.lit (.bool false)), .d (pr.cell w3 0), .d (pr.cell w3 1), .d (pr.cell w3 2), .d (pr.cell w3 3), .n (pr.ln y1 9), .n (pr.ln y1 10), .d (pr.ld y1 11), .r (pr.rows [[(pr.ld y1 8)]]), .d (pr.cell w3 0), .d (pr.cell w3 1), .d (pr.cell w3 2), .d (pr.cell w3 3), .r (pr.lr y1 3), .d (pr.ld y1 4), .d (pr.ld y1 5), .d (pr.ld y1 6), .d (pr.ld y1 7), .d (pr.ld y1 8), .d (pr.ld y1 12), .d x4, .d (pr.cell w3 0), .d (pr.cell w3 1), .d (pr.cell w3 2), .d (pr.cell w3 3), .d (pr.ld y1 5), .d (pr.ld y1 6), .d (pr.ld y1 7)]) [fun y5 => (pr.un .not (pr.ld y5 0) fun x6 => (pr.cond x6
       (pr.out 2 [.r (pr.lr y5 13), .n (pr.ln y5 5), .n (pr.ln y5 6), .d (pr.ld y5 7)])
       (pr.bin .add false (pr.ld y1 2) (pr.lit (.int Go.IntKind.i64 (1))) fun x7 =>
       (J1 1 [.d (pr.ld y1 0), .d (pr.ld y1 1), .d x7, .r (pr.lr y5 13), .d (pr.ld y5 14), .d (pr.ld y5 15), .d (pr.ld y5 16), .d (pr.ld y5 17), .d (pr.ld y5 18), .n (pr.ln y5 5), .n (pr.ln y5 6), .d (pr.ld y5 7), .d (pr.ld y5 19)])))), fun y5 => (pr.out 2 [.r (pr.lr y5 13), .n (pr.ln y5 5), .n (pr.ln y5 6), .d (pr.ld y5 7)])]))
    (pr.fits 8 (pr.len (pr.seg (pr.rows [[(pr.ld y1 8)]]) none (pr.natN 1)))
    (pr.mm true (pr.ld y1 8) (pr.cell w3 2) fun x4 => (pr.bnd (pr.loop [(L74_4 pr)] 0 [.d x4, .d (pr.lit (.bool false)), .d (pr.cell w3 0), .d (pr.cell w3 1), .d (pr.cell w3 2), .d (pr.cell w3 3), .n (pr.ln y1 9), .n (pr.ln y1 10), .n (pr.len (pr.seg (pr.rows [[(pr.ld y1 8)]]) none (pr.natN 1))), .n (pr.len (pr.seg (pr.rows [[(pr.ld y1 8)]]) none (pr.natN 1))), .d (pr.ld y1 11), .r (pr.seg (pr.rows [[(pr.ld y1 8)]]) none (pr.natN 1)), .r (pr.rows [[(pr.ld y1 8)]]), .d (pr.cell w3 0), .d (pr.cell w3 1), .d (pr.cell w3 2), .d (pr.cell w3 3), .r (pr.lr y1 3), .d (pr.ld y1 4), .d (pr.ld y1 5), .d (pr.ld y1 6), .d (pr.ld y1 7), .d (pr.ld y1 8), .d (pr.ld y1 12), .d x4, .d (pr.cell w3 0), .d (pr.cell w3 1), .d (pr.cell w3 2), .d (pr.cell w3 3), .d (pr.ld y1 5), .d (pr.ld y1 6), .d (pr.ld y1 7)]) [fun y5 => (pr.un .not (pr.ld y5 0) fun x6 => (pr.cond x6
       (pr.out 4 [.r (pr.lr y5 10), .r (pr.lr y5 16), .n (pr.ln y5 5), .n (pr.ln y5 6), .n (pr.ln y5 7), .n (pr.ln y5 8), .d (pr.ld y5 9)])
       (pr.bin .add false (pr.ld y1 2) (pr.lit (.int Go.IntKind.i64 (1))) fun x7 =>
       (J1 3 [.d (pr.ld y1 0), .d (pr.ld y1 1), .d x7, .r (pr.lr y5 10), .r (pr.lr y5 16), .d (pr.ld y5 17), .d (pr.ld y5 18), .d (pr.ld y5 19), .d (pr.ld y5 20), .d (pr.ld y5 21), .n (pr.ln y5 5), .n (pr.ln y5 6), .n (pr.ln y5 7), .n (pr.ln y5 8), .d (pr.ld y5 9), .d (pr.ld y5 22)])))), fun y5 => (pr.out 4 [.r (pr.lr y5 10), .r (pr.lr y5 16), .n (pr.ln y5 5), .n (pr.ln y5 6), .n (pr.ln y5 7), .n (pr.ln y5 8), .d (pr.ld y5 9)])]))))))
   (pr.out 5 [.r (pr.lr y1 3), .n (pr.ln y1 9), .n (pr.ln y1 10), .d (pr.ld y1 11), .d (pr.ld y1 12)])))
def L74_6  : (Nat → List (Y Δ N R M) → Ω) → E → Ω := fun J5 y5 =>
 (pr.bin .leq false (pr.ld y5 0) (pr.ld y5 25) fun x6 =>
      (pr.cond x6
       (pr.lenD (pr.ld y5 27) fun x7 =>
       (pr.bin .lss false (pr.ld y5 0) x7 fun x8 =>
        (pr.cond x8
         (pr.bnd (pr.call 81 [(pr.ld y5 16), (pr.ld y5 17), (pr.ld y5 21), (pr.ld y5 0)]) [fun y9 => (pr.bnd (pr.callD (pr.ld y5 15) [.agg 4, .one] [(pr.ld y5 2), (pr.ld y5 3), (pr.ld y5 4), (pr.ld y5 5), (pr.ld y9 0)]) [fun y10 => (pr.cond (pr.ld y10 0)
           (pr.eqN (pr.natN 1) (pr.len (pr.rows [[(pr.ld y5 21), (pr.ld y5 0)]])) (pr.isNil (pr.seg (pr.rows [[(pr.ld y5 21), (pr.ld y5 0)]]) none (pr.natN 1))
           (pr.bin .add false (pr.ld y5 0) (pr.lit (.int Go.IntKind.i64 (1))) fun x11 =>
           (pr.out 0 [.d (pr.lit (.bool true)), .d (pr.ld y5 2), .d (pr.ld y5 3), .d (pr.ld y5 4), .d (pr.ld y5 5), .n (pr.ln y5 6), .n (pr.ln y5 7), .d (pr.ld y5 8), .r (pr.lr y5 9), .r (pr.lr y5 10), .d (pr.ld y5 11), .d (pr.ld y5 12), .d (pr.ld y5 13), .d (pr.ld y5 14), .d (pr.ld y5 15), .d (pr.ld y5 16), .d (pr.ld y5 17), .d (pr.ld y5 18), .d x11, .d (pr.ld y5 20), .d (pr.ld y5 21), .d (pr.ld y5 22), .d (pr.ld y5 23), .d (pr.ld y5 24), .d (pr.ld y5 25), .d (pr.ld y5 26), .d (pr.ld y5 27), .d (pr.ld y5 28)]))
           (pr.fits 16 (pr.len (pr.seg (pr.rows [[(pr.ld y5 21), (pr.ld y5 0)]]) none (pr.natN 1)))
           (pr.bin .add false (pr.ld y5 0) (pr.lit (.int Go.IntKind.i64 (1))) fun x11 =>
           (pr.out 1 [.r (pr.seg (pr.rows [[(pr.ld y5 21), (pr.ld y5 0)]]) none (pr.natN 1)), .d (pr.lit (.bool true)), .d (pr.ld y5 2), .d (pr.ld y5 3), .d (pr.ld y5 4), .d (pr.ld y5 5), .n (pr.len (pr.seg (pr.rows [[(pr.ld y5 21), (pr.ld y5 0)]]) none (pr.natN 1))), .n (pr.len (pr.seg (pr.rows [[(pr.ld y5 21), (pr.ld y5 0)]]) none (pr.natN 1))), .n (pr.ln y5 6), .n (pr.ln y5 7), .d (pr.ld y5 8), .r (pr.lr y5 9), .r (pr.lr y5 10), .d (pr.ld y5 11), .d (pr.ld y5 12), .d (pr.ld y5 13), .d (pr.ld y5 14), .d (pr.ld y5 15), .d (pr.ld y5 16), .d (pr.ld y5 17), .d (pr.ld y5 18), .d x11, .d (pr.ld y5 20), .d (pr.ld y5 21), .d (pr.ld y5 22), .d (pr.ld y5 23), .d (pr.ld y5 24), .d (pr.ld y5 25), .d (pr.ld y5 26), .d (pr.ld y5 27), .d (pr.ld y5 28)])))))
           (pr.bin .add false (pr.ld y5 0) (pr.lit (.int Go.IntKind.i64 (1))) fun x11 =>
           (J5 0 [.d x11, .d (pr.ld y5 1), .d (pr.ld y5 2), .d (pr.ld y5 3), .d (pr.ld y5 4), .d (pr.ld y5 5), .n (pr.ln y5 6), .n (pr.ln y5 7), .d (pr.ld y5 8), .r (pr.lr y5 9), .r (pr.lr y5 10), .d (pr.ld y5 11), .d (pr.ld y5 12), .d (pr.ld y5 13), .d (pr.ld y5 14), .d (pr.ld y5 15), .d (pr.ld y5 16), .d (pr.ld y5 17), .d (pr.ld y5 18), .d (pr.ld y5 19), .d (pr.ld y5 20), .d (pr.ld y5 21), .d (pr.ld y5 22), .d (pr.ld y5 23), .d (pr.ld y5 24), .d (pr.ld y5 25), .d (pr.ld y5 26), .d (pr.ld y5 27), .d (pr.ld y5 28)])))])])
         (pr.out 2 [.d (pr.ld y5 1), .d (pr.ld y5 2), .d (pr.ld y5 3), .d (pr.ld y5 4), .d (pr.ld y5 5), .n (pr.ln y5 6), .n (pr.ln y5 7), .d (pr.ld y5 8), .r (pr.lr y5 9), .r (pr.lr y5 10), .d (pr.ld y5 11), .d (pr.ld y5 12), .d (pr.ld y5 13), .d (pr.ld y5 14), .d (pr.ld y5 15), .d (pr.ld y5 16), .d (pr.ld y5 17), .d (pr.ld y5 18), .d (pr.ld y5 19), .d (pr.ld y5 20), .d (pr.ld y5 21), .d (pr.ld y5 22), .d (pr.ld y5 23), .d (pr.ld y5 24), .d (pr.ld y5 25), .d (pr.ld y5 26), .d (pr.ld y5 27), .d (pr.ld y5 28)]))))
       (pr.out 2 [.d (pr.ld y5 1), .d (pr.ld y5 2), .d (pr.ld y5 3), .d (pr.ld y5 4), .d (pr.ld y5 5), .n (pr.ln y5 6), .n (pr.ln y5 7), .d (pr.ld y5 8), .r (pr.lr y5 9), .r (pr.lr y5 10), .d (pr.ld y5 11), .d (pr.ld y5 12), .d (pr.ld y5 13), .d (pr.ld y5 14), .d (pr.ld y5 15), .d (pr.ld y5 16), .d (pr.ld y5 17), .d (pr.ld y5 18), .d (pr.ld y5 19), .d (pr.ld y5 20), .d (pr.ld y5 21), .d (pr.ld y5 22), .d (pr.ld y5 23), .d (pr.ld y5 24), .d (pr.ld y5 25), .d (pr.ld y5 26), .d (pr.ld y5 27), .d (pr.ld y5 28)])))
def L74_7  : (Nat → List (Y Δ N R M) → Ω) → E → Ω := fun J1 y1 =>
 (pr.bin .lss false (pr.ld y1 2) (pr.ld y1 1) fun x2 =>
  (pr.cond x2
   (pr.rowD 4 (pr.ld y1 0) (pr.ld y1 2) fun w3 =>
   (pr.eqN (pr.natN 1) (pr.len (pr.rows [[(pr.ld y1 8)]])) (pr.eqN (pr.ln y1 10) (pr.len (pr.lr y1 3)) (pr.eqN (pr.ln y1 9) (pr.len (pr.lr y1 3)) (pr.fits 8 (pr.addN (pr.ln y1 9) (pr.len (pr.seg (pr.rows [[(pr.ld y1 8)]]) none (pr.natN 1))))
    (pr.mm true (pr.ld y1 8) (pr.cell w3 2) fun x4 => (pr.bnd (pr.loop [(L74_6 pr)] 0 [.d x4, .d (pr.lit (.bool false)), .d (pr.cell w3 0), .d (pr.cell w3 1), .d (pr.cell w3 2), .d (pr.cell w3 3), .n (pr.addN (pr.ln y1 9) (pr.len (pr.seg (pr.rows [[(pr.ld y1 8)]]) none (pr.natN 1)))), .n (pr.addN (pr.ln y1 9) (pr.len (pr.seg (pr.rows [[(pr.ld y1 8)]]) none (pr.natN 1)))), .d (pr.ld y1 11), .r (pr.app (pr.lr y1 3) (pr.seg (pr.rows [[(pr.ld y1 8)]]) none (pr.natN 1))), .r (pr.rows [[(pr.ld y1 8)]]), .d (pr.cell w3 0), .d (pr.cell w3 1), .d (pr.cell w3 2), .d (pr.cell w3 3), .d (pr.ld y1 4), .d (pr.ld y1 5), .d (pr.ld y1 6), .d (pr.ld y1 7), .d (pr.ld y1 8), .d (pr.ld y1 12), .d x4, .d (pr.cell w3 0), .d (pr.cell w3 1), .d (pr.cell w3 2), .d (pr.cell w3 3), .d (pr.ld y1 5), .d (pr.ld y1 6), .d (pr.ld y1 7)]) [fun y5 => (pr.un .not (pr.ld y5 0) fun x6 => (pr.cond x6
       (pr.out 3 [.r (pr.lr y5 8), .n (pr.ln y5 5), .n (pr.ln y5 6), .d (pr.ld y5 7)])
       (pr.bin .add false (pr.ld y1 2) (pr.lit (.int Go.IntKind.i64 (1))) fun x7 =>
       (J1 2 [.d (pr.ld y1 0), .d (pr.ld y1 1), .d x7, .r (pr.lr y5 8), .d (pr.ld y5 14), .d (pr.ld y5 15), .d (pr.ld y5 16), .d (pr.ld y5 17), .d (pr.ld y5 18), .n (pr.ln y5 5), .n (pr.ln y5 6), .d (pr.ld y5 7), .d (pr.ld y5 19)])))), fun y5 => (pr.un .not (pr.ld y5 1) fun x6 => (pr.cond x6
       (pr.out 4 [.r (pr.lr y5 11), .r (pr.lr y5 0), .n (pr.ln y5 6), .n (pr.ln y5 7), .n (pr.ln y5 8), .n (pr.ln y5 9), .d (pr.ld y5 10)])
       (pr.bin .add false (pr.ld y1 2) (pr.lit (.int Go.IntKind.i64 (1))) fun x7 =>
       (J1 3 [.d (pr.ld y1 0), .d (pr.ld y1 1), .d x7, .r (pr.lr y5 11), .r (pr.lr y5 0), .d (pr.ld y5 17), .d (pr.ld y5 18), .d (pr.ld y5 19), .d (pr.ld y5 20), .d (pr.ld y5 21), .n (pr.ln y5 6), .n (pr.ln y5 7), .n (pr.ln y5 8), .n (pr.ln y5 9), .d (pr.ld y5 10), .d (pr.ld y5 22)])))), fun y5 => (pr.out 3 [.r (pr.lr y5 8), .n (pr.ln y5 5), .n (pr.ln y5 6), .d (pr.ld y5 7)])])))))))
   (pr.out 6 [.r (pr.lr y1 3), .n (pr.ln y1 9), .n (pr.ln y1 10), .d (pr.ld y1 11), .d (pr.ld y1 12)])))
def L74_8  : (Nat → List (Y Δ N R M) → Ω) → E → Ω := fun J5 y5 =>
 (pr.bin .leq false (pr.ld y5 0) (pr.ld y5 28) fun x6 =>
      (pr.cond x6
       (pr.lenD (pr.ld y5 30) fun x7 =>
       (pr.bin .lss false (pr.ld y5 0) x7 fun x8 =>
        (pr.cond x8
         (pr.bnd (pr.call 81 [(pr.ld y5 19), (pr.ld y5 20), (pr.ld y5 24), (pr.ld y5 0)]) [fun y9 => (pr.bnd (pr.callD (pr.ld y5 18) [.agg 4, .one] [(pr.ld y5 2), (pr.ld y5 3), (pr.ld y5 4), (pr.ld y5 5), (pr.ld y9 0)]) [fun y10 => (pr.cond (pr.ld y10 0)
           (pr.eqN (pr.natN 1) (pr.len (pr.rows [[(pr.ld y5 24), (pr.ld y5 0)]])) (pr.eqN (pr.ln y5 7) (pr.len (pr.lr y5 17)) (pr.eqN (pr.ln y5 6) (pr.len (pr.lr y5 17)) (pr.fits 16 (pr.addN (pr.ln y5 6) (pr.len (pr.seg (pr.rows [[(pr.ld y5 24), (pr.ld y5 0)]]) none (pr.natN 1))))
           (pr.bin .add false (pr.ld y5 0) (pr.lit (.int Go.IntKind.i64 (1))) fun x11 =>
           (pr.out 0 [.d (pr.lit (.bool true)), .d (pr.ld y5 2), .d (pr.ld y5 3), .d (pr.ld y5 4), .d (pr.ld y5 5), .n (pr.addN (pr.ln y5 6) (pr.len (pr.seg (pr.rows [[(pr.ld y5 24), (pr.ld y5 0)]]) none (pr.natN 1)))), .n (pr.addN (pr.ln y5 6) (pr.len (pr.seg (pr.rows [[(pr.ld y5 24), (pr.ld y5 0)]]) none (pr.natN 1)))), .n (pr.ln y5 8), .n (pr.ln y5 9), .d (pr.ld y5 10), .r (pr.lr y5 11), .r (pr.lr y5 12), .d (pr.ld y5 13), .d (pr.ld y5 14), .d (pr.ld y5 15), .d (pr.ld y5 16), .r (pr.app (pr.lr y5 17) (pr.seg (pr.rows [[(pr.ld y5 24), (pr.ld y5 0)]]) none (pr.natN 1))), .d (pr.ld y5 18), .d (pr.ld y5 19), .d (pr.ld y5 20), .d (pr.ld y5 21), .d x11, .d (pr.ld y5 23), .d (pr.ld y5 24), .d (pr.ld y5 25), .d (pr.ld y5 26), .d (pr.ld y5 27), .d (pr.ld y5 28), .d (pr.ld y5 29), .d (pr.ld y5 30), .d (pr.ld y5 31)]))))))
           (pr.bin .add false (pr.ld y5 0) (pr.lit (.int Go.IntKind.i64 (1))) fun x11 =>
           (J5 0 [.d x11, .d (pr.ld y5 1), .d (pr.ld y5 2), .d (pr.ld y5 3), .d (pr.ld y5 4), .d (pr.ld y5 5), .n (pr.ln y5 6), .n (pr.ln y5 7), .n (pr.ln y5 8), .n (pr.ln y5 9), .d (pr.ld y5 10), .r (pr.lr y5 11), .r (pr.lr y5 12), .d (pr.ld y5 13), .d (pr.ld y5 14), .d (pr.ld y5 15), .d (pr.ld y5 16), .r (pr.lr y5 17), .d (pr.ld y5 18), .d (pr.ld y5 19), .d (pr.ld y5 20), .d (pr.ld y5 21), .d (pr.ld y5 22), .d (pr.ld y5 23), .d (pr.ld y5 24), .d (pr.ld y5 25), .d (pr.ld y5 26), .d (pr.ld y5 27), .d (pr.ld y5 28), .d (pr.ld y5 29), .d (pr.ld y5 30), .d (pr.ld y5 31)])))])])
         (pr.out 1 [.d (pr.ld y5 1), .d (pr.ld y5 2), .d (pr.ld y5 3), .d (pr.ld y5 4), .d (pr.ld y5 5), .n (pr.ln y5 6), .n (pr.ln y5 7), .n (pr.ln y5 8), .n (pr.ln y5 9), .d (pr.ld y5 10), .r (pr.lr y5 11), .r (pr.lr y5 12), .d (pr.ld y5 13), .d (pr.ld y5 14), .d (pr.ld y5 15), .d (pr.ld y5 16), .r (pr.lr y5 17), .d (pr.ld y5 18), .d (pr.ld y5 19), .d (pr.ld y5 20), .d (pr.ld y5 21), .d (pr.ld y5 22), .d (pr.ld y5 23), .d (pr.ld y5 24), .d (pr.ld y5 25), .d (pr.ld y5 26), .d (pr.ld y5 27), .d (pr.ld y5 28), .d (pr.ld y5 29), .d (pr.ld y5 30), .d (pr.ld y5 31)]))))
       (pr.out 1 [.d (pr.ld y5 1), .d (pr.ld y5 2), .d (pr.ld y5 3), .d (pr.ld y5 4), .d (pr.ld y5 5), .n (pr.ln y5 6), .n (pr.ln y5 7), .n (pr.ln y5 8), .n (pr.ln y5 9), .d (pr.ld y5 10), .r (pr.lr y5 11), .r (pr.lr y5 12), .d (pr.ld y5 13), .d (pr.ld y5 14), .d (pr.ld y5 15), .d (pr.ld y5 16), .r (pr.lr y5 17), .d (pr.ld y5 18), .d (pr.ld y5 19), .d (pr.ld y5 20), .d (pr.ld y5 21), .d (pr.ld y5 22), .d (pr.ld y5 23), .d (pr.ld y5 24), .d (pr.ld y5 25), .d (pr.ld y5 26), .d (pr.ld y5 27), .d (pr.ld y5 28), .d (pr.ld y5 29), .d (pr.ld y5 30), .d (pr.ld y5 31)])))
def L74_9  : (Nat → List (Y Δ N R M) → Ω) → E → Ω := fun J1 y1 =>
 (pr.bin .lss false (pr.ld y1 2) (pr.ld y1 1) fun x2 =>
  (pr.cond x2
   (pr.rowD 4 (pr.ld y1 0) (pr.ld y1 2) fun w3 =>
   (pr.eqN (pr.natN 1) (pr.len (pr.rows [[(pr.ld y1 9)]])) (pr.eqN (pr.ln y1 13) (pr.len (pr.lr y1 3)) (pr.eqN (pr.ln y1 12) (pr.len (pr.lr y1 3)) (pr.fits 8 (pr.addN (pr.ln y1 12) (pr.len (pr.seg (pr.rows [[(pr.ld y1 9)]]) none (pr.natN 1))))
    (pr.mm true (pr.ld y1 9) (pr.cell w3 2) fun x4 => (pr.bnd (pr.loop [(L74_8 pr)] 0 [.d x4, .d (pr.lit (.bool false)), .d (pr.cell w3 0), .d (pr.cell w3 1), .d (pr.cell w3 2), .d (pr.cell w3 3), .n (pr.ln y1 10), .n (pr.ln y1 11), .n (pr.addN (pr.ln y1 12) (pr.len (pr.seg (pr.rows [[(pr.ld y1 9)]]) none (pr.natN 1)))), .n (pr.addN (pr.ln y1 12) (pr.len (pr.seg (pr.rows [[(pr.ld y1 9)]]) none (pr.natN 1)))), .d (pr.ld y1 14), .r (pr.app (pr.lr y1 3) (pr.seg (pr.rows [[(pr.ld y1 9)]]) none (pr.natN 1))), .r (pr.rows [[(pr.ld y1 9)]]), .d (pr.cell w3 0), .d (pr.cell w3 1), .d (pr.cell w3 2), .d (pr.cell w3 3), .r (pr.lr y1 4), .d (pr.ld y1 5), .d (pr.ld y1 6), .d (pr.ld y1 7), .d (pr.ld y1 8), .d (pr.ld y1 9), .d (pr.ld y1 15), .d x4, .d (pr.cell w3 0), .d (pr.cell w3 1), .d (pr.cell w3 2), .d (pr.cell w3 3), .d (pr.ld y1 6), .d (pr.ld y1 7), .d (pr.ld y1 8)]) [fun y5 => (pr.un .not (pr.ld y5 0) fun x6 => (pr.cond x6
       (pr.out 4 [.r (pr.lr y5 10), .r (pr.lr y5 16), .n (pr.ln y5 5), .n (pr.ln y5 6), .n (pr.ln y5 7), .n (pr.ln y5 8), .d (pr.ld y5 9)])
       (pr.bin .add false (pr.ld y1 2) (pr.lit (.int Go.IntKind.i64 (1))) fun x7 =>
       (J1 3 [.d (pr.ld y1 0), .d (pr.ld y1 1), .d x7, .r (pr.lr y5 10), .r (pr.lr y5 16), .d (pr.ld y5 17), .d (pr.ld y5 18), .d (pr.ld y5 19), .d (pr.ld y5 20), .d (pr.ld y5 21), .n (pr.ln y5 5), .n (pr.ln y5 6), .n (pr.ln y5 7), .n (pr.ln y5 8), .d (pr.ld y5 9), .d (pr.ld y5 22)])))), fun y5 => (pr.out 4 [.r (pr.lr y5 10), .r (pr.lr y5 16), .n (pr.ln y5 5), .n (pr.ln y5 6), .n (pr.ln y5 7), .n (pr.ln y5 8), .d (pr.ld y5 9)])])))))))
   (pr.out 7 [.r (pr.lr y1 3), .r (pr.lr y1 4), .n (pr.ln y1 10), .n (pr.ln y1 11), .n (pr.ln y1 12), .n (pr.ln y1 13), .d (pr.ld y1 14), .d (pr.ld y1 15)])))
def G74 (a0 a1 a2 a3 : Δ) : Ω :=
 (pr.lenD a2 fun x0 =>
(pr.bnd (pr.loop [(L74_2 pr), (L74_5 pr), (L74_7 pr), (L74_9 pr)] 0 [.d a2, .d x0, .d (pr.lit (.int Go.IntKind.i64 (0))), .d a3, .d a0, .d a1, .d a2, .d (pr.lit (.int Go.IntKind.i64 (0))), .d (pr.lit (.bool false)), .d (pr.lit (.bool false))]) [fun y1 => (pr.out 1 [.d (pr.lit (.slice none 0 0)), .d (pr.lit (.slice none 0 0)), .d (pr.lit (.bool true))]), fun y1 => (pr.out 1 [.d (pr.lit (.slice none 0 0)), .d (pr.lit (.slice none 0 0)), .d (pr.ld y1 0)]), fun y1 => (pr.eqN (pr.ln y1 2) (pr.len (pr.lr y1 0)) (pr.out 1 [.d (pr.slD 2 (pr.seg (pr.lr y1 0) none (pr.ln y1 1))), .d (pr.lit (.slice none 0 0)), .d (pr.ld y1 3)])), fun y1 => (pr.eqN (pr.ln y1 2) (pr.len (pr.lr y1 0)) (pr.leN (pr.ln y1 1) (pr.len (pr.lr y1 0)) (pr.out 0 [.d (pr.lit (.slice none 0 0)), .r (pr.seg (pr.lr y1 0) none (pr.ln y1 1)), .d (pr.ld y1 3)]))), fun y1 => (pr.eqN (pr.ln y1 3) (pr.len (pr.lr y1 1)) (pr.leN (pr.ln y1 2) (pr.len (pr.lr y1 1)) (pr.eqN (pr.ln y1 5) (pr.len (pr.lr y1 0)) (pr.leN (pr.ln y1 4) (pr.len (pr.lr y1 0)) (pr.out 0 [.d (pr.slD 2 (pr.seg (pr.lr y1 1) none (pr.ln y1 2))), .r (pr.seg (pr.lr y1 0) none (pr.ln y1 4)), .d (pr.ld y1 6)]))))), fun y1 => (pr.eqN (pr.ln y1 2) (pr.len (pr.lr y1 0)) (pr.out 1 [.d (pr.slD 2 (pr.seg (pr.lr y1 0) none (pr.ln y1 1))), .d (pr.lit (.slice none 0 0)), .d (pr.lit (.bool true))])), fun y1 => (pr.eqN (pr.ln y1 2) (pr.len (pr.lr y1 0)) (pr.leN (pr.ln y1 1) (pr.len (pr.lr y1 0)) (pr.out 0 [.d (pr.lit (.slice none 0 0)), .r (pr.seg (pr.lr y1 0) none (pr.ln y1 1)), .d (pr.lit (.bool true))]))), fun y1 => (pr.eqN (pr.ln y1 3) (pr.len (pr.lr y1 1)) (pr.leN (pr.ln y1 2) (pr.len (pr.lr y1 1)) (pr.eqN (pr.ln y1 5) (pr.len (pr.lr y1 0)) (pr.leN (pr.ln y1 4) (pr.len (pr.lr y1 0)) (pr.out 0 [.d (pr.slD 2 (pr.seg (pr.lr y1 1) none (pr.ln y1 2))), .r (pr.seg (pr.lr y1 0) none (pr.ln y1 4)), .d (pr.lit (.bool true))])))))]))
/-! leazing/drift.anything -/
def G75 (a0 a1 a2 a3 a4 : Δ) : Ω :=
 (pr.out 0 [.d (pr.lit (.bool true))])
/-! (*leazing/drift.parted).isSharing -/
def L76_0  : (Nat → List (Y Δ N R M) → Ω) → E → Ω := fun J4 y4 =>
 (pr.bin .lss false (pr.ld y4 6) (pr.ld y4 5) fun x5 =>
     (pr.cond x5
      (pr.rowD 2 (pr.ld y4 4) (pr.ld y4 6) fun w6 =>
      (pr.rowD 4 (pr.ld y4 2) (pr.ld y4 6) fun w7 =>
       (pr.bin .lss false (pr.cell w6 0) (pr.cell w7 2) fun x8 =>
        (pr.cond x8
         (pr.out 0 [.d (pr.lit (.bool false))])
         (pr.bin .lss false (pr.cell w6 1) (pr.cell w6 0) fun x9 =>
         (pr.cond x9
          (pr.out 0 [.d (pr.lit (.bool false))])
          (pr.bin .gtr false (pr.cell w6 1) (pr.cell w7 3) fun x10 =>
          (pr.cond x10
           (pr.out 0 [.d (pr.lit (.bool false))])
           (pr.bin .leq false (pr.cell w6 0) (pr.ld y4 3) fun x11 =>
           (pr.cond x11
            (pr.out 0 [.d (pr.lit (.bool false))])
            (pr.bin .add false (pr.ld y4 6) (pr.lit (.int Go.IntKind.i64 (1))) fun x12 =>
            (J4 0 [.d (pr.ld y4 0), .d (pr.ld y4 1), .d (pr.ld y4 2), .d (pr.cell w6 1), .d (pr.ld y4 4), .d (pr.ld y4 5), .d x12]))))))))))))
      (pr.out 1 [])))
def G76 (a0 a1 a2 a3 : Δ) : Ω :=
 (pr.lenD a3 fun x0 =>
(pr.lenD a2 fun x1 =>
 (pr.bin .neq false x0 x1 fun x2 =>
  (pr.cond x2
   (pr.out 0 [.d (pr.lit (.bool false))])
   (pr.lenD a3 fun x3 =>
   (pr.bnd (pr.loop [(L76_0 pr)] 0 [.d a0, .d a1, .d a2, .d (pr.lit (.int Go.IntKind.i64 (-1))), .d a3, .d x3, .d (pr.lit (.int Go.IntKind.i64 (0)))]) [fun y4 => (pr.out 0 [.d (pr.ld y4 0)]), fun y4 => (pr.out 0 [.d (pr.lit (.bool true))])]))))))
/-! leazing/leazingref04.isDrift -/
def G77 (a0 a1 a2 a3 : Δ) : Ω :=
 (pr.bnd (pr.call 61 [a2, (pr.lit (.int Go.IntKind.i64 (0))), a3]) [fun y0 => (pr.cond (pr.ld y0 0)
 (pr.lenD a1 fun x1 =>
 (pr.bin .lss false a3 x1 fun x2 =>
  (pr.out 0 [.d x2])))
 (pr.out 0 [.d (pr.lit (.bool false))]))])
/-! leazing/drift.worth -/
def L81_0  : (Nat → List (Y Δ N R M) → Ω) → E → Ω := fun J1 y1 =>
 (pr.bin .leq false (pr.ld y1 0) (pr.ld y1 2) fun x2 =>
  (pr.cond x2
   (pr.lenD (pr.ld y1 4) fun x3 =>
   (pr.bin .lss false (pr.ld y1 0) x3 fun x4 =>
    (pr.cond x4
     (pr.rowD 3 (pr.ld y1 4) (pr.ld y1 0) fun w5 =>
     (pr.eqN (pr.natN 1) (pr.len (pr.rows [[(pr.cell w5 2)]])) (pr.isNil (pr.seg (pr.rows [[(pr.cell w5 2)]]) none (pr.natN 1))
      (pr.bin .add false (pr.ld y1 0) (pr.lit (.int Go.IntKind.i64 (1))) fun x6 =>
      (J1 0 [.d x6, .d (pr.ld y1 1), .d (pr.ld y1 2), .d (pr.ld y1 3), .d (pr.ld y1 4)]))
      (pr.fits 8 (pr.len (pr.seg (pr.rows [[(pr.cell w5 2)]]) none (pr.natN 1)))
      (pr.bin .add false (pr.ld y1 0) (pr.lit (.int Go.IntKind.i64 (1))) fun x6 =>
      (J1 1 [.n (pr.len (pr.seg (pr.rows [[(pr.cell w5 2)]]) none (pr.natN 1))), .n (pr.len (pr.seg (pr.rows [[(pr.cell w5 2)]]) none (pr.natN 1))), .d x6, .r (pr.seg (pr.rows [[(pr.cell w5 2)]]) none (pr.natN 1)), .d (pr.ld y1 1), .d (pr.ld y1 2), .d (pr.ld y1 3), .d (pr.ld y1 4)]))))))
     (pr.out 0 []))))
   (pr.out 0 [])))
def L81_1  : (Nat → List (Y Δ N R M) → Ω) → E → Ω := fun J1 y1 =>
 (pr.bin .leq false (pr.ld y1 2) (pr.ld y1 5) fun x2 =>
  (pr.cond x2
   (pr.lenD (pr.ld y1 7) fun x3 =>
   (pr.bin .lss false (pr.ld y1 2) x3 fun x4 =>
    (pr.cond x4
     (pr.rowD 3 (pr.ld y1 7) (pr.ld y1 2) fun w5 =>
     (pr.eqN (pr.natN 1) (pr.len (pr.rows [[(pr.cell w5 2)]])) (pr.eqN (pr.ln y1 1) (pr.len (pr.lr y1 3)) (pr.eqN (pr.ln y1 0) (pr.len (pr.lr y1 3)) (pr.fits 8 (pr.addN (pr.ln y1 0) (pr.len (pr.seg (pr.rows [[(pr.cell w5 2)]]) none (pr.natN 1))))
      (pr.bin .add false (pr.ld y1 2) (pr.lit (.int Go.IntKind.i64 (1))) fun x6 =>
      (J1 1 [.n (pr.addN (pr.ln y1 0) (pr.len (pr.seg (pr.rows [[(pr.cell w5 2)]]) none (pr.natN 1)))), .n (pr.addN (pr.ln y1 0) (pr.len (pr.seg (pr.rows [[(pr.cell w5 2)]]) none (pr.natN 1)))), .d x6, .r (pr.app (pr.lr y1 3) (pr.seg (pr.rows [[(pr.cell w5 2)]]) none (pr.natN 1))), .d (pr.ld y1 4), .d (pr.ld y1 5), .d (pr.ld y1 6), .d (pr.ld y1 7)])))))))
     (pr.out 1 [.n (pr.ln y1 0), .n (pr.ln y1 1), .r (pr.lr y1 3)]))))
   (pr.out 1 [.n (pr.ln y1 0), .n (pr.ln y1 1), .r (pr.lr y1 3)])))
def G81 (a0 a1 a2 a3 : Δ) : Ω :=
 (pr.mm true a2 (pr.lit (.int Go.IntKind.i64 (0))) fun x0 => (pr.bnd (pr.loop [(L81_0 pr), (L81_1 pr)] 0 [.d x0, .d a2, .d a3, .d a0, .d a1]) [fun y1 => (pr.bnd (pr.call 98 [(pr.lit (.slice none 0 0))]) [fun y2 => (pr.out 0 [.d (pr.ld y2 0)])]), fun y1 => (pr.eqN (pr.ln y1 1) (pr.len (pr.lr y1 2)) (pr.bnd (pr.call 98 [(pr.slD 1 (pr.seg (pr.lr y1 2) none (pr.ln y1 0)))]) [fun y2 => (pr.lits [.d (pr.ld y2 0)]
   (pr.out 0 [.d (pr.ld y2 0)]))]))]))
/-! leazing/leazingref04.worth -/
def L82_0  : (Nat → List (Y Δ N R M) → Ω) → E → Ω := fun J0 y0 =>
 (pr.bin .leq false (pr.ld y0 2) (pr.ld y0 0) fun x1 =>
 (pr.cond x1
  (pr.lenD (pr.ld y0 4) fun x2 =>
  (pr.bin .lss false (pr.ld y0 2) x2 fun x3 =>
   (pr.cond x3
    (pr.rowD 3 (pr.ld y0 4) (pr.ld y0 2) fun w4 =>
    (pr.bin .add false (pr.ld y0 1) (pr.cell w4 2) fun x5 =>
     (pr.bin .add false (pr.ld y0 2) (pr.lit (.int Go.IntKind.i64 (1))) fun x6 =>
      (J0 0 [.d (pr.ld y0 0), .d x5, .d x6, .d (pr.ld y0 3), .d (pr.ld y0 4)]))))
    (pr.out 0 [.d (pr.ld y0 1)]))))
  (pr.out 0 [.d (pr.ld y0 1)])))
def G82 (a0 a1 a2 a3 : Δ) : Ω :=
 (pr.bnd (pr.loop [(L82_0 pr)] 0 [.d a3, .d (pr.lit (.int Go.IntKind.i64 (0))), .d a2, .d a0, .d a1]) [fun y0 => (pr.out 0 [.d (pr.ld y0 0)])])
/-! leazing/leazingref04.isGain -/
def G83 (a0 a1 : Δ) : Ω :=
 (pr.bnd (pr.call 61 [a0, (pr.lit (.int Go.IntKind.i64 (0))), (pr.lit (.int Go.IntKind.i64 (1000000)))]) [fun y0 => (pr.cond (pr.ld y0 0)
 (pr.bnd (pr.call 61 [a1, (pr.lit (.int Go.IntKind.i64 (1))), (pr.lit (.int Go.IntKind.i64 (1000000)))]) [fun y1 => (pr.out 0 [.d (pr.ld y1 0)])])
 (pr.out 0 [.d (pr.lit (.bool false))]))])
/-! (*leazing/drift.parted).shows -/
def L84_0  : (Nat → List (Y Δ N R M) → Ω) → E → Ω := fun J11 y11 =>
 (pr.bin .lss false (pr.ld y11 5) (pr.ld y11 4) fun x12 =>
            (pr.cond x12
             (pr.bin .add false (pr.ld y11 8) (pr.ld y11 5) fun x13 =>
             (pr.rowD 4 (pr.ld y11 2) x13 fun w14 =>
              (pr.bin .add false (pr.ld y11 5) (pr.lit (.int Go.IntKind.i64 (1))) fun x15 =>
               (pr.rowD 1 (pr.ld y11 9) x15 fun w16 =>
                (pr.rowD 1 (pr.ld y11 9) (pr.ld y11 5) fun w17 =>
                 (pr.mm true (pr.cell w17 0) (pr.cell w14 2) fun x18 => (pr.bin .leq false (pr.cell w16 0) x18 fun x19 =>
                   (pr.cond x19
                    (pr.out 0 [.d (pr.lit (.bool false))])
                    (pr.bnd (pr.call 92 [(pr.ld y11 6), (pr.ld y11 7)]) [fun y20 => (pr.bin .sub false (pr.cell w16 0) (pr.lit (.int Go.IntKind.i64 (2))) fun x21 =>
                     (pr.bnd (pr.call 81 [(pr.ld y11 0), (pr.ld y11 1), x18, x21]) [fun y22 => (pr.bnd (pr.callD (pr.ld y20 0) [.agg 4, .one] [(pr.cell w14 0), (pr.cell w14 1), (pr.cell w14 2), (pr.cell w14 3), (pr.ld y22 0)]) [fun y23 => (pr.cond (pr.ld y23 0)
                        (pr.out 0 [.d (pr.lit (.bool false))])
                        (pr.bin .add false (pr.ld y11 5) (pr.lit (.int Go.IntKind.i64 (1))) fun x24 =>
                        (J11 0 [.d (pr.ld y11 0), .d (pr.ld y11 1), .d (pr.ld y11 2), .d (pr.ld y11 3), .d (pr.ld y11 4), .d x24, .d (pr.ld y11 6), .d (pr.ld y11 7), .d (pr.ld y11 8), .d (pr.ld y11 9)])))])]))])))))))))
             (pr.out 1 [.d (pr.ld y11 0), .d (pr.ld y11 1), .d (pr.ld y11 2), .d (pr.ld y11 3), .d (pr.ld y11 8), .d (pr.ld y11 9)])))
def G84 (a0 a1 a2 a3 a4 a5 a6 : Δ) : Ω :=
 (pr.lenD a4 fun x0 =>
(pr.bin .sub false x0 (pr.lit (.int Go.IntKind.i64 (1))) fun x1 =>
 (pr.bin .lss false x1 (pr.lit (.int Go.IntKind.i64 (1))) fun x2 =>
  (pr.cond x2
   (pr.out 0 [.d (pr.lit (.bool false))])
   (pr.bin .lss false a3 (pr.lit (.int Go.IntKind.i64 (0))) fun x3 =>
   (pr.cond x3
    (pr.out 0 [.d (pr.lit (.bool false))])
    (pr.lenD a2 fun x4 =>
    (pr.bin .sub false x4 x1 fun x5 =>
     (pr.bin .gtr false a3 x5 fun x6 =>
      (pr.cond x6
       (pr.out 0 [.d (pr.lit (.bool false))])
       (pr.rowD 1 a4 (pr.lit (.int Go.IntKind.i64 (0))) fun w7 =>
       (pr.rowD 4 a2 a3 fun w8 =>
        (pr.bin .neq false (pr.cell w7 0) (pr.cell w8 2) fun x9 =>
         (pr.cond x9
          (pr.out 0 [.d (pr.lit (.bool false))])
          (pr.bnd (pr.call 99 [a4, (pr.fnD 100 [])]) [fun y10 => (pr.cond (pr.ld y10 0)
           (pr.out 0 [.d (pr.lit (.bool false))])
           (pr.bnd (pr.loop [(L84_0 pr)] 0 [.d a0, .d a1, .d a2, .d x1, .d x1, .d (pr.lit (.int Go.IntKind.i64 (0))), .d a5, .d a6, .d a3, .d a4]) [fun y11 => (pr.out 0 [.d (pr.ld y11 0)]), fun y11 => (pr.rowD 1 (pr.ld y11 5) (pr.ld y11 3) fun w12 =>
            (pr.bin .sub false (pr.cell w12 0) (pr.lit (.int Go.IntKind.i64 (1))) fun x13 =>
             (pr.bin .add false (pr.ld y11 4) (pr.ld y11 3) fun x14 =>
              (pr.bin .sub false x14 (pr.lit (.int Go.IntKind.i64 (1))) fun x15 =>
               (pr.rowD 4 (pr.ld y11 2) x15 fun w16 =>
                (pr.bin .gtr false x13 (pr.cell w16 3) fun x17 =>
                 (pr.out 0 [.d x17])))))))]))])))))))))))))))
/-! (*leazing/drift.parted).gains -/
def L85_0  : (Nat → List (Y Δ N R M) → Ω) → E → Ω := fun J1 y1 =>
 (pr.bin .lss false (pr.ld y1 5) (pr.ld y1 4) fun x2 =>
  (pr.cond x2
   (pr.rowD 2 (pr.ld y1 3) (pr.ld y1 5) fun w3 =>
   (pr.bnd (pr.call 81 [(pr.ld y1 0), (pr.ld y1 1), (pr.cell w3 0), (pr.cell w3 1)]) [fun y4 => (pr.rowD 4 (pr.ld y1 2) (pr.ld y1 5) fun w5 =>
     (pr.bnd (pr.call 101 [(pr.ld y4 0), (pr.cell w5 1)]) [fun y6 => (pr.eqN (pr.natN 1) (pr.len (pr.rows [[(pr.ld y6 0), (pr.ld y6 1)]])) (pr.isNil (pr.seg (pr.rows [[(pr.ld y6 0), (pr.ld y6 1)]]) none (pr.natN 1))
       (pr.bin .add false (pr.ld y1 5) (pr.lit (.int Go.IntKind.i64 (1))) fun x7 =>
       (J1 0 [.d (pr.ld y1 0), .d (pr.ld y1 1), .d (pr.ld y1 2), .d (pr.ld y1 3), .d (pr.ld y1 4), .d x7]))
       (pr.fits 16 (pr.len (pr.seg (pr.rows [[(pr.ld y6 0), (pr.ld y6 1)]]) none (pr.natN 1)))
       (pr.bin .add false (pr.ld y1 5) (pr.lit (.int Go.IntKind.i64 (1))) fun x7 =>
       (J1 1 [.d (pr.ld y1 0), .d (pr.ld y1 1), .d (pr.ld y1 2), .n (pr.len (pr.seg (pr.rows [[(pr.ld y6 0), (pr.ld y6 1)]]) none (pr.natN 1))), .n (pr.len (pr.seg (pr.rows [[(pr.ld y6 0), (pr.ld y6 1)]]) none (pr.natN 1))), .d (pr.ld y1 3), .d (pr.ld y1 4), .d x7, .r (pr.seg (pr.rows [[(pr.ld y6 0), (pr.ld y6 1)]]) none (pr.natN 1))])))))]))]))
   (pr.out 0 [])))
def L85_1  : (Nat → List (Y Δ N R M) → Ω) → E → Ω := fun J1 y1 =>
 (pr.bin .lss false (pr.ld y1 7) (pr.ld y1 6) fun x2 =>
  (pr.cond x2
   (pr.rowD 2 (pr.ld y1 5) (pr.ld y1 7) fun w3 =>
   (pr.bnd (pr.call 81 [(pr.ld y1 0), (pr.ld y1 1), (pr.cell w3 0), (pr.cell w3 1)]) [fun y4 => (pr.rowD 4 (pr.ld y1 2) (pr.ld y1 7) fun w5 =>
     (pr.bnd (pr.call 101 [(pr.ld y4 0), (pr.cell w5 1)]) [fun y6 => (pr.eqN (pr.natN 1) (pr.len (pr.rows [[(pr.ld y6 0), (pr.ld y6 1)]])) (pr.eqN (pr.ln y1 4) (pr.len (pr.lr y1 8)) (pr.eqN (pr.ln y1 3) (pr.len (pr.lr y1 8)) (pr.fits 16 (pr.addN (pr.ln y1 3) (pr.len (pr.seg (pr.rows [[(pr.ld y6 0), (pr.ld y6 1)]]) none (pr.natN 1))))
       (pr.bin .add false (pr.ld y1 7) (pr.lit (.int Go.IntKind.i64 (1))) fun x7 =>
       (J1 1 [.d (pr.ld y1 0), .d (pr.ld y1 1), .d (pr.ld y1 2), .n (pr.addN (pr.ln y1 3) (pr.len (pr.seg (pr.rows [[(pr.ld y6 0), (pr.ld y6 1)]]) none (pr.natN 1)))), .n (pr.addN (pr.ln y1 3) (pr.len (pr.seg (pr.rows [[(pr.ld y6 0), (pr.ld y6 1)]]) none (pr.natN 1)))), .d (pr.ld y1 5), .d (pr.ld y1 6), .d x7, .r (pr.app (pr.lr y1 8) (pr.seg (pr.rows [[(pr.ld y6 0), (pr.ld y6 1)]]) none (pr.natN 1)))]))))))]))]))
   (pr.out 1 [.n (pr.ln y1 3), .n (pr.ln y1 4), .r (pr.lr y1 8)])))
def G85 (a0 a1 a2 a3 : Δ) : Ω :=
 (pr.lenD a3 fun x0 =>
(pr.bnd (pr.loop [(L85_0 pr), (L85_1 pr)] 0 [.d a0, .d a1, .d a2, .d a3, .d x0, .d (pr.lit (.int Go.IntKind.i64 (0)))]) [fun y1 => (pr.out 1 [.d (pr.lit (.slice none 0 0))]), fun y1 => (pr.eqN (pr.ln y1 1) (pr.len (pr.lr y1 2)) (pr.leN (pr.ln y1 0) (pr.len (pr.lr y1 2)) (pr.out 0 [.r (pr.seg (pr.lr y1 2) none (pr.ln y1 0))])))]))
/-! leazing/leazingref04.gain -/
def L86_0  : (Nat → List (Y Δ N R M) → Ω) → E → Ω := fun J0 y0 =>
 (pr.bin .neq false (pr.ld y0 3) (pr.lit (.int Go.IntKind.i64 (0))) fun x1 =>
 (pr.cond x1
  (pr.bin .rem false (pr.ld y0 2) (pr.ld y0 3) fun x2 =>
  (J0 0 [.d (pr.ld y0 0), .d (pr.ld y0 1), .d (pr.ld y0 3), .d x2, .d (pr.ld y0 4), .d (pr.ld y0 5)]))
  (pr.out 0 [.d (pr.ld y0 0), .d (pr.ld y0 1), .d (pr.ld y0 2), .d (pr.ld y0 4), .d (pr.ld y0 5)])))
def G86 (a0 a1 : Δ) : Ω :=
 (pr.bnd (pr.loop [(L86_0 pr)] 0 [.d a0, .d a1, .d a0, .d a1, .d (pr.lit (.int Go.IntKind.i64 (0))), .d (pr.lit (.int Go.IntKind.i64 (0)))]) [fun y0 => (pr.bin .quo false (pr.ld y0 0) (pr.ld y0 2) fun x1 =>
 (pr.bin .quo false (pr.ld y0 1) (pr.ld y0 2) fun x2 =>
  (pr.out 0 [.d x1, .d x2])))])
/-! leazing/leazingref04.least -/
def L87_0  : (Nat → List (Y Δ N R M) → Ω) → E → Ω := fun J0 y0 =>
 (pr.lenD (pr.ld y0 0) fun x1 =>
 (pr.bin .lss false (pr.lit (.int Go.IntKind.i64 (0))) x1 fun x2 =>
  (pr.cond x2
   (pr.bnd (pr.call 102 [(pr.ld y0 3), (pr.ld y0 4), (pr.ld y0 0), (pr.lit (.slice none 0 0))]) [fun y3 => (J0 1 [.d (pr.ld y0 0), .d (pr.ld y3 0), .d (pr.ld y0 1), .d (pr.ld y0 2), .d (pr.ld y0 3), .d (pr.ld y0 4)])])
   (pr.out 0 [.d (pr.ld y0 1), .d (pr.ld y0 2)]))))
def L87_1  : (Nat → List (Y Δ N R M) → Ω) → E → Ω := fun J0 y0 =>
 (pr.lenD (pr.ld y0 1) fun x1 =>
 (pr.lenD (pr.ld y0 0) fun x2 =>
  (pr.bin .lss false x1 x2 fun x3 =>
   (pr.cond x3
    (pr.bnd (pr.call 102 [(pr.ld y0 4), (pr.ld y0 5), (pr.ld y0 0), (pr.ld y0 1)]) [fun y4 => (J0 1 [.d (pr.ld y0 0), .d (pr.ld y4 0), .d (pr.ld y0 2), .d (pr.ld y0 3), .d (pr.ld y0 4), .d (pr.ld y0 5)])])
    (pr.out 1 [.d (pr.ld y0 1), .d (pr.ld y0 2), .d (pr.ld y0 3)])))))
def G87 (a0 a1 a2 : Δ) : Ω :=
 (pr.bnd (pr.loop [(L87_0 pr), (L87_1 pr)] 0 [.d a2, .d (pr.lit (.int Go.IntKind.i64 (0))), .d (pr.lit (.int Go.IntKind.i64 (0))), .d a0, .d a1]) [fun y0 => pr.fail, fun y0 => (pr.rowD 1 (pr.ld y0 0) (pr.lit (.int Go.IntKind.i64 (0))) fun w1 =>
 (pr.rowD 2 (pr.cell w1 0) (pr.lit (.int Go.IntKind.i64 (0))) fun w2 =>
  (pr.out 0 [.d (pr.cell w2 0), .d (pr.cell w2 1)])))])
end
theorem G74_eq {Δ N R W M E Ω : Type} (pr : Pr Δ N R W M E Ω) (a0 a1 a2 a3 : Δ) : fun3 pr tb Try.prog 400 74 [a0, a1, a2, a3] = G74 pr a0 a1 a2 a3 := by kernel_rfl
theorem F74 (n : Nat) (a0 a1 a2 a3 : D) : FN (n + 1) 74 [a0, a1, a2, a3] = G74 (RP n) a0 a1 a2 a3 := G74_eq _ a0 a1 a2 a3
theorem G75_eq {Δ N R W M E Ω : Type} (pr : Pr Δ N R W M E Ω) (a0 a1 a2 a3 a4 : Δ) : fun3 pr tb Try.prog 400 75 [a0, a1, a2, a3, a4] = G75 pr a0 a1 a2 a3 a4 := by kernel_rfl
theorem F75 (n : Nat) (a0 a1 a2 a3 a4 : D) : FN (n + 1) 75 [a0, a1, a2, a3, a4] = G75 (RP n) a0 a1 a2 a3 a4 := G75_eq _ a0 a1 a2 a3 a4
theorem G76_eq {Δ N R W M E Ω : Type} (pr : Pr Δ N R W M E Ω) (a0 a1 a2 a3 : Δ) : fun3 pr tb Try.prog 400 76 [a0, a1, a2, a3] = G76 pr a0 a1 a2 a3 := by kernel_rfl
theorem F76 (n : Nat) (a0 a1 a2 a3 : D) : FN (n + 1) 76 [a0, a1, a2, a3] = G76 (RP n) a0 a1 a2 a3 := G76_eq _ a0 a1 a2 a3
theorem G77_eq {Δ N R W M E Ω : Type} (pr : Pr Δ N R W M E Ω) (a0 a1 a2 a3 : Δ) : fun3 pr tb Try.prog 400 77 [a0, a1, a2, a3] = G77 pr a0 a1 a2 a3 := by kernel_rfl
theorem F77 (n : Nat) (a0 a1 a2 a3 : D) : FN (n + 1) 77 [a0, a1, a2, a3] = G77 (RP n) a0 a1 a2 a3 := G77_eq _ a0 a1 a2 a3
theorem G81_eq {Δ N R W M E Ω : Type} (pr : Pr Δ N R W M E Ω) (a0 a1 a2 a3 : Δ) : fun3 pr tb Try.prog 400 81 [a0, a1, a2, a3] = G81 pr a0 a1 a2 a3 := by kernel_rfl
theorem F81 (n : Nat) (a0 a1 a2 a3 : D) : FN (n + 1) 81 [a0, a1, a2, a3] = G81 (RP n) a0 a1 a2 a3 := G81_eq _ a0 a1 a2 a3
theorem G82_eq {Δ N R W M E Ω : Type} (pr : Pr Δ N R W M E Ω) (a0 a1 a2 a3 : Δ) : fun3 pr tb Try.prog 400 82 [a0, a1, a2, a3] = G82 pr a0 a1 a2 a3 := by kernel_rfl
theorem F82 (n : Nat) (a0 a1 a2 a3 : D) : FN (n + 1) 82 [a0, a1, a2, a3] = G82 (RP n) a0 a1 a2 a3 := G82_eq _ a0 a1 a2 a3
theorem G83_eq {Δ N R W M E Ω : Type} (pr : Pr Δ N R W M E Ω) (a0 a1 : Δ) : fun3 pr tb Try.prog 400 83 [a0, a1] = G83 pr a0 a1 := by kernel_rfl
theorem F83 (n : Nat) (a0 a1 : D) : FN (n + 1) 83 [a0, a1] = G83 (RP n) a0 a1 := G83_eq _ a0 a1
theorem G84_eq {Δ N R W M E Ω : Type} (pr : Pr Δ N R W M E Ω) (a0 a1 a2 a3 a4 a5 a6 : Δ) : fun3 pr tb Try.prog 400 84 [a0, a1, a2, a3, a4, a5, a6] = G84 pr a0 a1 a2 a3 a4 a5 a6 := by kernel_rfl
theorem F84 (n : Nat) (a0 a1 a2 a3 a4 a5 a6 : D) : FN (n + 1) 84 [a0, a1, a2, a3, a4, a5, a6] = G84 (RP n) a0 a1 a2 a3 a4 a5 a6 := G84_eq _ a0 a1 a2 a3 a4 a5 a6
theorem G85_eq {Δ N R W M E Ω : Type} (pr : Pr Δ N R W M E Ω) (a0 a1 a2 a3 : Δ) : fun3 pr tb Try.prog 400 85 [a0, a1, a2, a3] = G85 pr a0 a1 a2 a3 := by kernel_rfl
theorem F85 (n : Nat) (a0 a1 a2 a3 : D) : FN (n + 1) 85 [a0, a1, a2, a3] = G85 (RP n) a0 a1 a2 a3 := G85_eq _ a0 a1 a2 a3
theorem G86_eq {Δ N R W M E Ω : Type} (pr : Pr Δ N R W M E Ω) (a0 a1 : Δ) : fun3 pr tb Try.prog 400 86 [a0, a1] = G86 pr a0 a1 := by kernel_rfl
theorem F86 (n : Nat) (a0 a1 : D) : FN (n + 1) 86 [a0, a1] = G86 (RP n) a0 a1 := G86_eq _ a0 a1
theorem G87_eq {Δ N R W M E Ω : Type} (pr : Pr Δ N R W M E Ω) (a0 a1 a2 : Δ) : fun3 pr tb Try.prog 400 87 [a0, a1, a2] = G87 pr a0 a1 a2 := by kernel_rfl
theorem F87 (n : Nat) (a0 a1 a2 : D) : FN (n + 1) 87 [a0, a1, a2] = G87 (RP n) a0 a1 a2 := G87_eq _ a0 a1 a2
end Go.VE
/- What the functions of this program do, made by a program of ours out of the evaluator itself. -/
namespace Go.VE
open Go.RowKit Go.Proofs
set_option maxRecDepth 100000
set_option maxHeartbeats 4000000
section
variable {Δ N R W M E Ω : Type} (pr : Pr Δ N R W M E Ω)
/-! leazing/leazingref04.areDrifts -/
def L88_0  : (Nat → List (Y Δ N R M) → Ω) → E → Ω := fun J3 y3 =>
 (pr.lenD (pr.ld y3 0) fun x4 =>
    (pr.bin .lss false (pr.ld y3 2) x4 fun x5 =>
     (pr.cond x5
      (pr.rowD 2 (pr.ld y3 1) (pr.ld y3 2) fun w6 =>
      (pr.bnd (pr.call 77 [(pr.ld y3 3), (pr.ld y3 4), (pr.cell w6 0), (pr.cell w6 1)]) [fun y7 => (pr.un .not (pr.ld y7 0) fun x8 => (pr.cond x8
         (pr.out 0 [.d (pr.lit (.bool false))])
         (pr.rowD 4 (pr.ld y3 0) (pr.ld y3 2) fun w9 =>
         (pr.bin .lss false (pr.cell w6 0) (pr.cell w9 2) fun x10 =>
          (pr.cond x10
           (pr.out 0 [.d (pr.lit (.bool false))])
           (pr.rowD 4 (pr.ld y3 0) (pr.ld y3 2) fun w11 =>
           (pr.bin .gtr false (pr.cell w6 1) (pr.cell w11 3) fun x12 =>
            (pr.cond x12
             (pr.out 0 [.d (pr.lit (.bool false))])
             (pr.bin .gtr false (pr.ld y3 2) (pr.lit (.int Go.IntKind.i64 (0))) fun x13 =>
             (pr.cond x13
              (pr.bin .sub false (pr.ld y3 2) (pr.lit (.int Go.IntKind.i64 (1))) fun x14 =>
              (pr.rowD 2 (pr.ld y3 1) x14 fun w15 =>
               (pr.bin .geq false (pr.cell w15 1) (pr.cell w6 0) fun x16 =>
                (pr.cond x16
                 (pr.out 0 [.d (pr.lit (.bool false))])
                 (pr.bin .add false (pr.ld y3 2) (pr.lit (.int Go.IntKind.i64 (1))) fun x17 =>
                 (J3 0 [.d (pr.ld y3 0), .d (pr.ld y3 1), .d x17, .d (pr.ld y3 3), .d (pr.ld y3 4)]))))))
              (pr.bin .add false (pr.ld y3 2) (pr.lit (.int Go.IntKind.i64 (1))) fun x14 =>
              (J3 0 [.d (pr.ld y3 0), .d (pr.ld y3 1), .d x14, .d (pr.ld y3 3), .d (pr.ld y3 4)]))))))))))))]))
      (pr.out 1 []))))
def G88 (a0 a1 a2 a3 : Δ) : Ω :=
 (pr.lenD a3 fun x0 =>
(pr.lenD a2 fun x1 =>
 (pr.bin .neq false x0 x1 fun x2 =>
  (pr.cond x2
   (pr.out 0 [.d (pr.lit (.bool false))])
   (pr.bnd (pr.loop [(L88_0 pr)] 0 [.d a2, .d a3, .d (pr.lit (.int Go.IntKind.i64 (0))), .d a0, .d a1]) [fun y3 => (pr.out 0 [.d (pr.ld y3 0)]), fun y3 => (pr.out 0 [.d (pr.lit (.bool true))])])))))
/-! slices.Grow[[]leazing/api.Claim,leazing/api.Claim] -/
def G89 (a0 a1 : Δ) : Ω :=
 (pr.bnd (pr.bin .lss false a1 (pr.lit (.int Go.IntKind.i64 (0))) fun x0 =>
(pr.cond x0
 pr.fail
 (pr.out 0 [.d a0, .d a1]))) [fun y0 => (pr.nilD (pr.ld y0 0) (pr.lenD (pr.ld y0 0) fun x1 =>
 (pr.bin .sub false (pr.lit (.int Go.IntKind.i64 (0))) x1 fun x2 =>
  (pr.bin .sub false (pr.ld y0 1) x2 fun x3 =>
   (pr.bin .gtr false x3 (pr.lit (.int Go.IntKind.i64 (0))) fun x4 =>
    (pr.cond x4
     (pr.nilD (pr.ld y0 0) (pr.cutD 4 (pr.ld y0 0) none (some (pr.lit (.int Go.IntKind.i64 (0)))) fun x5 =>
     (pr.nilD x5 (pr.gap 32 x3 fun n6 => (pr.lenD (pr.ld y0 0) fun x7 =>
       (pr.eqN n6 (pr.len (pr.repl n6 [(pr.lit (.int Go.IntKind.i64 (0))), (pr.lit (.int Go.IntKind.i64 (0))), (pr.lit (.int Go.IntKind.i64 (0))), (pr.lit (.int Go.IntKind.i64 (0)))])) (pr.cut none (some x7) n6 (fun n8 m8 => (pr.eqN n6 (pr.len (pr.repl n6 [(pr.lit (.int Go.IntKind.i64 (0))), (pr.lit (.int Go.IntKind.i64 (0))), (pr.lit (.int Go.IntKind.i64 (0))), (pr.lit (.int Go.IntKind.i64 (0)))])) (pr.leN m8 (pr.len (pr.repl n6 [(pr.lit (.int Go.IntKind.i64 (0))), (pr.lit (.int Go.IntKind.i64 (0))), (pr.lit (.int Go.IntKind.i64 (0))), (pr.lit (.int Go.IntKind.i64 (0)))])) (pr.out 0 [.r (pr.seg (pr.repl n6 [(pr.lit (.int Go.IntKind.i64 (0))), (pr.lit (.int Go.IntKind.i64 (0))), (pr.lit (.int Go.IntKind.i64 (0))), (pr.lit (.int Go.IntKind.i64 (0)))]) none m8)]))))
        pr.fail)))))))
     (pr.out 1 [.d (pr.ld y0 0)])))))))])
/-! slices.IndexFunc[[]leazing/api.Claim,leazing/api.Claim] -/
def L90_0  : (Nat → List (Y Δ N R M) → Ω) → E → Ω := fun J1 y1 =>
 (pr.bin .lss false (pr.ld y1 3) (pr.ld y1 2) fun x2 =>
  (pr.cond x2
   (pr.rowD 4 (pr.ld y1 0) (pr.ld y1 3) fun w3 =>
   (pr.bnd (pr.callD (pr.ld y1 1) [.agg 4] [(pr.cell w3 0), (pr.cell w3 1), (pr.cell w3 2), (pr.cell w3 3)]) [fun y4 => (pr.cond (pr.ld y4 0)
     (pr.out 0 [.d (pr.ld y1 3)])
     (pr.bin .add false (pr.ld y1 3) (pr.lit (.int Go.IntKind.i64 (1))) fun x5 =>
     (J1 0 [.d (pr.ld y1 0), .d (pr.ld y1 1), .d (pr.ld y1 2), .d x5])))]))
   (pr.out 1 [])))
def G90 (a0 a1 : Δ) : Ω :=
 (pr.lenD a0 fun x0 =>
(pr.bnd (pr.loop [(L90_0 pr)] 0 [.d a0, .d a1, .d x0, .d (pr.lit (.int Go.IntKind.i64 (0)))]) [fun y1 => (pr.out 0 [.d (pr.ld y1 0)]), fun y1 => (pr.out 0 [.d (pr.lit (.int Go.IntKind.i64 (-1)))])]))
/-! leazing/drift.poorest -/
def G91 (a0 : Δ) : Ω :=
 (pr.bnd (pr.call 103 [a0, (pr.fnD 104 [])]) [fun y0 => (pr.out 0 [.d (pr.ld y0 0), .d (pr.ld y0 1)])])
/-! leazing/drift.above -/
def G92 (a0 a1 : Δ) : Ω :=
 (pr.out 0 [.d (pr.fnD 105 [(pr.dpD [a0, a1] 0)])])
/-! cmp.Compare[int] -/
def G93 (a0 a1 : Δ) : Ω :=
 (pr.bnd (pr.call 106 [a0]) [fun y0 => (pr.bnd (pr.call 106 [a1]) [fun y1 => (pr.cond (pr.ld y0 0)
  (pr.cond (pr.ld y1 0)
  (pr.out 0 [.d (pr.lit (.int Go.IntKind.i64 (0)))])
  (pr.out 0 [.d (pr.lit (.int Go.IntKind.i64 (-1)))]))
  (pr.cond (pr.ld y1 0)
  (pr.out 0 [.d (pr.lit (.int Go.IntKind.i64 (1)))])
  (pr.bin .lss false a0 a1 fun x2 =>
  (pr.cond x2
   (pr.out 0 [.d (pr.lit (.int Go.IntKind.i64 (-1)))])
   (pr.bin .gtr false a0 a1 fun x3 =>
   (pr.cond x3
    (pr.out 0 [.d (pr.lit (.int Go.IntKind.i64 (1)))])
    (pr.out 0 [.d (pr.lit (.int Go.IntKind.i64 (0)))])))))))])])
/-! leazing/drift.sum -/
def L98_0  : (Nat → List (Y Δ N R M) → Ω) → E → Ω := fun J1 y1 =>
 (pr.bin .lss false (pr.ld y1 3) (pr.ld y1 2) fun x2 =>
  (pr.cond x2
   (pr.rowD 1 (pr.ld y1 1) (pr.ld y1 3) fun w3 =>
   (pr.bin .add false (pr.ld y1 0) (pr.cell w3 0) fun x4 =>
    (pr.bin .add false (pr.ld y1 3) (pr.lit (.int Go.IntKind.i64 (1))) fun x5 =>
     (J1 0 [.d x4, .d (pr.ld y1 1), .d (pr.ld y1 2), .d x5]))))
   (pr.out 0 [.d (pr.ld y1 0)])))
def G98 (a0 : Δ) : Ω :=
 (pr.lenD a0 fun x0 =>
(pr.bnd (pr.loop [(L98_0 pr)] 0 [.d (pr.lit (.int Go.IntKind.i64 (0))), .d a0, .d x0, .d (pr.lit (.int Go.IntKind.i64 (0)))]) [fun y1 => (pr.out 0 [.d (pr.ld y1 0)])]))
/-! slices.ContainsFunc[[]int,int] -/
def G99 (a0 a1 : Δ) : Ω :=
 (pr.bnd (pr.call 109 [a0, a1]) [fun y0 => (pr.bin .geq false (pr.ld y0 0) (pr.lit (.int Go.IntKind.i64 (0))) fun x1 =>
 (pr.out 0 [.d x1]))])
/-! (*leazing/drift.parted).shows$1 -/
def G100 (a0 : Δ) : Ω :=
 (pr.bnd (pr.call 59 [a0, (pr.lit (.int Go.IntKind.i64 (0))), (pr.lit (.int Go.IntKind.i64 (25)))]) [fun y0 => (pr.un .not (pr.ld y0 0) fun x1 => (pr.out 0 [.d x1]))])
/-! leazing/drift.lowest -/
def L101_0  : (Nat → List (Y Δ N R M) → Ω) → E → Ω := fun J0 y0 =>
 (pr.bin .neq false (pr.ld y0 3) (pr.lit (.int Go.IntKind.i64 (0))) fun x1 =>
 (pr.cond x1
  (pr.bin .rem false (pr.ld y0 2) (pr.ld y0 3) fun x2 =>
  (J0 0 [.d (pr.ld y0 0), .d (pr.ld y0 1), .d (pr.ld y0 3), .d x2, .d (pr.ld y0 4), .d (pr.ld y0 5)]))
  (pr.out 0 [.d (pr.ld y0 0), .d (pr.ld y0 1), .d (pr.ld y0 2), .d (pr.ld y0 4), .d (pr.ld y0 5)])))
def G101 (a0 a1 : Δ) : Ω :=
 (pr.bnd (pr.loop [(L101_0 pr)] 0 [.d a0, .d a1, .d a0, .d a1, .d (pr.lit (.int Go.IntKind.i64 (0))), .d (pr.lit (.int Go.IntKind.i64 (0)))]) [fun y0 => (pr.bin .quo false (pr.ld y0 0) (pr.ld y0 2) fun x1 =>
 (pr.bin .quo false (pr.ld y0 1) (pr.ld y0 2) fun x2 =>
  (pr.out 0 [.d x1, .d x2])))])
/-! leazing/leazingref04.best -/
def L102_0  : (Nat → List (Y Δ N R M) → Ω) → E → Ω := fun J5 y5 =>
 (pr.lenD (pr.ld y5 7) fun x6 =>
      (pr.bin .leq false (pr.ld y5 4) x6 fun x7 =>
       (pr.cond x7
        (pr.eqN (pr.ln y5 3) (pr.len (pr.lr y5 5)) (pr.inx (pr.ld y5 4) (pr.ln y5 2) fun n8 => (pr.eqN (pr.ln y5 3) (pr.len (pr.lr y5 5)) (pr.rowAt 2 (pr.lr y5 5) n8 fun w9 => (pr.bin .add false (pr.ld y5 4) (pr.lit (.int Go.IntKind.i64 (1))) fun x10 =>
          (J5 0 [.d (pr.ld y5 0), .d (pr.ld y5 1), .n (pr.ln y5 2), .n (pr.ln y5 3), .d x10, .r (pr.setR (pr.lr y5 5) n8 [(pr.lit (.int Go.IntKind.i64 (1000000))), (pr.lit (.int Go.IntKind.i64 (1)))]), .d (pr.ld y5 6), .d (pr.ld y5 7)]))))))
        (pr.out 0 [.d (pr.ld y5 0), .d (pr.ld y5 1), .n (pr.ln y5 2), .n (pr.ln y5 3), .r (pr.lr y5 5), .d (pr.ld y5 6), .d (pr.ld y5 7)]))))
def L102_1  : (Nat → List (Y Δ N R M) → Ω) → E → Ω := fun J22 y22 =>
 (pr.bin .leq false (pr.ld y22 5) (pr.ld y22 10) fun x23 =>
                       (pr.cond x23
                        (pr.bin .add false (pr.ld y22 5) (pr.lit (.int Go.IntKind.i64 (1))) fun x24 =>
                        (pr.rowD 2 (pr.ld y22 1) x24 fun w25 =>
                         (pr.bin .eql false (pr.cell w25 1) (pr.lit (.int Go.IntKind.i64 (0))) fun x26 =>
                          (pr.cond x26
                           (pr.bin .add false (pr.ld y22 5) (pr.lit (.int Go.IntKind.i64 (1))) fun x27 =>
                           (J22 0 [.d (pr.ld y22 0), .d (pr.ld y22 1), .n (pr.ln y22 2), .n (pr.ln y22 3), .d (pr.ld y22 4), .d x27, .r (pr.lr y22 6), .d (pr.ld y22 7), .d (pr.ld y22 8), .d (pr.ld y22 9), .d (pr.ld y22 10), .d (pr.ld y22 11), .d (pr.ld y22 12)]))
                           (pr.bnd (pr.call 82 [(pr.ld y22 11), (pr.ld y22 12), (pr.ld y22 4), (pr.ld y22 5)]) [fun y27 => (pr.bnd (pr.call 86 [(pr.ld y27 0), (pr.ld y22 8)]) [fun y28 => (pr.bnd (pr.bin .add false (pr.ld y22 5) (pr.lit (.int Go.IntKind.i64 (1))) fun x29 =>
                             (pr.rowD 2 (pr.ld y22 1) x29 fun w30 =>
(pr.bnd (pr.call 56 [(pr.cell w30 0), (pr.cell w30 1), (pr.ld y28 0), (pr.ld y28 1)]) [fun y31 => (pr.cond (pr.ld y31 0)
  (pr.bin .add false (pr.ld y22 5) (pr.lit (.int Go.IntKind.i64 (1))) fun x32 =>
  (pr.rowD 2 (pr.ld y22 1) x32 fun w33 =>
   (pr.out 0 [.d (pr.ld y22 0), .d (pr.ld y22 1), .n (pr.ln y22 2), .n (pr.ln y22 3), .d (pr.ld y22 4), .d (pr.ld y22 5), .d (pr.cell w33 0), .d (pr.cell w33 1), .r (pr.lr y22 6), .d (pr.ld y22 7), .d (pr.ld y22 8), .d (pr.ld y22 9), .d (pr.ld y22 10), .d (pr.ld y22 11), .d (pr.ld y22 12)])))
  (pr.out 0 [.d (pr.ld y22 0), .d (pr.ld y22 1), .n (pr.ln y22 2), .n (pr.ln y22 3), .d (pr.ld y22 4), .d (pr.ld y22 5), .d (pr.ld y28 0), .d (pr.ld y28 1), .r (pr.lr y22 6), .d (pr.ld y22 7), .d (pr.ld y22 8), .d (pr.ld y22 9), .d (pr.ld y22 10), .d (pr.ld y22 11), .d (pr.ld y22 12)]))]))) [fun y29 => (pr.eqN (pr.ln y29 3) (pr.len (pr.lr y29 8)) (pr.inx (pr.ld y29 4) (pr.ln y29 2) fun n30 => (pr.eqN (pr.ln y29 3) (pr.len (pr.lr y29 8)) (pr.rowAt 2 (pr.lr y29 8) n30 fun w31 => (pr.bin .eql false (pr.cell w31 1) (pr.lit (.int Go.IntKind.i64 (0))) fun x32 =>
  (pr.cond x32
   (pr.eqN (pr.ln y29 3) (pr.len (pr.lr y29 8)) (pr.inx (pr.ld y29 4) (pr.ln y29 2) fun n33 => (pr.eqN (pr.ln y29 3) (pr.len (pr.lr y29 8)) (pr.rowAt 2 (pr.lr y29 8) n33 fun w34 => (pr.bin .add false (pr.ld y29 5) (pr.lit (.int Go.IntKind.i64 (1))) fun x35 =>
     (J22 0 [.d (pr.ld y29 0), .d (pr.ld y29 1), .n (pr.ln y29 2), .n (pr.ln y29 3), .d (pr.ld y29 4), .d x35, .r (pr.setR (pr.lr y29 8) n33 [(pr.ld y29 6), (pr.ld y29 7)]), .d (pr.ld y29 9), .d (pr.ld y29 10), .d (pr.ld y29 11), .d (pr.ld y29 12), .d (pr.ld y29 13), .d (pr.ld y29 14)]))))))
   (pr.eqN (pr.ln y29 3) (pr.len (pr.lr y29 8)) (pr.inx (pr.ld y29 4) (pr.ln y29 2) fun n33 => (pr.eqN (pr.ln y29 3) (pr.len (pr.lr y29 8)) (pr.rowAt 2 (pr.lr y29 8) n33 fun w34 => (pr.bnd (pr.call 56 [(pr.cell w34 0), (pr.cell w34 1), (pr.ld y29 6), (pr.ld y29 7)]) [fun y35 => (pr.cond (pr.ld y35 0)
      (pr.eqN (pr.ln y29 3) (pr.len (pr.lr y29 8)) (pr.inx (pr.ld y29 4) (pr.ln y29 2) fun n36 => (pr.eqN (pr.ln y29 3) (pr.len (pr.lr y29 8)) (pr.rowAt 2 (pr.lr y29 8) n36 fun w37 => (pr.bin .add false (pr.ld y29 5) (pr.lit (.int Go.IntKind.i64 (1))) fun x38 =>
        (J22 0 [.d (pr.ld y29 0), .d (pr.ld y29 1), .n (pr.ln y29 2), .n (pr.ln y29 3), .d (pr.ld y29 4), .d x38, .r (pr.setR (pr.lr y29 8) n36 [(pr.ld y29 6), (pr.ld y29 7)]), .d (pr.ld y29 9), .d (pr.ld y29 10), .d (pr.ld y29 11), .d (pr.ld y29 12), .d (pr.ld y29 13), .d (pr.ld y29 14)]))))))
      (pr.bin .add false (pr.ld y29 5) (pr.lit (.int Go.IntKind.i64 (1))) fun x36 =>
      (J22 0 [.d (pr.ld y29 0), .d (pr.ld y29 1), .n (pr.ln y29 2), .n (pr.ln y29 3), .d (pr.ld y29 4), .d x36, .r (pr.lr y29 8), .d (pr.ld y29 9), .d (pr.ld y29 10), .d (pr.ld y29 11), .d (pr.ld y29 12), .d (pr.ld y29 13), .d (pr.ld y29 14)])))])))))))))))])])])))))
                        (pr.out 0 [.d (pr.ld y22 0), .d (pr.ld y22 1), .n (pr.ln y22 2), .n (pr.ln y22 3), .d (pr.ld y22 4), .r (pr.lr y22 6), .d (pr.ld y22 7), .d (pr.ld y22 8), .d (pr.ld y22 9), .d (pr.ld y22 10), .d (pr.ld y22 11), .d (pr.ld y22 12)])))
def L102_2  : (Nat → List (Y Δ N R M) → Ω) → E → Ω := fun J14 y14 =>
 (pr.bin .geq false (pr.ld y14 4) (pr.lit (.int Go.IntKind.i64 (0))) fun x15 =>
               (pr.cond x15
                (pr.bin .add false (pr.ld y14 4) (pr.lit (.int Go.IntKind.i64 (1))) fun x16 =>
                (pr.eqN (pr.ln y14 3) (pr.len (pr.lr y14 5)) (pr.inx x16 (pr.ln y14 2) fun n17 => (pr.eqN (pr.ln y14 3) (pr.len (pr.lr y14 5)) (pr.rowAt 2 (pr.lr y14 5) n17 fun w18 => (pr.eqN (pr.ln y14 3) (pr.len (pr.lr y14 5)) (pr.inx (pr.ld y14 4) (pr.ln y14 2) fun n19 => (pr.eqN (pr.ln y14 3) (pr.len (pr.lr y14 5)) (pr.rowAt 2 (pr.lr y14 5) n19 fun w20 => (pr.bin .lss false (pr.ld y14 4) (pr.ld y14 8) fun x21 =>
                     (pr.cond x21
                      (pr.bin .sub false (pr.ld y14 4) (pr.lit (.int Go.IntKind.i64 (1))) fun x22 =>
                      (J14 0 [.d (pr.ld y14 0), .d (pr.ld y14 1), .n (pr.ln y14 2), .n (pr.ln y14 3), .d x22, .r (pr.setR (pr.lr y14 5) n19 [(pr.cell w18 0), (pr.cell w18 1)]), .d (pr.ld y14 6), .d (pr.ld y14 7), .d (pr.ld y14 8), .d (pr.ld y14 9), .d (pr.ld y14 10), .d (pr.ld y14 11)]))
                      (pr.bnd (pr.loop [(L102_1 pr)] 0 [.d (pr.ld y14 0), .d (pr.ld y14 1), .n (pr.ln y14 2), .n (pr.ln y14 3), .d (pr.ld y14 4), .d (pr.ld y14 4), .r (pr.setR (pr.lr y14 5) n19 [(pr.cell w18 0), (pr.cell w18 1)]), .d (pr.ld y14 6), .d (pr.ld y14 7), .d (pr.ld y14 8), .d (pr.ld y14 9), .d (pr.ld y14 10), .d (pr.ld y14 11)]) [fun y22 => (pr.bin .sub false (pr.ld y22 4) (pr.lit (.int Go.IntKind.i64 (1))) fun x23 =>
                       (J14 0 [.d (pr.ld y22 0), .d (pr.ld y22 1), .n (pr.ln y22 2), .n (pr.ln y22 3), .d x23, .r (pr.lr y22 5), .d (pr.ld y22 6), .d (pr.ld y22 7), .d (pr.ld y22 8), .d (pr.ld y22 9), .d (pr.ld y22 10), .d (pr.ld y22 11)]))]))))))))))))
                (pr.out 0 [.d (pr.ld y14 0), .n (pr.ln y14 2), .n (pr.ln y14 3), .r (pr.lr y14 5)])))
def L102_3  : (Nat → List (Y Δ N R M) → Ω) → E → Ω := fun J22 y22 =>
 (pr.bin .leq false (pr.ld y22 6) (pr.ld y22 11) fun x23 =>
                       (pr.cond x23
                        (pr.bin .add false (pr.ld y22 6) (pr.lit (.int Go.IntKind.i64 (1))) fun x24 =>
                        (pr.eqN (pr.ln y22 2) (pr.len (pr.lr y22 12)) (pr.inx x24 (pr.ln y22 1) fun n25 => (pr.eqN (pr.ln y22 2) (pr.len (pr.lr y22 12)) (pr.rowAt 2 (pr.lr y22 12) n25 fun w26 => (pr.bin .eql false (pr.cell w26 1) (pr.lit (.int Go.IntKind.i64 (0))) fun x27 =>
                           (pr.cond x27
                            (pr.bin .add false (pr.ld y22 6) (pr.lit (.int Go.IntKind.i64 (1))) fun x28 =>
                            (J22 0 [.d (pr.ld y22 0), .n (pr.ln y22 1), .n (pr.ln y22 2), .n (pr.ln y22 3), .n (pr.ln y22 4), .d (pr.ld y22 5), .d x28, .r (pr.lr y22 7), .d (pr.ld y22 8), .d (pr.ld y22 9), .d (pr.ld y22 10), .d (pr.ld y22 11), .r (pr.lr y22 12), .d (pr.ld y22 13), .d (pr.ld y22 14)]))
                            (pr.bnd (pr.call 82 [(pr.ld y22 13), (pr.ld y22 14), (pr.ld y22 5), (pr.ld y22 6)]) [fun y28 => (pr.bnd (pr.call 86 [(pr.ld y28 0), (pr.ld y22 9)]) [fun y29 => (pr.bnd (pr.bin .add false (pr.ld y22 6) (pr.lit (.int Go.IntKind.i64 (1))) fun x30 =>
(pr.eqN (pr.ln y22 2) (pr.len (pr.lr y22 12)) (pr.inx x30 (pr.ln y22 1) fun n31 => (pr.eqN (pr.ln y22 2) (pr.len (pr.lr y22 12)) (pr.rowAt 2 (pr.lr y22 12) n31 fun w32 => (pr.bnd (pr.call 56 [(pr.cell w32 0), (pr.cell w32 1), (pr.ld y29 0), (pr.ld y29 1)]) [fun y33 => (pr.cond (pr.ld y33 0)
    (pr.bin .add false (pr.ld y22 6) (pr.lit (.int Go.IntKind.i64 (1))) fun x34 =>
    (pr.eqN (pr.ln y22 2) (pr.len (pr.lr y22 12)) (pr.inx x34 (pr.ln y22 1) fun n35 => (pr.eqN (pr.ln y22 2) (pr.len (pr.lr y22 12)) (pr.rowAt 2 (pr.lr y22 12) n35 fun w36 => (pr.out 0 [.d (pr.ld y22 0), .n (pr.ln y22 1), .n (pr.ln y22 2), .n (pr.ln y22 3), .n (pr.ln y22 4), .d (pr.ld y22 5), .d (pr.ld y22 6), .d (pr.cell w36 0), .d (pr.cell w36 1), .r (pr.lr y22 7), .d (pr.ld y22 8), .d (pr.ld y22 9), .d (pr.ld y22 10), .d (pr.ld y22 11), .r (pr.lr y22 12), .d (pr.ld y22 13), .d (pr.ld y22 14)]))))))
    (pr.out 0 [.d (pr.ld y22 0), .n (pr.ln y22 1), .n (pr.ln y22 2), .n (pr.ln y22 3), .n (pr.ln y22 4), .d (pr.ld y22 5), .d (pr.ld y22 6), .d (pr.ld y29 0), .d (pr.ld y29 1), .r (pr.lr y22 7), .d (pr.ld y22 8), .d (pr.ld y22 9), .d (pr.ld y22 10), .d (pr.ld y22 11), .r (pr.lr y22 12), .d (pr.ld y22 13), .d (pr.ld y22 14)]))])))))) [fun y30 => (pr.eqN (pr.ln y30 4) (pr.len (pr.lr y30 9)) (pr.inx (pr.ld y30 5) (pr.ln y30 3) fun n31 => (pr.eqN (pr.ln y30 4) (pr.len (pr.lr y30 9)) (pr.rowAt 2 (pr.lr y30 9) n31 fun w32 => (pr.bin .eql false (pr.cell w32 1) (pr.lit (.int Go.IntKind.i64 (0))) fun x33 =>
   (pr.cond x33
    (pr.eqN (pr.ln y30 4) (pr.len (pr.lr y30 9)) (pr.inx (pr.ld y30 5) (pr.ln y30 3) fun n34 => (pr.eqN (pr.ln y30 4) (pr.len (pr.lr y30 9)) (pr.rowAt 2 (pr.lr y30 9) n34 fun w35 => (pr.bin .add false (pr.ld y30 6) (pr.lit (.int Go.IntKind.i64 (1))) fun x36 =>
      (J22 0 [.d (pr.ld y30 0), .n (pr.ln y30 1), .n (pr.ln y30 2), .n (pr.ln y30 3), .n (pr.ln y30 4), .d (pr.ld y30 5), .d x36, .r (pr.setR (pr.lr y30 9) n34 [(pr.ld y30 7), (pr.ld y30 8)]), .d (pr.ld y30 10), .d (pr.ld y30 11), .d (pr.ld y30 12), .d (pr.ld y30 13), .r (pr.lr y30 14), .d (pr.ld y30 15), .d (pr.ld y30 16)]))))))
    (pr.eqN (pr.ln y30 4) (pr.len (pr.lr y30 9)) (pr.inx (pr.ld y30 5) (pr.ln y30 3) fun n34 => (pr.eqN (pr.ln y30 4) (pr.len (pr.lr y30 9)) (pr.rowAt 2 (pr.lr y30 9) n34 fun w35 => (pr.bnd (pr.call 56 [(pr.cell w35 0), (pr.cell w35 1), (pr.ld y30 7), (pr.ld y30 8)]) [fun y36 => (pr.cond (pr.ld y36 0)
       (pr.eqN (pr.ln y30 4) (pr.len (pr.lr y30 9)) (pr.inx (pr.ld y30 5) (pr.ln y30 3) fun n37 => (pr.eqN (pr.ln y30 4) (pr.len (pr.lr y30 9)) (pr.rowAt 2 (pr.lr y30 9) n37 fun w38 => (pr.bin .add false (pr.ld y30 6) (pr.lit (.int Go.IntKind.i64 (1))) fun x39 =>
         (J22 0 [.d (pr.ld y30 0), .n (pr.ln y30 1), .n (pr.ln y30 2), .n (pr.ln y30 3), .n (pr.ln y30 4), .d (pr.ld y30 5), .d x39, .r (pr.setR (pr.lr y30 9) n37 [(pr.ld y30 7), (pr.ld y30 8)]), .d (pr.ld y30 10), .d (pr.ld y30 11), .d (pr.ld y30 12), .d (pr.ld y30 13), .r (pr.lr y30 14), .d (pr.ld y30 15), .d (pr.ld y30 16)]))))))
       (pr.bin .add false (pr.ld y30 6) (pr.lit (.int Go.IntKind.i64 (1))) fun x37 =>
       (J22 0 [.d (pr.ld y30 0), .n (pr.ln y30 1), .n (pr.ln y30 2), .n (pr.ln y30 3), .n (pr.ln y30 4), .d (pr.ld y30 5), .d x37, .r (pr.lr y30 9), .d (pr.ld y30 10), .d (pr.ld y30 11), .d (pr.ld y30 12), .d (pr.ld y30 13), .r (pr.lr y30 14), .d (pr.ld y30 15), .d (pr.ld y30 16)])))])))))))))))])])]))))))))
                        (pr.out 0 [.d (pr.ld y22 0), .n (pr.ln y22 1), .n (pr.ln y22 2), .n (pr.ln y22 3), .n (pr.ln y22 4), .d (pr.ld y22 5), .r (pr.lr y22 7), .d (pr.ld y22 8), .d (pr.ld y22 9), .d (pr.ld y22 10), .d (pr.ld y22 11), .r (pr.lr y22 12), .d (pr.ld y22 13), .d (pr.ld y22 14)])))
def L102_4  : (Nat → List (Y Δ N R M) → Ω) → E → Ω := fun J14 y14 =>
 (pr.bin .geq false (pr.ld y14 5) (pr.lit (.int Go.IntKind.i64 (0))) fun x15 =>
               (pr.cond x15
                (pr.bin .add false (pr.ld y14 5) (pr.lit (.int Go.IntKind.i64 (1))) fun x16 =>
                (pr.eqN (pr.ln y14 4) (pr.len (pr.lr y14 6)) (pr.inx x16 (pr.ln y14 3) fun n17 => (pr.eqN (pr.ln y14 4) (pr.len (pr.lr y14 6)) (pr.rowAt 2 (pr.lr y14 6) n17 fun w18 => (pr.eqN (pr.ln y14 4) (pr.len (pr.lr y14 6)) (pr.inx (pr.ld y14 5) (pr.ln y14 3) fun n19 => (pr.eqN (pr.ln y14 4) (pr.len (pr.lr y14 6)) (pr.rowAt 2 (pr.lr y14 6) n19 fun w20 => (pr.bin .lss false (pr.ld y14 5) (pr.ld y14 9) fun x21 =>
                     (pr.cond x21
                      (pr.bin .sub false (pr.ld y14 5) (pr.lit (.int Go.IntKind.i64 (1))) fun x22 =>
                      (J14 0 [.d (pr.ld y14 0), .n (pr.ln y14 1), .n (pr.ln y14 2), .n (pr.ln y14 3), .n (pr.ln y14 4), .d x22, .r (pr.setR (pr.lr y14 6) n19 [(pr.cell w18 0), (pr.cell w18 1)]), .d (pr.ld y14 7), .d (pr.ld y14 8), .d (pr.ld y14 9), .d (pr.ld y14 10), .r (pr.lr y14 11), .d (pr.ld y14 12), .d (pr.ld y14 13)]))
                      (pr.bnd (pr.loop [(L102_3 pr)] 0 [.d (pr.ld y14 0), .n (pr.ln y14 1), .n (pr.ln y14 2), .n (pr.ln y14 3), .n (pr.ln y14 4), .d (pr.ld y14 5), .d (pr.ld y14 5), .r (pr.setR (pr.lr y14 6) n19 [(pr.cell w18 0), (pr.cell w18 1)]), .d (pr.ld y14 7), .d (pr.ld y14 8), .d (pr.ld y14 9), .d (pr.ld y14 10), .r (pr.lr y14 11), .d (pr.ld y14 12), .d (pr.ld y14 13)]) [fun y22 => (pr.bin .sub false (pr.ld y22 5) (pr.lit (.int Go.IntKind.i64 (1))) fun x23 =>
                       (J14 0 [.d (pr.ld y22 0), .n (pr.ln y22 1), .n (pr.ln y22 2), .n (pr.ln y22 3), .n (pr.ln y22 4), .d x23, .r (pr.lr y22 6), .d (pr.ld y22 7), .d (pr.ld y22 8), .d (pr.ld y22 9), .d (pr.ld y22 10), .r (pr.lr y22 11), .d (pr.ld y22 12), .d (pr.ld y22 13)]))]))))))))))))
                (pr.out 0 [.d (pr.ld y14 0), .n (pr.ln y14 3), .n (pr.ln y14 4), .r (pr.lr y14 6)])))
def G102 (a0 a1 a2 a3 : Δ) : Ω :=
 (pr.lenD a1 fun x0 =>
(pr.bin .add false x0 (pr.lit (.int Go.IntKind.i64 (1))) fun x1 =>
 (pr.mkN 16 x1 x1 fun n2 => (pr.bnd (pr.lenD a3 fun x3 =>
   (pr.bin .gtr false x3 (pr.lit (.int Go.IntKind.i64 (0))) fun x4 =>
    (pr.cond x4
     (pr.rowD 1 a3 (pr.lit (.int Go.IntKind.i64 (0))) fun w5 =>
     (pr.out 0 [.d a2, .d a3, .d (pr.cell w5 0), .d a0, .d a1]))
     (pr.bnd (pr.loop [(L102_0 pr)] 0 [.d a2, .d a3, .n n2, .n n2, .d (pr.lit (.int Go.IntKind.i64 (0))), .r (pr.repl n2 [(pr.lit (.int Go.IntKind.i64 (0))), (pr.lit (.int Go.IntKind.i64 (0)))]), .d a0, .d a1]) [fun y5 => (pr.out 1 [.d (pr.ld y5 0), .d (pr.ld y5 1), .n (pr.ln y5 2), .n (pr.ln y5 3), .r (pr.lr y5 4), .d (pr.ld y5 5), .d (pr.ld y5 6)])])))) [fun y3 => (pr.lenD (pr.ld y3 0) fun x4 =>
    (pr.bin .sub false x4 (pr.lit (.int Go.IntKind.i64 (1))) fun x5 =>
     (pr.lenD (pr.ld y3 1) fun x6 =>
      (pr.bin .sub false x5 x6 fun x7 =>
       (pr.rowD 4 (pr.ld y3 0) x7 fun w8 =>
        (pr.lenD (pr.ld y3 4) fun x9 =>
         (pr.bin .add false x9 (pr.lit (.int Go.IntKind.i64 (1))) fun x10 =>
          (pr.mkN 16 x10 x10 fun n11 => (pr.lenD (pr.ld y3 4) fun x12 =>
            (pr.bin .sub false x12 (pr.lit (.int Go.IntKind.i64 (1))) fun x13 =>
             (pr.bnd (pr.loop [(L102_2 pr)] 0 [.d (pr.ld y3 1), .d (pr.ld y3 2), .n n11, .n n11, .d x13, .r (pr.repl n11 [(pr.lit (.int Go.IntKind.i64 (0))), (pr.lit (.int Go.IntKind.i64 (0)))]), .d (pr.cell w8 0), .d (pr.cell w8 1), .d (pr.cell w8 2), .d (pr.cell w8 3), .d (pr.ld y3 3), .d (pr.ld y3 4)]) [fun y14 => (pr.eqN (pr.ln y14 2) (pr.len (pr.lr y14 3)) (pr.eqN (pr.natN 1) (pr.len (pr.rows [[(pr.slD 2 (pr.seg (pr.lr y14 3) none (pr.ln y14 1)))]])) (pr.isNil (pr.seg (pr.rows [[(pr.slD 2 (pr.seg (pr.lr y14 3) none (pr.ln y14 1)))]]) none (pr.natN 1))
               (pr.rowsD 1 (pr.ld y14 0) fun r15 => (pr.isNil r15
                (pr.out 0 [.d (pr.lit (.slice none 0 0))])
                (pr.fits 24 (pr.len r15)
                (pr.eqN (pr.len r15) (pr.len r15) (pr.out 0 [.d (pr.slD 1 (pr.seg r15 none (pr.len r15)))])))))
               (pr.fits 24 (pr.len (pr.seg (pr.rows [[(pr.slD 2 (pr.seg (pr.lr y14 3) none (pr.ln y14 1)))]]) none (pr.natN 1)))
               (pr.rowsD 1 (pr.ld y14 0) fun r15 => (pr.eqN (pr.len (pr.seg (pr.rows [[(pr.slD 2 (pr.seg (pr.lr y14 3) none (pr.ln y14 1)))]]) none (pr.natN 1))) (pr.len (pr.seg (pr.rows [[(pr.slD 2 (pr.seg (pr.lr y14 3) none (pr.ln y14 1)))]]) none (pr.natN 1))) (pr.eqN (pr.len (pr.seg (pr.rows [[(pr.slD 2 (pr.seg (pr.lr y14 3) none (pr.ln y14 1)))]]) none (pr.natN 1))) (pr.len (pr.seg (pr.rows [[(pr.slD 2 (pr.seg (pr.lr y14 3) none (pr.ln y14 1)))]]) none (pr.natN 1))) (pr.fits 24 (pr.addN (pr.len (pr.seg (pr.rows [[(pr.slD 2 (pr.seg (pr.lr y14 3) none (pr.ln y14 1)))]]) none (pr.natN 1))) (pr.len r15))
                (pr.eqN (pr.addN (pr.len (pr.seg (pr.rows [[(pr.slD 2 (pr.seg (pr.lr y14 3) none (pr.ln y14 1)))]]) none (pr.natN 1))) (pr.len r15)) (pr.len (pr.app (pr.seg (pr.rows [[(pr.slD 2 (pr.seg (pr.lr y14 3) none (pr.ln y14 1)))]]) none (pr.natN 1)) r15)) (pr.out 0 [.d (pr.slD 1 (pr.seg (pr.app (pr.seg (pr.rows [[(pr.slD 2 (pr.seg (pr.lr y14 3) none (pr.ln y14 1)))]]) none (pr.natN 1)) r15) none (pr.addN (pr.len (pr.seg (pr.rows [[(pr.slD 2 (pr.seg (pr.lr y14 3) none (pr.ln y14 1)))]]) none (pr.natN 1))) (pr.len r15))))]))))))))))]))))))))))), fun y3 => (pr.lenD (pr.ld y3 0) fun x4 =>
    (pr.bin .sub false x4 (pr.lit (.int Go.IntKind.i64 (1))) fun x5 =>
     (pr.lenD (pr.ld y3 1) fun x6 =>
      (pr.bin .sub false x5 x6 fun x7 =>
       (pr.rowD 4 (pr.ld y3 0) x7 fun w8 =>
        (pr.lenD (pr.ld y3 6) fun x9 =>
         (pr.bin .add false x9 (pr.lit (.int Go.IntKind.i64 (1))) fun x10 =>
          (pr.mkN 16 x10 x10 fun n11 => (pr.lenD (pr.ld y3 6) fun x12 =>
            (pr.bin .sub false x12 (pr.lit (.int Go.IntKind.i64 (1))) fun x13 =>
             (pr.bnd (pr.loop [(L102_4 pr)] 0 [.d (pr.ld y3 1), .n (pr.ln y3 2), .n (pr.ln y3 3), .n n11, .n n11, .d x13, .r (pr.repl n11 [(pr.lit (.int Go.IntKind.i64 (0))), (pr.lit (.int Go.IntKind.i64 (0)))]), .d (pr.cell w8 0), .d (pr.cell w8 1), .d (pr.cell w8 2), .d (pr.cell w8 3), .r (pr.lr y3 4), .d (pr.ld y3 5), .d (pr.ld y3 6)]) [fun y14 => (pr.eqN (pr.ln y14 2) (pr.len (pr.lr y14 3)) (pr.eqN (pr.natN 1) (pr.len (pr.rows [[(pr.slD 2 (pr.seg (pr.lr y14 3) none (pr.ln y14 1)))]])) (pr.isNil (pr.seg (pr.rows [[(pr.slD 2 (pr.seg (pr.lr y14 3) none (pr.ln y14 1)))]]) none (pr.natN 1))
               (pr.rowsD 1 (pr.ld y14 0) fun r15 => (pr.isNil r15
                (pr.out 0 [.d (pr.lit (.slice none 0 0))])
                (pr.fits 24 (pr.len r15)
                (pr.eqN (pr.len r15) (pr.len r15) (pr.out 0 [.d (pr.slD 1 (pr.seg r15 none (pr.len r15)))])))))
               (pr.fits 24 (pr.len (pr.seg (pr.rows [[(pr.slD 2 (pr.seg (pr.lr y14 3) none (pr.ln y14 1)))]]) none (pr.natN 1)))
               (pr.rowsD 1 (pr.ld y14 0) fun r15 => (pr.eqN (pr.len (pr.seg (pr.rows [[(pr.slD 2 (pr.seg (pr.lr y14 3) none (pr.ln y14 1)))]]) none (pr.natN 1))) (pr.len (pr.seg (pr.rows [[(pr.slD 2 (pr.seg (pr.lr y14 3) none (pr.ln y14 1)))]]) none (pr.natN 1))) (pr.eqN (pr.len (pr.seg (pr.rows [[(pr.slD 2 (pr.seg (pr.lr y14 3) none (pr.ln y14 1)))]]) none (pr.natN 1))) (pr.len (pr.seg (pr.rows [[(pr.slD 2 (pr.seg (pr.lr y14 3) none (pr.ln y14 1)))]]) none (pr.natN 1))) (pr.fits 24 (pr.addN (pr.len (pr.seg (pr.rows [[(pr.slD 2 (pr.seg (pr.lr y14 3) none (pr.ln y14 1)))]]) none (pr.natN 1))) (pr.len r15))
                (pr.eqN (pr.addN (pr.len (pr.seg (pr.rows [[(pr.slD 2 (pr.seg (pr.lr y14 3) none (pr.ln y14 1)))]]) none (pr.natN 1))) (pr.len r15)) (pr.len (pr.app (pr.seg (pr.rows [[(pr.slD 2 (pr.seg (pr.lr y14 3) none (pr.ln y14 1)))]]) none (pr.natN 1)) r15)) (pr.out 0 [.d (pr.slD 1 (pr.seg (pr.app (pr.seg (pr.rows [[(pr.slD 2 (pr.seg (pr.lr y14 3) none (pr.ln y14 1)))]]) none (pr.natN 1)) r15) none (pr.addN (pr.len (pr.seg (pr.rows [[(pr.slD 2 (pr.seg (pr.lr y14 3) none (pr.ln y14 1)))]]) none (pr.natN 1))) (pr.len r15))))]))))))))))])))))))))))]))))
/-! slices.MinFunc[[]leazing/api.Gain,leazing/api.Gain] -/
def L103_0  : (Nat → List (Y Δ N R M) → Ω) → E → Ω := fun J2 y2 =>
 (pr.lenD (pr.ld y2 0) fun x3 =>
   (pr.bin .lss false (pr.ld y2 2) x3 fun x4 =>
    (pr.cond x4
     (pr.rowD 2 (pr.ld y2 0) (pr.ld y2 2) fun w5 =>
     (pr.bnd (pr.callD (pr.ld y2 1) [.agg 2, .agg 2] [(pr.cell w5 0), (pr.cell w5 1), (pr.ld y2 3), (pr.ld y2 4)]) [fun y6 => (pr.bin .lss false (pr.ld y6 0) (pr.lit (.int Go.IntKind.i64 (0))) fun x7 =>
       (pr.cond x7
        (pr.rowD 2 (pr.ld y2 0) (pr.ld y2 2) fun w8 =>
        (pr.bin .add false (pr.ld y2 2) (pr.lit (.int Go.IntKind.i64 (1))) fun x9 =>
         (J2 0 [.d (pr.ld y2 0), .d (pr.ld y2 1), .d x9, .d (pr.cell w8 0), .d (pr.cell w8 1), .d (pr.ld y2 5), .d (pr.ld y2 6)])))
        (pr.bin .add false (pr.ld y2 2) (pr.lit (.int Go.IntKind.i64 (1))) fun x8 =>
        (J2 0 [.d (pr.ld y2 0), .d (pr.ld y2 1), .d x8, .d (pr.ld y2 3), .d (pr.ld y2 4), .d (pr.ld y2 5), .d (pr.ld y2 6)]))))]))
     (pr.out 0 [.d (pr.ld y2 3), .d (pr.ld y2 4), .d (pr.ld y2 5), .d (pr.ld y2 6)]))))
def G103 (a0 a1 : Δ) : Ω :=
 (pr.bnd (pr.lenD a0 fun x0 =>
(pr.bin .lss false x0 (pr.lit (.int Go.IntKind.i64 (1))) fun x1 =>
 (pr.cond x1
  pr.fail
  (pr.out 0 [.d a0, .d a1, .d (pr.lit (.int Go.IntKind.i64 (0))), .d (pr.lit (.int Go.IntKind.i64 (0)))])))) [fun y0 => (pr.rowD 2 (pr.ld y0 0) (pr.lit (.int Go.IntKind.i64 (0))) fun w1 =>
 (pr.bnd (pr.loop [(L103_0 pr)] 0 [.d (pr.ld y0 0), .d (pr.ld y0 1), .d (pr.lit (.int Go.IntKind.i64 (1))), .d (pr.cell w1 0), .d (pr.cell w1 1), .d (pr.ld y0 2), .d (pr.ld y0 3)]) [fun y2 => (pr.out 0 [.d (pr.ld y2 0), .d (pr.ld y2 1)])]))])
/-! leazing/drift.poorest$1 -/
def G104 (a0 a1 a2 a3 : Δ) : Ω :=
 (pr.bnd (pr.call 70 [a0, a1, a2, a3]) [fun y0 => (pr.out 0 [.d (pr.ld y0 0)])])
/-! leazing/drift.above$1 -/
def G105 (a0 a1 a2 a3 a4 a5 a6 : Δ) : Ω :=
 (pr.bnd (pr.call 70 [a4, a1, a5, a6]) [fun y0 => (pr.bin .gtr false (pr.ld y0 0) (pr.lit (.int Go.IntKind.i64 (0))) fun x1 =>
 (pr.out 0 [.d x1]))])
/-! cmp.isNaN[int] -/
def G106 (a0 : Δ) : Ω :=
 (pr.bin .neq false a0 a0 fun x0 =>
(pr.out 0 [.d x0]))
/-! slices.IndexFunc[[]int,int] -/
def L109_0  : (Nat → List (Y Δ N R M) → Ω) → E → Ω := fun J1 y1 =>
 (pr.bin .lss false (pr.ld y1 3) (pr.ld y1 2) fun x2 =>
  (pr.cond x2
   (pr.rowD 1 (pr.ld y1 0) (pr.ld y1 3) fun w3 =>
   (pr.bnd (pr.callD (pr.ld y1 1) [.one] [(pr.cell w3 0)]) [fun y4 => (pr.cond (pr.ld y4 0)
     (pr.out 0 [.d (pr.ld y1 3)])
     (pr.bin .add false (pr.ld y1 3) (pr.lit (.int Go.IntKind.i64 (1))) fun x5 =>
     (J1 0 [.d (pr.ld y1 0), .d (pr.ld y1 1), .d (pr.ld y1 2), .d x5])))]))
   (pr.out 1 [])))
def G109 (a0 a1 : Δ) : Ω :=
 (pr.lenD a0 fun x0 =>
(pr.bnd (pr.loop [(L109_0 pr)] 0 [.d a0, .d a1, .d x0, .d (pr.lit (.int Go.IntKind.i64 (0)))]) [fun y1 => (pr.out 0 [.d (pr.ld y1 0)]), fun y1 => (pr.out 0 [.d (pr.lit (.int Go.IntKind.i64 (-1)))])]))
end
theorem G88_eq {Δ N R W M E Ω : Type} (pr : Pr Δ N R W M E Ω) (a0 a1 a2 a3 : Δ) : fun3 pr tb Try.prog 400 88 [a0, a1, a2, a3] = G88 pr a0 a1 a2 a3 := by kernel_rfl
theorem F88 (n : Nat) (a0 a1 a2 a3 : D) : FN (n + 1) 88 [a0, a1, a2, a3] = G88 (RP n) a0 a1 a2 a3 := G88_eq _ a0 a1 a2 a3
theorem G89_eq {Δ N R W M E Ω : Type} (pr : Pr Δ N R W M E Ω) (a0 a1 : Δ) : fun3 pr tb Try.prog 400 89 [a0, a1] = G89 pr a0 a1 := by kernel_rfl
theorem F89 (n : Nat) (a0 a1 : D) : FN (n + 1) 89 [a0, a1] = G89 (RP n) a0 a1 := G89_eq _ a0 a1
theorem G90_eq {Δ N R W M E Ω : Type} (pr : Pr Δ N R W M E Ω) (a0 a1 : Δ) : fun3 pr tb Try.prog 400 90 [a0, a1] = G90 pr a0 a1 := by kernel_rfl
theorem F90 (n : Nat) (a0 a1 : D) : FN (n + 1) 90 [a0, a1] = G90 (RP n) a0 a1 := G90_eq _ a0 a1
theorem G91_eq {Δ N R W M E Ω : Type} (pr : Pr Δ N R W M E Ω) (a0 : Δ) : fun3 pr tb Try.prog 400 91 [a0] = G91 pr a0 := by kernel_rfl
theorem F91 (n : Nat) (a0 : D) : FN (n + 1) 91 [a0] = G91 (RP n) a0 := G91_eq _ a0
theorem G92_eq {Δ N R W M E Ω : Type} (pr : Pr Δ N R W M E Ω) (a0 a1 : Δ) : fun3 pr tb Try.prog 400 92 [a0, a1] = G92 pr a0 a1 := by kernel_rfl
theorem F92 (n : Nat) (a0 a1 : D) : FN (n + 1) 92 [a0, a1] = G92 (RP n) a0 a1 := G92_eq _ a0 a1
theorem G93_eq {Δ N R W M E Ω : Type} (pr : Pr Δ N R W M E Ω) (a0 a1 : Δ) : fun3 pr tb Try.prog 400 93 [a0, a1] = G93 pr a0 a1 := by kernel_rfl
theorem F93 (n : Nat) (a0 a1 : D) : FN (n + 1) 93 [a0, a1] = G93 (RP n) a0 a1 := G93_eq _ a0 a1
theorem G98_eq {Δ N R W M E Ω : Type} (pr : Pr Δ N R W M E Ω) (a0 : Δ) : fun3 pr tb Try.prog 400 98 [a0] = G98 pr a0 := by kernel_rfl
theorem F98 (n : Nat) (a0 : D) : FN (n + 1) 98 [a0] = G98 (RP n) a0 := G98_eq _ a0
theorem G99_eq {Δ N R W M E Ω : Type} (pr : Pr Δ N R W M E Ω) (a0 a1 : Δ) : fun3 pr tb Try.prog 400 99 [a0, a1] = G99 pr a0 a1 := by kernel_rfl
theorem F99 (n : Nat) (a0 a1 : D) : FN (n + 1) 99 [a0, a1] = G99 (RP n) a0 a1 := G99_eq _ a0 a1
theorem G100_eq {Δ N R W M E Ω : Type} (pr : Pr Δ N R W M E Ω) (a0 : Δ) : fun3 pr tb Try.prog 400 100 [a0] = G100 pr a0 := by kernel_rfl
theorem F100 (n : Nat) (a0 : D) : FN (n + 1) 100 [a0] = G100 (RP n) a0 := G100_eq _ a0
theorem G101_eq {Δ N R W M E Ω : Type} (pr : Pr Δ N R W M E Ω) (a0 a1 : Δ) : fun3 pr tb Try.prog 400 101 [a0, a1] = G101 pr a0 a1 := by kernel_rfl
theorem F101 (n : Nat) (a0 a1 : D) : FN (n + 1) 101 [a0, a1] = G101 (RP n) a0 a1 := G101_eq _ a0 a1
theorem G102_eq {Δ N R W M E Ω : Type} (pr : Pr Δ N R W M E Ω) (a0 a1 a2 a3 : Δ) : fun3 pr tb Try.prog 400 102 [a0, a1, a2, a3] = G102 pr a0 a1 a2 a3 := by kernel_rfl
theorem F102 (n : Nat) (a0 a1 a2 a3 : D) : FN (n + 1) 102 [a0, a1, a2, a3] = G102 (RP n) a0 a1 a2 a3 := G102_eq _ a0 a1 a2 a3
theorem G103_eq {Δ N R W M E Ω : Type} (pr : Pr Δ N R W M E Ω) (a0 a1 : Δ) : fun3 pr tb Try.prog 400 103 [a0, a1] = G103 pr a0 a1 := by kernel_rfl
theorem F103 (n : Nat) (a0 a1 : D) : FN (n + 1) 103 [a0, a1] = G103 (RP n) a0 a1 := G103_eq _ a0 a1
theorem G104_eq {Δ N R W M E Ω : Type} (pr : Pr Δ N R W M E Ω) (a0 a1 a2 a3 : Δ) : fun3 pr tb Try.prog 400 104 [a0, a1, a2, a3] = G104 pr a0 a1 a2 a3 := by kernel_rfl
theorem F104 (n : Nat) (a0 a1 a2 a3 : D) : FN (n + 1) 104 [a0, a1, a2, a3] = G104 (RP n) a0 a1 a2 a3 := G104_eq _ a0 a1 a2 a3
theorem G105_eq {Δ N R W M E Ω : Type} (pr : Pr Δ N R W M E Ω) (a0 a1 a2 a3 a4 a5 a6 : Δ) : fun3 pr tb Try.prog 400 105 [a0, a1, a2, a3, a4, a5, a6] = G105 pr a0 a1 a2 a3 a4 a5 a6 := by kernel_rfl
theorem F105 (n : Nat) (a0 a1 a2 a3 a4 a5 a6 : D) : FN (n + 1) 105 [a0, a1, a2, a3, a4, a5, a6] = G105 (RP n) a0 a1 a2 a3 a4 a5 a6 := G105_eq _ a0 a1 a2 a3 a4 a5 a6
theorem G106_eq {Δ N R W M E Ω : Type} (pr : Pr Δ N R W M E Ω) (a0 : Δ) : fun3 pr tb Try.prog 400 106 [a0] = G106 pr a0 := by kernel_rfl
theorem F106 (n : Nat) (a0 : D) : FN (n + 1) 106 [a0] = G106 (RP n) a0 := G106_eq _ a0
theorem G109_eq {Δ N R W M E Ω : Type} (pr : Pr Δ N R W M E Ω) (a0 a1 : Δ) : fun3 pr tb Try.prog 400 109 [a0, a1] = G109 pr a0 a1 := by kernel_rfl
theorem F109 (n : Nat) (a0 a1 : D) : FN (n + 1) 109 [a0, a1] = G109 (RP n) a0 a1 := G109_eq _ a0 a1
end Go.VE
