/- What the functions of this program do, made by a program of ours out of the evaluator itself. -/
import Derived.Test.YtdeodfmhbgejoaaMt
import Derived.KernelRfl
namespace Go.VE
open Go.RowKit Go.Proofs
set_option maxRecDepth 100000
set_option maxHeartbeats 4000000
section
variable {Δ N R W M E Ω : Type} (pr : Pr Δ N R W M E Ω)
/-! leazing/leazingref04.Mod -/
def G26 (a0 a1 : Δ) : Ω :=
 (pr.bin .rem false a0 a1 fun x0 =>
(pr.bin .add false x0 a1 fun x1 =>
 (pr.bin .rem false x1 a1 fun x2 =>
  (pr.out 0 [.d x2]))))
/-! leazing/drift.Compare -/
def G28 (a0 a1 a2 a3 : Δ) : Ω :=
 (pr.bnd (pr.call 69 [a0, a1]) [fun y0 => (pr.un .not (pr.ld y0 0) fun x1 => (pr.cond x1
  (pr.out 0 [.d (pr.lit (.int Go.IntKind.i64 (0))), .d (pr.lit (.int Go.IntKind.i64 (1)))])
  (pr.bnd (pr.call 69 [a2, a3]) [fun y2 => (pr.un .not (pr.ld y2 0) fun x3 => (pr.cond x3
    (pr.out 0 [.d (pr.lit (.int Go.IntKind.i64 (0))), .d (pr.lit (.int Go.IntKind.i64 (1)))])
    (pr.bnd (pr.call 70 [a0, a1, a2, a3]) [fun y4 => (pr.out 0 [.d (pr.ld y4 0), .d (pr.lit (.int Go.IntKind.i64 (0)))])])))])))])
/-! leazing/leazinglaw04.driftOf -/
def G29 (a0 a1 a2 a3 : Δ) : Ω :=
 (pr.lenD a1 fun x0 =>
(pr.bnd (pr.call 26 [a2, x0]) [fun y1 => (pr.lenD a1 fun x2 =>
  (pr.bin .sub false x2 (pr.ld y1 0) fun x3 =>
   (pr.bnd (pr.call 26 [a3, x3]) [fun y4 => (pr.bin .add false (pr.ld y1 0) (pr.ld y4 0) fun x5 =>
     (pr.out 0 [.d (pr.ld y1 0), .d x5]))])))]))
/-! leazing/drift.Length -/
def G30 (a0 a1 a2 a3 : Δ) : Ω :=
 (pr.bnd (pr.call 15 [a0, a1]) [fun y0 => (pr.bin .neq false (pr.ld y0 0) (pr.lit (.int Go.IntKind.i64 (0))) fun x1 =>
 (pr.cond x1
  (pr.out 0 [.d (pr.lit (.int Go.IntKind.i64 (0))), .d (pr.lit (.int Go.IntKind.i64 (0))), .d (pr.ld y0 0)])
  (pr.eqN (pr.natN 1) (pr.len (pr.rows [[a2, a3]])) (pr.bnd (pr.call 71 [a0, a1, (pr.slD 2 (pr.seg (pr.rows [[a2, a3]]) none (pr.natN 1)))]) [fun y2 => (pr.lits [.d (pr.ld y2 0)]
   (pr.un .not (pr.ld y2 0) fun x3 => (pr.cond x3
    (pr.out 0 [.d (pr.lit (.int Go.IntKind.i64 (0))), .d (pr.lit (.int Go.IntKind.i64 (0))), .d (pr.lit (.int Go.IntKind.i64 (45)))])
    (pr.bnd (pr.call 73 [a0, a1, a2, a3]) [fun y4 => (pr.eqN (pr.len (pr.lr y4 0)) (pr.len (pr.lr y4 0)) (pr.bnd (pr.call 72 [a0, a1, (pr.slD 1 (pr.seg (pr.lr y4 0) none (pr.len (pr.lr y4 0))))]) [fun y5 => (pr.lits [.d (pr.ld y5 0), .d (pr.ld y5 1)]
      (pr.out 0 [.d (pr.ld y5 0), .d (pr.ld y5 1), .d (pr.lit (.int Go.IntKind.i64 (0)))]))]))]))))]))))])
/-! leazing/drift.Longer -/
def L31_0  : (Nat → List (Y Δ N R M) → Ω) → E → Ω := fun J6 y6 =>
 (pr.bin .lss false (pr.ld y6 5) (pr.ld y6 4) fun x7 =>
       (pr.cond x7
        (pr.eqN (pr.ln y6 1) (pr.len (pr.lr y6 7)) (pr.inx (pr.ld y6 5) (pr.ln y6 0) fun n8 => (pr.eqN (pr.ln y6 1) (pr.len (pr.lr y6 7)) (pr.rowAt 1 (pr.lr y6 7) n8 fun w9 => (pr.eqN (pr.ln y6 3) (pr.len (pr.lr y6 6)) (pr.inx (pr.ld y6 5) (pr.ln y6 2) fun n10 => (pr.eqN (pr.ln y6 3) (pr.len (pr.lr y6 6)) (pr.rowAt 1 (pr.lr y6 6) n10 fun w11 => (pr.bin .sub false (pr.cell w9 0) (pr.cell w11 0) fun x12 =>
            (pr.eqN (pr.ln y6 1) (pr.len (pr.lr y6 7)) (pr.inx (pr.ld y6 5) (pr.ln y6 0) fun n13 => (pr.eqN (pr.ln y6 1) (pr.len (pr.lr y6 7)) (pr.rowAt 1 (pr.lr y6 7) n13 fun w14 => (pr.bin .add false (pr.ld y6 5) (pr.lit (.int Go.IntKind.i64 (1))) fun x15 =>
               (J6 0 [.n (pr.ln y6 0), .n (pr.ln y6 1), .n (pr.ln y6 2), .n (pr.ln y6 3), .d (pr.ld y6 4), .d x15, .r (pr.lr y6 6), .r (pr.setR (pr.lr y6 7) n13 [x12]), .d (pr.ld y6 8), .d (pr.ld y6 9)])))))))))))))))
        (pr.out 0 [.n (pr.ln y6 0), .n (pr.ln y6 1), .r (pr.lr y6 7), .d (pr.ld y6 8), .d (pr.ld y6 9)])))
def G31 (a0 a1 a2 a3 a4 a5 : Δ) : Ω :=
 (pr.bnd (pr.call 15 [a0, a1]) [fun y0 => (pr.bin .neq false (pr.ld y0 0) (pr.lit (.int Go.IntKind.i64 (0))) fun x1 =>
 (pr.cond x1
  (pr.out 0 [.d (pr.lit (.int Go.IntKind.i64 (0))), .d (pr.ld y0 0)])
  (pr.eqN (pr.natN 2) (pr.len (pr.rows [[a2, a3], [a4, a5]])) (pr.bnd (pr.call 71 [a0, a1, (pr.slD 2 (pr.seg (pr.rows [[a2, a3], [a4, a5]]) none (pr.natN 2)))]) [fun y2 => (pr.lits [.d (pr.ld y2 0)]
   (pr.un .not (pr.ld y2 0) fun x3 => (pr.cond x3
    (pr.out 0 [.d (pr.lit (.int Go.IntKind.i64 (0))), .d (pr.lit (.int Go.IntKind.i64 (45)))])
    (pr.bnd (pr.call 73 [a0, a1, a2, a3]) [fun y4 => (pr.bnd (pr.call 73 [a0, a1, a4, a5]) [fun y5 => (pr.bnd (pr.loop [(L31_0 pr)] 0 [.n (pr.len (pr.lr y4 0)), .n (pr.len (pr.lr y4 0)), .n (pr.len (pr.lr y5 0)), .n (pr.len (pr.lr y5 0)), .d (pr.natD (pr.len (pr.lr y4 0))), .d (pr.lit (.int Go.IntKind.i64 (0))), .r (pr.lr y5 0), .r (pr.lr y4 0), .d a0, .d a1]) [fun y6 => (pr.eqN (pr.ln y6 1) (pr.len (pr.lr y6 2)) (pr.bnd (pr.call 72 [(pr.ld y6 3), (pr.ld y6 4), (pr.slD 1 (pr.seg (pr.lr y6 2) none (pr.ln y6 0)))]) [fun y7 => (pr.lits [.d (pr.ld y7 0), .d (pr.ld y7 1)]
        (pr.bin .gtr false (pr.ld y7 0) (pr.lit (.int Go.IntKind.i64 (0))) fun x8 =>
        (pr.cond x8
         (pr.out 0 [.d (pr.lit (.int Go.IntKind.i64 (1))), .d (pr.lit (.int Go.IntKind.i64 (0)))])
         (pr.bin .leq false (pr.ld y7 1) (pr.lit (.int Go.IntKind.i64 (0))) fun x9 =>
         (pr.cond x9
          (pr.out 0 [.d (pr.lit (.int Go.IntKind.i64 (0))), .d (pr.lit (.int Go.IntKind.i64 (0)))])
          (pr.out 0 [.d (pr.lit (.int Go.IntKind.i64 (2))), .d (pr.lit (.int Go.IntKind.i64 (0)))]))))))]))])])]))))]))))])
/-! leazing/drift.Truly -/
def L32_0  : (Nat → List (Y Δ N R M) → Ω) → E → Ω := fun J6 y6 =>
 (pr.bin .lss false (pr.ld y6 3) (pr.ld y6 2) fun x7 =>
       (pr.cond x7
        (pr.rowD 3 (pr.ld y6 1) (pr.ld y6 3) fun w8 =>
        (pr.rowD 1 (pr.ld y6 0) (pr.ld y6 3) fun w9 =>
         (pr.bnd (pr.call 59 [(pr.cell w9 0), (pr.cell w8 1), (pr.cell w8 2)]) [fun y10 => (pr.un .not (pr.ld y10 0) fun x11 => (pr.cond x11
            (pr.out 0 [.d (pr.lit (.int Go.IntKind.i64 (0))), .d (pr.lit (.int Go.IntKind.i64 (1)))])
            (pr.bin .add false (pr.ld y6 3) (pr.lit (.int Go.IntKind.i64 (1))) fun x12 =>
            (J6 0 [.d (pr.ld y6 0), .d (pr.ld y6 1), .d (pr.ld y6 2), .d x12, .d (pr.ld y6 4), .d (pr.ld y6 5), .d (pr.ld y6 6), .d (pr.ld y6 7)]))))])))
        (pr.out 1 [.d (pr.ld y6 0), .d (pr.ld y6 4), .d (pr.ld y6 5), .d (pr.ld y6 6), .d (pr.ld y6 7)])))
def L32_1  : (Nat → List (Y Δ N R M) → Ω) → E → Ω := fun J10 y10 =>
 (pr.bin .lss false (pr.ld y10 5) (pr.ld y10 4) fun x11 =>
           (pr.cond x11
            (pr.eqN (pr.ln y10 3) (pr.len (pr.lr y10 6)) (pr.inx (pr.ld y10 5) (pr.ln y10 2) fun n12 => (pr.eqN (pr.ln y10 3) (pr.len (pr.lr y10 6)) (pr.rowAt 1 (pr.lr y10 6) n12 fun w13 => (pr.rowD 1 (pr.ld y10 0) (pr.ld y10 5) fun w14 =>
              (pr.bin .mul false (pr.cell w13 0) (pr.cell w14 0) fun x15 =>
               (pr.bin .add false (pr.ld y10 1) x15 fun x16 =>
                (pr.bin .add false (pr.ld y10 5) (pr.lit (.int Go.IntKind.i64 (1))) fun x17 =>
                 (J10 0 [.d (pr.ld y10 0), .d x16, .n (pr.ln y10 2), .n (pr.ln y10 3), .d (pr.ld y10 4), .d x17, .r (pr.lr y10 6)])))))))))
            (pr.out 0 [.d (pr.ld y10 1)])))
def G32 (a0 a1 a2 a3 a4 : Δ) : Ω :=
 (pr.bnd (pr.call 15 [a0, a1]) [fun y0 => (pr.bin .neq false (pr.ld y0 0) (pr.lit (.int Go.IntKind.i64 (0))) fun x1 =>
 (pr.cond x1
  (pr.out 0 [.d (pr.lit (.int Go.IntKind.i64 (0))), .d (pr.ld y0 0)])
  (pr.lenD a2 fun x2 =>
  (pr.lenD a0 fun x3 =>
   (pr.bin .neq false x2 x3 fun x4 =>
    (pr.cond x4
     (pr.out 0 [.d (pr.lit (.int Go.IntKind.i64 (0))), .d (pr.lit (.int Go.IntKind.i64 (1)))])
     (pr.lenD a0 fun x5 =>
     (pr.bnd (pr.loop [(L32_0 pr)] 0 [.d a2, .d a0, .d x5, .d (pr.lit (.int Go.IntKind.i64 (0))), .d a3, .d a4, .d a0, .d a1]) [fun y6 => (pr.out 0 [.d (pr.ld y6 0), .d (pr.ld y6 1)]), fun y6 => (pr.eqN (pr.natN 1) (pr.len (pr.rows [[(pr.ld y6 1), (pr.ld y6 2)]])) (pr.bnd (pr.call 71 [(pr.ld y6 3), (pr.ld y6 4), (pr.slD 2 (pr.seg (pr.rows [[(pr.ld y6 1), (pr.ld y6 2)]]) none (pr.natN 1)))]) [fun y7 => (pr.lits [.d (pr.ld y7 0)]
        (pr.un .not (pr.ld y7 0) fun x8 => (pr.cond x8
         (pr.out 0 [.d (pr.lit (.int Go.IntKind.i64 (0))), .d (pr.lit (.int Go.IntKind.i64 (45)))])
         (pr.bnd (pr.call 73 [(pr.ld y6 3), (pr.ld y6 4), (pr.ld y6 1), (pr.ld y6 2)]) [fun y9 => (pr.bnd (pr.loop [(L32_1 pr)] 0 [.d (pr.ld y6 0), .d (pr.lit (.int Go.IntKind.i64 (0))), .n (pr.len (pr.lr y9 0)), .n (pr.len (pr.lr y9 0)), .d (pr.natD (pr.len (pr.lr y9 0))), .d (pr.lit (.int Go.IntKind.i64 (0))), .r (pr.lr y9 0)]) [fun y10 => (pr.out 0 [.d (pr.ld y10 0), .d (pr.lit (.int Go.IntKind.i64 (0)))])])]))))]))]))))))))])
/-! leazing/leazingref04.Length -/
def G37 (a0 a1 a2 a3 : Δ) : Ω :=
 (pr.bnd (pr.call 16 [a0, a1]) [fun y0 => (pr.bin .neq false (pr.ld y0 0) (pr.lit (.int Go.IntKind.i64 (0))) fun x1 =>
 (pr.cond x1
  (pr.out 0 [.d (pr.lit (.int Go.IntKind.i64 (0))), .d (pr.lit (.int Go.IntKind.i64 (0))), .d (pr.lit (.int Go.IntKind.i64 (42)))])
  (pr.bnd (pr.call 77 [a0, a1, a2, a3]) [fun y2 => (pr.un .not (pr.ld y2 0) fun x3 => (pr.cond x3
    (pr.out 0 [.d (pr.lit (.int Go.IntKind.i64 (0))), .d (pr.lit (.int Go.IntKind.i64 (0))), .d (pr.lit (.int Go.IntKind.i64 (45)))])
    (pr.bnd (pr.call 79 [a0, a1, a2, a3]) [fun y4 => (pr.eqN (pr.len (pr.lr y4 0)) (pr.len (pr.lr y4 0)) (pr.bnd (pr.call 78 [a0, a1, (pr.slD 1 (pr.seg (pr.lr y4 0) none (pr.len (pr.lr y4 0))))]) [fun y5 => (pr.lits [.d (pr.ld y5 0), .d (pr.ld y5 1)]
      (pr.out 0 [.d (pr.ld y5 0), .d (pr.ld y5 1), .d (pr.lit (.int Go.IntKind.i64 (0)))]))]))])))])))])
/-! leazing/leazingref04.Longer -/
def L38_0  : (Nat → List (Y Δ N R M) → Ω) → E → Ω := fun J8 y8 =>
 (pr.bin .lss false (pr.ld y8 4) (pr.natD (pr.ln y8 0)) fun x9 =>
         (pr.cond x9
          (pr.eqN (pr.ln y8 1) (pr.len (pr.lr y8 6)) (pr.inx (pr.ld y8 4) (pr.ln y8 0) fun n10 => (pr.eqN (pr.ln y8 1) (pr.len (pr.lr y8 6)) (pr.rowAt 1 (pr.lr y8 6) n10 fun w11 => (pr.eqN (pr.ln y8 3) (pr.len (pr.lr y8 5)) (pr.inx (pr.ld y8 4) (pr.ln y8 2) fun n12 => (pr.eqN (pr.ln y8 3) (pr.len (pr.lr y8 5)) (pr.rowAt 1 (pr.lr y8 5) n12 fun w13 => (pr.bin .sub false (pr.cell w11 0) (pr.cell w13 0) fun x14 =>
              (pr.eqN (pr.ln y8 1) (pr.len (pr.lr y8 6)) (pr.inx (pr.ld y8 4) (pr.ln y8 0) fun n15 => (pr.eqN (pr.ln y8 1) (pr.len (pr.lr y8 6)) (pr.rowAt 1 (pr.lr y8 6) n15 fun w16 => (pr.bin .add false (pr.ld y8 4) (pr.lit (.int Go.IntKind.i64 (1))) fun x17 =>
                 (J8 0 [.n (pr.ln y8 0), .n (pr.ln y8 1), .n (pr.ln y8 2), .n (pr.ln y8 3), .d x17, .r (pr.lr y8 5), .r (pr.setR (pr.lr y8 6) n15 [x14]), .d (pr.ld y8 7), .d (pr.ld y8 8)])))))))))))))))
          (pr.out 0 [.n (pr.ln y8 0), .n (pr.ln y8 1), .r (pr.lr y8 6), .d (pr.ld y8 7), .d (pr.ld y8 8)])))
def G38 (a0 a1 a2 a3 a4 a5 : Δ) : Ω :=
 (pr.bnd (pr.call 16 [a0, a1]) [fun y0 => (pr.bin .neq false (pr.ld y0 0) (pr.lit (.int Go.IntKind.i64 (0))) fun x1 =>
 (pr.cond x1
  (pr.out 0 [.d (pr.lit (.int Go.IntKind.i64 (0))), .d (pr.lit (.int Go.IntKind.i64 (42)))])
  (pr.bnd (pr.call 77 [a0, a1, a2, a3]) [fun y2 => (pr.un .not (pr.ld y2 0) fun x3 => (pr.cond x3
    (pr.out 0 [.d (pr.lit (.int Go.IntKind.i64 (0))), .d (pr.lit (.int Go.IntKind.i64 (45)))])
    (pr.bnd (pr.call 77 [a0, a1, a4, a5]) [fun y4 => (pr.un .not (pr.ld y4 0) fun x5 => (pr.cond x5
      (pr.out 0 [.d (pr.lit (.int Go.IntKind.i64 (0))), .d (pr.lit (.int Go.IntKind.i64 (45)))])
      (pr.bnd (pr.call 79 [a0, a1, a2, a3]) [fun y6 => (pr.bnd (pr.call 79 [a0, a1, a4, a5]) [fun y7 => (pr.bnd (pr.loop [(L38_0 pr)] 0 [.n (pr.len (pr.lr y6 0)), .n (pr.len (pr.lr y6 0)), .n (pr.len (pr.lr y7 0)), .n (pr.len (pr.lr y7 0)), .d (pr.lit (.int Go.IntKind.i64 (0))), .r (pr.lr y7 0), .r (pr.lr y6 0), .d a0, .d a1]) [fun y8 => (pr.eqN (pr.ln y8 1) (pr.len (pr.lr y8 2)) (pr.bnd (pr.call 78 [(pr.ld y8 3), (pr.ld y8 4), (pr.slD 1 (pr.seg (pr.lr y8 2) none (pr.ln y8 0)))]) [fun y9 => (pr.lits [.d (pr.ld y9 0), .d (pr.ld y9 1)]
          (pr.bin .gtr false (pr.ld y9 0) (pr.lit (.int Go.IntKind.i64 (0))) fun x10 =>
          (pr.cond x10
           (pr.out 0 [.d (pr.lit (.int Go.IntKind.i64 (1))), .d (pr.lit (.int Go.IntKind.i64 (0)))])
           (pr.bin .leq false (pr.ld y9 1) (pr.lit (.int Go.IntKind.i64 (0))) fun x11 =>
           (pr.cond x11
            (pr.out 0 [.d (pr.lit (.int Go.IntKind.i64 (0))), .d (pr.lit (.int Go.IntKind.i64 (0)))])
            (pr.out 0 [.d (pr.lit (.int Go.IntKind.i64 (2))), .d (pr.lit (.int Go.IntKind.i64 (0)))]))))))]))])])])))])))])))])
/-! leazing/leazingref04.Truly -/
def L39_0  : (Nat → List (Y Δ N R M) → Ω) → E → Ω := fun J7 y7 =>
 (pr.bin .lss false (pr.ld y7 4) (pr.natD (pr.ln y7 1)) fun x8 =>
        (pr.cond x8
         (pr.eqN (pr.ln y7 2) (pr.len (pr.lr y7 5)) (pr.inx (pr.ld y7 4) (pr.ln y7 1) fun n9 => (pr.eqN (pr.ln y7 2) (pr.len (pr.lr y7 5)) (pr.rowAt 1 (pr.lr y7 5) n9 fun w10 => (pr.rowD 1 (pr.ld y7 0) (pr.ld y7 4) fun w11 =>
           (pr.bin .mul false (pr.cell w10 0) (pr.cell w11 0) fun x12 =>
            (pr.bin .add false (pr.ld y7 3) x12 fun x13 =>
             (pr.bin .add false (pr.ld y7 4) (pr.lit (.int Go.IntKind.i64 (1))) fun x14 =>
              (J7 0 [.d (pr.ld y7 0), .n (pr.ln y7 1), .n (pr.ln y7 2), .d x13, .d x14, .r (pr.lr y7 5)])))))))))
         (pr.out 0 [.d (pr.ld y7 3)])))
def G39 (a0 a1 a2 a3 a4 : Δ) : Ω :=
 (pr.bnd (pr.call 16 [a0, a1]) [fun y0 => (pr.bin .neq false (pr.ld y0 0) (pr.lit (.int Go.IntKind.i64 (0))) fun x1 =>
 (pr.cond x1
  (pr.out 0 [.d (pr.lit (.int Go.IntKind.i64 (0))), .d (pr.lit (.int Go.IntKind.i64 (42)))])
  (pr.bnd (pr.call 80 [a0, a1, a2]) [fun y2 => (pr.un .not (pr.ld y2 0) fun x3 => (pr.cond x3
    (pr.out 0 [.d (pr.lit (.int Go.IntKind.i64 (0))), .d (pr.lit (.int Go.IntKind.i64 (1)))])
    (pr.bnd (pr.call 77 [a0, a1, a3, a4]) [fun y4 => (pr.un .not (pr.ld y4 0) fun x5 => (pr.cond x5
      (pr.out 0 [.d (pr.lit (.int Go.IntKind.i64 (0))), .d (pr.lit (.int Go.IntKind.i64 (45)))])
      (pr.bnd (pr.call 79 [a0, a1, a3, a4]) [fun y6 => (pr.bnd (pr.loop [(L39_0 pr)] 0 [.d a2, .n (pr.len (pr.lr y6 0)), .n (pr.len (pr.lr y6 0)), .d (pr.lit (.int Go.IntKind.i64 (0))), .d (pr.lit (.int Go.IntKind.i64 (0))), .r (pr.lr y6 0)]) [fun y7 => (pr.out 0 [.d (pr.ld y7 0), .d (pr.lit (.int Go.IntKind.i64 (0)))])])])))])))])))])
/-! leazing/drift.Worth -/
def G40 (a0 a1 a2 a3 : Δ) : Ω :=
 (pr.bnd (pr.call 15 [a0, a1]) [fun y0 => (pr.bin .neq false (pr.ld y0 0) (pr.lit (.int Go.IntKind.i64 (0))) fun x1 =>
 (pr.cond x1
  (pr.out 0 [.d (pr.lit (.int Go.IntKind.i64 (0))), .d (pr.ld y0 0)])
  (pr.eqN (pr.natN 1) (pr.len (pr.rows [[a2, a3]])) (pr.bnd (pr.call 71 [a0, a1, (pr.slD 2 (pr.seg (pr.rows [[a2, a3]]) none (pr.natN 1)))]) [fun y2 => (pr.lits [.d (pr.ld y2 0)]
   (pr.un .not (pr.ld y2 0) fun x3 => (pr.cond x3
    (pr.out 0 [.d (pr.lit (.int Go.IntKind.i64 (0))), .d (pr.lit (.int Go.IntKind.i64 (45)))])
    (pr.bnd (pr.call 81 [a0, a1, a2, a3]) [fun y4 => (pr.out 0 [.d (pr.ld y4 0), .d (pr.lit (.int Go.IntKind.i64 (0)))])]))))]))))])
/-! leazing/leazingref04.Worth -/
def G41 (a0 a1 a2 a3 : Δ) : Ω :=
 (pr.bnd (pr.call 16 [a0, a1]) [fun y0 => (pr.bin .neq false (pr.ld y0 0) (pr.lit (.int Go.IntKind.i64 (0))) fun x1 =>
 (pr.cond x1
  (pr.out 0 [.d (pr.lit (.int Go.IntKind.i64 (0))), .d (pr.lit (.int Go.IntKind.i64 (42)))])
  (pr.bnd (pr.call 77 [a0, a1, a2, a3]) [fun y2 => (pr.un .not (pr.ld y2 0) fun x3 => (pr.cond x3
    (pr.out 0 [.d (pr.lit (.int Go.IntKind.i64 (0))), .d (pr.lit (.int Go.IntKind.i64 (45)))])
    (pr.bnd (pr.call 82 [a0, a1, a2, a3]) [fun y4 => (pr.out 0 [.d (pr.ld y4 0), .d (pr.lit (.int Go.IntKind.i64 (0)))])])))])))])
/-! leazing/leazingref04.Compare -/
def G42 (a0 a1 a2 a3 : Δ) : Ω :=
 (pr.bnd (pr.call 83 [a0, a1]) [fun y0 => (pr.un .not (pr.ld y0 0) fun x1 => (pr.cond x1
  (pr.out 0 [.d (pr.lit (.int Go.IntKind.i64 (0))), .d (pr.lit (.int Go.IntKind.i64 (1)))])
  (pr.bnd (pr.call 83 [a2, a3]) [fun y2 => (pr.un .not (pr.ld y2 0) fun x3 => (pr.cond x3
    (pr.out 0 [.d (pr.lit (.int Go.IntKind.i64 (0))), .d (pr.lit (.int Go.IntKind.i64 (1)))])
    (pr.bnd (pr.call 56 [a0, a1, a2, a3]) [fun y4 => (pr.cond (pr.ld y4 0)
     (pr.out 0 [.d (pr.lit (.int Go.IntKind.i64 (-1))), .d (pr.lit (.int Go.IntKind.i64 (0)))])
     (pr.bnd (pr.call 56 [a2, a3, a0, a1]) [fun y5 => (pr.cond (pr.ld y5 0)
      (pr.out 0 [.d (pr.lit (.int Go.IntKind.i64 (1))), .d (pr.lit (.int Go.IntKind.i64 (0)))])
      (pr.out 0 [.d (pr.lit (.int Go.IntKind.i64 (0))), .d (pr.lit (.int Go.IntKind.i64 (0)))]))]))])))])))])
/-! leazing/leazingref04.Less -/
def G56 (a0 a1 a2 a3 : Δ) : Ω :=
 (pr.bin .mul false a0 a3 fun x0 =>
(pr.bin .mul false a2 a1 fun x1 =>
 (pr.bin .lss false x0 x1 fun x2 =>
  (pr.out 0 [.d x2]))))
/-! leazing/drift.within -/
def G59 (a0 a1 a2 : Δ) : Ω :=
 (pr.bin .leq false a1 a0 fun x0 =>
(pr.cond x0
 (pr.bin .leq false a0 a2 fun x1 =>
 (pr.out 0 [.d x1]))
 (pr.out 0 [.d (pr.lit (.bool false))])))
/-! slices.Concat[[]leazing/api.Claim,leazing/api.Claim] -/
def L60_0  : (Nat → List (Y Δ N R M) → Ω) → E → Ω := fun J1 y1 =>
 (pr.bin .lss false (pr.ld y1 4) (pr.ld y1 3) fun x2 =>
  (pr.cond x2
   (pr.rowD 1 (pr.ld y1 2) (pr.ld y1 4) fun w3 =>
   (pr.lenD (pr.cell w3 0) fun x4 =>
    (pr.bin .add false (pr.ld y1 1) x4 fun x5 =>
     (pr.bin .lss false x5 (pr.lit (.int Go.IntKind.i64 (0))) fun x6 =>
      (pr.cond x6
       pr.fail
       (pr.bin .add false (pr.ld y1 4) (pr.lit (.int Go.IntKind.i64 (1))) fun x7 =>
       (J1 0 [.d (pr.ld y1 0), .d x5, .d (pr.ld y1 2), .d (pr.ld y1 3), .d x7])))))))
   (pr.out 0 [.d (pr.ld y1 0), .d (pr.ld y1 1)])))
def L60_1  : (Nat → List (Y Δ N R M) → Ω) → E → Ω := fun J4 y4 =>
 (pr.bin .lss false (pr.ld y4 4) (pr.ld y4 3) fun x5 =>
     (pr.cond x5
      (pr.rowD 1 (pr.ld y4 2) (pr.ld y4 4) fun w6 =>
      (pr.rowsD 4 (pr.cell w6 0) fun r7 => (pr.eqN (pr.ln y4 1) (pr.len (pr.lr y4 5)) (pr.eqN (pr.ln y4 0) (pr.len (pr.lr y4 5)) (pr.fits 32 (pr.addN (pr.ln y4 0) (pr.len r7))
        (pr.bin .add false (pr.ld y4 4) (pr.lit (.int Go.IntKind.i64 (1))) fun x8 =>
        (J4 0 [.n (pr.addN (pr.ln y4 0) (pr.len r7)), .n (pr.addN (pr.ln y4 0) (pr.len r7)), .d (pr.ld y4 2), .d (pr.ld y4 3), .d x8, .r (pr.app (pr.lr y4 5) r7)])))))))
      (pr.out 0 [.n (pr.ln y4 0), .n (pr.ln y4 1), .r (pr.lr y4 5)])))
def L60_2  : (Nat → List (Y Δ N R M) → Ω) → E → Ω := fun J4 y4 =>
 (pr.bin .lss false (pr.ld y4 3) (pr.ld y4 2) fun x5 =>
     (pr.cond x5
      (pr.rowD 1 (pr.ld y4 1) (pr.ld y4 3) fun w6 =>
      (pr.rowsD 4 (pr.cell w6 0) fun r7 => (pr.nilD (pr.ld y4 0) (pr.isNil r7
        (pr.bin .add false (pr.ld y4 3) (pr.lit (.int Go.IntKind.i64 (1))) fun x8 =>
        (J4 0 [.d (pr.lit (.slice none 0 0)), .d (pr.ld y4 1), .d (pr.ld y4 2), .d x8]))
        (pr.fits 32 (pr.len r7)
        (pr.bin .add false (pr.ld y4 3) (pr.lit (.int Go.IntKind.i64 (1))) fun x8 =>
        (J4 1 [.n (pr.len r7), .n (pr.len r7), .d (pr.ld y4 1), .d (pr.ld y4 2), .d x8, .r r7])))))))
      (pr.out 0 [.d (pr.ld y4 0)])))
def L60_3  : (Nat → List (Y Δ N R M) → Ω) → E → Ω := fun J4 y4 =>
 (pr.bin .lss false (pr.ld y4 4) (pr.ld y4 3) fun x5 =>
     (pr.cond x5
      (pr.rowD 1 (pr.ld y4 2) (pr.ld y4 4) fun w6 =>
      (pr.rowsD 4 (pr.cell w6 0) fun r7 => (pr.eqN (pr.ln y4 1) (pr.len (pr.lr y4 5)) (pr.eqN (pr.ln y4 0) (pr.len (pr.lr y4 5)) (pr.fits 32 (pr.addN (pr.ln y4 0) (pr.len r7))
        (pr.bin .add false (pr.ld y4 4) (pr.lit (.int Go.IntKind.i64 (1))) fun x8 =>
        (J4 1 [.n (pr.addN (pr.ln y4 0) (pr.len r7)), .n (pr.addN (pr.ln y4 0) (pr.len r7)), .d (pr.ld y4 2), .d (pr.ld y4 3), .d x8, .r (pr.app (pr.lr y4 5) r7)])))))))
      (pr.out 1 [.n (pr.ln y4 0), .n (pr.ln y4 1), .r (pr.lr y4 5)])))
def G60 (a0 : Δ) : Ω :=
 (pr.lenD a0 fun x0 =>
(pr.bnd (pr.loop [(L60_0 pr)] 0 [.d a0, .d (pr.lit (.int Go.IntKind.i64 (0))), .d a0, .d x0, .d (pr.lit (.int Go.IntKind.i64 (0)))]) [fun y1 => (pr.bnd (pr.call 89 [(pr.lit (.slice none 0 0)), (pr.ld y1 1)]) [fun y2 => (pr.lenD (pr.ld y1 0) fun x3 =>
   (pr.bnd (pr.loop [(L60_1 pr)] 0 [.n (pr.len (pr.lr y2 0)), .n (pr.len (pr.lr y2 0)), .d (pr.ld y1 0), .d x3, .d (pr.lit (.int Go.IntKind.i64 (0))), .r (pr.lr y2 0)]) [fun y4 => (pr.eqN (pr.ln y4 1) (pr.len (pr.lr y4 2)) (pr.leN (pr.ln y4 0) (pr.len (pr.lr y4 2)) (pr.out 0 [.r (pr.seg (pr.lr y4 2) none (pr.ln y4 0))])))])), fun y2 => (pr.lenD (pr.ld y1 0) fun x3 =>
   (pr.bnd (pr.loop [(L60_2 pr), (L60_3 pr)] 0 [.d (pr.ld y2 0), .d (pr.ld y1 0), .d x3, .d (pr.lit (.int Go.IntKind.i64 (0)))]) [fun y4 => (pr.out 1 [.d (pr.ld y4 0)]), fun y4 => (pr.eqN (pr.ln y4 1) (pr.len (pr.lr y4 2)) (pr.leN (pr.ln y4 0) (pr.len (pr.lr y4 2)) (pr.out 0 [.r (pr.seg (pr.lr y4 2) none (pr.ln y4 0))])))]))])]))
/-! leazing/leazingref04.In -/
def G61 (a0 a1 a2 : Δ) : Ω :=
 (pr.bin .geq false a0 a1 fun x0 =>
(pr.cond x0
 (pr.bin .leq false a0 a2 fun x1 =>
 (pr.out 0 [.d x1]))
 (pr.out 0 [.d (pr.lit (.bool false))])))
/-! leazing/drift.chains -/
def L62_0  : (Nat → List (Y Δ N R M) → Ω) → E → Ω := fun J1 y1 =>
 (pr.bin .lss false (pr.ld y1 2) (pr.ld y1 1) fun x2 =>
  (pr.cond x2
   (pr.rowD 3 (pr.ld y1 0) (pr.ld y1 2) fun w3 =>
   (pr.upd 0 (pr.lm y1 3) (pr.cell w3 0) [(pr.ld y1 2)] fun q4 => (pr.bin .add false (pr.ld y1 2) (pr.lit (.int Go.IntKind.i64 (1))) fun x5 =>
     (J1 0 [.d (pr.ld y1 0), .d (pr.ld y1 1), .d x5, .m q4]))))
   (pr.out 0 [.m (pr.lm y1 3)])))
def G62 (a0 a1 : Δ) : Ω :=
 (pr.lenD a0 fun x0 =>
(pr.bnd (pr.loop [(L62_0 pr)] 0 [.d a0, .d x0, .d (pr.lit (.int Go.IntKind.i64 (0))), .m pr.emp]) [fun y1 => (pr.out 0 [.m (pr.lm y1 0)])]))
/-! leazing/leazingref04.chain -/
def L63_0  : (Nat → List (Y Δ N R M) → Ω) → E → Ω := fun J0 y0 =>
 (pr.lenD (pr.ld y0 2) fun x1 =>
 (pr.bin .lss false (pr.ld y0 1) x1 fun x2 =>
  (pr.cond x2
   (pr.rowD 3 (pr.ld y0 2) (pr.ld y0 1) fun w3 =>
   (pr.bin .eql false (pr.cell w3 0) (pr.ld y0 0) fun x4 =>
    (pr.cond x4
     (pr.out 0 [.d (pr.ld y0 1)])
     (pr.bin .add false (pr.ld y0 1) (pr.lit (.int Go.IntKind.i64 (1))) fun x5 =>
     (J0 0 [.d (pr.ld y0 0), .d x5, .d (pr.ld y0 2), .d (pr.ld y0 3)])))))
   (pr.out 1 []))))
def G63 (a0 a1 a2 : Δ) : Ω :=
 (pr.bnd (pr.loop [(L63_0 pr)] 0 [.d a2, .d (pr.lit (.int Go.IntKind.i64 (0))), .d a0, .d a1]) [fun y0 => (pr.out 0 [.d (pr.ld y0 0)]), fun y0 => (pr.out 0 [.d (pr.lit (.int Go.IntKind.i64 (-1)))])])
/-! slices.ContainsFunc[[]leazing/api.Claim,leazing/api.Claim] -/
def G64 (a0 a1 : Δ) : Ω :=
 (pr.bnd (pr.call 90 [a0, a1]) [fun y0 => (pr.bin .geq false (pr.ld y0 0) (pr.lit (.int Go.IntKind.i64 (0))) fun x1 =>
 (pr.out 0 [.d x1]))])
/-! leazing/drift.CheckClaims$1 -/
def G65 (a0 a1 a2 a3 a4 a5 a6 a7 : Δ) : Ω :=
 (pr.bin .eql false a0 a4 fun x0 =>
(pr.out 0 [.d x0]))
/-! leazing/leazingref04.areClaims -/
def L66_0  : (Nat → List (Y Δ N R M) → Ω) → E → Ω := fun J9 y9 =>
 (pr.bin .lss false (pr.ld y9 2) (pr.ld y9 1) fun x10 =>
          (pr.cond x10
           (pr.rowD 4 (pr.ld y9 0) (pr.ld y9 2) fun w11 =>
           (pr.rowD 4 (pr.ld y9 0) (pr.ld y9 1) fun w12 =>
            (pr.bin .eql false (pr.cell w11 0) (pr.cell w12 0) fun x13 =>
             (pr.cond x13
              (pr.out 0 [.d (pr.lit (.bool false))])
              (pr.bin .add false (pr.ld y9 2) (pr.lit (.int Go.IntKind.i64 (1))) fun x14 =>
              (J9 0 [.d (pr.ld y9 0), .d (pr.ld y9 1), .d x14, .d (pr.ld y9 3), .d (pr.ld y9 4)]))))))
           (pr.out 1 [.d (pr.ld y9 0), .d (pr.ld y9 1), .d (pr.ld y9 3), .d (pr.ld y9 4)])))
def L66_1  : (Nat → List (Y Δ N R M) → Ω) → E → Ω := fun J0 y0 =>
 (pr.lenD (pr.ld y0 0) fun x1 =>
 (pr.bin .lss false (pr.ld y0 1) x1 fun x2 =>
  (pr.cond x2
   (pr.rowD 4 (pr.ld y0 0) (pr.ld y0 1) fun w3 =>
   (pr.bnd (pr.call 24 [(pr.cell w3 0), (pr.cell w3 1), (pr.cell w3 2), (pr.cell w3 3)]) [fun y4 => (pr.bin .neq false (pr.ld y4 0) (pr.lit (.int Go.IntKind.i64 (0))) fun x5 =>
     (pr.cond x5
      (pr.out 0 [.d (pr.lit (.bool false))])
      (pr.rowD 4 (pr.ld y0 0) (pr.ld y0 1) fun w6 =>
      (pr.lenD (pr.ld y0 3) fun x7 =>
       (pr.bin .geq false (pr.cell w6 3) x7 fun x8 =>
        (pr.cond x8
         (pr.out 0 [.d (pr.lit (.bool false))])
         (pr.bnd (pr.loop [(L66_0 pr)] 0 [.d (pr.ld y0 0), .d (pr.ld y0 1), .d (pr.lit (.int Go.IntKind.i64 (0))), .d (pr.ld y0 2), .d (pr.ld y0 3)]) [fun y9 => (pr.out 0 [.d (pr.ld y9 0)]), fun y9 => (pr.bin .add false (pr.ld y9 1) (pr.lit (.int Go.IntKind.i64 (1))) fun x10 =>
          (J0 0 [.d (pr.ld y9 0), .d x10, .d (pr.ld y9 2), .d (pr.ld y9 3)]))])))))))]))
   (pr.out 1 [.d (pr.ld y0 0)]))))
def G66 (a0 a1 a2 : Δ) : Ω :=
 (pr.bnd (pr.loop [(L66_1 pr)] 0 [.d a2, .d (pr.lit (.int Go.IntKind.i64 (0))), .d a0, .d a1]) [fun y0 => (pr.out 0 [.d (pr.ld y0 0)]), fun y0 => (pr.lenD (pr.ld y0 0) fun x1 =>
 (pr.bnd (pr.call 61 [x1, (pr.lit (.int Go.IntKind.i64 (1))), (pr.lit (.int Go.IntKind.i64 (12)))]) [fun y2 => (pr.out 0 [.d (pr.ld y2 0)])]))])
/-! leazing/drift.isGain -/
def G69 (a0 a1 : Δ) : Ω :=
 (pr.bnd (pr.call 59 [a0, (pr.lit (.int Go.IntKind.i64 (0))), (pr.lit (.int Go.IntKind.i64 (1000000)))]) [fun y0 => (pr.cond (pr.ld y0 0)
 (pr.bnd (pr.call 59 [a1, (pr.lit (.int Go.IntKind.i64 (1))), (pr.lit (.int Go.IntKind.i64 (1000000)))]) [fun y1 => (pr.out 0 [.d (pr.ld y1 0)])])
 (pr.out 0 [.d (pr.lit (.bool false))]))])
/-! (leazing/drift.gain).against -/
def G70 (a0 a1 a2 a3 : Δ) : Ω :=
 (pr.bin .mul false a0 a3 fun x0 =>
(pr.bin .mul false a2 a1 fun x1 =>
 (pr.bnd (pr.call 93 [x0, x1]) [fun y2 => (pr.out 0 [.d (pr.ld y2 0)])])))
/-! leazing/drift.areDrifts -/
def G71 (a0 a1 a2 : Δ) : Ω :=
 (pr.bnd (pr.call 94 [a2, (pr.fnD 95 [(pr.dpD [a0, a1] 0)])]) [fun y0 => (pr.lits [.d (pr.ld y0 0)]
 (pr.un .not (pr.ld y0 0) fun x1 => (pr.out 0 [.d x1])))])
/-! leazing/drift.span -/
def L72_0  : (Nat → List (Y Δ N R M) → Ω) → E → Ω := fun J1 y1 =>
 (pr.bin .lss false (pr.ld y1 3) (pr.ld y1 2) fun x2 =>
  (pr.cond x2
   (pr.rowD 3 (pr.ld y1 1) (pr.ld y1 3) fun w3 =>
   (pr.rowD 1 (pr.ld y1 0) (pr.ld y1 3) fun w4 =>
    (pr.bin .mul false (pr.cell w4 0) (pr.cell w3 1) fun x5 =>
     (pr.rowD 1 (pr.ld y1 0) (pr.ld y1 3) fun w6 =>
      (pr.bin .mul false (pr.cell w6 0) (pr.cell w3 2) fun x7 =>
       (pr.mm false x5 x7 fun x8 => (pr.bin .add false (pr.ld y1 4) x8 fun x9 =>
         (pr.rowD 1 (pr.ld y1 0) (pr.ld y1 3) fun w10 =>
          (pr.bin .mul false (pr.cell w10 0) (pr.cell w3 1) fun x11 =>
           (pr.rowD 1 (pr.ld y1 0) (pr.ld y1 3) fun w12 =>
            (pr.bin .mul false (pr.cell w12 0) (pr.cell w3 2) fun x13 =>
             (pr.mm true x11 x13 fun x14 => (pr.bin .add false (pr.ld y1 5) x14 fun x15 =>
               (pr.bin .add false (pr.ld y1 3) (pr.lit (.int Go.IntKind.i64 (1))) fun x16 =>
                (J1 0 [.d (pr.ld y1 0), .d (pr.ld y1 1), .d (pr.ld y1 2), .d x16, .d x9, .d x15, .d (pr.ld y1 6), .d (pr.ld y1 7)])))))))))))))))
   (pr.out 0 [.d (pr.ld y1 4), .d (pr.ld y1 5), .d (pr.ld y1 6), .d (pr.ld y1 7)])))
def G72 (a0 a1 a2 : Δ) : Ω :=
 (pr.lenD a0 fun x0 =>
(pr.bnd (pr.loop [(L72_0 pr)] 0 [.d a2, .d a0, .d x0, .d (pr.lit (.int Go.IntKind.i64 (0))), .d (pr.lit (.int Go.IntKind.i64 (0))), .d (pr.lit (.int Go.IntKind.i64 (0))), .d (pr.lit (.int Go.IntKind.i64 (0))), .d (pr.lit (.int Go.IntKind.i64 (0)))]) [fun y1 => (pr.out 0 [.d (pr.ld y1 0), .d (pr.ld y1 1)])]))
/-! leazing/drift.links -/
def L73_0  : (Nat → List (Y Δ N R M) → Ω) → E → Ω := fun J6 y6 =>
 (pr.bin .lss false (pr.ld y6 4) (pr.ld y6 3) fun x7 =>
       (pr.cond x7
        (pr.rowD 3 (pr.ld y6 2) (pr.ld y6 4) fun w8 =>
        (pr.look 0 [(.int Go.IntKind.i64 (0))] (pr.lm y6 5) (pr.cell w8 0) fun w9 x9 =>
         (pr.eqN (pr.ln y6 1) (pr.len (pr.lr y6 6)) (pr.inx (pr.cell w9 0) (pr.ln y6 0) fun n10 => (pr.eqN (pr.ln y6 1) (pr.len (pr.lr y6 6)) (pr.rowAt 1 (pr.lr y6 6) n10 fun w11 => (pr.bin .add false (pr.cell w11 0) (pr.cell w8 1) fun x12 =>
            (pr.eqN (pr.ln y6 1) (pr.len (pr.lr y6 6)) (pr.inx (pr.cell w9 0) (pr.ln y6 0) fun n13 => (pr.eqN (pr.ln y6 1) (pr.len (pr.lr y6 6)) (pr.rowAt 1 (pr.lr y6 6) n13 fun w14 => (pr.bin .add false (pr.ld y6 4) (pr.lit (.int Go.IntKind.i64 (1))) fun x15 =>
               (J6 0 [.n (pr.ln y6 0), .n (pr.ln y6 1), .d (pr.ld y6 2), .d (pr.ld y6 3), .d x15, .m (pr.lm y6 5), .r (pr.setR (pr.lr y6 6) n13 [x12])])))))))))))))
        (pr.out 0 [.n (pr.ln y6 0), .n (pr.ln y6 1), .r (pr.lr y6 6)])))
def G73 (a0 a1 a2 a3 : Δ) : Ω :=
 (pr.lenD a0 fun x0 =>
(pr.mkN 8 x0 x0 fun n1 => (pr.bnd (pr.call 62 [a0, a1]) [fun y2 => (pr.bin .add false a3 (pr.lit (.int Go.IntKind.i64 (1))) fun x3 =>
   (pr.cutD 3 a1 (some a2) (some x3) fun x4 =>
    (pr.lenD x4 fun x5 =>
     (pr.bnd (pr.loop [(L73_0 pr)] 0 [.n n1, .n n1, .d x4, .d x5, .d (pr.lit (.int Go.IntKind.i64 (0))), .m (pr.lm y2 0), .r (pr.repl n1 [(pr.lit (.int Go.IntKind.i64 (0)))])]) [fun y6 => (pr.eqN (pr.ln y6 1) (pr.len (pr.lr y6 2)) (pr.leN (pr.ln y6 0) (pr.len (pr.lr y6 2)) (pr.out 0 [.r (pr.seg (pr.lr y6 2) none (pr.ln y6 0))])))]))))])))
/-! leazing/leazingref04.isDrift -/
def G77 (a0 a1 a2 a3 : Δ) : Ω :=
 (pr.bnd (pr.call 61 [a2, (pr.lit (.int Go.IntKind.i64 (0))), a3]) [fun y0 => (pr.cond (pr.ld y0 0)
 (pr.lenD a1 fun x1 =>
 (pr.bin .lss false a3 x1 fun x2 =>
  (pr.out 0 [.d x2])))
 (pr.out 0 [.d (pr.lit (.bool false))]))])
/-! leazing/leazingref04.span -/
def L78_0  : (Nat → List (Y Δ N R M) → Ω) → E → Ω := fun J0 y0 =>
 (pr.lenD (pr.ld y0 0) fun x1 =>
 (pr.bin .lss false (pr.ld y0 1) x1 fun x2 =>
  (pr.cond x2
   (pr.rowD 1 (pr.ld y0 0) (pr.ld y0 1) fun w3 =>
   (pr.rowD 3 (pr.ld y0 6) (pr.ld y0 1) fun w4 =>
    (pr.bin .mul false (pr.cell w3 0) (pr.cell w4 1) fun x5 =>
     (pr.rowD 1 (pr.ld y0 0) (pr.ld y0 1) fun w6 =>
      (pr.rowD 3 (pr.ld y0 6) (pr.ld y0 1) fun w7 =>
       (pr.bin .mul false (pr.cell w6 0) (pr.cell w7 2) fun x8 =>
        (pr.mm false x5 x8 fun x9 => (pr.bin .add false (pr.ld y0 2) x9 fun x10 =>
          (pr.mm true x5 x8 fun x11 => (pr.bin .add false (pr.ld y0 3) x11 fun x12 =>
            (pr.bin .add false (pr.ld y0 1) (pr.lit (.int Go.IntKind.i64 (1))) fun x13 =>
             (J0 0 [.d (pr.ld y0 0), .d x13, .d x10, .d x12, .d (pr.ld y0 4), .d (pr.ld y0 5), .d (pr.ld y0 6), .d (pr.ld y0 7)]))))))))))))
   (pr.out 0 [.d (pr.ld y0 2), .d (pr.ld y0 3), .d (pr.ld y0 4), .d (pr.ld y0 5)]))))
def G78 (a0 a1 a2 : Δ) : Ω :=
 (pr.bnd (pr.loop [(L78_0 pr)] 0 [.d a2, .d (pr.lit (.int Go.IntKind.i64 (0))), .d (pr.lit (.int Go.IntKind.i64 (0))), .d (pr.lit (.int Go.IntKind.i64 (0))), .d (pr.lit (.int Go.IntKind.i64 (0))), .d (pr.lit (.int Go.IntKind.i64 (0))), .d a0, .d a1]) [fun y0 => (pr.out 0 [.d (pr.ld y0 0), .d (pr.ld y0 1)])])
/-! leazing/leazingref04.links -/
def L79_0  : (Nat → List (Y Δ N R M) → Ω) → E → Ω := fun J2 y2 =>
 (pr.bin .leq false (pr.ld y2 2) (pr.ld y2 5) fun x3 =>
   (pr.cond x3
    (pr.rowD 3 (pr.ld y2 7) (pr.ld y2 2) fun w4 =>
    (pr.bnd (pr.call 63 [(pr.ld y2 6), (pr.ld y2 7), (pr.cell w4 0)]) [fun y5 => (pr.eqN (pr.ln y2 1) (pr.len (pr.lr y2 3)) (pr.inx (pr.ld y5 0) (pr.ln y2 0) fun n6 => (pr.eqN (pr.ln y2 1) (pr.len (pr.lr y2 3)) (pr.rowAt 1 (pr.lr y2 3) n6 fun w7 => (pr.rowD 3 (pr.ld y2 7) (pr.ld y2 2) fun w8 =>
        (pr.bin .add false (pr.cell w7 0) (pr.cell w8 1) fun x9 =>
         (pr.eqN (pr.ln y2 1) (pr.len (pr.lr y2 3)) (pr.inx (pr.ld y5 0) (pr.ln y2 0) fun n10 => (pr.eqN (pr.ln y2 1) (pr.len (pr.lr y2 3)) (pr.rowAt 1 (pr.lr y2 3) n10 fun w11 => (pr.bin .add false (pr.ld y2 2) (pr.lit (.int Go.IntKind.i64 (1))) fun x12 =>
            (J2 0 [.n (pr.ln y2 0), .n (pr.ln y2 1), .d x12, .r (pr.setR (pr.lr y2 3) n10 [x9]), .d (pr.ld y2 4), .d (pr.ld y2 5), .d (pr.ld y2 6), .d (pr.ld y2 7)]))))))))))))]))
    (pr.out 0 [.n (pr.ln y2 0), .n (pr.ln y2 1), .r (pr.lr y2 3)])))
def G79 (a0 a1 a2 a3 : Δ) : Ω :=
 (pr.lenD a0 fun x0 =>
(pr.mkN 8 x0 x0 fun n1 => (pr.bnd (pr.loop [(L79_0 pr)] 0 [.n n1, .n n1, .d a2, .r (pr.repl n1 [(pr.lit (.int Go.IntKind.i64 (0)))]), .d a2, .d a3, .d a0, .d a1]) [fun y2 => (pr.eqN (pr.ln y2 1) (pr.len (pr.lr y2 2)) (pr.leN (pr.ln y2 0) (pr.len (pr.lr y2 2)) (pr.out 0 [.r (pr.seg (pr.lr y2 2) none (pr.ln y2 0))])))])))
/-! leazing/leazingref04.areLinks -/
def L80_0  : (Nat → List (Y Δ N R M) → Ω) → E → Ω := fun J3 y3 =>
 (pr.lenD (pr.ld y3 0) fun x4 =>
    (pr.bin .lss false (pr.ld y3 1) x4 fun x5 =>
     (pr.cond x5
      (pr.rowD 1 (pr.ld y3 0) (pr.ld y3 1) fun w6 =>
      (pr.rowD 3 (pr.ld y3 2) (pr.ld y3 1) fun w7 =>
       (pr.rowD 3 (pr.ld y3 2) (pr.ld y3 1) fun w8 =>
        (pr.bnd (pr.call 61 [(pr.cell w6 0), (pr.cell w7 1), (pr.cell w8 2)]) [fun y9 => (pr.un .not (pr.ld y9 0) fun x10 => (pr.cond x10
           (pr.out 0 [.d (pr.lit (.bool false))])
           (pr.bin .add false (pr.ld y3 1) (pr.lit (.int Go.IntKind.i64 (1))) fun x11 =>
           (J3 0 [.d (pr.ld y3 0), .d x11, .d (pr.ld y3 2), .d (pr.ld y3 3)]))))]))))
      (pr.out 1 []))))
def G80 (a0 a1 a2 : Δ) : Ω :=
 (pr.lenD a2 fun x0 =>
(pr.lenD a0 fun x1 =>
 (pr.bin .neq false x0 x1 fun x2 =>
  (pr.cond x2
   (pr.out 0 [.d (pr.lit (.bool false))])
   (pr.bnd (pr.loop [(L80_0 pr)] 0 [.d a2, .d (pr.lit (.int Go.IntKind.i64 (0))), .d a0, .d a1]) [fun y3 => (pr.out 0 [.d (pr.ld y3 0)]), fun y3 => (pr.out 0 [.d (pr.lit (.bool true))])])))))
/-! leazing/drift.worth -/
def L81_0  : (Nat → List (Y Δ N R M) → Ω) → E → Ω := fun J1 y1 =>
 (pr.bin .leq false (pr.ld y1 0) (pr.ld y1 2) fun x2 =>
  (pr.cond x2
   (pr.lenD (pr.ld y1 4) fun x3 =>
   (pr.bin .lss false (pr.ld y1 0) x3 fun x4 =>
    (pr.cond x4
     (pr.rowD 3 (pr.ld y1 4) (pr.ld y1 0) fun w5 =>
     (pr.eqN (pr.natN 1) (pr.len (pr.rows [[(pr.cell w5 2)]])) (pr.isNil (pr.seg (pr.rows [[(pr.cell w5 2)]]) none (pr.natN 1))
      (pr.bin .add false (pr.ld y1 0) (pr.lit (.int Go.IntKind.i64 (1))) fun x6 =>
      (J1 0 [.d x6, .d (pr.ld y1 1), .d (pr.ld y1 2), .d (pr.ld y1 3), .d (pr.ld y1 4)]))
      (pr.fits 8 (pr.len (pr.seg (pr.rows [[(pr.cell w5 2)]]) none (pr.natN 1)))
      (pr.bin .add false (pr.ld y1 0) (pr.lit (.int Go.IntKind.i64 (1))) fun x6 =>
      (J1 1 [.n (pr.len (pr.seg (pr.rows [[(pr.cell w5 2)]]) none (pr.natN 1))), .n (pr.len (pr.seg (pr.rows [[(pr.cell w5 2)]]) none (pr.natN 1))), .d x6, .r (pr.seg (pr.rows [[(pr.cell w5 2)]]) none (pr.natN 1)), .d (pr.ld y1 1), .d (pr.ld y1 2), .d (pr.ld y1 3), .d (pr.ld y1 4)]))))))
     (pr.out 0 []))))
   (pr.out 0 [])))
def L81_1  : (Nat → List (Y Δ N R M) → Ω) → E → Ω := fun J1 y1 =>
 (pr.bin .leq false (pr.ld y1 2) (pr.ld y1 5) fun x2 =>
  (pr.cond x2
   (pr.lenD (pr.ld y1 7) fun x3 =>
   (pr.bin .lss false (pr.ld y1 2) x3 fun x4 =>
    (pr.cond x4
     (pr.rowD 3 (pr.ld y1 7) (pr.ld y1 2) fun w5 =>
     (pr.eqN (pr.natN 1) (pr.len (pr.rows [[(pr.cell w5 2)]])) (pr.eqN (pr.ln y1 1) (pr.len (pr.lr y1 3)) (pr.eqN (pr.ln y1 0) (pr.len (pr.lr y1 3)) (pr.fits 8 (pr.addN (pr.ln y1 0) (pr.len (pr.seg (pr.rows [[(pr.cell w5 2)]]) none (pr.natN 1))))
      (pr.bin .add false (pr.ld y1 2) (pr.lit (.int Go.IntKind.i64 (1))) fun x6 =>
      (J1 1 [.n (pr.addN (pr.ln y1 0) (pr.len (pr.seg (pr.rows [[(pr.cell w5 2)]]) none (pr.natN 1)))), .n (pr.addN (pr.ln y1 0) (pr.len (pr.seg (pr.rows [[(pr.cell w5 2)]]) none (pr.natN 1)))), .d x6, .r (pr.app (pr.lr y1 3) (pr.seg (pr.rows [[(pr.cell w5 2)]]) none (pr.natN 1))), .d (pr.ld y1 4), .d (pr.ld y1 5), .d (pr.ld y1 6), .d (pr.ld y1 7)])))))))
     (pr.out 1 [.n (pr.ln y1 0), .n (pr.ln y1 1), .r (pr.lr y1 3)]))))
   (pr.out 1 [.n (pr.ln y1 0), .n (pr.ln y1 1), .r (pr.lr y1 3)])))
def G81 (a0 a1 a2 a3 : Δ) : Ω :=
 (pr.mm true a2 (pr.lit (.int Go.IntKind.i64 (0))) fun x0 => (pr.bnd (pr.loop [(L81_0 pr), (L81_1 pr)] 0 [.d x0, .d a2, .d a3, .d a0, .d a1]) [fun y1 => (pr.bnd (pr.call 98 [(pr.lit (.slice none 0 0))]) [fun y2 => (pr.out 0 [.d (pr.ld y2 0)])]), fun y1 => (pr.eqN (pr.ln y1 1) (pr.len (pr.lr y1 2)) (pr.bnd (pr.call 98 [(pr.slD 1 (pr.seg (pr.lr y1 2) none (pr.ln y1 0)))]) [fun y2 => (pr.lits [.d (pr.ld y2 0)]
   (pr.out 0 [.d (pr.ld y2 0)]))]))]))
/-! leazing/leazingref04.worth -/
def L82_0  : (Nat → List (Y Δ N R M) → Ω) → E → Ω := fun J0 y0 =>
 (pr.bin .leq false (pr.ld y0 2) (pr.ld y0 0) fun x1 =>
 (pr.cond x1
  (pr.lenD (pr.ld y0 4) fun x2 =>
  (pr.bin .lss false (pr.ld y0 2) x2 fun x3 =>
   (pr.cond x3
    (pr.rowD 3 (pr.ld y0 4) (pr.ld y0 2) fun w4 =>
    (pr.bin .add false (pr.ld y0 1) (pr.cell w4 2) fun x5 =>
     (pr.bin .add false (pr.ld y0 2) (pr.lit (.int Go.IntKind.i64 (1))) fun x6 =>
      (J0 0 [.d (pr.ld y0 0), .d x5, .d x6, .d (pr.ld y0 3), .d (pr.ld y0 4)]))))
    (pr.out 0 [.d (pr.ld y0 1)]))))
  (pr.out 0 [.d (pr.ld y0 1)])))
def G82 (a0 a1 a2 a3 : Δ) : Ω :=
 (pr.bnd (pr.loop [(L82_0 pr)] 0 [.d a3, .d (pr.lit (.int Go.IntKind.i64 (0))), .d a2, .d a0, .d a1]) [fun y0 => (pr.out 0 [.d (pr.ld y0 0)])])
/-! leazing/leazingref04.isGain -/
def G83 (a0 a1 : Δ) : Ω :=
 (pr.bnd (pr.call 61 [a0, (pr.lit (.int Go.IntKind.i64 (0))), (pr.lit (.int Go.IntKind.i64 (1000000)))]) [fun y0 => (pr.cond (pr.ld y0 0)
 (pr.bnd (pr.call 61 [a1, (pr.lit (.int Go.IntKind.i64 (1))), (pr.lit (.int Go.IntKind.i64 (1000000)))]) [fun y1 => (pr.out 0 [.d (pr.ld y1 0)])])
 (pr.out 0 [.d (pr.lit (.bool false))]))])
/-! slices.Grow[[]leazing/api.Claim,leazing/api.Claim] -/
def G89 (a0 a1 : Δ) : Ω :=
 (pr.bnd (pr.bin .lss false a1 (pr.lit (.int Go.IntKind.i64 (0))) fun x0 =>
(pr.cond x0
 pr.fail
 (pr.out 0 [.d a0, .d a1]))) [fun y0 => (pr.nilD (pr.ld y0 0) (pr.lenD (pr.ld y0 0) fun x1 =>
 (pr.bin .sub false (pr.lit (.int Go.IntKind.i64 (0))) x1 fun x2 =>
  (pr.bin .sub false (pr.ld y0 1) x2 fun x3 =>
   (pr.bin .gtr false x3 (pr.lit (.int Go.IntKind.i64 (0))) fun x4 =>
    (pr.cond x4
     (pr.nilD (pr.ld y0 0) (pr.cutD 4 (pr.ld y0 0) none (some (pr.lit (.int Go.IntKind.i64 (0)))) fun x5 =>
     (pr.nilD x5 (pr.gap 32 x3 fun n6 => (pr.lenD (pr.ld y0 0) fun x7 =>
       (pr.eqN n6 (pr.len (pr.repl n6 [(pr.lit (.int Go.IntKind.i64 (0))), (pr.lit (.int Go.IntKind.i64 (0))), (pr.lit (.int Go.IntKind.i64 (0))), (pr.lit (.int Go.IntKind.i64 (0)))])) (pr.cut none (some x7) n6 (fun n8 m8 => (pr.eqN n6 (pr.len (pr.repl n6 [(pr.lit (.int Go.IntKind.i64 (0))), (pr.lit (.int Go.IntKind.i64 (0))), (pr.lit (.int Go.IntKind.i64 (0))), (pr.lit (.int Go.IntKind.i64 (0)))])) (pr.leN m8 (pr.len (pr.repl n6 [(pr.lit (.int Go.IntKind.i64 (0))), (pr.lit (.int Go.IntKind.i64 (0))), (pr.lit (.int Go.IntKind.i64 (0))), (pr.lit (.int Go.IntKind.i64 (0)))])) (pr.out 0 [.r (pr.seg (pr.repl n6 [(pr.lit (.int Go.IntKind.i64 (0))), (pr.lit (.int Go.IntKind.i64 (0))), (pr.lit (.int Go.IntKind.i64 (0))), (pr.lit (.int Go.IntKind.i64 (0)))]) none m8)]))))
        pr.fail)))))))
     (pr.out 1 [.d (pr.ld y0 0)])))))))])
/-! slices.IndexFunc[[]leazing/api.Claim,leazing/api.Claim] -/
def L90_0  : (Nat → List (Y Δ N R M) → Ω) → E → Ω := fun J1 y1 =>
 (pr.bin .lss false (pr.ld y1 3) (pr.ld y1 2) fun x2 =>
  (pr.cond x2
   (pr.rowD 4 (pr.ld y1 0) (pr.ld y1 3) fun w3 =>
   (pr.bnd (pr.callD (pr.ld y1 1) [.agg 4] [(pr.cell w3 0), (pr.cell w3 1), (pr.cell w3 2), (pr.cell w3 3)]) [fun y4 => (pr.cond (pr.ld y4 0)
     (pr.out 0 [.d (pr.ld y1 3)])
     (pr.bin .add false (pr.ld y1 3) (pr.lit (.int Go.IntKind.i64 (1))) fun x5 =>
     (J1 0 [.d (pr.ld y1 0), .d (pr.ld y1 1), .d (pr.ld y1 2), .d x5])))]))
   (pr.out 1 [])))
def G90 (a0 a1 : Δ) : Ω :=
 (pr.lenD a0 fun x0 =>
(pr.bnd (pr.loop [(L90_0 pr)] 0 [.d a0, .d a1, .d x0, .d (pr.lit (.int Go.IntKind.i64 (0)))]) [fun y1 => (pr.out 0 [.d (pr.ld y1 0)]), fun y1 => (pr.out 0 [.d (pr.lit (.int Go.IntKind.i64 (-1)))])]))
/-! cmp.Compare[int] -/
def G93 (a0 a1 : Δ) : Ω :=
 (pr.bnd (pr.call 106 [a0]) [fun y0 => (pr.bnd (pr.call 106 [a1]) [fun y1 => (pr.cond (pr.ld y0 0)
  (pr.cond (pr.ld y1 0)
  (pr.out 0 [.d (pr.lit (.int Go.IntKind.i64 (0)))])
  (pr.out 0 [.d (pr.lit (.int Go.IntKind.i64 (-1)))]))
  (pr.cond (pr.ld y1 0)
  (pr.out 0 [.d (pr.lit (.int Go.IntKind.i64 (1)))])
  (pr.bin .lss false a0 a1 fun x2 =>
  (pr.cond x2
   (pr.out 0 [.d (pr.lit (.int Go.IntKind.i64 (-1)))])
   (pr.bin .gtr false a0 a1 fun x3 =>
   (pr.cond x3
    (pr.out 0 [.d (pr.lit (.int Go.IntKind.i64 (1)))])
    (pr.out 0 [.d (pr.lit (.int Go.IntKind.i64 (0)))])))))))])])
/-! slices.ContainsFunc[[]leazing/api.Drift,leazing/api.Drift] -/
def G94 (a0 a1 : Δ) : Ω :=
 (pr.bnd (pr.call 107 [a0, a1]) [fun y0 => (pr.bin .geq false (pr.ld y0 0) (pr.lit (.int Go.IntKind.i64 (0))) fun x1 =>
 (pr.out 0 [.d x1]))])
/-! leazing/drift.areDrifts$1 -/
def G95 (a0 a1 a2 a3 : Δ) : Ω :=
 (pr.bin .lss false a0 (pr.lit (.int Go.IntKind.i64 (0))) fun x0 =>
(pr.cond x0
 (pr.out 0 [.d (pr.lit (.bool true))])
 (pr.bin .lss false a1 a0 fun x1 =>
 (pr.cond x1
  (pr.out 0 [.d (pr.lit (.bool true))])
  (pr.lenD a3 fun x2 =>
  (pr.bin .geq false a1 x2 fun x3 =>
   (pr.out 0 [.d x3])))))))
/-! leazing/drift.sum -/
def L98_0  : (Nat → List (Y Δ N R M) → Ω) → E → Ω := fun J1 y1 =>
 (pr.bin .lss false (pr.ld y1 3) (pr.ld y1 2) fun x2 =>
  (pr.cond x2
   (pr.rowD 1 (pr.ld y1 1) (pr.ld y1 3) fun w3 =>
   (pr.bin .add false (pr.ld y1 0) (pr.cell w3 0) fun x4 =>
    (pr.bin .add false (pr.ld y1 3) (pr.lit (.int Go.IntKind.i64 (1))) fun x5 =>
     (J1 0 [.d x4, .d (pr.ld y1 1), .d (pr.ld y1 2), .d x5]))))
   (pr.out 0 [.d (pr.ld y1 0)])))
def G98 (a0 : Δ) : Ω :=
 (pr.lenD a0 fun x0 =>
(pr.bnd (pr.loop [(L98_0 pr)] 0 [.d (pr.lit (.int Go.IntKind.i64 (0))), .d a0, .d x0, .d (pr.lit (.int Go.IntKind.i64 (0)))]) [fun y1 => (pr.out 0 [.d (pr.ld y1 0)])]))
/-! cmp.isNaN[int] -/
def G106 (a0 : Δ) : Ω :=
 (pr.bin .neq false a0 a0 fun x0 =>
(pr.out 0 [.d x0]))
/-! slices.IndexFunc[[]leazing/api.Drift,leazing/api.Drift] -/
def L107_0  : (Nat → List (Y Δ N R M) → Ω) → E → Ω := fun J1 y1 =>
 (pr.bin .lss false (pr.ld y1 3) (pr.ld y1 2) fun x2 =>
  (pr.cond x2
   (pr.rowD 2 (pr.ld y1 0) (pr.ld y1 3) fun w3 =>
   (pr.bnd (pr.callD (pr.ld y1 1) [.agg 2] [(pr.cell w3 0), (pr.cell w3 1)]) [fun y4 => (pr.cond (pr.ld y4 0)
     (pr.out 0 [.d (pr.ld y1 3)])
     (pr.bin .add false (pr.ld y1 3) (pr.lit (.int Go.IntKind.i64 (1))) fun x5 =>
     (J1 0 [.d (pr.ld y1 0), .d (pr.ld y1 1), .d (pr.ld y1 2), .d x5])))]))
   (pr.out 1 [])))
def G107 (a0 a1 : Δ) : Ω :=
 (pr.lenD a0 fun x0 =>
(pr.bnd (pr.loop [(L107_0 pr)] 0 [.d a0, .d a1, .d x0, .d (pr.lit (.int Go.IntKind.i64 (0)))]) [fun y1 => (pr.out 0 [.d (pr.ld y1 0)]), fun y1 => (pr.out 0 [.d (pr.lit (.int Go.IntKind.i64 (-1)))])]))
end
theorem G26_eq {Δ N R W M E Ω : Type} (pr : Pr Δ N R W M E Ω) (a0 a1 : Δ) : fun3 pr tb Try.prog 400 26 [a0, a1] = G26 pr a0 a1 := by kernel_rfl
theorem F26 (n : Nat) (a0 a1 : D) : FN (n + 1) 26 [a0, a1] = G26 (RP n) a0 a1 := G26_eq _ a0 a1
theorem G28_eq {Δ N R W M E Ω : Type} (pr : Pr Δ N R W M E Ω) (a0 a1 a2 a3 : Δ) : fun3 pr tb Try.prog 400 28 [a0, a1, a2, a3] = G28 pr a0 a1 a2 a3 := by kernel_rfl
theorem F28 (n : Nat) (a0 a1 a2 a3 : D) : FN (n + 1) 28 [a0, a1, a2, a3] = G28 (RP n) a0 a1 a2 a3 := G28_eq _ a0 a1 a2 a3
theorem G29_eq {Δ N R W M E Ω : Type} (pr : Pr Δ N R W M E Ω) (a0 a1 a2 a3 : Δ) : fun3 pr tb Try.prog 400 29 [a0, a1, a2, a3] = G29 pr a0 a1 a2 a3 := by kernel_rfl
theorem F29 (n : Nat) (a0 a1 a2 a3 : D) : FN (n + 1) 29 [a0, a1, a2, a3] = G29 (RP n) a0 a1 a2 a3 := G29_eq _ a0 a1 a2 a3
theorem G30_eq {Δ N R W M E Ω : Type} (pr : Pr Δ N R W M E Ω) (a0 a1 a2 a3 : Δ) : fun3 pr tb Try.prog 400 30 [a0, a1, a2, a3] = G30 pr a0 a1 a2 a3 := by kernel_rfl
theorem F30 (n : Nat) (a0 a1 a2 a3 : D) : FN (n + 1) 30 [a0, a1, a2, a3] = G30 (RP n) a0 a1 a2 a3 := G30_eq _ a0 a1 a2 a3
theorem G31_eq {Δ N R W M E Ω : Type} (pr : Pr Δ N R W M E Ω) (a0 a1 a2 a3 a4 a5 : Δ) : fun3 pr tb Try.prog 400 31 [a0, a1, a2, a3, a4, a5] = G31 pr a0 a1 a2 a3 a4 a5 := by kernel_rfl
theorem F31 (n : Nat) (a0 a1 a2 a3 a4 a5 : D) : FN (n + 1) 31 [a0, a1, a2, a3, a4, a5] = G31 (RP n) a0 a1 a2 a3 a4 a5 := G31_eq _ a0 a1 a2 a3 a4 a5
theorem G32_eq {Δ N R W M E Ω : Type} (pr : Pr Δ N R W M E Ω) (a0 a1 a2 a3 a4 : Δ) : fun3 pr tb Try.prog 400 32 [a0, a1, a2, a3, a4] = G32 pr a0 a1 a2 a3 a4 := by kernel_rfl
theorem F32 (n : Nat) (a0 a1 a2 a3 a4 : D) : FN (n + 1) 32 [a0, a1, a2, a3, a4] = G32 (RP n) a0 a1 a2 a3 a4 := G32_eq _ a0 a1 a2 a3 a4
theorem G37_eq {Δ N R W M E Ω : Type} (pr : Pr Δ N R W M E Ω) (a0 a1 a2 a3 : Δ) : fun3 pr tb Try.prog 400 37 [a0, a1, a2, a3] = G37 pr a0 a1 a2 a3 := by kernel_rfl
theorem F37 (n : Nat) (a0 a1 a2 a3 : D) : FN (n + 1) 37 [a0, a1, a2, a3] = G37 (RP n) a0 a1 a2 a3 := G37_eq _ a0 a1 a2 a3
theorem G38_eq {Δ N R W M E Ω : Type} (pr : Pr Δ N R W M E Ω) (a0 a1 a2 a3 a4 a5 : Δ) : fun3 pr tb Try.prog 400 38 [a0, a1, a2, a3, a4, a5] = G38 pr a0 a1 a2 a3 a4 a5 := by kernel_rfl
theorem F38 (n : Nat) (a0 a1 a2 a3 a4 a5 : D) : FN (n + 1) 38 [a0, a1, a2, a3, a4, a5] = G38 (RP n) a0 a1 a2 a3 a4 a5 := G38_eq _ a0 a1 a2 a3 a4 a5
theorem G39_eq {Δ N R W M E Ω : Type} (pr : Pr Δ N R W M E Ω) (a0 a1 a2 a3 a4 : Δ) : fun3 pr tb Try.prog 400 39 [a0, a1, a2, a3, a4] = G39 pr a0 a1 a2 a3 a4 := by kernel_rfl
theorem F39 (n : Nat) (a0 a1 a2 a3 a4 : D) : FN (n + 1) 39 [a0, a1, a2, a3, a4] = G39 (RP n) a0 a1 a2 a3 a4 := G39_eq _ a0 a1 a2 a3 a4
theorem G40_eq {Δ N R W M E Ω : Type} (pr : Pr Δ N R W M E Ω) (a0 a1 a2 a3 : Δ) : fun3 pr tb Try.prog 400 40 [a0, a1, a2, a3] = G40 pr a0 a1 a2 a3 := by kernel_rfl
theorem F40 (n : Nat) (a0 a1 a2 a3 : D) : FN (n + 1) 40 [a0, a1, a2, a3] = G40 (RP n) a0 a1 a2 a3 := G40_eq _ a0 a1 a2 a3
theorem G41_eq {Δ N R W M E Ω : Type} (pr : Pr Δ N R W M E Ω) (a0 a1 a2 a3 : Δ) : fun3 pr tb Try.prog 400 41 [a0, a1, a2, a3] = G41 pr a0 a1 a2 a3 := by kernel_rfl
theorem F41 (n : Nat) (a0 a1 a2 a3 : D) : FN (n + 1) 41 [a0, a1, a2, a3] = G41 (RP n) a0 a1 a2 a3 := G41_eq _ a0 a1 a2 a3
theorem G42_eq {Δ N R W M E Ω : Type} (pr : Pr Δ N R W M E Ω) (a0 a1 a2 a3 : Δ) : fun3 pr tb Try.prog 400 42 [a0, a1, a2, a3] = G42 pr a0 a1 a2 a3 := by kernel_rfl
theorem F42 (n : Nat) (a0 a1 a2 a3 : D) : FN (n + 1) 42 [a0, a1, a2, a3] = G42 (RP n) a0 a1 a2 a3 := G42_eq _ a0 a1 a2 a3
theorem G56_eq {Δ N R W M E Ω : Type} (pr : Pr Δ N R W M E Ω) (a0 a1 a2 a3 : Δ) : fun3 pr tb Try.prog 400 56 [a0, a1, a2, a3] = G56 pr a0 a1 a2 a3 := by kernel_rfl
theorem F56 (n : Nat) (a0 a1 a2 a3 : D) : FN (n + 1) 56 [a0, a1, a2, a3] = G56 (RP n) a0 a1 a2 a3 := G56_eq _ a0 a1 a2 a3
theorem G59_eq {Δ N R W M E Ω : Type} (pr : Pr Δ N R W M E Ω) (a0 a1 a2 : Δ) : fun3 pr tb Try.prog 400 59 [a0, a1, a2] = G59 pr a0 a1 a2 := by kernel_rfl
theorem F59 (n : Nat) (a0 a1 a2 : D) : FN (n + 1) 59 [a0, a1, a2] = G59 (RP n) a0 a1 a2 := G59_eq _ a0 a1 a2
theorem G60_eq {Δ N R W M E Ω : Type} (pr : Pr Δ N R W M E Ω) (a0 : Δ) : fun3 pr tb Try.prog 400 60 [a0] = G60 pr a0 := by kernel_rfl
theorem F60 (n : Nat) (a0 : D) : FN (n + 1) 60 [a0] = G60 (RP n) a0 := G60_eq _ a0
theorem G61_eq {Δ N R W M E Ω : Type} (pr : Pr Δ N R W M E Ω) (a0 a1 a2 : Δ) : fun3 pr tb Try.prog 400 61 [a0, a1, a2] = G61 pr a0 a1 a2 := by kernel_rfl
theorem F61 (n : Nat) (a0 a1 a2 : D) : FN (n + 1) 61 [a0, a1, a2] = G61 (RP n) a0 a1 a2 := G61_eq _ a0 a1 a2
theorem G62_eq {Δ N R W M E Ω : Type} (pr : Pr Δ N R W M E Ω) (a0 a1 : Δ) : fun3 pr tb Try.prog 400 62 [a0, a1] = G62 pr a0 a1 := by kernel_rfl
theorem F62 (n : Nat) (a0 a1 : D) : FN (n + 1) 62 [a0, a1] = G62 (RP n) a0 a1 := G62_eq _ a0 a1
theorem G63_eq {Δ N R W M E Ω : Type} (pr : Pr Δ N R W M E Ω) (a0 a1 a2 : Δ) : fun3 pr tb Try.prog 400 63 [a0, a1, a2] = G63 pr a0 a1 a2 := by kernel_rfl
theorem F63 (n : Nat) (a0 a1 a2 : D) : FN (n + 1) 63 [a0, a1, a2] = G63 (RP n) a0 a1 a2 := G63_eq _ a0 a1 a2
theorem G64_eq {Δ N R W M E Ω : Type} (pr : Pr Δ N R W M E Ω) (a0 a1 : Δ) : fun3 pr tb Try.prog 400 64 [a0, a1] = G64 pr a0 a1 := by kernel_rfl
theorem F64 (n : Nat) (a0 a1 : D) : FN (n + 1) 64 [a0, a1] = G64 (RP n) a0 a1 := G64_eq _ a0 a1
theorem G65_eq {Δ N R W M E Ω : Type} (pr : Pr Δ N R W M E Ω) (a0 a1 a2 a3 a4 a5 a6 a7 : Δ) : fun3 pr tb Try.prog 400 65 [a0, a1, a2, a3, a4, a5, a6, a7] = G65 pr a0 a1 a2 a3 a4 a5 a6 a7 := by kernel_rfl
theorem F65 (n : Nat) (a0 a1 a2 a3 a4 a5 a6 a7 : D) : FN (n + 1) 65 [a0, a1, a2, a3, a4, a5, a6, a7] = G65 (RP n) a0 a1 a2 a3 a4 a5 a6 a7 := G65_eq _ a0 a1 a2 a3 a4 a5 a6 a7
theorem G66_eq {Δ N R W M E Ω : Type} (pr : Pr Δ N R W M E Ω) (a0 a1 a2 : Δ) : fun3 pr tb Try.prog 400 66 [a0, a1, a2] = G66 pr a0 a1 a2 := by kernel_rfl
theorem F66 (n : Nat) (a0 a1 a2 : D) : FN (n + 1) 66 [a0, a1, a2] = G66 (RP n) a0 a1 a2 := G66_eq _ a0 a1 a2
theorem G69_eq {Δ N R W M E Ω : Type} (pr : Pr Δ N R W M E Ω) (a0 a1 : Δ) : fun3 pr tb Try.prog 400 69 [a0, a1] = G69 pr a0 a1 := by kernel_rfl
theorem F69 (n : Nat) (a0 a1 : D) : FN (n + 1) 69 [a0, a1] = G69 (RP n) a0 a1 := G69_eq _ a0 a1
theorem G70_eq {Δ N R W M E Ω : Type} (pr : Pr Δ N R W M E Ω) (a0 a1 a2 a3 : Δ) : fun3 pr tb Try.prog 400 70 [a0, a1, a2, a3] = G70 pr a0 a1 a2 a3 := by kernel_rfl
theorem F70 (n : Nat) (a0 a1 a2 a3 : D) : FN (n + 1) 70 [a0, a1, a2, a3] = G70 (RP n) a0 a1 a2 a3 := G70_eq _ a0 a1 a2 a3
theorem G71_eq {Δ N R W M E Ω : Type} (pr : Pr Δ N R W M E Ω) (a0 a1 a2 : Δ) : fun3 pr tb Try.prog 400 71 [a0, a1, a2] = G71 pr a0 a1 a2 := by kernel_rfl
theorem F71 (n : Nat) (a0 a1 a2 : D) : FN (n + 1) 71 [a0, a1, a2] = G71 (RP n) a0 a1 a2 := G71_eq _ a0 a1 a2
theorem G72_eq {Δ N R W M E Ω : Type} (pr : Pr Δ N R W M E Ω) (a0 a1 a2 : Δ) : fun3 pr tb Try.prog 400 72 [a0, a1, a2] = G72 pr a0 a1 a2 := by kernel_rfl
theorem F72 (n : Nat) (a0 a1 a2 : D) : FN (n + 1) 72 [a0, a1, a2] = G72 (RP n) a0 a1 a2 := G72_eq _ a0 a1 a2
theorem G73_eq {Δ N R W M E Ω : Type} (pr : Pr Δ N R W M E Ω) (a0 a1 a2 a3 : Δ) : fun3 pr tb Try.prog 400 73 [a0, a1, a2, a3] = G73 pr a0 a1 a2 a3 := by kernel_rfl
theorem F73 (n : Nat) (a0 a1 a2 a3 : D) : FN (n + 1) 73 [a0, a1, a2, a3] = G73 (RP n) a0 a1 a2 a3 := G73_eq _ a0 a1 a2 a3
theorem G77_eq {Δ N R W M E Ω : Type} (pr : Pr Δ N R W M E Ω) (a0 a1 a2 a3 : Δ) : fun3 pr tb Try.prog 400 77 [a0, a1, a2, a3] = G77 pr a0 a1 a2 a3 := by kernel_rfl
theorem F77 (n : Nat) (a0 a1 a2 a3 : D) : FN (n + 1) 77 [a0, a1, a2, a3] = G77 (RP n) a0 a1 a2 a3 := G77_eq _ a0 a1 a2 a3
theorem G78_eq {Δ N R W M E Ω : Type} (pr : Pr Δ N R W M E Ω) (a0 a1 a2 : Δ) : fun3 pr tb Try.prog 400 78 [a0, a1, a2] = G78 pr a0 a1 a2 := by kernel_rfl
theorem F78 (n : Nat) (a0 a1 a2 : D) : FN (n + 1) 78 [a0, a1, a2] = G78 (RP n) a0 a1 a2 := G78_eq _ a0 a1 a2
theorem G79_eq {Δ N R W M E Ω : Type} (pr : Pr Δ N R W M E Ω) (a0 a1 a2 a3 : Δ) : fun3 pr tb Try.prog 400 79 [a0, a1, a2, a3] = G79 pr a0 a1 a2 a3 := by kernel_rfl
theorem F79 (n : Nat) (a0 a1 a2 a3 : D) : FN (n + 1) 79 [a0, a1, a2, a3] = G79 (RP n) a0 a1 a2 a3 := G79_eq _ a0 a1 a2 a3
theorem G80_eq {Δ N R W M E Ω : Type} (pr : Pr Δ N R W M E Ω) (a0 a1 a2 : Δ) : fun3 pr tb Try.prog 400 80 [a0, a1, a2] = G80 pr a0 a1 a2 := by kernel_rfl
theorem F80 (n : Nat) (a0 a1 a2 : D) : FN (n + 1) 80 [a0, a1, a2] = G80 (RP n) a0 a1 a2 := G80_eq _ a0 a1 a2
theorem G81_eq {Δ N R W M E Ω : Type} (pr : Pr Δ N R W M E Ω) (a0 a1 a2 a3 : Δ) : fun3 pr tb Try.prog 400 81 [a0, a1, a2, a3] = G81 pr a0 a1 a2 a3 := by kernel_rfl
theorem F81 (n : Nat) (a0 a1 a2 a3 : D) : FN (n + 1) 81 [a0, a1, a2, a3] = G81 (RP n) a0 a1 a2 a3 := G81_eq _ a0 a1 a2 a3
theorem G82_eq {Δ N R W M E Ω : Type} (pr : Pr Δ N R W M E Ω) (a0 a1 a2 a3 : Δ) : fun3 pr tb Try.prog 400 82 [a0, a1, a2, a3] = G82 pr a0 a1 a2 a3 := by kernel_rfl
theorem F82 (n : Nat) (a0 a1 a2 a3 : D) : FN (n + 1) 82 [a0, a1, a2, a3] = G82 (RP n) a0 a1 a2 a3 := G82_eq _ a0 a1 a2 a3
theorem G83_eq {Δ N R W M E Ω : Type} (pr : Pr Δ N R W M E Ω) (a0 a1 : Δ) : fun3 pr tb Try.prog 400 83 [a0, a1] = G83 pr a0 a1 := by kernel_rfl
theorem F83 (n : Nat) (a0 a1 : D) : FN (n + 1) 83 [a0, a1] = G83 (RP n) a0 a1 := G83_eq _ a0 a1
theorem G89_eq {Δ N R W M E Ω : Type} (pr : Pr Δ N R W M E Ω) (a0 a1 : Δ) : fun3 pr tb Try.prog 400 89 [a0, a1] = G89 pr a0 a1 := by kernel_rfl
theorem F89 (n : Nat) (a0 a1 : D) : FN (n + 1) 89 [a0, a1] = G89 (RP n) a0 a1 := G89_eq _ a0 a1
theorem G90_eq {Δ N R W M E Ω : Type} (pr : Pr Δ N R W M E Ω) (a0 a1 : Δ) : fun3 pr tb Try.prog 400 90 [a0, a1] = G90 pr a0 a1 := by kernel_rfl
theorem F90 (n : Nat) (a0 a1 : D) : FN (n + 1) 90 [a0, a1] = G90 (RP n) a0 a1 := G90_eq _ a0 a1
theorem G93_eq {Δ N R W M E Ω : Type} (pr : Pr Δ N R W M E Ω) (a0 a1 : Δ) : fun3 pr tb Try.prog 400 93 [a0, a1] = G93 pr a0 a1 := by kernel_rfl
theorem F93 (n : Nat) (a0 a1 : D) : FN (n + 1) 93 [a0, a1] = G93 (RP n) a0 a1 := G93_eq _ a0 a1
theorem G94_eq {Δ N R W M E Ω : Type} (pr : Pr Δ N R W M E Ω) (a0 a1 : Δ) : fun3 pr tb Try.prog 400 94 [a0, a1] = G94 pr a0 a1 := by kernel_rfl
theorem F94 (n : Nat) (a0 a1 : D) : FN (n + 1) 94 [a0, a1] = G94 (RP n) a0 a1 := G94_eq _ a0 a1
theorem G95_eq {Δ N R W M E Ω : Type} (pr : Pr Δ N R W M E Ω) (a0 a1 a2 a3 : Δ) : fun3 pr tb Try.prog 400 95 [a0, a1, a2, a3] = G95 pr a0 a1 a2 a3 := by kernel_rfl
theorem F95 (n : Nat) (a0 a1 a2 a3 : D) : FN (n + 1) 95 [a0, a1, a2, a3] = G95 (RP n) a0 a1 a2 a3 := G95_eq _ a0 a1 a2 a3
theorem G98_eq {Δ N R W M E Ω : Type} (pr : Pr Δ N R W M E Ω) (a0 : Δ) : fun3 pr tb Try.prog 400 98 [a0] = G98 pr a0 := by kernel_rfl
theorem F98 (n : Nat) (a0 : D) : FN (n + 1) 98 [a0] = G98 (RP n) a0 := G98_eq _ a0
theorem G106_eq {Δ N R W M E Ω : Type} (pr : Pr Δ N R W M E Ω) (a0 : Δ) : fun3 pr tb Try.prog 400 106 [a0] = G106 pr a0 := by kernel_rfl
theorem F106 (n : Nat) (a0 : D) : FN (n + 1) 106 [a0] = G106 (RP n) a0 := G106_eq _ a0
theorem G107_eq {Δ N R W M E Ω : Type} (pr : Pr Δ N R W M E Ω) (a0 a1 : Δ) : fun3 pr tb Try.prog 400 107 [a0, a1] = G107 pr a0 a1 := by kernel_rfl
theorem F107 (n : Nat) (a0 a1 : D) : FN (n + 1) 107 [a0, a1] = G107 (RP n) a0 a1 := G107_eq _ a0 a1
end Go.VE
