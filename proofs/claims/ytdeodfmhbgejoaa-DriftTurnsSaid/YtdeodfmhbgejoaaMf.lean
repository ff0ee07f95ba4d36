/- The tables of this program. -/
import Derived.Test.YtdeodfmhbgejoaaMc
import Derived.Test.YtdeodfmhbgejoaaProg
import Derived.KernelRfl
import Derived.Test.YtdeodfmhbgejoaaMe
namespace Go.VE
open Go.RowKit Go.Proofs

def liveT : Nat → Nat → Option (List Nat) := fun f i => match f with
  | 4 => (match i with
    | 0 => some [1, 6, 7, 10, 16]
    | _ => none)
  | 6 => (match i with
    | 0 => some [2, 8, 10, 11, 12, 14, 16, 17, 18]
    | 2 => some [2, 8, 10, 11, 12, 14, 16, 17, 18, 19, 20]
    | _ => none)
  | 9 => (match i with
    | 0 => some [2, 4, 8, 9, 10, 12, 16, 17, 18]
    | 2 => some [4, 8, 9, 10, 21, 22]
    | 4 => some [4, 8, 9, 10, 21, 22, 23, 25, 26]
    | _ => none)
  | 10 => (match i with
    | 0 => some [14, 28, 30, 31]
    | _ => none)
  | 14 => (match i with
    | 0 => some [0, 1, 5, 6]
    | _ => none)
  | 15 => (match i with
    | 0 => some [1, 23, 24, 25]
    | 2 => some [5, 53, 54, 55]
    | _ => none)
  | 16 => (match i with
    | 0 => some [1, 3]
    | 2 => some [1, 4]
    | _ => none)
  | 17 => (match i with
    | 0 => some [1, 2, 18, 19, 20]
    | _ => none)
  | 25 => (match i with
    | 0 => some [1, 2, 4, 5]
    | 2 => some [1, 2, 4, 8]
    | 4 => some [1, 2, 4, 10, 11]
    | _ => none)
  | 31 => (match i with
    | 0 => some [3, 9, 10, 31, 32]
    | _ => none)
  | 32 => (match i with
    | 0 => some [1, 3, 5, 26, 27, 28]
    | 2 => some [1, 11, 53, 54, 55]
    | _ => none)
  | 34 => (match i with
    | 0 => some [1, 4, 8, 9]
    | _ => none)
  | 38 => (match i with
    | 0 => some [3, 8, 9, 10]
    | _ => none)
  | 39 => (match i with
    | 0 => some [1, 8, 9, 10]
    | _ => none)
  | 46 => (match i with
    | 0 => some [1, 2, 3, 9, 10]
    | _ => none)
  | 48 => (match i with
    | 0 => some [1, 2, 8, 9, 10, 30, 31, 32]
    | _ => none)
  | 49 => (match i with
    | 0 => some [1, 2, 7, 8, 9]
    | _ => none)
  | 50 => (match i with
    | 0 => some [0, 1, 5, 6]
    | _ => none)
  | 51 => (match i with
    | 0 => some [0, 1, 5, 6]
    | _ => none)
  | 54 => (match i with
    | 0 => some [1, 3, 5, 8, 9, 10]
    | _ => none)
  | 60 => (match i with
    | 0 => some [0, 3, 9, 10, 11]
    | 2 => some [6, 25, 26, 27]
    | _ => none)
  | 62 => (match i with
    | 0 => some [3, 8, 9, 10]
    | _ => none)
  | 63 => (match i with
    | 0 => some [1, 2, 5]
    | _ => none)
  | 66 => (match i with
    | 0 => some [1, 2, 5]
    | 2 => some [1, 2, 5, 6]
    | _ => none)
  | 68 => (match i with
    | 0 => some [0, 2, 3, 4, 5]
    | _ => none)
  | 72 => (match i with
    | 0 => some [1, 4, 5, 9, 10, 11]
    | _ => none)
  | 73 => (match i with
    | 0 => some [5, 6, 22, 23, 24]
    | _ => none)
  | 74 => (match i with
    | 0 => some [4, 5, 6, 7, 14, 15, 16]
    | _ => none)
  | 76 => (match i with
    | 0 => some [0, 5, 17, 18, 19]
    | _ => none)
  | 78 => (match i with
    | 0 => some [1, 2, 4, 5, 6]
    | _ => none)
  | 79 => (match i with
    | 0 => some [2, 3, 5, 6]
    | _ => none)
  | 80 => (match i with
    | 0 => some [1, 2, 5]
    | _ => none)
  | 81 => (match i with
    | 0 => some [2, 3, 5, 6]
    | _ => none)
  | 82 => (match i with
    | 0 => some [2, 3, 7, 8]
    | _ => none)
  | 84 => (match i with
    | 0 => some [0, 4, 5, 7, 54, 55]
    | _ => none)
  | 85 => (match i with
    | 0 => some [0, 5, 8, 9, 10]
    | _ => none)
  | 86 => (match i with
    | 0 => some [0, 1, 4, 5, 6]
    | _ => none)
  | 87 => (match i with
    | 0 => some [1, 2, 4, 5]
    | _ => none)
  | 88 => (match i with
    | 0 => some [1, 2, 3, 7]
    | _ => none)
  | 90 => (match i with
    | 0 => some [0, 1, 7, 8]
    | _ => none)
  | 98 => (match i with
    | 0 => some [3, 6, 7, 8]
    | _ => none)
  | 101 => (match i with
    | 0 => some [0, 1, 4, 5, 6]
    | _ => none)
  | 102 => (match i with
    | 0 => some [1, 2, 3, 7, 8, 9]
    | 2 => some [2, 3, 7, 8, 10, 11, 12]
    | 4 => some [2, 3, 7, 8, 10, 11, 12, 13]
    | _ => none)
  | 103 => (match i with
    | 0 => some [0, 1, 4, 5, 6]
    | _ => none)
  | 107 => (match i with
    | 0 => some [0, 1, 7, 8]
    | _ => none)
  | 108 => (match i with
    | 0 => some [0, 1, 2, 3, 5]
    | _ => none)
  | 109 => (match i with
    | 0 => some [0, 1, 7, 8]
    | _ => none)
  | _ => none
def tab : Tab := ⟨fun f => f == 96 || f == 108, liveT⟩
end Go.VE
/- The examples that each law asks first. -/
namespace Go.VE
open Go.RowKit Go.Proofs

theorem mixP : Try.prog.follows .mixedOrders = true := by kernel_rfl
theorem sane_sc : SC Try.prog 11 [] (.one (.d (.lit (.bool true)))) := evalF_sc mixP (T := tab) (fuel := 300) 20 11 [] _ (by kernel_rfl)
end Go.VE
/- The tables of this program, made by a program of ours: which functions run in place; the forms of states at loops and joins; the forms of arguments and results. -/
namespace Go.VE
open Go.RowKit Go.Proofs

def findK {α : Type} (b p : Nat) : List (Nat × Nat × α) → Option α
  | [] => none
  | (b1, p1, x) :: r => if b = b1 ∧ p = p1 then some x else findK b p r
def getL {α : Type} : Option (List α) → List α
  | some l => l
  | none => []
def findP (q : Nat) : List (Nat × Nat) → Option Nat
  | [] => none
  | (a, b) :: r => if q = a then some b else findP q r
def findD (q : Nat) : List (Nat × List (Nat × Nat)) → List (Nat × Nat)
  | [] => []
  | (a, b) :: r => if q = a then b else findD q r
def lpT : Nat → List (Nat × Nat × List (Sk × List Sk × List (Ex × Sk)))
  | 4 => [(0, 0, [(⟨[(1, .one (.d ())), (6, .one (.ptr 6 0)), (7, .one (.d ())), (10, .one (.d ())), (16, .one (.d ()))], [(6, .box [.d (), .d ()] 25)], [], none⟩, [⟨[(1, .one (.d ())), (6, .one (.ptr 6 0)), (7, .one (.d ())), (10, .one (.d ())), (16, .one (.d ()))], [(6, .box [.d (), .d ()] 25)], [], none⟩], [(.ret, ⟨[(4, .one (.d ()))], [], [], none⟩), (.normal, ⟨[], [], [], none⟩)])])]
  | 6 => [(0, 2, [(⟨[(2, .one (.d ())), (8, .one (.ptr 8 0)), (10, .one (.ptr 10 0)), (11, .one (.ptr 11 0)), (12, .one (.ptr 12 0)), (14, .one (.d ())), (16, .one (.d ())), (17, .one (.d ())), (18, .one (.d ())), (19, .one (.nil)), (20, .one (.d ()))], [(12, .box [.d (), .d ()] 28), (11, .box [.d (), .d ()] 67), (10, .box [.d (), .d ()] 67), (8, .box [.d (), .d ()] 25)], [], none⟩, [⟨[(2, .one (.d ())), (8, .one (.ptr 8 0)), (10, .one (.ptr 10 0)), (11, .one (.ptr 11 0)), (12, .one (.ptr 12 0)), (14, .one (.d ())), (16, .one (.d ())), (17, .one (.d ())), (18, .one (.d ())), (19, .one (.nil)), (20, .one (.d ()))], [(12, .box [.d (), .d ()] 28), (11, .box [.d (), .d ()] 67), (10, .box [.d (), .d ()] 67), (8, .box [.d (), .d ()] 25)], [], none⟩, ⟨[(2, .one (.d ())), (8, .one (.ptr 8 0)), (10, .one (.ptr 10 0)), (11, .one (.ptr 11 0)), (12, .one (.ptr 12 0)), (14, .one (.d ())), (16, .one (.d ())), (17, .one (.d ())), (18, .one (.d ())), (19, .one (.slk 131 none () ())), (20, .one (.d ()))], [(131, .arr () 1 3 true), (12, .box [.d (), .d ()] 28), (11, .box [.d (), .d ()] 67), (10, .box [.d (), .d ()] 67), (8, .box [.d (), .d ()] 25)], [], none⟩], [(.normal, ⟨[(2, .one (.d ())), (8, .one (.ptr 8 0)), (10, .one (.ptr 10 0)), (11, .one (.ptr 11 0)), (12, .one (.ptr 12 0)), (14, .one (.d ())), (16, .one (.d ())), (17, .one (.d ())), (18, .one (.d ())), (19, .one (.nil))], [(12, .box [.d (), .d ()] 28), (11, .box [.d (), .d ()] 67), (10, .box [.d (), .d ()] 67), (8, .box [.d (), .d ()] 25)], [], none⟩), (.normal, ⟨[(2, .one (.d ())), (8, .one (.ptr 8 0)), (10, .one (.ptr 10 0)), (11, .one (.ptr 11 0)), (12, .one (.ptr 12 0)), (14, .one (.d ())), (16, .one (.d ())), (17, .one (.d ())), (18, .one (.d ())), (19, .one (.slk 131 none () ()))], [(131, .arr () 1 3 true), (12, .box [.d (), .d ()] 28), (11, .box [.d (), .d ()] 67), (10, .box [.d (), .d ()] 67), (8, .box [.d (), .d ()] 25)], [], none⟩)])]), (0, 0, [(⟨[(2, .one (.d ())), (8, .one (.ptr 8 0)), (10, .one (.ptr 10 0)), (11, .one (.ptr 11 0)), (12, .one (.ptr 12 0)), (14, .one (.d ())), (16, .one (.d ())), (17, .one (.d ())), (18, .one (.d ()))], [(12, .box [.d (), .d ()] 28), (11, .box [.d (), .d ()] 67), (10, .box [.d (), .d ()] 67), (8, .box [.d (), .d ()] 25)], [], none⟩, [⟨[(2, .one (.d ())), (8, .one (.ptr 8 0)), (10, .one (.ptr 10 0)), (11, .one (.ptr 11 0)), (12, .one (.ptr 12 0)), (14, .one (.d ())), (16, .one (.d ())), (17, .one (.d ())), (18, .one (.d ()))], [(12, .box [.d (), .d ()] 28), (11, .box [.d (), .d ()] 67), (10, .box [.d (), .d ()] 67), (8, .box [.d (), .d ()] 25)], [], none⟩], [(.normal, ⟨[(14, .one (.d ())), (16, .one (.d ())), (17, .one (.d ()))], [], [], none⟩), (.ret, ⟨[(6, .one (.d ()))], [], [], none⟩)])])]
  | 9 => [(0, 4, [(⟨[(4, .one (.ptr 4 0)), (8, .one (.ptr 8 0)), (9, .one (.d ())), (10, .one (.ptr 10 0)), (21, .one (.ptr 21 0)), (22, .one (.d ())), (23, .one (.d ())), (25, .one (.ptr 25 0)), (26, .one (.d ()))], [(25, .box [.d (), .d ()] 58), (21, .box [.d (), .nil] 95), (10, .box [.d (), .d ()] 58), (8, .box [.d (), .d ()] 25), (4, .box [.d (), .d (), .d (), .d ()] 91)], [], none⟩, [⟨[(4, .one (.ptr 4 0)), (8, .one (.ptr 8 0)), (9, .one (.d ())), (10, .one (.ptr 10 0)), (21, .one (.ptr 21 0)), (22, .one (.d ())), (23, .one (.d ())), (25, .one (.ptr 25 0)), (26, .one (.d ()))], [(25, .box [.d (), .d ()] 58), (21, .box [.d (), .nil] 95), (10, .box [.d (), .d ()] 58), (8, .box [.d (), .d ()] 25), (4, .box [.d (), .d (), .d (), .d ()] 91)], [], none⟩], [(.ret, ⟨[(6, .one (.d ()))], [], [], none⟩), (.normal, ⟨[(4, .one (.ptr 4 0)), (8, .one (.ptr 8 0)), (9, .one (.d ())), (10, .one (.ptr 10 0)), (21, .one (.ptr 21 0)), (22, .one (.d ())), (25, .one (.ptr 25 0))], [(25, .box [.d (), .d ()] 58), (21, .box [.d (), .nil] 95), (10, .box [.d (), .d ()] 58), (8, .box [.d (), .d ()] 25), (4, .box [.d (), .d (), .d (), .d ()] 91)], [], none⟩)]), (⟨[(4, .one (.ptr 4 0)), (8, .one (.ptr 8 0)), (9, .one (.d ())), (10, .one (.ptr 10 0)), (21, .one (.ptr 21 0)), (22, .one (.d ())), (23, .one (.d ())), (25, .one (.ptr 25 0)), (26, .one (.d ()))], [(114, .arr () 2 67 true), (25, .box [.d (), .d ()] 58), (21, .box [.d (), .slk 114 none () ()] 95), (10, .box [.d (), .d ()] 58), (8, .box [.d (), .d ()] 25), (4, .box [.d (), .d (), .d (), .d ()] 91)], [], none⟩, [⟨[(4, .one (.ptr 4 0)), (8, .one (.ptr 8 0)), (9, .one (.d ())), (10, .one (.ptr 10 0)), (21, .one (.ptr 21 0)), (22, .one (.d ())), (23, .one (.d ())), (25, .one (.ptr 25 0)), (26, .one (.d ()))], [(114, .arr () 2 67 true), (25, .box [.d (), .d ()] 58), (21, .box [.d (), .slk 114 none () ()] 95), (10, .box [.d (), .d ()] 58), (8, .box [.d (), .d ()] 25), (4, .box [.d (), .d (), .d (), .d ()] 91)], [], none⟩], [(.ret, ⟨[(6, .one (.d ()))], [], [], none⟩), (.normal, ⟨[(4, .one (.ptr 4 0)), (8, .one (.ptr 8 0)), (9, .one (.d ())), (10, .one (.ptr 10 0)), (21, .one (.ptr 21 0)), (22, .one (.d ())), (25, .one (.ptr 25 0))], [(114, .arr () 2 67 true), (25, .box [.d (), .d ()] 58), (21, .box [.d (), .slk 114 none () ()] 95), (10, .box [.d (), .d ()] 58), (8, .box [.d (), .d ()] 25), (4, .box [.d (), .d (), .d (), .d ()] 91)], [], none⟩)])]), (0, 2, [(⟨[(4, .one (.ptr 4 0)), (8, .one (.ptr 8 0)), (9, .one (.d ())), (10, .one (.ptr 10 0)), (21, .one (.ptr 21 0)), (22, .one (.d ()))], [(21, .box [.d (), .nil] 95), (10, .box [.d (), .d ()] 58), (8, .box [.d (), .d ()] 25), (4, .box [.d (), .d (), .d (), .d ()] 91)], [], none⟩, [⟨[(4, .one (.ptr 4 0)), (8, .one (.ptr 8 0)), (9, .one (.d ())), (10, .one (.ptr 10 0)), (21, .one (.ptr 21 0)), (22, .one (.d ()))], [(21, .box [.d (), .nil] 95), (10, .box [.d (), .d ()] 58), (8, .box [.d (), .d ()] 25), (4, .box [.d (), .d (), .d (), .d ()] 91)], [], none⟩], [(.ret, ⟨[(6, .one (.d ()))], [], [], none⟩), (.normal, ⟨[], [], [], none⟩)]), (⟨[(4, .one (.ptr 4 0)), (8, .one (.ptr 8 0)), (9, .one (.d ())), (10, .one (.ptr 10 0)), (21, .one (.ptr 21 0)), (22, .one (.d ()))], [(114, .arr () 2 67 true), (21, .box [.d (), .slk 114 none () ()] 95), (10, .box [.d (), .d ()] 58), (8, .box [.d (), .d ()] 25), (4, .box [.d (), .d (), .d (), .d ()] 91)], [], none⟩, [⟨[(4, .one (.ptr 4 0)), (8, .one (.ptr 8 0)), (9, .one (.d ())), (10, .one (.ptr 10 0)), (21, .one (.ptr 21 0)), (22, .one (.d ()))], [(114, .arr () 2 67 true), (21, .box [.d (), .slk 114 none () ()] 95), (10, .box [.d (), .d ()] 58), (8, .box [.d (), .d ()] 25), (4, .box [.d (), .d (), .d (), .d ()] 91)], [], none⟩], [(.ret, ⟨[(6, .one (.d ()))], [], [], none⟩), (.normal, ⟨[], [], [], none⟩)])]), (0, 0, [(⟨[(2, .one (.d ())), (4, .one (.ptr 4 0)), (8, .one (.ptr 8 0)), (9, .one (.d ())), (10, .one (.ptr 10 0)), (12, .one (.d ())), (16, .one (.nil)), (17, .one (.d ())), (18, .one (.d ()))], [(10, .box [.d (), .d ()] 58), (8, .box [.d (), .d ()] 25), (4, .box [.d (), .d (), .d (), .d ()] 91)], [], none⟩, [⟨[(2, .one (.d ())), (4, .one (.ptr 4 0)), (8, .one (.ptr 8 0)), (9, .one (.d ())), (10, .one (.ptr 10 0)), (12, .one (.d ())), (16, .one (.nil)), (17, .one (.d ())), (18, .one (.d ()))], [(10, .box [.d (), .d ()] 58), (8, .box [.d (), .d ()] 25), (4, .box [.d (), .d (), .d (), .d ()] 91)], [], none⟩, ⟨[(2, .one (.d ())), (4, .one (.ptr 4 0)), (8, .one (.ptr 8 0)), (9, .one (.d ())), (10, .one (.ptr 10 0)), (12, .one (.d ())), (16, .one (.slk 114 none () ())), (17, .one (.d ())), (18, .one (.d ()))], [(114, .arr () 2 67 true), (10, .box [.d (), .d ()] 58), (8, .box [.d (), .d ()] 25), (4, .box [.d (), .d (), .d (), .d ()] 91)], [], none⟩], [(.normal, ⟨[(4, .one (.ptr 4 0)), (8, .one (.ptr 8 0)), (9, .one (.d ())), (10, .one (.ptr 10 0)), (12, .one (.d ())), (16, .one (.nil))], [(10, .box [.d (), .d ()] 58), (8, .box [.d (), .d ()] 25), (4, .box [.d (), .d (), .d (), .d ()] 91)], [], none⟩), (.normal, ⟨[(4, .one (.ptr 4 0)), (8, .one (.ptr 8 0)), (9, .one (.d ())), (10, .one (.ptr 10 0)), (12, .one (.d ())), (16, .one (.slk 114 none () ()))], [(114, .arr () 2 67 true), (10, .box [.d (), .d ()] 58), (8, .box [.d (), .d ()] 25), (4, .box [.d (), .d (), .d (), .d ()] 91)], [], none⟩)])])]
  | 10 => [(0, 0, [(⟨[(14, .one (.ptr 14 0)), (28, .one (.d ())), (30, .one (.d ())), (31, .one (.d ()))], [(14, .box [.d (), .d ()] 58)], [], none⟩, [⟨[(14, .one (.ptr 14 0)), (28, .one (.d ())), (30, .one (.d ())), (31, .one (.d ()))], [(14, .box [.d (), .d ()] 58)], [], none⟩], [(.ret, ⟨[(6, .one (.d ()))], [], [], none⟩), (.normal, ⟨[(30, .one (.d ()))], [], [], none⟩)])])]
  | 14 => [(0, 0, [(⟨[(0, .one (.d ())), (1, .one (.d ())), (5, .one (.d ())), (6, .one (.d ()))], [], [], none⟩, [⟨[(0, .one (.d ())), (1, .one (.d ())), (5, .one (.d ())), (6, .one (.d ()))], [], [], none⟩], [(.normal, ⟨[(5, .one (.d ()))], [], [], none⟩)])])]
  | 15 => [(0, 2, [(⟨[(5, .one (.mk 52000)), (53, .one (.d ())), (54, .one (.d ())), (55, .one (.d ()))], [(52000, .mp false () true)], [], none⟩, [⟨[(5, .one (.mk 52000)), (53, .one (.d ())), (54, .one (.d ())), (55, .one (.d ()))], [(52000, .mp false () true)], [], none⟩], [(.ret, ⟨[(2, .one (.d ()))], [], [], none⟩), (.normal, ⟨[], [], [], none⟩)])]), (0, 0, [(⟨[(1, .one (.ptr 1 0)), (23, .one (.d ())), (24, .one (.d ())), (25, .one (.d ()))], [(1, .box [.d (), .d ()] 25)], [], none⟩, [⟨[(1, .one (.ptr 1 0)), (23, .one (.d ())), (24, .one (.d ())), (25, .one (.d ()))], [(1, .box [.d (), .d ()] 25)], [], none⟩], [(.ret, ⟨[(2, .one (.d ()))], [], [], none⟩), (.normal, ⟨[(1, .one (.ptr 1 0))], [(1, .box [.d (), .d ()] 25)], [], none⟩)])])]
  | 16 => [(0, 2, [(⟨[(1, .one (.ptr 1 0)), (4, .one (.d ()))], [(1, .box [.d (), .d ()] 25)], [], none⟩, [⟨[(1, .one (.ptr 1 0)), (4, .one (.d ()))], [(1, .box [.d (), .d ()] 25)], [], none⟩], [(.ret, ⟨[(2, .one (.d ()))], [], [], none⟩), (.normal, ⟨[], [], [], none⟩)])]), (0, 0, [(⟨[(1, .one (.ptr 1 0)), (3, .one (.d ()))], [(1, .box [.d (), .d ()] 25)], [], none⟩, [⟨[(1, .one (.ptr 1 0)), (3, .one (.d ()))], [(1, .box [.d (), .d ()] 25)], [], none⟩], [(.ret, ⟨[(2, .one (.d ()))], [], [], none⟩), (.normal, ⟨[(1, .one (.ptr 1 0))], [(1, .box [.d (), .d ()] 25)], [], none⟩)])])]
  | 17 => [(0, 0, [(⟨[(1, .one (.d ())), (2, .one (.ptr 2 0)), (18, .one (.d ())), (19, .one (.d ())), (20, .one (.d ()))], [(2, .box [.d (), .d ()] 25)], [], none⟩, [⟨[(1, .one (.d ())), (2, .one (.ptr 2 0)), (18, .one (.d ())), (19, .one (.d ())), (20, .one (.d ()))], [(2, .box [.d (), .d ()] 25)], [], none⟩], [(.ret, ⟨[(4, .one (.d ()))], [], [], none⟩), (.normal, ⟨[], [], [], none⟩)])])]
  | 25 => [(0, 4, [(⟨[(1, .one (.ptr 1 0)), (2, .one (.ptr 2 0)), (4, .one (.ptr 4 0)), (10, .one (.nil)), (11, .one (.d ()))], [(4, .box [.nil, .nil] 25), (2, .box [.nil, .nil] 25), (1, .box [.d (), .d (), .d ()] 51)], [], none⟩, [⟨[(1, .one (.ptr 1 0)), (2, .one (.ptr 2 0)), (4, .one (.ptr 4 0)), (10, .one (.nil)), (11, .one (.d ()))], [(4, .box [.nil, .nil] 25), (2, .box [.nil, .nil] 25), (1, .box [.d (), .d (), .d ()] 51)], [], none⟩, ⟨[(1, .one (.ptr 1 0)), (2, .one (.ptr 2 0)), (4, .one (.ptr 4 0)), (10, .one (.slk 165 none () ())), (11, .one (.d ()))], [(165, .arr () 4 34 true), (4, .box [.nil, .nil] 25), (2, .box [.nil, .nil] 25), (1, .box [.d (), .d (), .d ()] 51)], [], none⟩], [(.normal, ⟨[(2, .one (.ptr 2 0)), (4, .one (.ptr 4 0)), (10, .one (.nil))], [(4, .box [.nil, .nil] 25), (2, .box [.nil, .nil] 25)], [], none⟩), (.normal, ⟨[(2, .one (.ptr 2 0)), (4, .one (.ptr 4 0)), (10, .one (.slk 165 none () ()))], [(165, .arr () 4 34 true), (4, .box [.nil, .nil] 25), (2, .box [.nil, .nil] 25)], [], none⟩)]), (⟨[(1, .one (.ptr 1 0)), (2, .one (.ptr 2 0)), (4, .one (.ptr 4 0)), (10, .one (.nil)), (11, .one (.d ()))], [(107, .arr () 3 32 true), (4, .box [.nil, .slk 107 none () ()] 25), (2, .box [.nil, .nil] 25), (1, .box [.d (), .d (), .d ()] 51)], [], none⟩, [⟨[(1, .one (.ptr 1 0)), (2, .one (.ptr 2 0)), (4, .one (.ptr 4 0)), (10, .one (.nil)), (11, .one (.d ()))], [(107, .arr () 3 32 true), (4, .box [.nil, .slk 107 none () ()] 25), (2, .box [.nil, .nil] 25), (1, .box [.d (), .d (), .d ()] 51)], [], none⟩, ⟨[(1, .one (.ptr 1 0)), (2, .one (.ptr 2 0)), (4, .one (.ptr 4 0)), (10, .one (.slk 165 none () ())), (11, .one (.d ()))], [(107, .arr () 3 32 true), (165, .arr () 4 34 true), (4, .box [.nil, .slk 107 none () ()] 25), (2, .box [.nil, .nil] 25), (1, .box [.d (), .d (), .d ()] 51)], [], none⟩], [(.normal, ⟨[(2, .one (.ptr 2 0)), (4, .one (.ptr 4 0)), (10, .one (.nil))], [(107, .arr () 3 32 true), (4, .box [.nil, .slk 107 none () ()] 25), (2, .box [.nil, .nil] 25)], [], none⟩), (.normal, ⟨[(2, .one (.ptr 2 0)), (4, .one (.ptr 4 0)), (10, .one (.slk 165 none () ()))], [(107, .arr () 3 32 true), (165, .arr () 4 34 true), (4, .box [.nil, .slk 107 none () ()] 25), (2, .box [.nil, .nil] 25)], [], none⟩)]), (⟨[(1, .one (.ptr 1 0)), (2, .one (.ptr 2 0)), (4, .one (.ptr 4 0)), (10, .one (.nil)), (11, .one (.d ()))], [(61, .arr () 3 30 true), (4, .box [.slk 61 none () (), .nil] 25), (2, .box [.nil, .nil] 25), (1, .box [.d (), .d (), .d ()] 51)], [], none⟩, [⟨[(1, .one (.ptr 1 0)), (2, .one (.ptr 2 0)), (4, .one (.ptr 4 0)), (10, .one (.nil)), (11, .one (.d ()))], [(61, .arr () 3 30 true), (4, .box [.slk 61 none () (), .nil] 25), (2, .box [.nil, .nil] 25), (1, .box [.d (), .d (), .d ()] 51)], [], none⟩, ⟨[(1, .one (.ptr 1 0)), (2, .one (.ptr 2 0)), (4, .one (.ptr 4 0)), (10, .one (.slk 165 none () ())), (11, .one (.d ()))], [(61, .arr () 3 30 true), (165, .arr () 4 34 true), (4, .box [.slk 61 none () (), .nil] 25), (2, .box [.nil, .nil] 25), (1, .box [.d (), .d (), .d ()] 51)], [], none⟩], [(.normal, ⟨[(2, .one (.ptr 2 0)), (4, .one (.ptr 4 0)), (10, .one (.nil))], [(61, .arr () 3 30 true), (4, .box [.slk 61 none () (), .nil] 25), (2, .box [.nil, .nil] 25)], [], none⟩), (.normal, ⟨[(2, .one (.ptr 2 0)), (4, .one (.ptr 4 0)), (10, .one (.slk 165 none () ()))], [(61, .arr () 3 30 true), (165, .arr () 4 34 true), (4, .box [.slk 61 none () (), .nil] 25), (2, .box [.nil, .nil] 25)], [], none⟩)]), (⟨[(1, .one (.ptr 1 0)), (2, .one (.ptr 2 0)), (4, .one (.ptr 4 0)), (10, .one (.nil)), (11, .one (.d ()))], [(107, .arr () 3 32 true), (61, .arr () 3 30 true), (4, .box [.slk 61 none () (), .slk 107 none () ()] 25), (2, .box [.nil, .nil] 25), (1, .box [.d (), .d (), .d ()] 51)], [], none⟩, [⟨[(1, .one (.ptr 1 0)), (2, .one (.ptr 2 0)), (4, .one (.ptr 4 0)), (10, .one (.nil)), (11, .one (.d ()))], [(107, .arr () 3 32 true), (61, .arr () 3 30 true), (4, .box [.slk 61 none () (), .slk 107 none () ()] 25), (2, .box [.nil, .nil] 25), (1, .box [.d (), .d (), .d ()] 51)], [], none⟩, ⟨[(1, .one (.ptr 1 0)), (2, .one (.ptr 2 0)), (4, .one (.ptr 4 0)), (10, .one (.slk 165 none () ())), (11, .one (.d ()))], [(107, .arr () 3 32 true), (61, .arr () 3 30 true), (165, .arr () 4 34 true), (4, .box [.slk 61 none () (), .slk 107 none () ()] 25), (2, .box [.nil, .nil] 25), (1, .box [.d (), .d (), .d ()] 51)], [], none⟩], [(.normal, ⟨[(2, .one (.ptr 2 0)), (4, .one (.ptr 4 0)), (10, .one (.nil))], [(107, .arr () 3 32 true), (61, .arr () 3 30 true), (4, .box [.slk 61 none () (), .slk 107 none () ()] 25), (2, .box [.nil, .nil] 25)], [], none⟩), (.normal, ⟨[(2, .one (.ptr 2 0)), (4, .one (.ptr 4 0)), (10, .one (.slk 165 none () ()))], [(107, .arr () 3 32 true), (61, .arr () 3 30 true), (165, .arr () 4 34 true), (4, .box [.slk 61 none () (), .slk 107 none () ()] 25), (2, .box [.nil, .nil] 25)], [], none⟩)])]), (0, 2, [(⟨[(1, .one (.ptr 1 0)), (2, .one (.ptr 2 0)), (4, .one (.ptr 4 0)), (8, .one (.d ()))], [(4, .box [.nil, .nil] 25), (2, .box [.nil, .nil] 25), (1, .box [.d (), .d (), .d ()] 51)], [], none⟩, [⟨[(1, .one (.ptr 1 0)), (2, .one (.ptr 2 0)), (4, .one (.ptr 4 0)), (8, .one (.d ()))], [(4, .box [.nil, .nil] 25), (2, .box [.nil, .nil] 25), (1, .box [.d (), .d (), .d ()] 51)], [], none⟩, ⟨[(1, .one (.ptr 1 0)), (2, .one (.ptr 2 0)), (4, .one (.ptr 4 0)), (8, .one (.d ()))], [(107, .arr () 3 32 true), (4, .box [.nil, .slk 107 none () ()] 25), (2, .box [.nil, .nil] 25), (1, .box [.d (), .d (), .d ()] 51)], [], none⟩], [(.normal, ⟨[(1, .one (.ptr 1 0)), (2, .one (.ptr 2 0)), (4, .one (.ptr 4 0))], [(4, .box [.nil, .nil] 25), (2, .box [.nil, .nil] 25), (1, .box [.d (), .d (), .d ()] 51)], [], none⟩), (.normal, ⟨[(1, .one (.ptr 1 0)), (2, .one (.ptr 2 0)), (4, .one (.ptr 4 0))], [(107, .arr () 3 32 true), (4, .box [.nil, .slk 107 none () ()] 25), (2, .box [.nil, .nil] 25), (1, .box [.d (), .d (), .d ()] 51)], [], none⟩)]), (⟨[(1, .one (.ptr 1 0)), (2, .one (.ptr 2 0)), (4, .one (.ptr 4 0)), (8, .one (.d ()))], [(61, .arr () 3 30 true), (4, .box [.slk 61 none () (), .nil] 25), (2, .box [.nil, .nil] 25), (1, .box [.d (), .d (), .d ()] 51)], [], none⟩, [⟨[(1, .one (.ptr 1 0)), (2, .one (.ptr 2 0)), (4, .one (.ptr 4 0)), (8, .one (.d ()))], [(61, .arr () 3 30 true), (4, .box [.slk 61 none () (), .nil] 25), (2, .box [.nil, .nil] 25), (1, .box [.d (), .d (), .d ()] 51)], [], none⟩, ⟨[(1, .one (.ptr 1 0)), (2, .one (.ptr 2 0)), (4, .one (.ptr 4 0)), (8, .one (.d ()))], [(107, .arr () 3 32 true), (61, .arr () 3 30 true), (4, .box [.slk 61 none () (), .slk 107 none () ()] 25), (2, .box [.nil, .nil] 25), (1, .box [.d (), .d (), .d ()] 51)], [], none⟩], [(.normal, ⟨[(1, .one (.ptr 1 0)), (2, .one (.ptr 2 0)), (4, .one (.ptr 4 0))], [(61, .arr () 3 30 true), (4, .box [.slk 61 none () (), .nil] 25), (2, .box [.nil, .nil] 25), (1, .box [.d (), .d (), .d ()] 51)], [], none⟩), (.normal, ⟨[(1, .one (.ptr 1 0)), (2, .one (.ptr 2 0)), (4, .one (.ptr 4 0))], [(107, .arr () 3 32 true), (61, .arr () 3 30 true), (4, .box [.slk 61 none () (), .slk 107 none () ()] 25), (2, .box [.nil, .nil] 25), (1, .box [.d (), .d (), .d ()] 51)], [], none⟩)])]), (0, 0, [(⟨[(1, .one (.ptr 1 0)), (2, .one (.ptr 2 0)), (4, .one (.ptr 4 0)), (5, .one (.d ()))], [(4, .box [.nil, .nil] 25), (2, .box [.nil, .nil] 25), (1, .box [.d (), .d (), .d ()] 51)], [], none⟩, [⟨[(1, .one (.ptr 1 0)), (2, .one (.ptr 2 0)), (4, .one (.ptr 4 0)), (5, .one (.d ()))], [(4, .box [.nil, .nil] 25), (2, .box [.nil, .nil] 25), (1, .box [.d (), .d (), .d ()] 51)], [], none⟩, ⟨[(1, .one (.ptr 1 0)), (2, .one (.ptr 2 0)), (4, .one (.ptr 4 0)), (5, .one (.d ()))], [(61, .arr () 3 30 true), (4, .box [.slk 61 none () (), .nil] 25), (2, .box [.nil, .nil] 25), (1, .box [.d (), .d (), .d ()] 51)], [], none⟩], [(.normal, ⟨[(1, .one (.ptr 1 0)), (2, .one (.ptr 2 0)), (4, .one (.ptr 4 0))], [(4, .box [.nil, .nil] 25), (2, .box [.nil, .nil] 25), (1, .box [.d (), .d (), .d ()] 51)], [], none⟩), (.normal, ⟨[(1, .one (.ptr 1 0)), (2, .one (.ptr 2 0)), (4, .one (.ptr 4 0))], [(61, .arr () 3 30 true), (4, .box [.slk 61 none () (), .nil] 25), (2, .box [.nil, .nil] 25), (1, .box [.d (), .d (), .d ()] 51)], [], none⟩)])])]
  | 31 => [(0, 0, [(⟨[(3, .one (.ptr 3 0)), (9, .one (.slk 27000 none () ())), (10, .one (.slk 30000 none () ())), (31, .one (.d ())), (32, .one (.d ()))], [(30000, .arr () 1 3 true), (27000, .arr () 1 3 true), (3, .box [.d (), .d ()] 25)], [], none⟩, [⟨[(3, .one (.ptr 3 0)), (9, .one (.slk 27000 none () ())), (10, .one (.slk 30000 none () ())), (31, .one (.d ())), (32, .one (.d ()))], [(30000, .arr () 1 3 true), (27000, .arr () 1 3 true), (3, .box [.d (), .d ()] 25)], [], none⟩], [(.normal, ⟨[(3, .one (.ptr 3 0)), (9, .one (.slk 27000 none () ()))], [(27000, .arr () 1 3 true), (3, .box [.d (), .d ()] 25)], [], none⟩)])])]
  | 32 => [(0, 2, [(⟨[(1, .one (.d ())), (11, .one (.d ())), (53, .one (.slk 54000 none () ())), (54, .one (.d ())), (55, .one (.d ()))], [(54000, .arr () 1 3 true)], [], none⟩, [⟨[(1, .one (.d ())), (11, .one (.d ())), (53, .one (.slk 54000 none () ())), (54, .one (.d ())), (55, .one (.d ()))], [(54000, .arr () 1 3 true)], [], none⟩], [(.normal, ⟨[(11, .one (.d ()))], [], [], none⟩)])]), (0, 0, [(⟨[(1, .one (.d ())), (3, .one (.ptr 3 0)), (5, .one (.ptr 5 0)), (26, .one (.d ())), (27, .one (.d ())), (28, .one (.d ()))], [(5, .box [.d (), .d ()] 67), (3, .box [.d (), .d ()] 25)], [], none⟩, [⟨[(1, .one (.d ())), (3, .one (.ptr 3 0)), (5, .one (.ptr 5 0)), (26, .one (.d ())), (27, .one (.d ())), (28, .one (.d ()))], [(5, .box [.d (), .d ()] 67), (3, .box [.d (), .d ()] 25)], [], none⟩], [(.ret, ⟨[(6, .one (.d ())), (7, .one (.d ()))], [], [], none⟩), (.normal, ⟨[(1, .one (.d ())), (3, .one (.ptr 3 0)), (5, .one (.ptr 5 0))], [(5, .box [.d (), .d ()] 67), (3, .box [.d (), .d ()] 25)], [], none⟩)])])]
  | 34 => [(0, 0, [(⟨[(1, .one (.d ())), (4, .one (.ptr 4 0)), (8, .one (.ptr 8 0)), (9, .one (.ptr 9 0))], [(9, .box [.d (), .d ()] 75), (8, .box [.d (), .d (), .d ()] 125), (4, .box [.d (), .d ()] 75)], [], none⟩, [⟨[(1, .one (.d ())), (4, .one (.ptr 4 0)), (8, .one (.ptr 8 0)), (9, .one (.ptr 9 0))], [(9, .box [.d (), .d ()] 75), (8, .box [.d (), .d (), .d ()] 125), (4, .box [.d (), .d ()] 75)], [], none⟩], [(.normal, ⟨[(4, .one (.ptr 4 0)), (9, .one (.ptr 9 0))], [(9, .box [.d (), .d ()] 75), (4, .box [.d (), .d ()] 75)], [], none⟩)]), (⟨[(1, .one (.d ())), (4, .one (.ptr 4 0)), (8, .one (.ptr 8 0)), (9, .one (.ptr 9 0))], [(22000, .arr () 1 3 true), (9, .box [.d (), .d ()] 75), (8, .box [.d (), .slk 22000 none () (), .d ()] 125), (4, .box [.d (), .d ()] 75)], [], none⟩, [⟨[(1, .one (.d ())), (4, .one (.ptr 4 0)), (8, .one (.ptr 8 0)), (9, .one (.ptr 9 0))], [(22000, .arr () 1 3 true), (9, .box [.d (), .d ()] 75), (8, .box [.d (), .slk 22000 none () (), .d ()] 125), (4, .box [.d (), .d ()] 75)], [], none⟩], [(.normal, ⟨[(4, .one (.ptr 4 0)), (9, .one (.ptr 9 0))], [(9, .box [.d (), .d ()] 75), (4, .box [.d (), .d ()] 75)], [], none⟩)])])]
  | 38 => [(0, 0, [(⟨[(3, .one (.ptr 3 0)), (8, .one (.slk 28000 none () ())), (9, .one (.slk 31000 none () ())), (10, .one (.d ()))], [(31000, .arr () 1 3 true), (28000, .arr () 1 3 true), (3, .box [.d (), .d ()] 25)], [], none⟩, [⟨[(3, .one (.ptr 3 0)), (8, .one (.slk 28000 none () ())), (9, .one (.slk 31000 none () ())), (10, .one (.d ()))], [(31000, .arr () 1 3 true), (28000, .arr () 1 3 true), (3, .box [.d (), .d ()] 25)], [], none⟩], [(.normal, ⟨[(3, .one (.ptr 3 0)), (8, .one (.slk 28000 none () ()))], [(28000, .arr () 1 3 true), (3, .box [.d (), .d ()] 25)], [], none⟩)])])]
  | 39 => [(0, 0, [(⟨[(1, .one (.d ())), (8, .one (.slk 25000 none () ())), (9, .one (.d ())), (10, .one (.d ()))], [(25000, .arr () 1 3 true)], [], none⟩, [⟨[(1, .one (.d ())), (8, .one (.slk 25000 none () ())), (9, .one (.d ())), (10, .one (.d ()))], [(25000, .arr () 1 3 true)], [], none⟩], [(.normal, ⟨[(9, .one (.d ()))], [], [], none⟩)])])]
  | 46 => [(0, 0, [(⟨[(1, .one (.d ())), (2, .one (.d ())), (3, .one (.ptr 3 0)), (9, .one (.nil)), (10, .one (.d ()))], [(3, .box [.d (), .d ()] 25)], [], none⟩, [⟨[(1, .one (.d ())), (2, .one (.d ())), (3, .one (.ptr 3 0)), (9, .one (.nil)), (10, .one (.d ()))], [(3, .box [.d (), .d ()] 25)], [], none⟩, ⟨[(1, .one (.d ())), (2, .one (.d ())), (3, .one (.ptr 3 0)), (9, .one (.slk 44 none () ())), (10, .one (.d ()))], [(44, .arr () 2 58 true), (3, .box [.d (), .d ()] 25)], [], none⟩], [(.normal, ⟨[(9, .one (.nil))], [], [], none⟩), (.normal, ⟨[(9, .one (.slk 44 none () ()))], [(44, .arr () 2 58 true)], [], none⟩)])])]
  | 48 => [(0, 0, [(⟨[(1, .one (.d ())), (2, .one (.ptr 2 0)), (8, .one (.ptr 8 0)), (9, .one (.d ())), (10, .one (.nil)), (30, .one (.d ())), (31, .one (.d ())), (32, .one (.d ()))], [(8, .box [.d (), .d ()] 58), (2, .box [.d (), .d ()] 25)], [], none⟩, [⟨[(1, .one (.d ())), (2, .one (.ptr 2 0)), (8, .one (.ptr 8 0)), (9, .one (.d ())), (10, .one (.nil)), (30, .one (.d ())), (31, .one (.d ())), (32, .one (.d ()))], [(8, .box [.d (), .d ()] 58), (2, .box [.d (), .d ()] 25)], [], none⟩, ⟨[(1, .one (.d ())), (2, .one (.ptr 2 0)), (8, .one (.ptr 8 0)), (9, .one (.d ())), (10, .one (.slk 63 none () ())), (30, .one (.d ())), (31, .one (.d ())), (32, .one (.d ()))], [(63, .arr () 1 3 true), (8, .box [.d (), .d ()] 58), (2, .box [.d (), .d ()] 25)], [], none⟩], [(.normal, ⟨[(10, .one (.nil))], [], [], none⟩), (.normal, ⟨[(10, .one (.slk 63 none () ()))], [(63, .arr () 1 3 true)], [], none⟩)])])]
  | 49 => [(0, 0, [(⟨[(1, .one (.d ())), (2, .one (.ptr 2 0)), (7, .one (.ptr 7 0)), (8, .one (.nil)), (9, .one (.d ()))], [(7, .box [.d (), .d ()] 58), (2, .box [.d (), .d ()] 25)], [], none⟩, [⟨[(1, .one (.d ())), (2, .one (.ptr 2 0)), (7, .one (.ptr 7 0)), (8, .one (.nil)), (9, .one (.d ()))], [(7, .box [.d (), .d ()] 58), (2, .box [.d (), .d ()] 25)], [], none⟩, ⟨[(1, .one (.d ())), (2, .one (.ptr 2 0)), (7, .one (.ptr 7 0)), (8, .one (.slk 53 none () ())), (9, .one (.d ()))], [(53, .arr () 1 3 true), (7, .box [.d (), .d ()] 58), (2, .box [.d (), .d ()] 25)], [], none⟩], [(.normal, ⟨[(8, .one (.nil))], [], [], none⟩), (.normal, ⟨[(8, .one (.slk 53 none () ()))], [(53, .arr () 1 3 true)], [], none⟩)])])]
  | 50 => [(0, 0, [(⟨[(0, .one (.d ())), (1, .one (.d ())), (5, .one (.d ())), (6, .one (.d ()))], [], [], none⟩, [⟨[(0, .one (.d ())), (1, .one (.d ())), (5, .one (.d ())), (6, .one (.d ()))], [], [], none⟩], [(.normal, ⟨[(5, .one (.d ()))], [], [], none⟩)])])]
  | 51 => [(0, 0, [(⟨[(0, .one (.d ())), (1, .one (.d ())), (5, .one (.d ())), (6, .one (.d ()))], [], [], none⟩, [⟨[(0, .one (.d ())), (1, .one (.d ())), (5, .one (.d ())), (6, .one (.d ()))], [], [], none⟩], [(.normal, ⟨[(5, .one (.d ()))], [], [], none⟩)])])]
  | 54 => [(0, 0, [(⟨[(1, .one (.d ())), (3, .one (.ptr 3 0)), (5, .one (.ptr 5 0)), (8, .one (.ptr 8 0)), (9, .one (.d ())), (10, .one (.d ()))], [(8, .box [.d (), .d ()] 89), (5, .box [.d (), .d (), .d (), .d ()] 91), (3, .box [.d (), .d ()] 25)], [], none⟩, [⟨[(1, .one (.d ())), (3, .one (.ptr 3 0)), (5, .one (.ptr 5 0)), (8, .one (.ptr 8 0)), (9, .one (.d ())), (10, .one (.d ()))], [(8, .box [.d (), .d ()] 89), (5, .box [.d (), .d (), .d (), .d ()] 91), (3, .box [.d (), .d ()] 25)], [], none⟩], [(.ret, ⟨[(6, .one (.d ()))], [], [], none⟩), (.normal, ⟨[(1, .one (.d ())), (8, .one (.ptr 8 0)), (9, .one (.d ()))], [(8, .box [.d (), .d ()] 89)], [], none⟩)])])]
  | 60 => [(0, 2, [(⟨[(6, .one (.slk 25000 none () ())), (25, .one (.d ())), (26, .one (.d ())), (27, .one (.d ()))], [(25000, .arr () 4 34 true)], [], none⟩, [⟨[(6, .one (.slk 25000 none () ())), (25, .one (.d ())), (26, .one (.d ())), (27, .one (.d ()))], [(25000, .arr () 4 34 true)], [], none⟩], [(.normal, ⟨[(6, .one (.slk 25000 none () ()))], [(25000, .arr () 4 34 true)], [], none⟩)]), (⟨[(6, .one (.d ())), (25, .one (.d ())), (26, .one (.d ())), (27, .one (.d ()))], [], [], none⟩, [⟨[(6, .one (.d ())), (25, .one (.d ())), (26, .one (.d ())), (27, .one (.d ()))], [], [], none⟩, ⟨[(6, .one (.slk 33 none () ())), (25, .one (.d ())), (26, .one (.d ())), (27, .one (.d ()))], [(33, .arr () 4 34 true)], [], none⟩], [(.normal, ⟨[(6, .one (.d ()))], [], [], none⟩), (.normal, ⟨[(6, .one (.slk 33 none () ()))], [(33, .arr () 4 34 true)], [], none⟩)])]), (0, 0, [(⟨[(0, .one (.d ())), (3, .one (.d ())), (9, .one (.d ())), (10, .one (.d ())), (11, .one (.d ()))], [], [], none⟩, [⟨[(0, .one (.d ())), (3, .one (.d ())), (9, .one (.d ())), (10, .one (.d ())), (11, .one (.d ()))], [], [], none⟩], [(.normal, ⟨[(0, .one (.d ())), (3, .one (.d ()))], [], [], none⟩)])])]
  | 62 => [(0, 0, [(⟨[(3, .one (.mk 6)), (8, .one (.d ())), (9, .one (.d ())), (10, .one (.d ()))], [(6, .mp false () true)], [], none⟩, [⟨[(3, .one (.mk 6)), (8, .one (.d ())), (9, .one (.d ())), (10, .one (.d ()))], [(6, .mp false () true)], [], none⟩], [(.normal, ⟨[(3, .one (.mk 6))], [(6, .mp false () true)], [], none⟩)])])]
  | 63 => [(0, 0, [(⟨[(1, .one (.d ())), (2, .one (.ptr 2 0)), (5, .one (.d ()))], [(2, .box [.d (), .d ()] 25)], [], none⟩, [⟨[(1, .one (.d ())), (2, .one (.ptr 2 0)), (5, .one (.d ()))], [(2, .box [.d (), .d ()] 25)], [], none⟩], [(.ret, ⟨[(4, .one (.d ()))], [], [], none⟩), (.normal, ⟨[], [], [], none⟩)])])]
  | 66 => [(0, 2, [(⟨[(1, .one (.d ())), (2, .one (.ptr 2 0)), (5, .one (.d ())), (6, .one (.d ()))], [(2, .box [.d (), .d ()] 25)], [], none⟩, [⟨[(1, .one (.d ())), (2, .one (.ptr 2 0)), (5, .one (.d ())), (6, .one (.d ()))], [(2, .box [.d (), .d ()] 25)], [], none⟩], [(.ret, ⟨[(4, .one (.d ()))], [], [], none⟩), (.normal, ⟨[(1, .one (.d ())), (2, .one (.ptr 2 0)), (5, .one (.d ()))], [(2, .box [.d (), .d ()] 25)], [], none⟩)])]), (0, 0, [(⟨[(1, .one (.d ())), (2, .one (.ptr 2 0)), (5, .one (.d ()))], [(2, .box [.d (), .d ()] 25)], [], none⟩, [⟨[(1, .one (.d ())), (2, .one (.ptr 2 0)), (5, .one (.d ()))], [(2, .box [.d (), .d ()] 25)], [], none⟩], [(.ret, ⟨[(4, .one (.d ()))], [], [], none⟩), (.normal, ⟨[(1, .one (.d ()))], [], [], none⟩)])])]
  | 68 => [(0, 0, [(⟨[(0, .one (.dp (List.replicate 3 ()) 0)), (2, .one (.nil)), (3, .one (.ptr 3 0)), (4, .one (.ptr 4 0)), (5, .one (.d ()))], [(4, .box [.d (), .d (), .d ()] 125), (3, .box [.d (), .d ()] 58)], [], none⟩, [⟨[(0, .one (.dp (List.replicate 3 ()) 0)), (2, .one (.nil)), (3, .one (.ptr 3 0)), (4, .one (.ptr 4 0)), (5, .one (.d ()))], [(4, .box [.d (), .d (), .d ()] 125), (3, .box [.d (), .d ()] 58)], [], none⟩, ⟨[(0, .one (.dp (List.replicate 3 ()) 0)), (2, .one (.d ())), (3, .one (.ptr 3 0)), (4, .one (.ptr 4 0)), (5, .one (.d ()))], [(20000, .arr () 1 3 true), (4, .box [.d (), .slk 20000 none () (), .d ()] 125), (3, .box [.d (), .d ()] 58)], [], none⟩, ⟨[(0, .one (.dp (List.replicate 3 ()) 0)), (2, .one (.d ())), (3, .one (.ptr 3 0)), (4, .one (.ptr 4 0)), (5, .one (.d ()))], [(4, .box [.d (), .d (), .d ()] 125), (3, .box [.d (), .d ()] 58)], [], none⟩, ⟨[(0, .one (.dp (List.replicate 3 ()) 0)), (2, .one (.d ())), (3, .one (.ptr 3 0)), (4, .one (.ptr 4 0)), (5, .one (.d ()))], [(1000000020000, .arr () 1 3 true), (4, .box [.d (), .slk 1000000020000 none () (), .d ()] 125), (3, .box [.d (), .d ()] 58)], [], none⟩], [(.normal, ⟨[(2, .one (.nil)), (3, .one (.ptr 3 0)), (4, .one (.ptr 4 0)), (5, .one (.d ()))], [(4, .box [.d (), .d (), .d ()] 125), (3, .box [.d (), .d ()] 58)], [], none⟩), (.normal, ⟨[(2, .one (.d ())), (3, .one (.ptr 3 0)), (4, .one (.ptr 4 0)), (5, .one (.d ()))], [(20000, .arr () 1 3 true), (4, .box [.d (), .slk 20000 none () (), .d ()] 125), (3, .box [.d (), .d ()] 58)], [], none⟩), (.normal, ⟨[(2, .one (.d ())), (3, .one (.ptr 3 0)), (4, .one (.ptr 4 0)), (5, .one (.d ()))], [(4, .box [.d (), .d (), .d ()] 125), (3, .box [.d (), .d ()] 58)], [], none⟩), (.normal, ⟨[(2, .one (.d ())), (3, .one (.ptr 3 0)), (4, .one (.ptr 4 0)), (5, .one (.d ()))], [(1000000020000, .arr () 1 3 true), (4, .box [.d (), .slk 1000000020000 none () (), .d ()] 125), (3, .box [.d (), .d ()] 58)], [], none⟩)]), (⟨[(0, .one (.dp (List.replicate 3 ()) 0)), (2, .one (.nil)), (3, .one (.ptr 3 0)), (4, .one (.ptr 4 0)), (5, .one (.d ()))], [(8000, .arr () 1 3 true), (4, .box [.d (), .slk 8000 none () (), .d ()] 125), (3, .box [.d (), .d ()] 58)], [], none⟩, [⟨[(0, .one (.dp (List.replicate 3 ()) 0)), (2, .one (.nil)), (3, .one (.ptr 3 0)), (4, .one (.ptr 4 0)), (5, .one (.d ()))], [(8000, .arr () 1 3 true), (4, .box [.d (), .slk 8000 none () (), .d ()] 125), (3, .box [.d (), .d ()] 58)], [], none⟩, ⟨[(0, .one (.dp (List.replicate 3 ()) 0)), (2, .one (.d ())), (3, .one (.ptr 3 0)), (4, .one (.ptr 4 0)), (5, .one (.d ()))], [(20000, .arr () 1 3 true), (4, .box [.d (), .slk 20000 none () (), .d ()] 125), (3, .box [.d (), .d ()] 58)], [], none⟩, ⟨[(0, .one (.dp (List.replicate 3 ()) 0)), (2, .one (.d ())), (3, .one (.ptr 3 0)), (4, .one (.ptr 4 0)), (5, .one (.d ()))], [(4, .box [.d (), .d (), .d ()] 125), (3, .box [.d (), .d ()] 58)], [], none⟩, ⟨[(0, .one (.dp (List.replicate 3 ()) 0)), (2, .one (.d ())), (3, .one (.ptr 3 0)), (4, .one (.ptr 4 0)), (5, .one (.d ()))], [(1000000020000, .arr () 1 3 true), (4, .box [.d (), .slk 1000000020000 none () (), .d ()] 125), (3, .box [.d (), .d ()] 58)], [], none⟩], [(.normal, ⟨[(2, .one (.nil)), (3, .one (.ptr 3 0)), (4, .one (.ptr 4 0)), (5, .one (.d ()))], [(8000, .arr () 1 3 true), (4, .box [.d (), .slk 8000 none () (), .d ()] 125), (3, .box [.d (), .d ()] 58)], [], none⟩), (.normal, ⟨[(2, .one (.d ())), (3, .one (.ptr 3 0)), (4, .one (.ptr 4 0)), (5, .one (.d ()))], [(20000, .arr () 1 3 true), (4, .box [.d (), .slk 20000 none () (), .d ()] 125), (3, .box [.d (), .d ()] 58)], [], none⟩), (.normal, ⟨[(2, .one (.d ())), (3, .one (.ptr 3 0)), (4, .one (.ptr 4 0)), (5, .one (.d ()))], [(4, .box [.d (), .d (), .d ()] 125), (3, .box [.d (), .d ()] 58)], [], none⟩), (.normal, ⟨[(2, .one (.d ())), (3, .one (.ptr 3 0)), (4, .one (.ptr 4 0)), (5, .one (.d ()))], [(1000000020000, .arr () 1 3 true), (4, .box [.d (), .slk 1000000020000 none () (), .d ()] 125), (3, .box [.d (), .d ()] 58)], [], none⟩)])])]
  | 72 => [(0, 0, [(⟨[(1, .one (.d ())), (4, .one (.ptr 4 0)), (5, .one (.ptr 5 0)), (9, .one (.d ())), (10, .one (.d ())), (11, .one (.d ()))], [(5, .box [.d (), .d ()] 28), (4, .box [.d (), .d ()] 28)], [], none⟩, [⟨[(1, .one (.d ())), (4, .one (.ptr 4 0)), (5, .one (.ptr 5 0)), (9, .one (.d ())), (10, .one (.d ())), (11, .one (.d ()))], [(5, .box [.d (), .d ()] 28), (4, .box [.d (), .d ()] 28)], [], none⟩], [(.normal, ⟨[(4, .one (.ptr 4 0)), (5, .one (.ptr 5 0))], [(5, .box [.d (), .d ()] 28), (4, .box [.d (), .d ()] 28)], [], none⟩)])])]
  | 73 => [(0, 0, [(⟨[(5, .one (.slk 12 none () ())), (6, .one (.mk 15000)), (22, .one (.d ())), (23, .one (.d ())), (24, .one (.d ()))], [(15000, .mp false () true), (12, .arr () 1 3 true)], [], none⟩, [⟨[(5, .one (.slk 12 none () ())), (6, .one (.mk 15000)), (22, .one (.d ())), (23, .one (.d ())), (24, .one (.d ()))], [(15000, .mp false () true), (12, .arr () 1 3 true)], [], none⟩], [(.normal, ⟨[(5, .one (.slk 12 none () ()))], [(12, .arr () 1 3 true)], [], none⟩)])])]
  | 74 => [(0, 0, [(⟨[(4, .one (.ptr 4 0)), (5, .one (.ptr 5 0)), (6, .one (.ptr 6 0)), (7, .one (.fn 96 [.ptr 6 0, .ptr 2 0, .ptr 3 0, .ptr 5 0])), (14, .one (.d ())), (15, .one (.d ())), (16, .one (.d ()))], [(3, .box [.d ()] 136), (2, .box [.dp (List.replicate 3 ()) 0] 121), (6, .box [.d ()] 3), (5, .box [.nil, .nil, .d ()] 125), (4, .box [.nil, .nil, .d ()] 125)], [], none⟩, [⟨[(4, .one (.ptr 4 0)), (5, .one (.ptr 5 0)), (6, .one (.ptr 6 0)), (7, .one (.fn 96 [.ptr 6 0, .ptr 2 0, .ptr 3 0, .ptr 5 0])), (14, .one (.d ())), (15, .one (.d ())), (16, .one (.d ()))], [(3, .box [.d ()] 136), (2, .box [.dp (List.replicate 3 ()) 0] 121), (6, .box [.d ()] 3), (5, .box [.nil, .nil, .d ()] 125), (4, .box [.nil, .nil, .d ()] 125)], [], none⟩, ⟨[(4, .one (.ptr 4 0)), (5, .one (.ptr 5 0)), (6, .one (.ptr 6 0)), (7, .one (.fn 96 [.ptr 6 0, .ptr 2 0, .ptr 3 0, .ptr 5 0])), (14, .one (.d ())), (15, .one (.d ())), (16, .one (.d ()))], [(29031, .arr () 2 67 true), (3, .box [.d ()] 136), (2, .box [.dp (List.replicate 3 ()) 0] 121), (6, .box [.d ()] 3), (5, .box [.slk 29031 none () (), .nil, .d ()] 125), (4, .box [.nil, .nil, .d ()] 125)], [], none⟩, ⟨[(4, .one (.ptr 4 0)), (5, .one (.ptr 5 0)), (6, .one (.ptr 6 0)), (7, .one (.fn 96 [.ptr 6 0, .ptr 2 0, .ptr 3 0, .ptr 5 0])), (14, .one (.d ())), (15, .one (.d ())), (16, .one (.d ()))], [(24, .arr () 1 3 true), (3, .box [.d ()] 136), (2, .box [.dp (List.replicate 3 ()) 0] 121), (6, .box [.d ()] 3), (5, .box [.nil, .slk 24 none () (), .d ()] 125), (4, .box [.nil, .nil, .d ()] 125)], [], none⟩, ⟨[(4, .one (.ptr 4 0)), (5, .one (.ptr 5 0)), (6, .one (.ptr 6 0)), (7, .one (.fn 96 [.ptr 6 0, .ptr 2 0, .ptr 3 0, .ptr 5 0])), (14, .one (.d ())), (15, .one (.d ())), (16, .one (.d ()))], [(24, .arr () 1 3 true), (29031, .arr () 2 67 true), (3, .box [.d ()] 136), (2, .box [.dp (List.replicate 3 ()) 0] 121), (6, .box [.d ()] 3), (5, .box [.slk 29031 none () (), .slk 24 none () (), .d ()] 125), (4, .box [.nil, .nil, .d ()] 125)], [], none⟩], [(.normal, ⟨[(4, .one (.ptr 4 0)), (5, .one (.ptr 5 0))], [(5, .box [.nil, .nil, .d ()] 125), (4, .box [.nil, .nil, .d ()] 125)], [], none⟩), (.ret, ⟨[(4, .one (.ptr 4 0))], [(4, .box [.nil, .nil, .d ()] 125)], [], none⟩), (.ret, ⟨[(4, .one (.ptr 4 0))], [(29031, .arr () 2 67 true), (4, .box [.slk 29031 none () (), .nil, .d ()] 125)], [], none⟩), (.ret, ⟨[(4, .one (.ptr 4 0))], [(24, .arr () 1 3 true), (4, .box [.nil, .slk 24 none () (), .d ()] 125)], [], none⟩), (.ret, ⟨[(4, .one (.ptr 4 0))], [(24, .arr () 1 3 true), (29031, .arr () 2 67 true), (4, .box [.slk 29031 none () (), .slk 24 none () (), .d ()] 125)], [], none⟩), (.normal, ⟨[(4, .one (.ptr 4 0)), (5, .one (.ptr 5 0))], [(29031, .arr () 2 67 true), (5, .box [.slk 29031 none () (), .nil, .d ()] 125), (4, .box [.nil, .nil, .d ()] 125)], [], none⟩), (.normal, ⟨[(4, .one (.ptr 4 0)), (5, .one (.ptr 5 0))], [(24, .arr () 1 3 true), (5, .box [.nil, .slk 24 none () (), .d ()] 125), (4, .box [.nil, .nil, .d ()] 125)], [], none⟩), (.normal, ⟨[(4, .one (.ptr 4 0)), (5, .one (.ptr 5 0))], [(24, .arr () 1 3 true), (29031, .arr () 2 67 true), (5, .box [.slk 29031 none () (), .slk 24 none () (), .d ()] 125), (4, .box [.nil, .nil, .d ()] 125)], [], none⟩)])])]
  | 76 => [(0, 0, [(⟨[(0, .one (.dp (List.replicate 3 ()) 0)), (5, .one (.d ())), (17, .one (.d ())), (18, .one (.d ())), (19, .one (.d ()))], [], [], none⟩, [⟨[(0, .one (.dp (List.replicate 3 ()) 0)), (5, .one (.d ())), (17, .one (.d ())), (18, .one (.d ())), (19, .one (.d ()))], [], [], none⟩], [(.ret, ⟨[(4, .one (.d ()))], [], [], none⟩), (.normal, ⟨[], [], [], none⟩)])])]
  | 78 => [(0, 0, [(⟨[(1, .one (.d ())), (2, .one (.ptr 2 0)), (4, .one (.ptr 4 0)), (5, .one (.ptr 5 0)), (6, .one (.d ()))], [(5, .box [.d (), .d ()] 28), (4, .box [.d (), .d ()] 28), (2, .box [.d (), .d ()] 25)], [], none⟩, [⟨[(1, .one (.d ())), (2, .one (.ptr 2 0)), (4, .one (.ptr 4 0)), (5, .one (.ptr 5 0)), (6, .one (.d ()))], [(5, .box [.d (), .d ()] 28), (4, .box [.d (), .d ()] 28), (2, .box [.d (), .d ()] 25)], [], none⟩], [(.normal, ⟨[(4, .one (.ptr 4 0)), (5, .one (.ptr 5 0))], [(5, .box [.d (), .d ()] 28), (4, .box [.d (), .d ()] 28)], [], none⟩)])])]
  | 79 => [(0, 0, [(⟨[(2, .one (.ptr 2 0)), (3, .one (.ptr 3 0)), (5, .one (.slk 11 none () ())), (6, .one (.d ()))], [(11, .arr () 1 3 true), (3, .box [.d (), .d ()] 67), (2, .box [.d (), .d ()] 25)], [], none⟩, [⟨[(2, .one (.ptr 2 0)), (3, .one (.ptr 3 0)), (5, .one (.slk 11 none () ())), (6, .one (.d ()))], [(11, .arr () 1 3 true), (3, .box [.d (), .d ()] 67), (2, .box [.d (), .d ()] 25)], [], none⟩], [(.normal, ⟨[(5, .one (.slk 11 none () ()))], [(11, .arr () 1 3 true)], [], none⟩)])])]
  | 80 => [(0, 0, [(⟨[(1, .one (.d ())), (2, .one (.ptr 2 0)), (5, .one (.d ()))], [(2, .box [.d (), .d ()] 25)], [], none⟩, [⟨[(1, .one (.d ())), (2, .one (.ptr 2 0)), (5, .one (.d ()))], [(2, .box [.d (), .d ()] 25)], [], none⟩], [(.ret, ⟨[(4, .one (.d ()))], [], [], none⟩), (.normal, ⟨[], [], [], none⟩)])])]
  | 81 => [(0, 0, [(⟨[(2, .one (.ptr 2 0)), (3, .one (.ptr 3 0)), (5, .one (.nil)), (6, .one (.d ()))], [(3, .box [.d (), .d ()] 67), (2, .box [.d (), .d ()] 25)], [], none⟩, [⟨[(2, .one (.ptr 2 0)), (3, .one (.ptr 3 0)), (5, .one (.nil)), (6, .one (.d ()))], [(3, .box [.d (), .d ()] 67), (2, .box [.d (), .d ()] 25)], [], none⟩, ⟨[(2, .one (.ptr 2 0)), (3, .one (.ptr 3 0)), (5, .one (.slk 31 none () ())), (6, .one (.d ()))], [(31, .arr () 1 3 true), (3, .box [.d (), .d ()] 67), (2, .box [.d (), .d ()] 25)], [], none⟩], [(.normal, ⟨[(5, .one (.nil))], [], [], none⟩), (.normal, ⟨[(5, .one (.slk 31 none () ()))], [(31, .arr () 1 3 true)], [], none⟩)])])]
  | 82 => [(0, 0, [(⟨[(2, .one (.d ())), (3, .one (.ptr 3 0)), (7, .one (.d ())), (8, .one (.d ()))], [(3, .box [.d (), .d ()] 25)], [], none⟩, [⟨[(2, .one (.d ())), (3, .one (.ptr 3 0)), (7, .one (.d ())), (8, .one (.d ()))], [(3, .box [.d (), .d ()] 25)], [], none⟩], [(.normal, ⟨[(7, .one (.d ()))], [], [], none⟩)])])]
  | 84 => [(0, 0, [(⟨[(0, .one (.dp (List.replicate 3 ()) 0)), (4, .one (.ptr 4 0)), (5, .one (.ptr 5 0)), (7, .one (.d ())), (54, .one (.d ())), (55, .one (.d ()))], [(5, .box [.d (), .d ()] 58), (4, .box [.d (), .d ()] 89)], [], none⟩, [⟨[(0, .one (.dp (List.replicate 3 ()) 0)), (4, .one (.ptr 4 0)), (5, .one (.ptr 5 0)), (7, .one (.d ())), (54, .one (.d ())), (55, .one (.d ()))], [(5, .box [.d (), .d ()] 58), (4, .box [.d (), .d ()] 89)], [], none⟩], [(.ret, ⟨[(6, .one (.d ()))], [], [], none⟩), (.normal, ⟨[(0, .one (.dp (List.replicate 3 ()) 0)), (4, .one (.ptr 4 0)), (7, .one (.d ()))], [(4, .box [.d (), .d ()] 89)], [], none⟩)])])]
  | 85 => [(0, 0, [(⟨[(0, .one (.dp (List.replicate 3 ()) 0)), (5, .one (.nil)), (8, .one (.d ())), (9, .one (.d ())), (10, .one (.d ()))], [], [], none⟩, [⟨[(0, .one (.dp (List.replicate 3 ()) 0)), (5, .one (.nil)), (8, .one (.d ())), (9, .one (.d ())), (10, .one (.d ()))], [], [], none⟩, ⟨[(0, .one (.dp (List.replicate 3 ()) 0)), (5, .one (.slk 32 none () ())), (8, .one (.d ())), (9, .one (.d ())), (10, .one (.d ()))], [(32, .arr () 2 58 true)], [], none⟩], [(.normal, ⟨[(5, .one (.nil))], [], [], none⟩), (.normal, ⟨[(5, .one (.slk 32 none () ()))], [(32, .arr () 2 58 true)], [], none⟩)])])]
  | 86 => [(0, 0, [(⟨[(0, .one (.d ())), (1, .one (.d ())), (4, .one (.ptr 4 0)), (5, .one (.d ())), (6, .one (.d ()))], [(4, .box [.d (), .d ()] 58)], [], none⟩, [⟨[(0, .one (.d ())), (1, .one (.d ())), (4, .one (.ptr 4 0)), (5, .one (.d ())), (6, .one (.d ()))], [(4, .box [.d (), .d ()] 58)], [], none⟩], [(.normal, ⟨[(0, .one (.d ())), (1, .one (.d ())), (4, .one (.ptr 4 0)), (5, .one (.d ()))], [(4, .box [.d (), .d ()] 58)], [], none⟩)])])]
  | 87 => [(0, 0, [(⟨[(1, .one (.d ())), (2, .one (.ptr 2 0)), (4, .one (.ptr 4 0)), (5, .one (.nil))], [(4, .box [.d (), .d ()] 58), (2, .box [.d (), .d ()] 25)], [], none⟩, [⟨[(1, .one (.d ())), (2, .one (.ptr 2 0)), (4, .one (.ptr 4 0)), (5, .one (.nil))], [(4, .box [.d (), .d ()] 58), (2, .box [.d (), .d ()] 25)], [], none⟩, ⟨[(1, .one (.d ())), (2, .one (.ptr 2 0)), (4, .one (.ptr 4 0)), (5, .one (.d ()))], [(4, .box [.d (), .d ()] 58), (2, .box [.d (), .d ()] 25)], [], none⟩], [(.normal, ⟨[(4, .one (.ptr 4 0)), (5, .one (.nil))], [(4, .box [.d (), .d ()] 58)], [], none⟩), (.normal, ⟨[(4, .one (.ptr 4 0)), (5, .one (.d ()))], [(4, .box [.d (), .d ()] 58)], [], none⟩)])])]
  | 88 => [(0, 0, [(⟨[(1, .one (.d ())), (2, .one (.d ())), (3, .one (.ptr 3 0)), (7, .one (.d ()))], [(3, .box [.d (), .d ()] 25)], [], none⟩, [⟨[(1, .one (.d ())), (2, .one (.d ())), (3, .one (.ptr 3 0)), (7, .one (.d ()))], [(3, .box [.d (), .d ()] 25)], [], none⟩], [(.ret, ⟨[(6, .one (.d ()))], [], [], none⟩), (.normal, ⟨[], [], [], none⟩)])])]
  | 90 => [(0, 0, [(⟨[(0, .one (.d ())), (1, .one (.d ())), (7, .one (.d ())), (8, .one (.d ()))], [], [], none⟩, [⟨[(0, .one (.d ())), (1, .one (.d ())), (7, .one (.d ())), (8, .one (.d ()))], [], [], none⟩], [(.ret, ⟨[(4, .one (.d ()))], [], [], none⟩), (.normal, ⟨[], [], [], none⟩)])])]
  | 98 => [(0, 0, [(⟨[(3, .one (.d ())), (6, .one (.d ())), (7, .one (.d ())), (8, .one (.d ()))], [], [], none⟩, [⟨[(3, .one (.d ())), (6, .one (.d ())), (7, .one (.d ())), (8, .one (.d ()))], [], [], none⟩], [(.normal, ⟨[(3, .one (.d ()))], [], [], none⟩)])])]
  | 101 => [(0, 0, [(⟨[(0, .one (.d ())), (1, .one (.d ())), (4, .one (.ptr 4 0)), (5, .one (.d ())), (6, .one (.d ()))], [(4, .box [.d (), .d ()] 58)], [], none⟩, [⟨[(0, .one (.d ())), (1, .one (.d ())), (4, .one (.ptr 4 0)), (5, .one (.d ())), (6, .one (.d ()))], [(4, .box [.d (), .d ()] 58)], [], none⟩], [(.normal, ⟨[(0, .one (.d ())), (1, .one (.d ())), (4, .one (.ptr 4 0)), (5, .one (.d ()))], [(4, .box [.d (), .d ()] 58)], [], none⟩)])])]
  | 102 => [(0, 4, [(⟨[(2, .one (.d ())), (3, .one (.ptr 3 0)), (7, .one (.nil)), (8, .one (.d ())), (10, .one (.ptr 10 0)), (11, .one (.slk 50 none () ())), (12, .one (.d ())), (13, .one (.d ()))], [(50, .arr () 2 58 true), (10, .box [.d (), .d (), .d (), .d ()] 34), (3, .box [.d (), .d ()] 25)], [], none⟩, [⟨[(2, .one (.d ())), (3, .one (.ptr 3 0)), (7, .one (.nil)), (8, .one (.d ())), (10, .one (.ptr 10 0)), (11, .one (.slk 50 none () ())), (12, .one (.d ())), (13, .one (.d ()))], [(50, .arr () 2 58 true), (10, .box [.d (), .d (), .d (), .d ()] 34), (3, .box [.d (), .d ()] 25)], [], none⟩], [(.normal, ⟨[(2, .one (.d ())), (3, .one (.ptr 3 0)), (7, .one (.nil)), (8, .one (.d ())), (10, .one (.ptr 10 0)), (11, .one (.slk 50 none () ())), (12, .one (.d ()))], [(50, .arr () 2 58 true), (10, .box [.d (), .d (), .d (), .d ()] 34), (3, .box [.d (), .d ()] 25)], [], none⟩)]), (⟨[(2, .one (.d ())), (3, .one (.ptr 3 0)), (7, .one (.nil)), (8, .one (.slk 19 none () ())), (10, .one (.ptr 10 0)), (11, .one (.slk 50 none () ())), (12, .one (.d ())), (13, .one (.d ()))], [(50, .arr () 2 58 true), (10, .box [.d (), .d (), .d (), .d ()] 34), (19, .arr () 2 58 true), (3, .box [.d (), .d ()] 25)], [], none⟩, [⟨[(2, .one (.d ())), (3, .one (.ptr 3 0)), (7, .one (.nil)), (8, .one (.slk 19 none () ())), (10, .one (.ptr 10 0)), (11, .one (.slk 50 none () ())), (12, .one (.d ())), (13, .one (.d ()))], [(50, .arr () 2 58 true), (10, .box [.d (), .d (), .d (), .d ()] 34), (19, .arr () 2 58 true), (3, .box [.d (), .d ()] 25)], [], none⟩], [(.normal, ⟨[(2, .one (.d ())), (3, .one (.ptr 3 0)), (7, .one (.nil)), (8, .one (.slk 19 none () ())), (10, .one (.ptr 10 0)), (11, .one (.slk 50 none () ())), (12, .one (.d ()))], [(50, .arr () 2 58 true), (10, .box [.d (), .d (), .d (), .d ()] 34), (19, .arr () 2 58 true), (3, .box [.d (), .d ()] 25)], [], none⟩)])]), (0, 2, [(⟨[(2, .one (.d ())), (3, .one (.ptr 3 0)), (7, .one (.nil)), (8, .one (.d ())), (10, .one (.ptr 10 0)), (11, .one (.slk 50 none () ())), (12, .one (.d ()))], [(50, .arr () 2 58 true), (10, .box [.d (), .d (), .d (), .d ()] 34), (3, .box [.d (), .d ()] 25)], [], none⟩, [⟨[(2, .one (.d ())), (3, .one (.ptr 3 0)), (7, .one (.nil)), (8, .one (.d ())), (10, .one (.ptr 10 0)), (11, .one (.slk 50 none () ())), (12, .one (.d ()))], [(50, .arr () 2 58 true), (10, .box [.d (), .d (), .d (), .d ()] 34), (3, .box [.d (), .d ()] 25)], [], none⟩], [(.normal, ⟨[(2, .one (.d ())), (7, .one (.nil)), (11, .one (.slk 50 none () ()))], [(50, .arr () 2 58 true)], [], none⟩)]), (⟨[(2, .one (.d ())), (3, .one (.ptr 3 0)), (7, .one (.nil)), (8, .one (.slk 19 none () ())), (10, .one (.ptr 10 0)), (11, .one (.slk 50 none () ())), (12, .one (.d ()))], [(50, .arr () 2 58 true), (10, .box [.d (), .d (), .d (), .d ()] 34), (19, .arr () 2 58 true), (3, .box [.d (), .d ()] 25)], [], none⟩, [⟨[(2, .one (.d ())), (3, .one (.ptr 3 0)), (7, .one (.nil)), (8, .one (.slk 19 none () ())), (10, .one (.ptr 10 0)), (11, .one (.slk 50 none () ())), (12, .one (.d ()))], [(50, .arr () 2 58 true), (10, .box [.d (), .d (), .d (), .d ()] 34), (19, .arr () 2 58 true), (3, .box [.d (), .d ()] 25)], [], none⟩], [(.normal, ⟨[(2, .one (.d ())), (7, .one (.nil)), (11, .one (.slk 50 none () ()))], [(50, .arr () 2 58 true)], [], none⟩)])]), (0, 0, [(⟨[(1, .one (.d ())), (2, .one (.d ())), (3, .one (.ptr 3 0)), (7, .one (.nil)), (8, .one (.slk 19 none () ())), (9, .one (.d ()))], [(19, .arr () 2 58 true), (3, .box [.d (), .d ()] 25)], [], none⟩, [⟨[(1, .one (.d ())), (2, .one (.d ())), (3, .one (.ptr 3 0)), (7, .one (.nil)), (8, .one (.slk 19 none () ())), (9, .one (.d ()))], [(19, .arr () 2 58 true), (3, .box [.d (), .d ()] 25)], [], none⟩], [(.normal, ⟨[(1, .one (.d ())), (2, .one (.d ())), (3, .one (.ptr 3 0)), (7, .one (.nil)), (8, .one (.slk 19 none () ()))], [(19, .arr () 2 58 true), (3, .box [.d (), .d ()] 25)], [], none⟩)])])]
  | 103 => [(0, 0, [(⟨[(0, .one (.d ())), (1, .one (.d ())), (4, .one (.ptr 4 0)), (5, .one (.ptr 5 0)), (6, .one (.d ()))], [(5, .box [.d (), .d ()] 58), (4, .box [.d (), .d ()] 58)], [], none⟩, [⟨[(0, .one (.d ())), (1, .one (.d ())), (4, .one (.ptr 4 0)), (5, .one (.ptr 5 0)), (6, .one (.d ()))], [(5, .box [.d (), .d ()] 58), (4, .box [.d (), .d ()] 58)], [], none⟩], [(.normal, ⟨[(4, .one (.ptr 4 0)), (5, .one (.ptr 5 0))], [(5, .box [.d (), .d ()] 58), (4, .box [.d (), .d ()] 58)], [], none⟩)])])]
  | 107 => [(0, 0, [(⟨[(0, .one (.d ())), (1, .one (.d ())), (7, .one (.d ())), (8, .one (.d ()))], [], [], none⟩, [⟨[(0, .one (.d ())), (1, .one (.d ())), (7, .one (.d ())), (8, .one (.d ()))], [], [], none⟩], [(.ret, ⟨[(4, .one (.d ()))], [], [], none⟩), (.normal, ⟨[], [], [], none⟩)])])]
  | 108 => [(30000, 0, [(⟨[(1, .one (.ptr 29017005 0)), (2, .one (.ptr 29017004 0)), (3, .one (.ptr 29017003 0)), (5, .one (.d ()))], [(29006, .box [.d ()] 4), (29005, .box [.d (), .d (), .d (), .d ()] 34), (5, .box [.nil, .nil, .d ()] 125), (23, .arr () 1 3 true), (9, .box [.d (), .d (), .d (), .d ()] 34), (3, .box [.d ()] 136), (2, .box [.dp (List.replicate 3 ()) 0] 121), (6, .box [.d ()] 3), (4, .box [.nil, .nil, .d ()] 125), (29017005, .box [.d ()] 3), (29017004, .box [.d (), .d (), .d (), .d ()] 34), (29017003, .box [.dp (List.replicate 3 ()) 0] 121)], [0], none⟩, [⟨[(1, .one (.ptr 29017005 0)), (2, .one (.ptr 29017004 0)), (3, .one (.ptr 29017003 0)), (5, .one (.d ()))], [(29006, .box [.d ()] 4), (29005, .box [.d (), .d (), .d (), .d ()] 34), (5, .box [.nil, .nil, .d ()] 125), (23, .arr () 1 3 true), (9, .box [.d (), .d (), .d (), .d ()] 34), (3, .box [.d ()] 136), (2, .box [.dp (List.replicate 3 ()) 0] 121), (6, .box [.d ()] 3), (4, .box [.nil, .nil, .d ()] 125), (29017005, .box [.d ()] 3), (29017004, .box [.d (), .d (), .d (), .d ()] 34), (29017003, .box [.dp (List.replicate 3 ()) 0] 121)], [0], none⟩], [(.ret, ⟨[], [(29006, .box [.d ()] 4), (29005, .box [.d (), .d (), .d (), .d ()] 34), (5, .box [.nil, .nil, .d ()] 125), (23, .arr () 1 3 true), (9, .box [.d (), .d (), .d (), .d ()] 34), (3, .box [.d ()] 136), (2, .box [.dp (List.replicate 3 ()) 0] 121), (6, .box [.d ()] 3), (4, .box [.nil, .nil, .d ()] 125), (29017005, .box [.d ()] 3), (29017004, .box [.d (), .d (), .d (), .d ()] 34), (29017003, .box [.dp (List.replicate 3 ()) 0] 121)], [], some .ret⟩), (.ret, ⟨[], [(29031, .arr () 2 67 true), (29006, .box [.d ()] 4), (29005, .box [.d (), .d (), .d (), .d ()] 34), (5, .box [.slk 29031 none () (), .nil, .d ()] 125), (23, .arr () 1 3 true), (9, .box [.d (), .d (), .d (), .d ()] 34), (3, .box [.d ()] 136), (2, .box [.dp (List.replicate 3 ()) 0] 121), (6, .box [.d ()] 3), (4, .box [.nil, .nil, .d ()] 125), (29017005, .box [.d ()] 3), (29017004, .box [.d (), .d (), .d (), .d ()] 34), (29017003, .box [.dp (List.replicate 3 ()) 0] 121)], [], some .ret⟩), (.normal, ⟨[], [(29006, .box [.d ()] 4), (29005, .box [.d (), .d (), .d (), .d ()] 34), (5, .box [.nil, .nil, .d ()] 125), (23, .arr () 1 3 true), (9, .box [.d (), .d (), .d (), .d ()] 34), (3, .box [.d ()] 136), (2, .box [.dp (List.replicate 3 ()) 0] 121), (6, .box [.d ()] 3), (4, .box [.nil, .nil, .d ()] 125), (29017005, .box [.d ()] 3), (29017004, .box [.d (), .d (), .d (), .d ()] 34), (29017003, .box [.dp (List.replicate 3 ()) 0] 121)], [], none⟩)]), (⟨[(1, .one (.ptr 29017005 0)), (2, .one (.ptr 29017004 0)), (3, .one (.ptr 29017003 0)), (5, .one (.d ()))], [(29006, .box [.d ()] 4), (29005, .box [.d (), .d (), .d (), .d ()] 34), (5, .box [.nil, .slk 24 none () (), .d ()] 125), (24, .arr () 1 3 true), (23, .arr () 1 3 true), (9, .box [.d (), .d (), .d (), .d ()] 34), (3, .box [.d ()] 136), (2, .box [.dp (List.replicate 3 ()) 0] 121), (6, .box [.d ()] 3), (4, .box [.nil, .nil, .d ()] 125), (29017005, .box [.d ()] 3), (29017004, .box [.d (), .d (), .d (), .d ()] 34), (29017003, .box [.dp (List.replicate 3 ()) 0] 121)], [0], none⟩, [⟨[(1, .one (.ptr 29017005 0)), (2, .one (.ptr 29017004 0)), (3, .one (.ptr 29017003 0)), (5, .one (.d ()))], [(29006, .box [.d ()] 4), (29005, .box [.d (), .d (), .d (), .d ()] 34), (5, .box [.nil, .slk 24 none () (), .d ()] 125), (24, .arr () 1 3 true), (23, .arr () 1 3 true), (9, .box [.d (), .d (), .d (), .d ()] 34), (3, .box [.d ()] 136), (2, .box [.dp (List.replicate 3 ()) 0] 121), (6, .box [.d ()] 3), (4, .box [.nil, .nil, .d ()] 125), (29017005, .box [.d ()] 3), (29017004, .box [.d (), .d (), .d (), .d ()] 34), (29017003, .box [.dp (List.replicate 3 ()) 0] 121)], [0], none⟩], [(.ret, ⟨[], [(29006, .box [.d ()] 4), (29005, .box [.d (), .d (), .d (), .d ()] 34), (5, .box [.nil, .slk 24 none () (), .d ()] 125), (24, .arr () 1 3 true), (23, .arr () 1 3 true), (9, .box [.d (), .d (), .d (), .d ()] 34), (3, .box [.d ()] 136), (2, .box [.dp (List.replicate 3 ()) 0] 121), (6, .box [.d ()] 3), (4, .box [.nil, .nil, .d ()] 125), (29017005, .box [.d ()] 3), (29017004, .box [.d (), .d (), .d (), .d ()] 34), (29017003, .box [.dp (List.replicate 3 ()) 0] 121)], [], some .ret⟩), (.ret, ⟨[], [(29031, .arr () 2 67 true), (29006, .box [.d ()] 4), (29005, .box [.d (), .d (), .d (), .d ()] 34), (5, .box [.slk 29031 none () (), .slk 24 none () (), .d ()] 125), (24, .arr () 1 3 true), (23, .arr () 1 3 true), (9, .box [.d (), .d (), .d (), .d ()] 34), (3, .box [.d ()] 136), (2, .box [.dp (List.replicate 3 ()) 0] 121), (6, .box [.d ()] 3), (4, .box [.nil, .nil, .d ()] 125), (29017005, .box [.d ()] 3), (29017004, .box [.d (), .d (), .d (), .d ()] 34), (29017003, .box [.dp (List.replicate 3 ()) 0] 121)], [], some .ret⟩), (.normal, ⟨[], [(29006, .box [.d ()] 4), (29005, .box [.d (), .d (), .d (), .d ()] 34), (5, .box [.nil, .slk 24 none () (), .d ()] 125), (24, .arr () 1 3 true), (23, .arr () 1 3 true), (9, .box [.d (), .d (), .d (), .d ()] 34), (3, .box [.d ()] 136), (2, .box [.dp (List.replicate 3 ()) 0] 121), (6, .box [.d ()] 3), (4, .box [.nil, .nil, .d ()] 125), (29017005, .box [.d ()] 3), (29017004, .box [.d (), .d (), .d (), .d ()] 34), (29017003, .box [.dp (List.replicate 3 ()) 0] 121)], [], none⟩)]), (⟨[(1, .one (.ptr 29017005 0)), (2, .one (.ptr 29017004 0)), (3, .one (.ptr 29017003 0)), (5, .one (.d ()))], [(29006, .box [.d ()] 4), (29005, .box [.d (), .d (), .d (), .d ()] 34), (5, .box [.slk 29031 none () (), .nil, .d ()] 125), (23, .arr () 1 3 true), (9, .box [.d (), .d (), .d (), .d ()] 34), (29031, .arr () 2 67 true), (3, .box [.d ()] 136), (2, .box [.dp (List.replicate 3 ()) 0] 121), (6, .box [.d ()] 3), (4, .box [.nil, .nil, .d ()] 125), (29017005, .box [.d ()] 3), (29017004, .box [.d (), .d (), .d (), .d ()] 34), (29017003, .box [.dp (List.replicate 3 ()) 0] 121)], [0], none⟩, [⟨[(1, .one (.ptr 29017005 0)), (2, .one (.ptr 29017004 0)), (3, .one (.ptr 29017003 0)), (5, .one (.d ()))], [(29006, .box [.d ()] 4), (29005, .box [.d (), .d (), .d (), .d ()] 34), (5, .box [.slk 29031 none () (), .nil, .d ()] 125), (23, .arr () 1 3 true), (9, .box [.d (), .d (), .d (), .d ()] 34), (29031, .arr () 2 67 true), (3, .box [.d ()] 136), (2, .box [.dp (List.replicate 3 ()) 0] 121), (6, .box [.d ()] 3), (4, .box [.nil, .nil, .d ()] 125), (29017005, .box [.d ()] 3), (29017004, .box [.d (), .d (), .d (), .d ()] 34), (29017003, .box [.dp (List.replicate 3 ()) 0] 121)], [0], none⟩], [(.ret, ⟨[], [(29006, .box [.d ()] 4), (29005, .box [.d (), .d (), .d (), .d ()] 34), (5, .box [.slk 29031 none () (), .nil, .d ()] 125), (23, .arr () 1 3 true), (9, .box [.d (), .d (), .d (), .d ()] 34), (29031, .arr () 2 67 true), (3, .box [.d ()] 136), (2, .box [.dp (List.replicate 3 ()) 0] 121), (6, .box [.d ()] 3), (4, .box [.nil, .nil, .d ()] 125), (29017005, .box [.d ()] 3), (29017004, .box [.d (), .d (), .d (), .d ()] 34), (29017003, .box [.dp (List.replicate 3 ()) 0] 121)], [], some .ret⟩), (.normal, ⟨[], [(29006, .box [.d ()] 4), (29005, .box [.d (), .d (), .d (), .d ()] 34), (5, .box [.slk 29031 none () (), .nil, .d ()] 125), (23, .arr () 1 3 true), (9, .box [.d (), .d (), .d (), .d ()] 34), (29031, .arr () 2 67 true), (3, .box [.d ()] 136), (2, .box [.dp (List.replicate 3 ()) 0] 121), (6, .box [.d ()] 3), (4, .box [.nil, .nil, .d ()] 125), (29017005, .box [.d ()] 3), (29017004, .box [.d (), .d (), .d (), .d ()] 34), (29017003, .box [.dp (List.replicate 3 ()) 0] 121)], [], none⟩)]), (⟨[(1, .one (.ptr 29017005 0)), (2, .one (.ptr 29017004 0)), (3, .one (.ptr 29017003 0)), (5, .one (.d ()))], [(29006, .box [.d ()] 4), (29005, .box [.d (), .d (), .d (), .d ()] 34), (5, .box [.slk 29031 none () (), .slk 24 none () (), .d ()] 125), (24, .arr () 1 3 true), (23, .arr () 1 3 true), (9, .box [.d (), .d (), .d (), .d ()] 34), (29031, .arr () 2 67 true), (3, .box [.d ()] 136), (2, .box [.dp (List.replicate 3 ()) 0] 121), (6, .box [.d ()] 3), (4, .box [.nil, .nil, .d ()] 125), (29017005, .box [.d ()] 3), (29017004, .box [.d (), .d (), .d (), .d ()] 34), (29017003, .box [.dp (List.replicate 3 ()) 0] 121)], [0], none⟩, [⟨[(1, .one (.ptr 29017005 0)), (2, .one (.ptr 29017004 0)), (3, .one (.ptr 29017003 0)), (5, .one (.d ()))], [(29006, .box [.d ()] 4), (29005, .box [.d (), .d (), .d (), .d ()] 34), (5, .box [.slk 29031 none () (), .slk 24 none () (), .d ()] 125), (24, .arr () 1 3 true), (23, .arr () 1 3 true), (9, .box [.d (), .d (), .d (), .d ()] 34), (29031, .arr () 2 67 true), (3, .box [.d ()] 136), (2, .box [.dp (List.replicate 3 ()) 0] 121), (6, .box [.d ()] 3), (4, .box [.nil, .nil, .d ()] 125), (29017005, .box [.d ()] 3), (29017004, .box [.d (), .d (), .d (), .d ()] 34), (29017003, .box [.dp (List.replicate 3 ()) 0] 121)], [0], none⟩], [(.ret, ⟨[], [(29006, .box [.d ()] 4), (29005, .box [.d (), .d (), .d (), .d ()] 34), (5, .box [.slk 29031 none () (), .slk 24 none () (), .d ()] 125), (24, .arr () 1 3 true), (23, .arr () 1 3 true), (9, .box [.d (), .d (), .d (), .d ()] 34), (29031, .arr () 2 67 true), (3, .box [.d ()] 136), (2, .box [.dp (List.replicate 3 ()) 0] 121), (6, .box [.d ()] 3), (4, .box [.nil, .nil, .d ()] 125), (29017005, .box [.d ()] 3), (29017004, .box [.d (), .d (), .d (), .d ()] 34), (29017003, .box [.dp (List.replicate 3 ()) 0] 121)], [], some .ret⟩), (.normal, ⟨[], [(29006, .box [.d ()] 4), (29005, .box [.d (), .d (), .d (), .d ()] 34), (5, .box [.slk 29031 none () (), .slk 24 none () (), .d ()] 125), (24, .arr () 1 3 true), (23, .arr () 1 3 true), (9, .box [.d (), .d (), .d (), .d ()] 34), (29031, .arr () 2 67 true), (3, .box [.d ()] 136), (2, .box [.dp (List.replicate 3 ()) 0] 121), (6, .box [.d ()] 3), (4, .box [.nil, .nil, .d ()] 125), (29017005, .box [.d ()] 3), (29017004, .box [.d (), .d (), .d (), .d ()] 34), (29017003, .box [.dp (List.replicate 3 ()) 0] 121)], [], none⟩)])])]
  | 109 => [(0, 0, [(⟨[(0, .one (.d ())), (1, .one (.d ())), (7, .one (.d ())), (8, .one (.d ()))], [], [], none⟩, [⟨[(0, .one (.d ())), (1, .one (.d ())), (7, .one (.d ())), (8, .one (.d ()))], [], [], none⟩], [(.ret, ⟨[(4, .one (.d ()))], [], [], none⟩), (.normal, ⟨[], [], [], none⟩)])])]
  | _ => []
def jnT : Nat → List (Nat × Nat × List (Sk × List (Ex × Sk)))
  | 5 => [(0, 255, [(⟨[(3, .one (.ptr 3 0)), (6, .one (.ptr 6 0)), (7, .one (.d ())), (8, .one (.ptr 8 0)), (10, .one (.d ())), (11, .one (.slk 45 none () ()))], [(45, .arr () 4 34 true), (8, .box [.d (), .d ()] 58), (6, .box [.d (), .d ()] 25), (3, .box [.d (), .d ()] 56)], [], none⟩, [(.normal, ⟨[(6, .one (.ptr 6 0)), (8, .one (.ptr 8 0)), (11, .one (.slk 45 none () ()))], [(45, .arr () 4 34 true), (8, .box [.d (), .d ()] 58), (6, .box [.d (), .d ()] 25)], [], none⟩), (.ret, ⟨[(4, .one (.d ()))], [], [], none⟩), (.normal, ⟨[(6, .one (.ptr 6 0)), (8, .one (.ptr 8 0)), (11, .one (.slk 73 none () ()))], [(73, .arr () 4 34 true), (8, .box [.d (), .d ()] 58), (6, .box [.d (), .d ()] 25)], [], none⟩)])])]
  | 6 => [(0, 4192927, [(⟨[(2, .one (.d ())), (8, .one (.ptr 8 0)), (10, .one (.ptr 10 0)), (11, .one (.ptr 11 0)), (12, .one (.ptr 12 0)), (14, .one (.d ())), (16, .one (.d ())), (17, .one (.d ())), (18, .one (.d ())), (23, .one (.d ())), (25, .one (.d ()))], [(12, .box [.d (), .d ()] 28), (11, .box [.d (), .d ()] 67), (10, .box [.d (), .d ()] 67), (8, .box [.d (), .d ()] 25)], [], none⟩, [(.normal, ⟨[(2, .one (.d ())), (8, .one (.ptr 8 0)), (10, .one (.ptr 10 0)), (11, .one (.ptr 11 0)), (12, .one (.ptr 12 0)), (14, .one (.d ())), (16, .one (.d ())), (17, .one (.d ())), (18, .one (.d ())), (23, .one (.d ())), (25, .one (.d ()))], [(12, .box [.d (), .d ()] 28), (11, .box [.d (), .d ()] 67), (10, .box [.d (), .d ()] 67), (8, .box [.d (), .d ()] 25)], [], none⟩)])]), (0, 134173351, [(⟨[(2, .one (.d ())), (8, .one (.ptr 8 0)), (10, .one (.ptr 10 0)), (11, .one (.ptr 11 0)), (12, .one (.ptr 12 0)), (14, .one (.d ())), (16, .one (.d ())), (17, .one (.d ())), (18, .one (.d ())), (19, .one (.nil)), (20, .one (.d ())), (21, .one (.ptr 21 0)), (22, .one (.d ()))], [(21, .box [.d (), .d ()] 28), (12, .box [.d (), .d ()] 28), (11, .box [.d (), .d ()] 67), (10, .box [.d (), .d ()] 67), (8, .box [.d (), .d ()] 25)], [], none⟩, [(.normal, ⟨[(2, .one (.d ())), (8, .one (.ptr 8 0)), (10, .one (.ptr 10 0)), (11, .one (.ptr 11 0)), (12, .one (.ptr 12 0)), (14, .one (.d ())), (16, .one (.d ())), (17, .one (.d ())), (18, .one (.d ())), (19, .one (.nil)), (20, .one (.d ())), (22, .one (.d ()))], [(12, .box [.d (), .d ()] 28), (11, .box [.d (), .d ()] 67), (10, .box [.d (), .d ()] 67), (8, .box [.d (), .d ()] 25)], [], none⟩)]), (⟨[(2, .one (.d ())), (8, .one (.ptr 8 0)), (10, .one (.ptr 10 0)), (11, .one (.ptr 11 0)), (12, .one (.ptr 12 0)), (14, .one (.d ())), (16, .one (.d ())), (17, .one (.d ())), (18, .one (.d ())), (19, .one (.slk 131 none () ())), (20, .one (.d ())), (21, .one (.ptr 21 0)), (22, .one (.d ()))], [(21, .box [.d (), .d ()] 28), (131, .arr () 1 3 true), (12, .box [.d (), .d ()] 28), (11, .box [.d (), .d ()] 67), (10, .box [.d (), .d ()] 67), (8, .box [.d (), .d ()] 25)], [], none⟩, [(.normal, ⟨[(2, .one (.d ())), (8, .one (.ptr 8 0)), (10, .one (.ptr 10 0)), (11, .one (.ptr 11 0)), (12, .one (.ptr 12 0)), (14, .one (.d ())), (16, .one (.d ())), (17, .one (.d ())), (18, .one (.d ())), (19, .one (.slk 131 none () ())), (20, .one (.d ())), (22, .one (.d ()))], [(131, .arr () 1 3 true), (12, .box [.d (), .d ()] 28), (11, .box [.d (), .d ()] 67), (10, .box [.d (), .d ()] 67), (8, .box [.d (), .d ()] 25)], [], none⟩)])]), (0, 67086675, [(⟨[(2, .one (.d ())), (8, .one (.ptr 8 0)), (10, .one (.ptr 10 0)), (11, .one (.ptr 11 0)), (12, .one (.ptr 12 0)), (14, .one (.d ())), (16, .one (.d ())), (17, .one (.d ())), (18, .one (.d ())), (19, .one (.nil)), (20, .one (.d ())), (21, .one (.ptr 21 0)), (22, .one (.d ()))], [(21, .box [.d (), .d ()] 28), (12, .box [.d (), .d ()] 28), (11, .box [.d (), .d ()] 67), (10, .box [.d (), .d ()] 67), (8, .box [.d (), .d ()] 25)], [], none⟩, [(.normal, ⟨[(2, .one (.d ())), (8, .one (.ptr 8 0)), (10, .one (.ptr 10 0)), (11, .one (.ptr 11 0)), (12, .one (.ptr 12 0)), (14, .one (.d ())), (16, .one (.d ())), (17, .one (.d ())), (18, .one (.d ())), (19, .one (.nil)), (20, .one (.d ())), (21, .one (.ptr 21 0)), (22, .one (.d ()))], [(21, .box [.d (), .d ()] 28), (12, .box [.d (), .d ()] 28), (11, .box [.d (), .d ()] 67), (10, .box [.d (), .d ()] 67), (8, .box [.d (), .d ()] 25)], [], none⟩)]), (⟨[(2, .one (.d ())), (8, .one (.ptr 8 0)), (10, .one (.ptr 10 0)), (11, .one (.ptr 11 0)), (12, .one (.ptr 12 0)), (14, .one (.d ())), (16, .one (.d ())), (17, .one (.d ())), (18, .one (.d ())), (19, .one (.slk 131 none () ())), (20, .one (.d ())), (21, .one (.ptr 21 0)), (22, .one (.d ()))], [(21, .box [.d (), .d ()] 28), (131, .arr () 1 3 true), (12, .box [.d (), .d ()] 28), (11, .box [.d (), .d ()] 67), (10, .box [.d (), .d ()] 67), (8, .box [.d (), .d ()] 25)], [], none⟩, [(.normal, ⟨[(2, .one (.d ())), (8, .one (.ptr 8 0)), (10, .one (.ptr 10 0)), (11, .one (.ptr 11 0)), (12, .one (.ptr 12 0)), (14, .one (.d ())), (16, .one (.d ())), (17, .one (.d ())), (18, .one (.d ())), (19, .one (.slk 131 none () ())), (20, .one (.d ())), (21, .one (.ptr 21 0)), (22, .one (.d ()))], [(21, .box [.d (), .d ()] 28), (131, .arr () 1 3 true), (12, .box [.d (), .d ()] 28), (11, .box [.d (), .d ()] 67), (10, .box [.d (), .d ()] 67), (8, .box [.d (), .d ()] 25)], [], none⟩)])])]
  | 9 => [(0, 524201, [(⟨[(2, .one (.d ())), (4, .one (.ptr 4 0)), (8, .one (.ptr 8 0)), (9, .one (.d ())), (10, .one (.ptr 10 0)), (12, .one (.d ())), (16, .one (.nil)), (17, .one (.d ())), (18, .one (.d ())), (19, .one (.ptr 19 0))], [(19, .box [.d (), .d ()] 56), (10, .box [.d (), .d ()] 58), (8, .box [.d (), .d ()] 25), (4, .box [.d (), .d (), .d (), .d ()] 91)], [], none⟩, [(.normal, ⟨[(2, .one (.d ())), (4, .one (.ptr 4 0)), (8, .one (.ptr 8 0)), (9, .one (.d ())), (10, .one (.ptr 10 0)), (12, .one (.d ())), (16, .one (.nil)), (17, .one (.d ())), (18, .one (.d ())), (19, .one (.ptr 19 0))], [(19, .box [.d (), .d ()] 56), (10, .box [.d (), .d ()] 58), (8, .box [.d (), .d ()] 25), (4, .box [.d (), .d (), .d (), .d ()] 91)], [], none⟩)]), (⟨[(2, .one (.d ())), (4, .one (.ptr 4 0)), (8, .one (.ptr 8 0)), (9, .one (.d ())), (10, .one (.ptr 10 0)), (12, .one (.d ())), (16, .one (.slk 114 none () ())), (17, .one (.d ())), (18, .one (.d ())), (19, .one (.ptr 19 0))], [(19, .box [.d (), .d ()] 56), (114, .arr () 2 67 true), (10, .box [.d (), .d ()] 58), (8, .box [.d (), .d ()] 25), (4, .box [.d (), .d (), .d (), .d ()] 91)], [], none⟩, [(.normal, ⟨[(2, .one (.d ())), (4, .one (.ptr 4 0)), (8, .one (.ptr 8 0)), (9, .one (.d ())), (10, .one (.ptr 10 0)), (12, .one (.d ())), (16, .one (.slk 114 none () ())), (17, .one (.d ())), (18, .one (.d ())), (19, .one (.ptr 19 0))], [(19, .box [.d (), .d ()] 56), (114, .arr () 2 67 true), (10, .box [.d (), .d ()] 58), (8, .box [.d (), .d ()] 25), (4, .box [.d (), .d (), .d (), .d ()] 91)], [], none⟩)])])]
  | 11 => [(0, 131071, [(⟨[(1, .one (.ptr 1 0)), (2, .one (.d ())), (9, .one (.ptr 9 0)), (15, .one (.d ())), (17, .one (.d ())), (20, .one (.ptr 20 0)), (22, .one (.ptr 22 0)), (23, .one (.d ()))], [(130, .arr () 1 3 true), (22, .box [.d (), .slk 130 none () ()] 89), (20, .box [.d (), .d ()] 75), (9, .box [.d (), .d ()] 58), (1, .box [.d (), .d ()] 25)], [], none⟩, [(.normal, ⟨[(1, .one (.ptr 1 0)), (2, .one (.d ())), (9, .one (.ptr 9 0)), (22, .one (.ptr 22 0)), (23, .one (.d ())), (24, .one (.d ()))], [(130, .arr () 1 3 true), (22, .box [.d (), .slk 130 none () ()] 89), (9, .box [.d (), .d ()] 58), (1, .box [.d (), .d ()] 25)], [], none⟩)])]), (0, 65535, [(⟨[(1, .one (.ptr 1 0)), (2, .one (.d ())), (3, .one (.ptr 3 0)), (5, .one (.d ())), (7, .one (.d ())), (9, .one (.ptr 9 0)), (11, .one (.d ())), (13, .one (.ptr 13 0)), (15, .one (.d ())), (17, .one (.d ())), (20, .one (.ptr 20 0)), (22, .one (.ptr 22 0))], [(130, .arr () 1 3 true), (22, .box [.d (), .slk 130 none () ()] 89), (20, .box [.d (), .d ()] 75), (13, .box [.d (), .d ()] 58), (9, .box [.d (), .d ()] 58), (3, .box [.d (), .d ()] 28), (1, .box [.d (), .d ()] 25)], [], none⟩, [(.normal, ⟨[(1, .one (.ptr 1 0)), (2, .one (.d ())), (9, .one (.ptr 9 0)), (15, .one (.d ())), (17, .one (.d ())), (20, .one (.ptr 20 0)), (22, .one (.ptr 22 0)), (23, .one (.d ()))], [(130, .arr () 1 3 true), (22, .box [.d (), .slk 130 none () ()] 89), (20, .box [.d (), .d ()] 75), (9, .box [.d (), .d ()] 58), (1, .box [.d (), .d ()] 25)], [], none⟩)])])]
  | 25 => [(0, 8105, [(⟨[(1, .one (.ptr 1 0)), (2, .one (.ptr 2 0)), (4, .one (.ptr 4 0)), (10, .one (.nil)), (11, .one (.d ())), (12, .one (.ptr 12 0))], [(12, .box [.d (), .d (), .d ()] 120), (4, .box [.nil, .nil] 25), (2, .box [.nil, .nil] 25), (1, .box [.d (), .d (), .d ()] 51)], [], none⟩, [(.normal, ⟨[(1, .one (.ptr 1 0)), (2, .one (.ptr 2 0)), (4, .one (.ptr 4 0)), (10, .one (.nil)), (11, .one (.d ())), (12, .one (.ptr 12 0))], [(12, .box [.d (), .d (), .d ()] 120), (4, .box [.nil, .nil] 25), (2, .box [.nil, .nil] 25), (1, .box [.d (), .d (), .d ()] 51)], [], none⟩)]), (⟨[(1, .one (.ptr 1 0)), (2, .one (.ptr 2 0)), (4, .one (.ptr 4 0)), (10, .one (.slk 165 none () ())), (11, .one (.d ())), (12, .one (.ptr 12 0))], [(12, .box [.d (), .d (), .d ()] 120), (165, .arr () 4 34 true), (4, .box [.nil, .nil] 25), (2, .box [.nil, .nil] 25), (1, .box [.d (), .d (), .d ()] 51)], [], none⟩, [(.normal, ⟨[(1, .one (.ptr 1 0)), (2, .one (.ptr 2 0)), (4, .one (.ptr 4 0)), (10, .one (.slk 165 none () ())), (11, .one (.d ())), (12, .one (.ptr 12 0))], [(12, .box [.d (), .d (), .d ()] 120), (165, .arr () 4 34 true), (4, .box [.nil, .nil] 25), (2, .box [.nil, .nil] 25), (1, .box [.d (), .d (), .d ()] 51)], [], none⟩)]), (⟨[(1, .one (.ptr 1 0)), (2, .one (.ptr 2 0)), (4, .one (.ptr 4 0)), (10, .one (.nil)), (11, .one (.d ())), (12, .one (.ptr 12 0))], [(107, .arr () 3 32 true), (12, .box [.d (), .d (), .d ()] 120), (4, .box [.nil, .slk 107 none () ()] 25), (2, .box [.nil, .nil] 25), (1, .box [.d (), .d (), .d ()] 51)], [], none⟩, [(.normal, ⟨[(1, .one (.ptr 1 0)), (2, .one (.ptr 2 0)), (4, .one (.ptr 4 0)), (10, .one (.nil)), (11, .one (.d ())), (12, .one (.ptr 12 0))], [(107, .arr () 3 32 true), (12, .box [.d (), .d (), .d ()] 120), (4, .box [.nil, .slk 107 none () ()] 25), (2, .box [.nil, .nil] 25), (1, .box [.d (), .d (), .d ()] 51)], [], none⟩)]), (⟨[(1, .one (.ptr 1 0)), (2, .one (.ptr 2 0)), (4, .one (.ptr 4 0)), (10, .one (.nil)), (11, .one (.d ())), (12, .one (.ptr 12 0))], [(61, .arr () 3 30 true), (12, .box [.d (), .d (), .d ()] 120), (4, .box [.slk 61 none () (), .nil] 25), (2, .box [.nil, .nil] 25), (1, .box [.d (), .d (), .d ()] 51)], [], none⟩, [(.normal, ⟨[(1, .one (.ptr 1 0)), (2, .one (.ptr 2 0)), (4, .one (.ptr 4 0)), (10, .one (.nil)), (11, .one (.d ())), (12, .one (.ptr 12 0))], [(61, .arr () 3 30 true), (12, .box [.d (), .d (), .d ()] 120), (4, .box [.slk 61 none () (), .nil] 25), (2, .box [.nil, .nil] 25), (1, .box [.d (), .d (), .d ()] 51)], [], none⟩)]), (⟨[(1, .one (.ptr 1 0)), (2, .one (.ptr 2 0)), (4, .one (.ptr 4 0)), (10, .one (.slk 165 none () ())), (11, .one (.d ())), (12, .one (.ptr 12 0))], [(107, .arr () 3 32 true), (12, .box [.d (), .d (), .d ()] 120), (165, .arr () 4 34 true), (4, .box [.nil, .slk 107 none () ()] 25), (2, .box [.nil, .nil] 25), (1, .box [.d (), .d (), .d ()] 51)], [], none⟩, [(.normal, ⟨[(1, .one (.ptr 1 0)), (2, .one (.ptr 2 0)), (4, .one (.ptr 4 0)), (10, .one (.slk 165 none () ())), (11, .one (.d ())), (12, .one (.ptr 12 0))], [(107, .arr () 3 32 true), (12, .box [.d (), .d (), .d ()] 120), (165, .arr () 4 34 true), (4, .box [.nil, .slk 107 none () ()] 25), (2, .box [.nil, .nil] 25), (1, .box [.d (), .d (), .d ()] 51)], [], none⟩)]), (⟨[(1, .one (.ptr 1 0)), (2, .one (.ptr 2 0)), (4, .one (.ptr 4 0)), (10, .one (.slk 165 none () ())), (11, .one (.d ())), (12, .one (.ptr 12 0))], [(61, .arr () 3 30 true), (12, .box [.d (), .d (), .d ()] 120), (165, .arr () 4 34 true), (4, .box [.slk 61 none () (), .nil] 25), (2, .box [.nil, .nil] 25), (1, .box [.d (), .d (), .d ()] 51)], [], none⟩, [(.normal, ⟨[(1, .one (.ptr 1 0)), (2, .one (.ptr 2 0)), (4, .one (.ptr 4 0)), (10, .one (.slk 165 none () ())), (11, .one (.d ())), (12, .one (.ptr 12 0))], [(61, .arr () 3 30 true), (12, .box [.d (), .d (), .d ()] 120), (165, .arr () 4 34 true), (4, .box [.slk 61 none () (), .nil] 25), (2, .box [.nil, .nil] 25), (1, .box [.d (), .d (), .d ()] 51)], [], none⟩)]), (⟨[(1, .one (.ptr 1 0)), (2, .one (.ptr 2 0)), (4, .one (.ptr 4 0)), (10, .one (.nil)), (11, .one (.d ())), (12, .one (.ptr 12 0))], [(107, .arr () 3 32 true), (61, .arr () 3 30 true), (12, .box [.d (), .d (), .d ()] 120), (4, .box [.slk 61 none () (), .slk 107 none () ()] 25), (2, .box [.nil, .nil] 25), (1, .box [.d (), .d (), .d ()] 51)], [], none⟩, [(.normal, ⟨[(1, .one (.ptr 1 0)), (2, .one (.ptr 2 0)), (4, .one (.ptr 4 0)), (10, .one (.nil)), (11, .one (.d ())), (12, .one (.ptr 12 0))], [(107, .arr () 3 32 true), (61, .arr () 3 30 true), (12, .box [.d (), .d (), .d ()] 120), (4, .box [.slk 61 none () (), .slk 107 none () ()] 25), (2, .box [.nil, .nil] 25), (1, .box [.d (), .d (), .d ()] 51)], [], none⟩)]), (⟨[(1, .one (.ptr 1 0)), (2, .one (.ptr 2 0)), (4, .one (.ptr 4 0)), (10, .one (.slk 165 none () ())), (11, .one (.d ())), (12, .one (.ptr 12 0))], [(107, .arr () 3 32 true), (61, .arr () 3 30 true), (12, .box [.d (), .d (), .d ()] 120), (165, .arr () 4 34 true), (4, .box [.slk 61 none () (), .slk 107 none () ()] 25), (2, .box [.nil, .nil] 25), (1, .box [.d (), .d (), .d ()] 51)], [], none⟩, [(.normal, ⟨[(1, .one (.ptr 1 0)), (2, .one (.ptr 2 0)), (4, .one (.ptr 4 0)), (10, .one (.slk 165 none () ())), (11, .one (.d ())), (12, .one (.ptr 12 0))], [(107, .arr () 3 32 true), (61, .arr () 3 30 true), (12, .box [.d (), .d (), .d ()] 120), (165, .arr () 4 34 true), (4, .box [.slk 61 none () (), .slk 107 none () ()] 25), (2, .box [.nil, .nil] 25), (1, .box [.d (), .d (), .d ()] 51)], [], none⟩)])]), (0, 1961, [(⟨[(1, .one (.ptr 1 0)), (2, .one (.ptr 2 0)), (4, .one (.ptr 4 0)), (8, .one (.d ())), (9, .one (.ptr 9 0))], [(9, .box [.d (), .d (), .d ()] 120), (4, .box [.nil, .nil] 25), (2, .box [.nil, .nil] 25), (1, .box [.d (), .d (), .d ()] 51)], [], none⟩, [(.normal, ⟨[(1, .one (.ptr 1 0)), (2, .one (.ptr 2 0)), (4, .one (.ptr 4 0)), (8, .one (.d ())), (9, .one (.ptr 9 0))], [(9, .box [.d (), .d (), .d ()] 120), (4, .box [.nil, .nil] 25), (2, .box [.nil, .nil] 25), (1, .box [.d (), .d (), .d ()] 51)], [], none⟩)]), (⟨[(1, .one (.ptr 1 0)), (2, .one (.ptr 2 0)), (4, .one (.ptr 4 0)), (8, .one (.d ())), (9, .one (.ptr 9 0))], [(107, .arr () 3 32 true), (9, .box [.d (), .d (), .d ()] 120), (4, .box [.nil, .slk 107 none () ()] 25), (2, .box [.nil, .nil] 25), (1, .box [.d (), .d (), .d ()] 51)], [], none⟩, [(.normal, ⟨[(1, .one (.ptr 1 0)), (2, .one (.ptr 2 0)), (4, .one (.ptr 4 0)), (8, .one (.d ())), (9, .one (.ptr 9 0))], [(107, .arr () 3 32 true), (9, .box [.d (), .d (), .d ()] 120), (4, .box [.nil, .slk 107 none () ()] 25), (2, .box [.nil, .nil] 25), (1, .box [.d (), .d (), .d ()] 51)], [], none⟩)]), (⟨[(1, .one (.ptr 1 0)), (2, .one (.ptr 2 0)), (4, .one (.ptr 4 0)), (8, .one (.d ())), (9, .one (.ptr 9 0))], [(61, .arr () 3 30 true), (9, .box [.d (), .d (), .d ()] 120), (4, .box [.slk 61 none () (), .nil] 25), (2, .box [.nil, .nil] 25), (1, .box [.d (), .d (), .d ()] 51)], [], none⟩, [(.normal, ⟨[(1, .one (.ptr 1 0)), (2, .one (.ptr 2 0)), (4, .one (.ptr 4 0)), (8, .one (.d ())), (9, .one (.ptr 9 0))], [(61, .arr () 3 30 true), (9, .box [.d (), .d (), .d ()] 120), (4, .box [.slk 61 none () (), .nil] 25), (2, .box [.nil, .nil] 25), (1, .box [.d (), .d (), .d ()] 51)], [], none⟩)]), (⟨[(1, .one (.ptr 1 0)), (2, .one (.ptr 2 0)), (4, .one (.ptr 4 0)), (8, .one (.d ())), (9, .one (.ptr 9 0))], [(107, .arr () 3 32 true), (61, .arr () 3 30 true), (9, .box [.d (), .d (), .d ()] 120), (4, .box [.slk 61 none () (), .slk 107 none () ()] 25), (2, .box [.nil, .nil] 25), (1, .box [.d (), .d (), .d ()] 51)], [], none⟩, [(.normal, ⟨[(1, .one (.ptr 1 0)), (2, .one (.ptr 2 0)), (4, .one (.ptr 4 0)), (8, .one (.d ())), (9, .one (.ptr 9 0))], [(107, .arr () 3 32 true), (61, .arr () 3 30 true), (9, .box [.d (), .d (), .d ()] 120), (4, .box [.slk 61 none () (), .slk 107 none () ()] 25), (2, .box [.nil, .nil] 25), (1, .box [.d (), .d (), .d ()] 51)], [], none⟩)])]), (0, 937, [(⟨[(1, .one (.ptr 1 0)), (2, .one (.ptr 2 0)), (4, .one (.ptr 4 0)), (5, .one (.d ())), (6, .one (.ptr 6 0))], [(6, .box [.d (), .d ()] 56), (4, .box [.nil, .nil] 25), (2, .box [.nil, .nil] 25), (1, .box [.d (), .d (), .d ()] 51)], [], none⟩, [(.normal, ⟨[(1, .one (.ptr 1 0)), (2, .one (.ptr 2 0)), (4, .one (.ptr 4 0)), (5, .one (.d ())), (6, .one (.ptr 6 0))], [(6, .box [.d (), .d ()] 56), (4, .box [.nil, .nil] 25), (2, .box [.nil, .nil] 25), (1, .box [.d (), .d (), .d ()] 51)], [], none⟩)]), (⟨[(1, .one (.ptr 1 0)), (2, .one (.ptr 2 0)), (4, .one (.ptr 4 0)), (5, .one (.d ())), (6, .one (.ptr 6 0))], [(61, .arr () 3 30 true), (6, .box [.d (), .d ()] 56), (4, .box [.slk 61 none () (), .nil] 25), (2, .box [.nil, .nil] 25), (1, .box [.d (), .d (), .d ()] 51)], [], none⟩, [(.normal, ⟨[(1, .one (.ptr 1 0)), (2, .one (.ptr 2 0)), (4, .one (.ptr 4 0)), (5, .one (.d ())), (6, .one (.ptr 6 0))], [(61, .arr () 3 30 true), (6, .box [.d (), .d ()] 56), (4, .box [.slk 61 none () (), .nil] 25), (2, .box [.nil, .nil] 25), (1, .box [.d (), .d (), .d ()] 51)], [], none⟩)])])]
  | 89 => [(0, 3, [(⟨[(0, .one (.d ())), (1, .one (.d ()))], [], [], none⟩, [(.normal, ⟨[(0, .one (.d ())), (1, .one (.d ()))], [], [], none⟩)])])]
  | 102 => [(0, 4172243, [(⟨[(2, .one (.d ())), (3, .one (.ptr 3 0)), (7, .one (.nil)), (8, .one (.d ())), (10, .one (.ptr 10 0)), (11, .one (.slk 50 none () ())), (12, .one (.d ())), (13, .one (.d ())), (14, .one (.ptr 14 0))], [(14, .box [.d (), .d ()] 58), (50, .arr () 2 58 true), (10, .box [.d (), .d (), .d (), .d ()] 34), (3, .box [.d (), .d ()] 25)], [], none⟩, [(.normal, ⟨[(2, .one (.d ())), (3, .one (.ptr 3 0)), (7, .one (.nil)), (8, .one (.d ())), (10, .one (.ptr 10 0)), (11, .one (.slk 50 none () ())), (12, .one (.d ())), (13, .one (.d ())), (14, .one (.ptr 14 0))], [(14, .box [.d (), .d ()] 58), (50, .arr () 2 58 true), (10, .box [.d (), .d (), .d (), .d ()] 34), (3, .box [.d (), .d ()] 25)], [], none⟩)]), (⟨[(2, .one (.d ())), (3, .one (.ptr 3 0)), (7, .one (.nil)), (8, .one (.slk 19 none () ())), (10, .one (.ptr 10 0)), (11, .one (.slk 50 none () ())), (12, .one (.d ())), (13, .one (.d ())), (14, .one (.ptr 14 0))], [(14, .box [.d (), .d ()] 58), (50, .arr () 2 58 true), (10, .box [.d (), .d (), .d (), .d ()] 34), (19, .arr () 2 58 true), (3, .box [.d (), .d ()] 25)], [], none⟩, [(.normal, ⟨[(2, .one (.d ())), (3, .one (.ptr 3 0)), (7, .one (.nil)), (8, .one (.slk 19 none () ())), (10, .one (.ptr 10 0)), (11, .one (.slk 50 none () ())), (12, .one (.d ())), (13, .one (.d ())), (14, .one (.ptr 14 0))], [(14, .box [.d (), .d ()] 58), (50, .arr () 2 58 true), (10, .box [.d (), .d (), .d (), .d ()] 34), (19, .arr () 2 58 true), (3, .box [.d (), .d ()] 25)], [], none⟩)])]), (0, 15, [(⟨[(1, .one (.d ())), (2, .one (.d ())), (3, .one (.ptr 3 0)), (7, .one (.nil)), (8, .one (.slk 19 none () ()))], [(19, .arr () 2 58 true), (3, .box [.d (), .d ()] 25)], [], none⟩, [(.normal, ⟨[(1, .one (.d ())), (2, .one (.d ())), (3, .one (.ptr 3 0)), (7, .one (.nil)), (8, .one (.d ()))], [(3, .box [.d (), .d ()] 25)], [], none⟩), (.normal, ⟨[(1, .one (.d ())), (2, .one (.d ())), (3, .one (.ptr 3 0)), (7, .one (.nil)), (8, .one (.slk 19 none () ()))], [(19, .arr () 2 58 true), (3, .box [.d (), .d ()] 25)], [], none⟩)])])]
  | 103 => [(0, 3, [(⟨[(0, .one (.d ())), (1, .one (.d ())), (4, .one (.ptr 4 0))], [(4, .box [.d (), .d ()] 58)], [], none⟩, [(.normal, ⟨[(0, .one (.d ())), (1, .one (.d ())), (4, .one (.ptr 4 0))], [(4, .box [.d (), .d ()] 58)], [], none⟩)])])]
  | _ => []
def gjT : Nat → List (Nat × Nat × List (Sk × List (Ex × Sk)))
  | 6 => [(0, 27056, [(⟨[(2, .one (.d ())), (8, .one (.ptr 8 0)), (10, .one (.ptr 10 0)), (11, .one (.ptr 11 0)), (12, .one (.ptr 12 0)), (14, .one (.d ())), (16, .one (.d ())), (17, .one (.d ())), (18, .one (.d ())), (23, .one (.d ())), (25, .one (.d ())), (198, .one (.d ())), (201, .one (.d ()))], [(12, .box [.d (), .d ()] 28), (11, .box [.d (), .d ()] 67), (10, .box [.d (), .d ()] 67), (8, .box [.d (), .d ()] 25)], [], none⟩, [(.normal, ⟨[(2, .one (.d ())), (8, .one (.ptr 8 0)), (10, .one (.ptr 10 0)), (11, .one (.ptr 11 0)), (12, .one (.ptr 12 0)), (14, .one (.d ())), (16, .one (.d ())), (17, .one (.d ())), (18, .one (.d ())), (23, .one (.d ())), (25, .one (.d ())), (198, .one (.b false)), (205, .one (.d ()))], [(12, .box [.d (), .d ()] 28), (11, .box [.d (), .d ()] 67), (10, .box [.d (), .d ()] 67), (8, .box [.d (), .d ()] 25)], [], none⟩)])]), (0, 27047, [(⟨[(2, .one (.d ())), (8, .one (.ptr 8 0)), (10, .one (.ptr 10 0)), (11, .one (.ptr 11 0)), (12, .one (.ptr 12 0)), (14, .one (.d ())), (16, .one (.d ())), (17, .one (.d ())), (18, .one (.d ())), (23, .one (.d ())), (25, .one (.d ())), (189, .one (.d ())), (192, .one (.d ()))], [(12, .box [.d (), .d ()] 28), (11, .box [.d (), .d ()] 67), (10, .box [.d (), .d ()] 67), (8, .box [.d (), .d ()] 25)], [], none⟩, [(.normal, ⟨[(2, .one (.d ())), (8, .one (.ptr 8 0)), (10, .one (.ptr 10 0)), (11, .one (.ptr 11 0)), (12, .one (.ptr 12 0)), (14, .one (.d ())), (16, .one (.d ())), (17, .one (.d ())), (18, .one (.d ())), (23, .one (.d ())), (25, .one (.d ())), (189, .one (.b false)), (196, .one (.d ()))], [(12, .box [.d (), .d ()] 28), (11, .box [.d (), .d ()] 67), (10, .box [.d (), .d ()] 67), (8, .box [.d (), .d ()] 25)], [], none⟩)])]), (0, 27037, [(⟨[(2, .one (.d ())), (8, .one (.ptr 8 0)), (10, .one (.ptr 10 0)), (11, .one (.ptr 11 0)), (12, .one (.ptr 12 0)), (14, .one (.d ())), (16, .one (.d ())), (17, .one (.d ())), (18, .one (.d ())), (23, .one (.d ())), (25, .one (.d ())), (174, .one (.d ())), (182, .one (.d ()))], [(12, .box [.d (), .d ()] 28), (11, .box [.d (), .d ()] 67), (10, .box [.d (), .d ()] 67), (8, .box [.d (), .d ()] 25)], [], none⟩, [(.normal, ⟨[(2, .one (.d ())), (8, .one (.ptr 8 0)), (10, .one (.ptr 10 0)), (11, .one (.ptr 11 0)), (12, .one (.ptr 12 0)), (14, .one (.d ())), (16, .one (.d ())), (17, .one (.d ())), (18, .one (.d ())), (23, .one (.d ())), (25, .one (.d ())), (174, .one (.b false)), (187, .one (.d ()))], [(12, .box [.d (), .d ()] 28), (11, .box [.d (), .d ()] 67), (10, .box [.d (), .d ()] 67), (8, .box [.d (), .d ()] 25)], [], none⟩)])]), (0, 27022, [(⟨[(2, .one (.d ())), (8, .one (.ptr 8 0)), (10, .one (.ptr 10 0)), (11, .one (.ptr 11 0)), (12, .one (.ptr 12 0)), (14, .one (.d ())), (16, .one (.d ())), (17, .one (.d ())), (18, .one (.d ())), (23, .one (.d ())), (25, .one (.d ())), (164, .one (.d ())), (167, .one (.d ()))], [(12, .box [.d (), .d ()] 28), (11, .box [.d (), .d ()] 67), (10, .box [.d (), .d ()] 67), (8, .box [.d (), .d ()] 25)], [], none⟩, [(.normal, ⟨[(2, .one (.d ())), (8, .one (.ptr 8 0)), (10, .one (.ptr 10 0)), (11, .one (.ptr 11 0)), (12, .one (.ptr 12 0)), (14, .one (.d ())), (16, .one (.d ())), (17, .one (.d ())), (18, .one (.d ())), (23, .one (.d ())), (25, .one (.d ())), (164, .one (.b false)), (172, .one (.d ()))], [(12, .box [.d (), .d ()] 28), (11, .box [.d (), .d ()] 67), (10, .box [.d (), .d ()] 67), (8, .box [.d (), .d ()] 25)], [], none⟩)])])]
  | 7 => [(0, 7005, [(⟨[(8, .one (.ptr 8 0)), (9, .one (.d ())), (10, .one (.d ())), (11, .one (.d ())), (12, .one (.ptr 12 0)), (13, .one (.d ())), (14, .one (.d ())), (15, .one (.d ())), (46, .one (.d ())), (48, .one (.d ()))], [(12, .box [.d (), .d ()] 75), (8, .box [.d (), .d ()] 25)], [], none⟩, [(.normal, ⟨[(8, .one (.ptr 8 0)), (9, .one (.d ())), (10, .one (.d ())), (11, .one (.d ())), (12, .one (.ptr 12 0)), (13, .one (.d ())), (14, .one (.d ())), (15, .one (.d ())), (46, .one (.b false)), (50, .one (.d ()))], [(12, .box [.d (), .d ()] 75), (8, .box [.d (), .d ()] 25)], [], none⟩)])])]
  | 9 => [(0, 42010, [(⟨[(4, .one (.ptr 4 0)), (8, .one (.ptr 8 0)), (9, .one (.d ())), (10, .one (.ptr 10 0)), (21, .one (.ptr 21 0)), (22, .one (.d ())), (25, .one (.ptr 25 0)), (29, .one (.d ())), (176, .one (.d ())), (179, .one (.d ()))], [(25, .box [.d (), .d ()] 58), (21, .box [.d (), .nil] 95), (10, .box [.d (), .d ()] 58), (8, .box [.d (), .d ()] 25), (4, .box [.d (), .d (), .d (), .d ()] 91)], [], none⟩, [(.normal, ⟨[(4, .one (.ptr 4 0)), (8, .one (.ptr 8 0)), (9, .one (.d ())), (10, .one (.ptr 10 0)), (21, .one (.ptr 21 0)), (22, .one (.d ())), (25, .one (.ptr 25 0)), (176, .one (.b false)), (182, .one (.d ()))], [(25, .box [.d (), .d ()] 58), (21, .box [.d (), .nil] 95), (10, .box [.d (), .d ()] 58), (8, .box [.d (), .d ()] 25), (4, .box [.d (), .d (), .d (), .d ()] 91)], [], none⟩)]), (⟨[(4, .one (.ptr 4 0)), (8, .one (.ptr 8 0)), (9, .one (.d ())), (10, .one (.ptr 10 0)), (21, .one (.ptr 21 0)), (22, .one (.d ())), (25, .one (.ptr 25 0)), (29, .one (.d ())), (176, .one (.d ())), (179, .one (.d ()))], [(114, .arr () 2 67 true), (25, .box [.d (), .d ()] 58), (21, .box [.d (), .slk 114 none () ()] 95), (10, .box [.d (), .d ()] 58), (8, .box [.d (), .d ()] 25), (4, .box [.d (), .d (), .d (), .d ()] 91)], [], none⟩, [(.normal, ⟨[(4, .one (.ptr 4 0)), (8, .one (.ptr 8 0)), (9, .one (.d ())), (10, .one (.ptr 10 0)), (21, .one (.ptr 21 0)), (22, .one (.d ())), (25, .one (.ptr 25 0)), (176, .one (.b false)), (182, .one (.d ()))], [(114, .arr () 2 67 true), (25, .box [.d (), .d ()] 58), (21, .box [.d (), .slk 114 none () ()] 95), (10, .box [.d (), .d ()] 58), (8, .box [.d (), .d ()] 25), (4, .box [.d (), .d (), .d (), .d ()] 91)], [], none⟩)])])]
  | 10 => [(0, 19013, [(⟨[(1, .one (.d ())), (3, .one (.ptr 3 0)), (14, .one (.ptr 14 0)), (15, .one (.d ())), (22, .one (.d ())), (24, .one (.ptr 24 0)), (26, .one (.ptr 26 0)), (192, .one (.d ())), (195, .one (.d ()))], [(26, .box [.d (), .d ()] 75), (24, .box [.d (), .d ()] 89), (14, .box [.d (), .d ()] 58), (3, .box [.d (), .d ()] 25)], [], none⟩, [(.normal, ⟨[(1, .one (.d ())), (3, .one (.ptr 3 0)), (14, .one (.ptr 14 0)), (15, .one (.d ())), (22, .one (.d ())), (24, .one (.ptr 24 0)), (192, .one (.b false)), (199, .one (.d ()))], [(24, .box [.d (), .d ()] 89), (14, .box [.d (), .d ()] 58), (3, .box [.d (), .d ()] 25)], [], none⟩)])])]
  | _ => []
def jpT : Nat → List Nat
  | 5 => [255]
  | 6 => [67086675, 134173351, 4192927]
  | 9 => [524201]
  | 11 => [65535, 131071]
  | 25 => [937, 1961, 8105]
  | 89 => [3]
  | 102 => [15, 4172243]
  | 103 => [3]
  | _ => []
def gpT : Nat → List (Nat × Nat)
  | 6 => [(27022, 4), (27037, 4), (27047, 3), (27056, 3)]
  | 7 => [(7005, 1)]
  | 9 => [(42010, 2)]
  | 10 => [(19013, 3)]
  | _ => []
def drT : Nat → List (Nat × List (Nat × Nat))
  | 3 => [(5, [(13, 14), (21, 22)]), (7, [(2, 4), (10, 12), (19, 21)])]
  | 5 => [(15, [(0, 3), (0, 8), (4, 8)]), (20, [(1, 12), (4, 12), (6, 12), (8, 12)])]
  | 6 => [(23, [(1, 15)])]
  | 9 => [(20, [(3, 9), (5, 9), (3, 12), (5, 12), (7, 12), (8, 12), (9, 12)]), (21, [(1, 4)])]
  | 10 => [(10, [(35, 36), (35, 39)]), (12, [(4, 5), (4, 8), (20, 21), (20, 24)])]
  | 13 => [(7, [(0, 3), (0, 7), (4, 7)])]
  | 25 => [(9, [(2, 5)]), (17, [(1, 7), (7, 9), (7, 10), (1, 11), (7, 13), (11, 13), (7, 14), (11, 14), (1, 15), (1, 17)]), (25, [(5, 7), (5, 8), (5, 10), (3, 14), (4, 14), (5, 14), (7, 14), (8, 14), (10, 14), (12, 14)]), (26, [(1, 10)])]
  | 29 => [(2, [(1, 10)])]
  | 30 => [(6, [(0, 3)])]
  | 31 => [(6, [(2, 3), (2, 4)])]
  | 37 => [(5, [(0, 3)])]
  | 43 => [(11, [(1, 11)])]
  | 46 => [(8, [(12, 15), (12, 17)])]
  | 48 => [(9, [(0, 8), (0, 9), (0, 14), (3, 14), (7, 14), (8, 14), (9, 14), (10, 14)])]
  | 49 => [(9, [(0, 3), (0, 8), (4, 8)]), (10, [(6, 7)])]
  | 54 => [(15, [(20, 21), (20, 24), (20, 27), (20, 28)])]
  | 84 => [(9, [(3, 16), (5, 16), (8, 16), (9, 16), (11, 16), (14, 16), (15, 16), (11, 17), (14, 17), (15, 17)]), (11, [(5, 6), (5, 10), (6, 15)])]
  | 85 => [(5, [(6, 10), (6, 12), (6, 14)])]
  | 96 => [(4, [(0, 7), (1, 7)])]
  | 102 => [(20, [(3, 5), (0, 7), (3, 7), (5, 7), (6, 7)])]
  | _ => []
def ashT : Nat → Option (List Sh)
  | 3 => some [.agg 2, .one, .agg 11]
  | 4 => some [.agg 3, .one]
  | 5 => some [.agg 3, .agg 2]
  | 6 => some [.agg 3, .agg 4, .one]
  | 7 => some [.agg 3, .agg 2, .one]
  | 8 => some [.agg 2, .agg 9]
  | 9 => some [.agg 3, .agg 4, .one]
  | 10 => some [.agg 2, .one, .agg 7]
  | 11 => some []
  | 12 => some [.agg 2, .one, .one]
  | 13 => some [.agg 2, .one, .one]
  | 14 => some [.one, .one]
  | 15 => some [.agg 2]
  | 16 => some [.agg 2]
  | 17 => some [.agg 2, .one]
  | 18 => some [.agg 2, .one]
  | 19 => some [.agg 3]
  | 20 => some [.agg 3]
  | 21 => some [.agg 3]
  | 22 => some [.agg 3]
  | 23 => some [.agg 4]
  | 24 => some [.agg 4]
  | 25 => some [.agg 3]
  | 26 => some [.one, .one]
  | 27 => some [.agg 2, .one]
  | 28 => some [.agg 2, .agg 2]
  | 29 => some [.agg 2, .agg 2]
  | 30 => some [.agg 2, .agg 2]
  | 31 => some [.agg 2, .agg 2, .agg 2]
  | 32 => some [.agg 2, .one, .agg 2]
  | 33 => some [.agg 2, .one]
  | 34 => some [.agg 2, .one]
  | 35 => some [.agg 2, .one, .agg 2]
  | 36 => some [.agg 2, .one, .one]
  | 37 => some [.agg 2, .agg 2]
  | 38 => some [.agg 2, .agg 2, .agg 2]
  | 39 => some [.agg 2, .one, .agg 2]
  | 40 => some [.agg 2, .agg 2]
  | 41 => some [.agg 2, .agg 2]
  | 42 => some [.agg 2, .agg 2]
  | 43 => some [.agg 2, .one]
  | 44 => some [.agg 2, .one, .agg 2, .agg 2]
  | 45 => some [.agg 2, .one, .one]
  | 46 => some [.agg 2, .one, .one]
  | 47 => some [.agg 2, .one]
  | 48 => some [.agg 2, .one]
  | 49 => some [.agg 2, .one]
  | 50 => some [.one, .one]
  | 51 => some [.one, .one]
  | 52 => some [.agg 2, .one, .one]
  | 53 => some [.agg 2, .one, .agg 2]
  | 54 => some [.agg 2, .one, .agg 4]
  | 55 => some [.agg 2, .one]
  | 56 => some [.agg 2, .agg 2]
  | 57 => some []
  | 58 => some []
  | 59 => some [.one, .one, .one]
  | 60 => some [.one]
  | 61 => some [.one, .one, .one]
  | 62 => some [.agg 2]
  | 63 => some [.agg 2, .one]
  | 64 => some [.one, .one]
  | 65 => some [.agg 4, .ptr 4]
  | 66 => some [.agg 2, .one]
  | 67 => some [.agg 2, .one]
  | 68 => some [.ptr 3]
  | 69 => some [.agg 2]
  | 70 => some [.agg 2, .agg 2]
  | 71 => some [.agg 2, .one]
  | 72 => some [.agg 2, .one]
  | 73 => some [.agg 2, .agg 2]
  | 74 => some [.ptr 3, .one]
  | 75 => some [.agg 4, .one]
  | 76 => some [.ptr 3, .one]
  | 77 => some [.agg 2, .agg 2]
  | 78 => some [.agg 2, .one]
  | 79 => some [.agg 2, .agg 2]
  | 80 => some [.agg 2, .one]
  | 81 => some [.agg 2, .agg 2]
  | 82 => some [.agg 2, .one, .one]
  | 83 => some [.agg 2]
  | 84 => some [.ptr 3, .agg 2, .agg 2]
  | 85 => some [.ptr 3, .one]
  | 86 => some [.one, .one]
  | 87 => some [.agg 2, .one]
  | 88 => some [.agg 2, .one, .one]
  | 89 => some [.one, .one]
  | 90 => some [.one, .one]
  | 91 => some [.one]
  | 92 => some [.agg 2]
  | 93 => some [.one, .one]
  | 94 => some [.one, .one]
  | 95 => some [.agg 2, .ptr 2]
  | 98 => some [.one]
  | 99 => some [.one, .one]
  | 100 => some [.one]
  | 101 => some [.one, .one]
  | 102 => some [.agg 2, .one, .one]
  | 103 => some [.one, .one]
  | 104 => some [.agg 2, .agg 2]
  | 105 => some [.agg 4, .one, .ptr 2]
  | 106 => some [.one]
  | 107 => some [.one, .one]
  | 109 => some [.one, .one]
  | _ => none
def rskT : Nat → List RS
  | 3 => [[(false, [.d])]]
  | 4 => [[(false, [.d])]]
  | 5 => [[(false, [.d])]]
  | 6 => [[(false, [.d])]]
  | 7 => [[(false, [.d])]]
  | 8 => [[(false, [.d])]]
  | 9 => [[(false, [.d])]]
  | 10 => [[(false, [.d])]]
  | 11 => [[(false, [.d])]]
  | 12 => [[(false, [.d]), (false, [.d])]]
  | 13 => [[(false, [.d]), (false, [.d])]]
  | 14 => [[(false, [.d])]]
  | 15 => [[(false, [.d])]]
  | 16 => [[(false, [.d])]]
  | 17 => [[(false, [.d])]]
  | 18 => [[(false, [.d])]]
  | 19 => [[(false, [.d])]]
  | 20 => [[(false, [.d])]]
  | 21 => [[(false, [.d])]]
  | 22 => [[(false, [.d])]]
  | 23 => [[(false, [.d])]]
  | 24 => [[(false, [.d])]]
  | 25 => [[(true, [.d, .d]), (false, [.d])]]
  | 26 => [[(false, [.d])]]
  | 27 => [[(true, [.d, .d]), (false, [.d])]]
  | 28 => [[(false, [.d]), (false, [.d])]]
  | 29 => [[(true, [.d, .d])]]
  | 30 => [[(true, [.d, .d]), (false, [.d])]]
  | 31 => [[(false, [.d]), (false, [.d])]]
  | 32 => [[(false, [.d]), (false, [.d])]]
  | 33 => [[(false, [.d]), (false, [.d])]]
  | 34 => [[(true, [.d, .d]), (false, [.d])]]
  | 35 => [[(false, [.d])]]
  | 36 => [[(false, [.d])]]
  | 37 => [[(true, [.d, .d]), (false, [.d])]]
  | 38 => [[(false, [.d]), (false, [.d])]]
  | 39 => [[(false, [.d]), (false, [.d])]]
  | 40 => [[(false, [.d]), (false, [.d])]]
  | 41 => [[(false, [.d]), (false, [.d])]]
  | 42 => [[(false, [.d]), (false, [.d])]]
  | 43 => [[(true, [.d, .d]), (false, [.d])]]
  | 44 => [[(false, [.d])]]
  | 45 => [[(false, [.d]), (false, [.d])]]
  | 46 => [[(false, [.d]), (false, [.d])]]
  | 47 => [[(true, [.d, .d]), (false, [.d])]]
  | 48 => [[(false, [.d]), (false, [.d])]]
  | 49 => [[(false, [.d]), (false, [.d])]]
  | 50 => [[(false, [.d])]]
  | 51 => [[(false, [.d])]]
  | 52 => [[(false, [.d])]]
  | 53 => [[(false, [.d])]]
  | 54 => [[(false, [.d])]]
  | 55 => [[(false, [.d])]]
  | 56 => [[(false, [.d])]]
  | 57 => [[(true, [.d, .d])]]
  | 58 => [[(false, [.d])]]
  | 59 => [[(false, [.d])]]
  | 60 => [[(false, [.own 4 34])], [(false, [.d])]]
  | 61 => [[(false, [.d])]]
  | 62 => [[(false, [.om false])]]
  | 63 => [[(false, [.d])]]
  | 64 => [[(false, [.d])]]
  | 65 => [[(false, [.d])]]
  | 66 => [[(false, [.d])]]
  | 67 => [[(false, [.d]), (false, [.d])]]
  | 68 => [[(false, [.d]), (true, [.d, .d]), (true, [.d, .own 1 3, .d]), (false, [.d])], [(false, [.d]), (true, [.d, .d]), (true, [.d, .d, .d]), (false, [.d])]]
  | 69 => [[(false, [.d])]]
  | 70 => [[(false, [.d])]]
  | 71 => [[(false, [.d])]]
  | 72 => [[(true, [.d, .d])]]
  | 73 => [[(false, [.own 1 3])]]
  | 74 => [[(true, [.d, .own 1 3, .d])], [(true, [.d, .d, .d])]]
  | 75 => [[(false, [.d])]]
  | 76 => [[(false, [.d])]]
  | 77 => [[(false, [.d])]]
  | 78 => [[(true, [.d, .d])]]
  | 79 => [[(false, [.own 1 3])]]
  | 80 => [[(false, [.d])]]
  | 81 => [[(false, [.d])]]
  | 82 => [[(false, [.d])]]
  | 83 => [[(false, [.d])]]
  | 84 => [[(false, [.d])]]
  | 85 => [[(false, [.d])]]
  | 86 => [[(true, [.d, .d])]]
  | 87 => [[(true, [.d, .d])]]
  | 88 => [[(false, [.d])]]
  | 89 => [[(false, [.own 4 34])], [(false, [.d])]]
  | 90 => [[(false, [.d])]]
  | 91 => [[(true, [.d, .d])]]
  | 92 => [[(false, [.d])]]
  | 93 => [[(false, [.d])]]
  | 94 => [[(false, [.d])]]
  | 95 => [[(false, [.d])]]
  | 98 => [[(false, [.d])]]
  | 99 => [[(false, [.d])]]
  | 100 => [[(false, [.d])]]
  | 101 => [[(true, [.d, .d])]]
  | 102 => [[(false, [.d])]]
  | 103 => [[(true, [.d, .d])]]
  | 104 => [[(false, [.d])]]
  | 105 => [[(false, [.d])]]
  | 106 => [[(false, [.d])]]
  | 107 => [[(false, [.d])]]
  | 109 => [[(false, [.d])]]
  | _ => []
def tb : Tb3 where
  inl f := Nat.beq f 96 || Nat.beq f 97 || Nat.beq f 108
  draw f id := findD id (drT f)
  lp f b p := getL (findK b p (lpT f))
  jn f b p := match (jpT f).contains p with
    | true => some (getL (findK b p (jnT f)))
    | false => none
  gj f b q := match findP q (gpT f) with
    | some n => some (n, getL (findK b q (gjT f)))
    | none => none
  ash := ashT
  rsk := rskT

/-- More rounds than any loop over what memory holds. -/
def M0 : Nat := 18446744073709551616
noncomputable def FN (n : Nat) : Nat → List D → Out := FnT tb Try.prog M0 400 n
noncomputable abbrev RP (n : Nat) : Pr D Nat Rr (List D) Mr (List Yr) Out := real (FN n) (FnDof (cf3 tb Try.prog) (FN n)) M0
end Go.VE
/- What the functions of this program do, made by a program of ours out of the evaluator itself. -/
namespace Go.VE
open Go.RowKit Go.Proofs
set_option maxRecDepth 100000
set_option maxHeartbeats 4000000
section
variable {Δ N R W M E Ω : Type} (pr : Pr Δ N R W M E Ω)
/-! leazing/leazinglaw04.DriftChecks -/
def G3 (a0 a1 a2 a3 a4 a5 a6 a7 a8 a9 a10 a11 a12 a13 : Δ) : Ω :=
 (pr.bnd (pr.call 11 []) [fun y0 => (pr.bnd (pr.call 12 [a0, a1, a2, a13]) [fun y1 => (pr.bnd (pr.call 13 [a0, a1, a2, a13]) [fun y2 => (pr.bnd (pr.call 14 [(pr.ld y1 0), (pr.ld y2 0)]) [fun y3 => (pr.un .not (pr.ld y0 0) fun x4 => (pr.cond x4
     (pr.out 0 [.d (pr.lit (.bool false))])
     (pr.un .not (pr.ld y3 0) fun x5 => (pr.cond x5
      (pr.out 0 [.d (pr.lit (.bool false))])
      (pr.bin .neq false (pr.ld y1 1) (pr.ld y2 1) fun x6 =>
      (pr.cond x6
       (pr.out 0 [.d (pr.lit (.bool false))])
       (pr.bnd (pr.call 15 [a0, a1]) [fun y7 => (pr.bnd (pr.call 16 [a0, a1]) [fun y8 => (pr.bin .neq false (pr.ld y7 0) (pr.ld y8 0) fun x9 =>
         (pr.cond x9
          (pr.out 0 [.d (pr.lit (.bool false))])
          (pr.bnd (pr.call 17 [a0, a1, a2]) [fun y10 => (pr.bnd (pr.call 18 [a0, a1, a2]) [fun y11 => (pr.bin .neq false (pr.ld y10 0) (pr.ld y11 0) fun x12 =>
            (pr.cond x12
             (pr.out 0 [.d (pr.lit (.bool false))])
             (pr.bnd (pr.call 19 [a3, a4, a5]) [fun y13 => (pr.bnd (pr.call 20 [a3, a4, a5]) [fun y14 => (pr.bin .eql false (pr.ld y13 0) (pr.ld y14 0) fun x15 =>
               (pr.cond x15
                (pr.bnd (pr.call 21 [a6, a7, a8]) [fun y16 => (pr.bnd (pr.call 22 [a6, a7, a8]) [fun y17 => (pr.bin .eql false (pr.ld y16 0) (pr.ld y17 0) fun x18 =>
                  (pr.cond x18
                   (pr.bnd (pr.call 23 [a9, a10, a11, a12]) [fun y19 => (pr.bnd (pr.call 24 [a9, a10, a11, a12]) [fun y20 => (pr.bin .eql false (pr.ld y19 0) (pr.ld y20 0) fun x21 =>
                     (pr.out 0 [.d x21]))])])
                   (pr.out 0 [.d (pr.lit (.bool false))])))])])
                (pr.out 0 [.d (pr.lit (.bool false))])))])])))])])))])])))))))])])])])
/-! leazing/leazinglaw04.DriftTurns -/
def L4_0  : (Nat → List (Y Δ N R M) → Ω) → E → Ω := fun J16 y16 =>
 (pr.lenD (pr.ld y16 1) fun x17 =>
                 (pr.bin .lss false (pr.ld y16 3) x17 fun x18 =>
                  (pr.cond x18
                   (pr.bin .add false (pr.ld y16 0) (pr.ld y16 3) fun x19 =>
                   (pr.bnd (pr.call 12 [(pr.ld y16 4), (pr.ld y16 5), (pr.ld y16 1), x19]) [fun y20 => (pr.bin .neq false (pr.ld y20 1) (pr.lit (.int Go.IntKind.i64 (0))) fun x21 =>
                     (pr.cond x21
                      (pr.out 0 [.d (pr.lit (.bool false))])
                      (pr.lenD (pr.ld y20 0) fun x22 =>
                      (pr.lenD (pr.ld y16 1) fun x23 =>
                       (pr.bin .neq false x22 x23 fun x24 =>
                        (pr.cond x24
                         (pr.out 0 [.d (pr.lit (.bool false))])
                         (pr.rowD 4 (pr.ld y20 0) (pr.lit (.int Go.IntKind.i64 (0))) fun w25 =>
                         (pr.rowD 4 (pr.ld y16 2) (pr.ld y16 3) fun w26 =>
                          (pr.eqs [true, true, true, true] true [(pr.cell w25 0), (pr.cell w25 1), (pr.cell w25 2), (pr.cell w25 3)] [(pr.cell w26 0), (pr.cell w26 1), (pr.cell w26 2), (pr.cell w26 3)] fun x27 => (pr.cond x27
                            (pr.out 0 [.d (pr.lit (.bool false))])
                            (pr.bin .add false (pr.ld y16 3) (pr.lit (.int Go.IntKind.i64 (1))) fun x28 =>
                            (J16 0 [.d (pr.ld y16 0), .d (pr.ld y16 1), .d (pr.ld y16 2), .d x28, .d (pr.ld y16 4), .d (pr.ld y16 5)]))))))))))))]))
                   (pr.out 1 []))))
def G4 (a0 a1 a2 a3 : Δ) : Ω :=
 (pr.bnd (pr.call 11 []) [fun y0 => (pr.bnd (pr.call 25 [a0, a1, a2]) [fun y1 => (pr.bnd (pr.call 26 [a3, (pr.lit (.int Go.IntKind.i64 (4000)))]) [fun y2 => (pr.bnd (pr.call 12 [(pr.ld y1 0), (pr.ld y1 1), (pr.ld y1 2), (pr.lit (.int Go.IntKind.i64 (0)))]) [fun y3 => (pr.bnd (pr.call 12 [(pr.ld y1 0), (pr.ld y1 1), (pr.ld y1 2), (pr.ld y2 0)]) [fun y4 => (pr.lenD (pr.ld y1 2) fun x5 =>
     (pr.bin .add false (pr.ld y2 0) x5 fun x6 =>
      (pr.bnd (pr.call 12 [(pr.ld y1 0), (pr.ld y1 1), (pr.ld y1 2), x6]) [fun y7 => (pr.bnd (pr.call 14 [(pr.ld y3 0), (pr.ld y1 2)]) [fun y8 => (pr.bnd (pr.call 14 [(pr.ld y4 0), (pr.ld y7 0)]) [fun y9 => (pr.un .not (pr.ld y0 0) fun x10 => (pr.cond x10
           (pr.out 0 [.d (pr.lit (.bool false))])
           (pr.bin .neq false (pr.ld y3 1) (pr.lit (.int Go.IntKind.i64 (0))) fun x11 =>
           (pr.cond x11
            (pr.out 0 [.d (pr.lit (.bool false))])
            (pr.bin .neq false (pr.ld y4 1) (pr.lit (.int Go.IntKind.i64 (0))) fun x12 =>
            (pr.cond x12
             (pr.out 0 [.d (pr.lit (.bool false))])
             (pr.bin .neq false (pr.ld y7 1) (pr.lit (.int Go.IntKind.i64 (0))) fun x13 =>
             (pr.cond x13
              (pr.out 0 [.d (pr.lit (.bool false))])
              (pr.un .not (pr.ld y8 0) fun x14 => (pr.cond x14
               (pr.out 0 [.d (pr.lit (.bool false))])
               (pr.un .not (pr.ld y9 0) fun x15 => (pr.cond x15
                (pr.out 0 [.d (pr.lit (.bool false))])
                (pr.bnd (pr.loop [(L4_0 pr)] 0 [.d (pr.ld y2 0), .d (pr.ld y1 2), .d (pr.ld y4 0), .d (pr.lit (.int Go.IntKind.i64 (0))), .d (pr.ld y1 0), .d (pr.ld y1 1)]) [fun y16 => (pr.out 0 [.d (pr.ld y16 0)]), fun y16 => (pr.out 0 [.d (pr.lit (.bool true))])])))))))))))))])])])))])])])])])
/-! leazing/leazinglaw04.DriftLengths -/
def G8 (a0 a1 a2 a3 a4 a5 a6 a7 a8 a9 a10 : Δ) : Ω :=
 (pr.bnd (pr.call 11 []) [fun y0 => (pr.bnd (pr.call 30 [a0, a1, a2, a3]) [fun y1 => (pr.bnd (pr.call 37 [a0, a1, a2, a3]) [fun y2 => (pr.bnd (pr.call 31 [a0, a1, a2, a3, a4, a5]) [fun y3 => (pr.bnd (pr.call 38 [a0, a1, a2, a3, a4, a5]) [fun y4 => (pr.bnd (pr.call 32 [a0, a1, a10, a2, a3]) [fun y5 => (pr.bnd (pr.call 39 [a0, a1, a10, a2, a3]) [fun y6 => (pr.bnd (pr.call 40 [a0, a1, a4, a5]) [fun y7 => (pr.bnd (pr.call 41 [a0, a1, a4, a5]) [fun y8 => (pr.bnd (pr.call 28 [a6, a7, a8, a9]) [fun y9 => (pr.bnd (pr.call 42 [a6, a7, a8, a9]) [fun y10 => (pr.cond (pr.ld y0 0)
           (pr.eqs [true, true] false [(pr.ld y1 0), (pr.ld y1 1)] [(pr.ld y2 0), (pr.ld y2 1)] fun x11 => (pr.cond x11
            (pr.bin .eql false (pr.ld y1 2) (pr.ld y2 2) fun x12 =>
            (pr.cond x12
             (pr.bin .eql false (pr.ld y3 0) (pr.ld y4 0) fun x13 =>
             (pr.cond x13
              (pr.bin .eql false (pr.ld y3 1) (pr.ld y4 1) fun x14 =>
              (pr.cond x14
               (pr.bin .eql false (pr.ld y5 0) (pr.ld y6 0) fun x15 =>
               (pr.cond x15
                (pr.bin .eql false (pr.ld y5 1) (pr.ld y6 1) fun x16 =>
                (pr.cond x16
                 (pr.bin .eql false (pr.ld y7 0) (pr.ld y8 0) fun x17 =>
                 (pr.cond x17
                  (pr.bin .eql false (pr.ld y7 1) (pr.ld y8 1) fun x18 =>
                  (pr.cond x18
                   (pr.bin .eql false (pr.ld y9 0) (pr.ld y10 0) fun x19 =>
                   (pr.cond x19
                    (pr.bin .eql false (pr.ld y9 1) (pr.ld y10 1) fun x20 =>
                    (pr.out 0 [.d x20]))
                    (pr.out 0 [.d (pr.lit (.bool false))])))
                   (pr.out 0 [.d (pr.lit (.bool false))])))
                  (pr.out 0 [.d (pr.lit (.bool false))])))
                 (pr.out 0 [.d (pr.lit (.bool false))])))
                (pr.out 0 [.d (pr.lit (.bool false))])))
               (pr.out 0 [.d (pr.lit (.bool false))])))
              (pr.out 0 [.d (pr.lit (.bool false))])))
             (pr.out 0 [.d (pr.lit (.bool false))])))
            (pr.out 0 [.d (pr.lit (.bool false))])))
           (pr.out 0 [.d (pr.lit (.bool false))]))])])])])])])])])])])])
/-! leazing/drift.Turn -/
def G12 (a0 a1 a2 a3 : Δ) : Ω :=
 (pr.bnd (pr.call 17 [a0, a1, a2]) [fun y0 => (pr.bin .neq false (pr.ld y0 0) (pr.lit (.int Go.IntKind.i64 (0))) fun x1 =>
 (pr.cond x1
  (pr.out 0 [.d (pr.lit (.slice none 0 0)), .d (pr.ld y0 0)])
  (pr.bnd (pr.call 59 [a3, (pr.lit (.int Go.IntKind.i64 (0))), (pr.lit (.int Go.IntKind.i64 (4166)))]) [fun y2 => (pr.un .not (pr.ld y2 0) fun x3 => (pr.cond x3
    (pr.out 0 [.d (pr.lit (.slice none 0 0)), .d (pr.lit (.int Go.IntKind.i64 (6)))])
    (pr.lenD a2 fun x4 =>
    (pr.bin .rem false a3 x4 fun x5 =>
     (pr.cutD 4 a2 (some x5) none fun x6 =>
      (pr.cutD 4 a2 none (some x5) fun x7 =>
       (pr.eqN (pr.natN 2) (pr.len (pr.rows [[x6], [x7]])) (pr.bnd (pr.call 60 [(pr.slD 1 (pr.seg (pr.rows [[x6], [x7]]) none (pr.natN 2)))]) [fun y8 => (pr.lits [.r (pr.lr y8 0)]
         (pr.eqN (pr.len (pr.lr y8 0)) (pr.len (pr.lr y8 0)) (pr.out 0 [.d (pr.slD 4 (pr.seg (pr.lr y8 0) none (pr.len (pr.lr y8 0)))), .d (pr.lit (.int Go.IntKind.i64 (0)))]))), fun y8 => (pr.lits [.d (pr.ld y8 0)]
         (pr.out 0 [.d (pr.ld y8 0), .d (pr.lit (.int Go.IntKind.i64 (0)))]))]))))))))])))])
/-! leazing/leazingref04.Turn -/
def G13 (a0 a1 a2 a3 : Δ) : Ω :=
 (pr.bnd (pr.call 18 [a0, a1, a2]) [fun y0 => (pr.bin .neq false (pr.ld y0 0) (pr.lit (.int Go.IntKind.i64 (0))) fun x1 =>
 (pr.cond x1
  (pr.out 0 [.d (pr.lit (.slice none 0 0)), .d (pr.ld y0 0)])
  (pr.bnd (pr.call 61 [a3, (pr.lit (.int Go.IntKind.i64 (0))), (pr.lit (.int Go.IntKind.i64 (4166)))]) [fun y2 => (pr.un .not (pr.ld y2 0) fun x3 => (pr.cond x3
    (pr.out 0 [.d (pr.lit (.slice none 0 0)), .d (pr.lit (.int Go.IntKind.i64 (6)))])
    (pr.lenD a2 fun x4 =>
    (pr.bin .rem false a3 x4 fun x5 =>
     (pr.cutD 4 a2 (some x5) none fun x6 =>
      (pr.rowsD 4 x6 fun r7 => (pr.eqN (pr.natN 0) (pr.len (pr.rows [])) (pr.eqN (pr.natN 0) (pr.len (pr.rows [])) (pr.fits 32 (pr.addN (pr.natN 0) (pr.len r7))
        (pr.cutD 4 a2 none (some x5) fun x8 =>
        (pr.rowsD 4 x8 fun r9 => (pr.eqN (pr.addN (pr.natN 0) (pr.len r7)) (pr.len (pr.app (pr.rows []) r7)) (pr.eqN (pr.addN (pr.natN 0) (pr.len r7)) (pr.len (pr.app (pr.rows []) r7)) (pr.fits 32 (pr.addN (pr.addN (pr.natN 0) (pr.len r7)) (pr.len r9))
          (pr.eqN (pr.addN (pr.addN (pr.natN 0) (pr.len r7)) (pr.len r9)) (pr.len (pr.app (pr.app (pr.rows []) r7) r9)) (pr.out 0 [.d (pr.slD 4 (pr.seg (pr.app (pr.app (pr.rows []) r7) r9) none (pr.addN (pr.addN (pr.natN 0) (pr.len r7)) (pr.len r9)))), .d (pr.lit (.int Go.IntKind.i64 (0)))]))))))))))))))))])))])
/-! leazing/leazingref04.SameClaims -/
def L14_0  : (Nat → List (Y Δ N R M) → Ω) → E → Ω := fun J3 y3 =>
 (pr.lenD (pr.ld y3 0) fun x4 =>
    (pr.bin .lss false (pr.ld y3 3) x4 fun x5 =>
     (pr.cond x5
      (pr.cond (pr.ld y3 2)
      (pr.rowD 4 (pr.ld y3 0) (pr.ld y3 3) fun w6 =>
      (pr.rowD 4 (pr.ld y3 1) (pr.ld y3 3) fun w7 =>
       (pr.eqs [true, true, true, true] false [(pr.cell w6 0), (pr.cell w6 1), (pr.cell w6 2), (pr.cell w6 3)] [(pr.cell w7 0), (pr.cell w7 1), (pr.cell w7 2), (pr.cell w7 3)] fun x8 => (pr.bin .add false (pr.ld y3 3) (pr.lit (.int Go.IntKind.i64 (1))) fun x9 =>
         (J3 0 [.d (pr.ld y3 0), .d (pr.ld y3 1), .d x8, .d x9])))))
      (pr.out 0 [.d (pr.ld y3 2)]))
      (pr.out 0 [.d (pr.ld y3 2)]))))
def G14 (a0 a1 : Δ) : Ω :=
 (pr.lenD a0 fun x0 =>
(pr.lenD a1 fun x1 =>
 (pr.bin .eql false x0 x1 fun x2 =>
  (pr.bnd (pr.loop [(L14_0 pr)] 0 [.d a0, .d a1, .d x2, .d (pr.lit (.int Go.IntKind.i64 (0)))]) [fun y3 => (pr.out 0 [.d (pr.ld y3 0)])]))))
/-! leazing/drift.Check -/
def L15_0  : (Nat → List (Y Δ N R M) → Ω) → E → Ω := fun J7 y7 =>
 (pr.bin .lss false (pr.ld y7 2) (pr.ld y7 1) fun x8 =>
        (pr.cond x8
         (pr.rowD 3 (pr.ld y7 0) (pr.ld y7 2) fun w9 =>
         (pr.bnd (pr.call 19 [(pr.cell w9 0), (pr.cell w9 1), (pr.cell w9 2)]) [fun y10 => (pr.bin .neq false (pr.ld y10 0) (pr.lit (.int Go.IntKind.i64 (0))) fun x11 =>
           (pr.cond x11
            (pr.out 0 [.d (pr.lit (.int Go.IntKind.i64 (42)))])
            (pr.bin .gtr false (pr.ld y7 2) (pr.lit (.int Go.IntKind.i64 (0))) fun x12 =>
            (pr.cond x12
             (pr.bin .sub false (pr.ld y7 2) (pr.lit (.int Go.IntKind.i64 (1))) fun x13 =>
             (pr.rowD 3 (pr.ld y7 3) x13 fun w14 =>
              (pr.bin .geq false (pr.cell w14 0) (pr.cell w9 0) fun x15 =>
               (pr.cond x15
                (pr.out 0 [.d (pr.lit (.int Go.IntKind.i64 (42)))])
                (pr.bin .add false (pr.ld y7 2) (pr.lit (.int Go.IntKind.i64 (1))) fun x16 =>
                (J7 0 [.d (pr.ld y7 0), .d (pr.ld y7 1), .d x16, .d (pr.ld y7 3), .d (pr.ld y7 4)]))))))
             (pr.bin .add false (pr.ld y7 2) (pr.lit (.int Go.IntKind.i64 (1))) fun x13 =>
             (J7 0 [.d (pr.ld y7 0), .d (pr.ld y7 1), .d x13, .d (pr.ld y7 3), .d (pr.ld y7 4)]))))))]))
         (pr.out 1 [.d (pr.ld y7 3), .d (pr.ld y7 4)])))
def L15_1  : (Nat → List (Y Δ N R M) → Ω) → E → Ω := fun J10 y10 =>
 (pr.bin .lss false (pr.ld y10 2) (pr.ld y10 1) fun x11 =>
           (pr.cond x11
            (pr.rowD 3 (pr.ld y10 0) (pr.ld y10 2) fun w12 =>
            (pr.look 0 [(.int Go.IntKind.i64 (0))] (pr.lm y10 3) (pr.cell w12 0) fun w13 x13 =>
             (pr.bnd (pr.call 21 [(pr.cell w12 0), (pr.cell w12 1), (pr.cell w12 2)]) [fun y14 => (pr.bin .neq false (pr.ld y14 0) (pr.lit (.int Go.IntKind.i64 (0))) fun x15 =>
               (pr.cond x15
                (pr.out 0 [.d (pr.lit (.int Go.IntKind.i64 (42)))])
                (pr.un .not x13 fun x16 => (pr.cond x16
                 (pr.out 0 [.d (pr.lit (.int Go.IntKind.i64 (42)))])
                 (pr.bin .add false (pr.ld y10 2) (pr.lit (.int Go.IntKind.i64 (1))) fun x17 =>
                 (J10 0 [.d (pr.ld y10 0), .d (pr.ld y10 1), .d x17, .m (pr.lm y10 3)]))))))])))
            (pr.out 1 [])))
def G15 (a0 a1 : Δ) : Ω :=
 (pr.lenD a0 fun x0 =>
(pr.bnd (pr.call 59 [x0, (pr.lit (.int Go.IntKind.i64 (1))), (pr.lit (.int Go.IntKind.i64 (6)))]) [fun y1 => (pr.un .not (pr.ld y1 0) fun x2 => (pr.cond x2
   (pr.out 0 [.d (pr.lit (.int Go.IntKind.i64 (42)))])
   (pr.lenD a1 fun x3 =>
   (pr.bnd (pr.call 59 [x3, (pr.lit (.int Go.IntKind.i64 (1))), (pr.lit (.int Go.IntKind.i64 (24)))]) [fun y4 => (pr.un .not (pr.ld y4 0) fun x5 => (pr.cond x5
      (pr.out 0 [.d (pr.lit (.int Go.IntKind.i64 (42)))])
      (pr.lenD a0 fun x6 =>
      (pr.bnd (pr.loop [(L15_0 pr)] 0 [.d a0, .d x6, .d (pr.lit (.int Go.IntKind.i64 (0))), .d a0, .d a1]) [fun y7 => (pr.out 0 [.d (pr.ld y7 0)]), fun y7 => (pr.bnd (pr.call 62 [(pr.ld y7 0), (pr.ld y7 1)]) [fun y8 => (pr.lenD (pr.ld y7 1) fun x9 =>
         (pr.bnd (pr.loop [(L15_1 pr)] 0 [.d (pr.ld y7 1), .d x9, .d (pr.lit (.int Go.IntKind.i64 (0))), .m (pr.lm y8 0)]) [fun y10 => (pr.out 0 [.d (pr.ld y10 0)]), fun y10 => (pr.out 0 [.d (pr.lit (.int Go.IntKind.i64 (0)))])]))])]))))]))))]))
/-! leazing/leazingref04.Check -/
def L16_0  : (Nat → List (Y Δ N R M) → Ω) → E → Ω := fun J6 y6 =>
 (pr.lenD (pr.ld y6 1) fun x7 =>
       (pr.bin .lss false (pr.ld y6 0) x7 fun x8 =>
        (pr.cond x8
         (pr.rowD 3 (pr.ld y6 1) (pr.ld y6 0) fun w9 =>
         (pr.bnd (pr.call 20 [(pr.cell w9 0), (pr.cell w9 1), (pr.cell w9 2)]) [fun y10 => (pr.bin .neq false (pr.ld y10 0) (pr.lit (.int Go.IntKind.i64 (0))) fun x11 =>
           (pr.cond x11
            (pr.out 0 [.d (pr.lit (.int Go.IntKind.i64 (42)))])
            (pr.bin .gtr false (pr.ld y6 0) (pr.lit (.int Go.IntKind.i64 (0))) fun x12 =>
            (pr.cond x12
             (pr.bin .sub false (pr.ld y6 0) (pr.lit (.int Go.IntKind.i64 (1))) fun x13 =>
             (pr.rowD 3 (pr.ld y6 1) x13 fun w14 =>
              (pr.rowD 3 (pr.ld y6 1) (pr.ld y6 0) fun w15 =>
               (pr.bin .geq false (pr.cell w14 0) (pr.cell w15 0) fun x16 =>
                (pr.cond x16
                 (pr.out 0 [.d (pr.lit (.int Go.IntKind.i64 (42)))])
                 (pr.bin .add false (pr.ld y6 0) (pr.lit (.int Go.IntKind.i64 (1))) fun x17 =>
                 (J6 0 [.d x17, .d (pr.ld y6 1), .d (pr.ld y6 2)])))))))
             (pr.bin .add false (pr.ld y6 0) (pr.lit (.int Go.IntKind.i64 (1))) fun x13 =>
             (J6 0 [.d x13, .d (pr.ld y6 1), .d (pr.ld y6 2)]))))))]))
         (pr.out 1 [.d (pr.ld y6 1), .d (pr.ld y6 2)]))))
def L16_1  : (Nat → List (Y Δ N R M) → Ω) → E → Ω := fun J7 y7 =>
 (pr.lenD (pr.ld y7 2) fun x8 =>
        (pr.bin .lss false (pr.ld y7 0) x8 fun x9 =>
         (pr.cond x9
          (pr.rowD 3 (pr.ld y7 2) (pr.ld y7 0) fun w10 =>
          (pr.bnd (pr.call 22 [(pr.cell w10 0), (pr.cell w10 1), (pr.cell w10 2)]) [fun y11 => (pr.bin .neq false (pr.ld y11 0) (pr.lit (.int Go.IntKind.i64 (0))) fun x12 =>
            (pr.cond x12
             (pr.out 0 [.d (pr.lit (.int Go.IntKind.i64 (42)))])
             (pr.rowD 3 (pr.ld y7 2) (pr.ld y7 0) fun w13 =>
             (pr.bnd (pr.call 63 [(pr.ld y7 1), (pr.ld y7 2), (pr.cell w13 0)]) [fun y14 => (pr.bin .lss false (pr.ld y14 0) (pr.lit (.int Go.IntKind.i64 (0))) fun x15 =>
               (pr.cond x15
                (pr.out 0 [.d (pr.lit (.int Go.IntKind.i64 (42)))])
                (pr.bin .add false (pr.ld y7 0) (pr.lit (.int Go.IntKind.i64 (1))) fun x16 =>
                (J7 0 [.d x16, .d (pr.ld y7 1), .d (pr.ld y7 2)]))))]))))]))
          (pr.out 1 []))))
def G16 (a0 a1 : Δ) : Ω :=
 (pr.lenD a0 fun x0 =>
(pr.bnd (pr.call 61 [x0, (pr.lit (.int Go.IntKind.i64 (1))), (pr.lit (.int Go.IntKind.i64 (6)))]) [fun y1 => (pr.un .not (pr.ld y1 0) fun x2 => (pr.cond x2
   (pr.out 0 [.d (pr.lit (.int Go.IntKind.i64 (42)))])
   (pr.lenD a1 fun x3 =>
   (pr.bnd (pr.call 61 [x3, (pr.lit (.int Go.IntKind.i64 (1))), (pr.lit (.int Go.IntKind.i64 (24)))]) [fun y4 => (pr.un .not (pr.ld y4 0) fun x5 => (pr.cond x5
      (pr.out 0 [.d (pr.lit (.int Go.IntKind.i64 (42)))])
      (pr.bnd (pr.loop [(L16_0 pr)] 0 [.d (pr.lit (.int Go.IntKind.i64 (0))), .d a0, .d a1]) [fun y6 => (pr.out 0 [.d (pr.ld y6 0)]), fun y6 => (pr.bnd (pr.loop [(L16_1 pr)] 0 [.d (pr.lit (.int Go.IntKind.i64 (0))), .d (pr.ld y6 0), .d (pr.ld y6 1)]) [fun y7 => (pr.out 0 [.d (pr.ld y7 0)]), fun y7 => (pr.out 0 [.d (pr.lit (.int Go.IntKind.i64 (0)))])])])))]))))]))
/-! leazing/drift.CheckClaims -/
def L17_0  : (Nat → List (Y Δ N R M) → Ω) → E → Ω := fun J6 y6 =>
 (pr.bin .lss false (pr.ld y6 3) (pr.ld y6 2) fun x7 =>
       (pr.cond x7
        (pr.rowD 4 (pr.ld y6 1) (pr.ld y6 3) fun w8 =>
        (pr.cutD 4 (pr.ld y6 0) none (some (pr.ld y6 3)) fun x9 =>
         (pr.bnd (pr.call 64 [x9, (pr.fnD 65 [(pr.dpD [(pr.cell w8 0), (pr.cell w8 1), (pr.cell w8 2), (pr.cell w8 3)] 0)])]) [fun y10 => (pr.lits [.d (pr.ld y10 0)]
           (pr.bnd (pr.call 23 [(pr.cell w8 0), (pr.cell w8 1), (pr.cell w8 2), (pr.cell w8 3)]) [fun y11 => (pr.bin .neq false (pr.ld y11 0) (pr.lit (.int Go.IntKind.i64 (0))) fun x12 =>
            (pr.cond x12
             (pr.out 0 [.d (pr.lit (.int Go.IntKind.i64 (44)))])
             (pr.cond (pr.ld y10 0)
             (pr.out 0 [.d (pr.lit (.int Go.IntKind.i64 (44)))])
             (pr.lenD (pr.ld y6 5) fun x13 =>
             (pr.bin .geq false (pr.cell w8 3) x13 fun x14 =>
              (pr.cond x14
               (pr.out 0 [.d (pr.lit (.int Go.IntKind.i64 (44)))])
               (pr.bin .add false (pr.ld y6 3) (pr.lit (.int Go.IntKind.i64 (1))) fun x15 =>
               (J6 0 [.d (pr.ld y6 0), .d (pr.ld y6 1), .d (pr.ld y6 2), .d x15, .d (pr.ld y6 4), .d (pr.ld y6 5)]))))))))]))])))
        (pr.out 1 [])))
def G17 (a0 a1 a2 : Δ) : Ω :=
 (pr.bnd (pr.call 15 [a0, a1]) [fun y0 => (pr.bin .neq false (pr.ld y0 0) (pr.lit (.int Go.IntKind.i64 (0))) fun x1 =>
 (pr.cond x1
  (pr.out 0 [.d (pr.ld y0 0)])
  (pr.lenD a2 fun x2 =>
  (pr.bnd (pr.call 59 [x2, (pr.lit (.int Go.IntKind.i64 (1))), (pr.lit (.int Go.IntKind.i64 (12)))]) [fun y3 => (pr.un .not (pr.ld y3 0) fun x4 => (pr.cond x4
     (pr.out 0 [.d (pr.lit (.int Go.IntKind.i64 (44)))])
     (pr.lenD a2 fun x5 =>
     (pr.bnd (pr.loop [(L17_0 pr)] 0 [.d a2, .d a2, .d x5, .d (pr.lit (.int Go.IntKind.i64 (0))), .d a0, .d a1]) [fun y6 => (pr.out 0 [.d (pr.ld y6 0)]), fun y6 => (pr.out 0 [.d (pr.lit (.int Go.IntKind.i64 (0)))])]))))]))))])
/-! leazing/leazingref04.CheckClaims -/
def G18 (a0 a1 a2 : Δ) : Ω :=
 (pr.bnd (pr.call 16 [a0, a1]) [fun y0 => (pr.bin .neq false (pr.ld y0 0) (pr.lit (.int Go.IntKind.i64 (0))) fun x1 =>
 (pr.cond x1
  (pr.out 0 [.d (pr.lit (.int Go.IntKind.i64 (42)))])
  (pr.bnd (pr.call 66 [a0, a1, a2]) [fun y2 => (pr.un .not (pr.ld y2 0) fun x3 => (pr.cond x3
    (pr.out 0 [.d (pr.lit (.int Go.IntKind.i64 (44)))])
    (pr.out 0 [.d (pr.lit (.int Go.IntKind.i64 (0)))])))])))])
/-! leazing/drift.CheckChain -/
def G19 (a0 a1 a2 : Δ) : Ω :=
 (pr.bnd (pr.call 59 [a0, (pr.lit (.int Go.IntKind.i64 (1))), (pr.lit (.int Go.IntKind.i64 (99)))]) [fun y0 => (pr.un .not (pr.ld y0 0) fun x1 => (pr.cond x1
  (pr.out 0 [.d (pr.lit (.int Go.IntKind.i64 (40)))])
  (pr.bin .lss false a1 (pr.lit (.int Go.IntKind.i64 (1))) fun x2 =>
  (pr.cond x2
   (pr.out 0 [.d (pr.lit (.int Go.IntKind.i64 (40)))])
   (pr.bin .lss false a2 a1 fun x3 =>
   (pr.cond x3
    (pr.out 0 [.d (pr.lit (.int Go.IntKind.i64 (40)))])
    (pr.bin .gtr false a2 (pr.lit (.int Go.IntKind.i64 (1000))) fun x4 =>
    (pr.cond x4
     (pr.out 0 [.d (pr.lit (.int Go.IntKind.i64 (40)))])
     (pr.out 0 [.d (pr.lit (.int Go.IntKind.i64 (0)))])))))))))])
/-! leazing/leazingref04.CheckChain -/
def G20 (a0 a1 a2 : Δ) : Ω :=
 (pr.bnd (pr.call 61 [a0, (pr.lit (.int Go.IntKind.i64 (1))), (pr.lit (.int Go.IntKind.i64 (99)))]) [fun y0 => (pr.un .not (pr.ld y0 0) fun x1 => (pr.cond x1
  (pr.out 0 [.d (pr.lit (.int Go.IntKind.i64 (40)))])
  (pr.bnd (pr.call 61 [a1, (pr.lit (.int Go.IntKind.i64 (1))), a2]) [fun y2 => (pr.un .not (pr.ld y2 0) fun x3 => (pr.cond x3
    (pr.out 0 [.d (pr.lit (.int Go.IntKind.i64 (40)))])
    (pr.bin .gtr false a2 (pr.lit (.int Go.IntKind.i64 (1000))) fun x4 =>
    (pr.cond x4
     (pr.out 0 [.d (pr.lit (.int Go.IntKind.i64 (40)))])
     (pr.out 0 [.d (pr.lit (.int Go.IntKind.i64 (0)))])))))])))])
/-! leazing/drift.CheckCell -/
def G21 (a0 a1 a2 : Δ) : Ω :=
 (pr.bnd (pr.call 59 [a0, (pr.lit (.int Go.IntKind.i64 (1))), (pr.lit (.int Go.IntKind.i64 (99)))]) [fun y0 => (pr.un .not (pr.ld y0 0) fun x1 => (pr.cond x1
  (pr.out 0 [.d (pr.lit (.int Go.IntKind.i64 (41)))])
  (pr.bnd (pr.call 59 [a1, (pr.lit (.int Go.IntKind.i64 (1))), (pr.lit (.int Go.IntKind.i64 (1000)))]) [fun y2 => (pr.un .not (pr.ld y2 0) fun x3 => (pr.cond x3
    (pr.out 0 [.d (pr.lit (.int Go.IntKind.i64 (41)))])
    (pr.bnd (pr.call 59 [a2, (pr.lit (.int Go.IntKind.i64 (0))), (pr.lit (.int Go.IntKind.i64 (10000)))]) [fun y4 => (pr.un .not (pr.ld y4 0) fun x5 => (pr.cond x5
      (pr.out 0 [.d (pr.lit (.int Go.IntKind.i64 (41)))])
      (pr.out 0 [.d (pr.lit (.int Go.IntKind.i64 (0)))])))])))])))])
/-! leazing/leazingref04.CheckCell -/
def G22 (a0 a1 a2 : Δ) : Ω :=
 (pr.bnd (pr.call 61 [a0, (pr.lit (.int Go.IntKind.i64 (1))), (pr.lit (.int Go.IntKind.i64 (99)))]) [fun y0 => (pr.un .not (pr.ld y0 0) fun x1 => (pr.cond x1
  (pr.out 0 [.d (pr.lit (.int Go.IntKind.i64 (41)))])
  (pr.bnd (pr.call 61 [a1, (pr.lit (.int Go.IntKind.i64 (1))), (pr.lit (.int Go.IntKind.i64 (1000)))]) [fun y2 => (pr.un .not (pr.ld y2 0) fun x3 => (pr.cond x3
    (pr.out 0 [.d (pr.lit (.int Go.IntKind.i64 (41)))])
    (pr.bnd (pr.call 61 [a2, (pr.lit (.int Go.IntKind.i64 (0))), (pr.lit (.int Go.IntKind.i64 (10000)))]) [fun y4 => (pr.un .not (pr.ld y4 0) fun x5 => (pr.cond x5
      (pr.out 0 [.d (pr.lit (.int Go.IntKind.i64 (41)))])
      (pr.out 0 [.d (pr.lit (.int Go.IntKind.i64 (0)))])))])))])))])
/-! leazing/drift.CheckClaim -/
def G23 (a0 a1 a2 a3 : Δ) : Ω :=
 (pr.bnd (pr.call 59 [a0, (pr.lit (.int Go.IntKind.i64 (1))), (pr.lit (.int Go.IntKind.i64 (99)))]) [fun y0 => (pr.un .not (pr.ld y0 0) fun x1 => (pr.cond x1
  (pr.out 0 [.d (pr.lit (.int Go.IntKind.i64 (43)))])
  (pr.bnd (pr.call 59 [a1, (pr.lit (.int Go.IntKind.i64 (1))), (pr.lit (.int Go.IntKind.i64 (20)))]) [fun y2 => (pr.un .not (pr.ld y2 0) fun x3 => (pr.cond x3
    (pr.out 0 [.d (pr.lit (.int Go.IntKind.i64 (43)))])
    (pr.bin .lss false a2 (pr.lit (.int Go.IntKind.i64 (0))) fun x4 =>
    (pr.cond x4
     (pr.out 0 [.d (pr.lit (.int Go.IntKind.i64 (43)))])
     (pr.bin .lss false a3 a2 fun x5 =>
     (pr.cond x5
      (pr.out 0 [.d (pr.lit (.int Go.IntKind.i64 (43)))])
      (pr.bin .geq false a3 (pr.lit (.int Go.IntKind.i64 (24))) fun x6 =>
      (pr.cond x6
       (pr.out 0 [.d (pr.lit (.int Go.IntKind.i64 (43)))])
       (pr.out 0 [.d (pr.lit (.int Go.IntKind.i64 (0)))])))))))))])))])
/-! leazing/leazingref04.CheckClaim -/
def G24 (a0 a1 a2 a3 : Δ) : Ω :=
 (pr.bnd (pr.call 61 [a0, (pr.lit (.int Go.IntKind.i64 (1))), (pr.lit (.int Go.IntKind.i64 (99)))]) [fun y0 => (pr.un .not (pr.ld y0 0) fun x1 => (pr.cond x1
  (pr.out 0 [.d (pr.lit (.int Go.IntKind.i64 (43)))])
  (pr.bnd (pr.call 61 [a1, (pr.lit (.int Go.IntKind.i64 (1))), (pr.lit (.int Go.IntKind.i64 (20)))]) [fun y2 => (pr.un .not (pr.ld y2 0) fun x3 => (pr.cond x3
    (pr.out 0 [.d (pr.lit (.int Go.IntKind.i64 (43)))])
    (pr.bnd (pr.call 61 [a2, (pr.lit (.int Go.IntKind.i64 (0))), a3]) [fun y4 => (pr.un .not (pr.ld y4 0) fun x5 => (pr.cond x5
      (pr.out 0 [.d (pr.lit (.int Go.IntKind.i64 (43)))])
      (pr.bin .geq false a3 (pr.lit (.int Go.IntKind.i64 (24))) fun x6 =>
      (pr.cond x6
       (pr.out 0 [.d (pr.lit (.int Go.IntKind.i64 (43)))])
       (pr.out 0 [.d (pr.lit (.int Go.IntKind.i64 (0)))])))))])))])))])
end
theorem G3_eq {Δ N R W M E Ω : Type} (pr : Pr Δ N R W M E Ω) (a0 a1 a2 a3 a4 a5 a6 a7 a8 a9 a10 a11 a12 a13 : Δ) : fun3 pr tb Try.prog 400 3 [a0, a1, a2, a3, a4, a5, a6, a7, a8, a9, a10, a11, a12, a13] = G3 pr a0 a1 a2 a3 a4 a5 a6 a7 a8 a9 a10 a11 a12 a13 := by kernel_rfl
theorem F3 (n : Nat) (a0 a1 a2 a3 a4 a5 a6 a7 a8 a9 a10 a11 a12 a13 : D) : FN (n + 1) 3 [a0, a1, a2, a3, a4, a5, a6, a7, a8, a9, a10, a11, a12, a13] = G3 (RP n) a0 a1 a2 a3 a4 a5 a6 a7 a8 a9 a10 a11 a12 a13 := G3_eq _ a0 a1 a2 a3 a4 a5 a6 a7 a8 a9 a10 a11 a12 a13
theorem G4_eq {Δ N R W M E Ω : Type} (pr : Pr Δ N R W M E Ω) (a0 a1 a2 a3 : Δ) : fun3 pr tb Try.prog 400 4 [a0, a1, a2, a3] = G4 pr a0 a1 a2 a3 := by kernel_rfl
theorem F4 (n : Nat) (a0 a1 a2 a3 : D) : FN (n + 1) 4 [a0, a1, a2, a3] = G4 (RP n) a0 a1 a2 a3 := G4_eq _ a0 a1 a2 a3
theorem G8_eq {Δ N R W M E Ω : Type} (pr : Pr Δ N R W M E Ω) (a0 a1 a2 a3 a4 a5 a6 a7 a8 a9 a10 : Δ) : fun3 pr tb Try.prog 400 8 [a0, a1, a2, a3, a4, a5, a6, a7, a8, a9, a10] = G8 pr a0 a1 a2 a3 a4 a5 a6 a7 a8 a9 a10 := by kernel_rfl
theorem F8 (n : Nat) (a0 a1 a2 a3 a4 a5 a6 a7 a8 a9 a10 : D) : FN (n + 1) 8 [a0, a1, a2, a3, a4, a5, a6, a7, a8, a9, a10] = G8 (RP n) a0 a1 a2 a3 a4 a5 a6 a7 a8 a9 a10 := G8_eq _ a0 a1 a2 a3 a4 a5 a6 a7 a8 a9 a10
theorem G12_eq {Δ N R W M E Ω : Type} (pr : Pr Δ N R W M E Ω) (a0 a1 a2 a3 : Δ) : fun3 pr tb Try.prog 400 12 [a0, a1, a2, a3] = G12 pr a0 a1 a2 a3 := by kernel_rfl
theorem F12 (n : Nat) (a0 a1 a2 a3 : D) : FN (n + 1) 12 [a0, a1, a2, a3] = G12 (RP n) a0 a1 a2 a3 := G12_eq _ a0 a1 a2 a3
theorem G13_eq {Δ N R W M E Ω : Type} (pr : Pr Δ N R W M E Ω) (a0 a1 a2 a3 : Δ) : fun3 pr tb Try.prog 400 13 [a0, a1, a2, a3] = G13 pr a0 a1 a2 a3 := by kernel_rfl
theorem F13 (n : Nat) (a0 a1 a2 a3 : D) : FN (n + 1) 13 [a0, a1, a2, a3] = G13 (RP n) a0 a1 a2 a3 := G13_eq _ a0 a1 a2 a3
theorem G14_eq {Δ N R W M E Ω : Type} (pr : Pr Δ N R W M E Ω) (a0 a1 : Δ) : fun3 pr tb Try.prog 400 14 [a0, a1] = G14 pr a0 a1 := by kernel_rfl
theorem F14 (n : Nat) (a0 a1 : D) : FN (n + 1) 14 [a0, a1] = G14 (RP n) a0 a1 := G14_eq _ a0 a1
theorem G15_eq {Δ N R W M E Ω : Type} (pr : Pr Δ N R W M E Ω) (a0 a1 : Δ) : fun3 pr tb Try.prog 400 15 [a0, a1] = G15 pr a0 a1 := by kernel_rfl
theorem F15 (n : Nat) (a0 a1 : D) : FN (n + 1) 15 [a0, a1] = G15 (RP n) a0 a1 := G15_eq _ a0 a1
theorem G16_eq {Δ N R W M E Ω : Type} (pr : Pr Δ N R W M E Ω) (a0 a1 : Δ) : fun3 pr tb Try.prog 400 16 [a0, a1] = G16 pr a0 a1 := by kernel_rfl
theorem F16 (n : Nat) (a0 a1 : D) : FN (n + 1) 16 [a0, a1] = G16 (RP n) a0 a1 := G16_eq _ a0 a1
theorem G17_eq {Δ N R W M E Ω : Type} (pr : Pr Δ N R W M E Ω) (a0 a1 a2 : Δ) : fun3 pr tb Try.prog 400 17 [a0, a1, a2] = G17 pr a0 a1 a2 := by kernel_rfl
theorem F17 (n : Nat) (a0 a1 a2 : D) : FN (n + 1) 17 [a0, a1, a2] = G17 (RP n) a0 a1 a2 := G17_eq _ a0 a1 a2
theorem G18_eq {Δ N R W M E Ω : Type} (pr : Pr Δ N R W M E Ω) (a0 a1 a2 : Δ) : fun3 pr tb Try.prog 400 18 [a0, a1, a2] = G18 pr a0 a1 a2 := by kernel_rfl
theorem F18 (n : Nat) (a0 a1 a2 : D) : FN (n + 1) 18 [a0, a1, a2] = G18 (RP n) a0 a1 a2 := G18_eq _ a0 a1 a2
theorem G19_eq {Δ N R W M E Ω : Type} (pr : Pr Δ N R W M E Ω) (a0 a1 a2 : Δ) : fun3 pr tb Try.prog 400 19 [a0, a1, a2] = G19 pr a0 a1 a2 := by kernel_rfl
theorem F19 (n : Nat) (a0 a1 a2 : D) : FN (n + 1) 19 [a0, a1, a2] = G19 (RP n) a0 a1 a2 := G19_eq _ a0 a1 a2
theorem G20_eq {Δ N R W M E Ω : Type} (pr : Pr Δ N R W M E Ω) (a0 a1 a2 : Δ) : fun3 pr tb Try.prog 400 20 [a0, a1, a2] = G20 pr a0 a1 a2 := by kernel_rfl
theorem F20 (n : Nat) (a0 a1 a2 : D) : FN (n + 1) 20 [a0, a1, a2] = G20 (RP n) a0 a1 a2 := G20_eq _ a0 a1 a2
theorem G21_eq {Δ N R W M E Ω : Type} (pr : Pr Δ N R W M E Ω) (a0 a1 a2 : Δ) : fun3 pr tb Try.prog 400 21 [a0, a1, a2] = G21 pr a0 a1 a2 := by kernel_rfl
theorem F21 (n : Nat) (a0 a1 a2 : D) : FN (n + 1) 21 [a0, a1, a2] = G21 (RP n) a0 a1 a2 := G21_eq _ a0 a1 a2
theorem G22_eq {Δ N R W M E Ω : Type} (pr : Pr Δ N R W M E Ω) (a0 a1 a2 : Δ) : fun3 pr tb Try.prog 400 22 [a0, a1, a2] = G22 pr a0 a1 a2 := by kernel_rfl
theorem F22 (n : Nat) (a0 a1 a2 : D) : FN (n + 1) 22 [a0, a1, a2] = G22 (RP n) a0 a1 a2 := G22_eq _ a0 a1 a2
theorem G23_eq {Δ N R W M E Ω : Type} (pr : Pr Δ N R W M E Ω) (a0 a1 a2 a3 : Δ) : fun3 pr tb Try.prog 400 23 [a0, a1, a2, a3] = G23 pr a0 a1 a2 a3 := by kernel_rfl
theorem F23 (n : Nat) (a0 a1 a2 a3 : D) : FN (n + 1) 23 [a0, a1, a2, a3] = G23 (RP n) a0 a1 a2 a3 := G23_eq _ a0 a1 a2 a3
theorem G24_eq {Δ N R W M E Ω : Type} (pr : Pr Δ N R W M E Ω) (a0 a1 a2 a3 : Δ) : fun3 pr tb Try.prog 400 24 [a0, a1, a2, a3] = G24 pr a0 a1 a2 a3 := by kernel_rfl
theorem F24 (n : Nat) (a0 a1 a2 a3 : D) : FN (n + 1) 24 [a0, a1, a2, a3] = G24 (RP n) a0 a1 a2 a3 := G24_eq _ a0 a1 a2 a3
end Go.VE
/- What the functions of this program do, made by a program of ours out of the evaluator itself. -/
namespace Go.VE
open Go.RowKit Go.Proofs
set_option maxRecDepth 100000
set_option maxHeartbeats 4000000
section
variable {Δ N R W M E Ω : Type} (pr : Pr Δ N R W M E Ω)
/-! leazing/leazingref04.Made -/
def L25_0  : (Nat → List (Y Δ N R M) → Ω) → E → Ω := fun J0 y0 =>
 (pr.lenD (pr.ld y0 1) fun x1 =>
 (pr.bin .lss false (pr.ld y0 0) x1 fun x2 =>
  (pr.cond x2
   (pr.bin .lss false (pr.ld y0 0) (pr.lit (.int Go.IntKind.i64 (3))) fun x3 =>
   (pr.cond x3
    (pr.bnd (pr.lenD (pr.ld y0 1) fun x4 =>
    (pr.bin .lss false (pr.ld y0 0) x4 fun x5 =>
     (pr.cond x5
      (pr.rowD 2 (pr.ld y0 1) (pr.ld y0 0) fun w6 =>
      (pr.out 0 [.d (pr.ld y0 0), .d (pr.cell w6 0), .d (pr.cell w6 1), .d (pr.ld y0 1), .d (pr.ld y0 2), .d (pr.ld y0 3)]))
      (pr.out 0 [.d (pr.ld y0 0), .d (pr.lit (.int Go.IntKind.i64 (0))), .d (pr.lit (.int Go.IntKind.i64 (0))), .d (pr.ld y0 1), .d (pr.ld y0 2), .d (pr.ld y0 3)])))) [fun y4 => (pr.bin .add false (pr.lit (.int Go.IntKind.i64 (1))) (pr.ld y4 0) fun x5 =>
     (pr.bnd (pr.call 26 [(pr.ld y4 1), (pr.lit (.int Go.IntKind.i64 (20)))]) [fun y6 => (pr.bin .add false (pr.lit (.int Go.IntKind.i64 (90))) (pr.ld y6 0) fun x7 =>
       (pr.bnd (pr.call 26 [(pr.ld y4 2), (pr.lit (.int Go.IntKind.i64 (12)))]) [fun y8 => (pr.bin .add false x7 (pr.ld y8 0) fun x9 =>
         (pr.eqN (pr.natN 1) (pr.len (pr.rows [[x5, x7, x9]])) (pr.isNil (pr.seg (pr.rows [[x5, x7, x9]]) none (pr.natN 1))
          (pr.bin .add false (pr.ld y4 0) (pr.lit (.int Go.IntKind.i64 (1))) fun x10 =>
          (J0 0 [.d x10, .d (pr.ld y4 3), .d (pr.ld y4 4), .d (pr.ld y4 5)]))
          (pr.fits 24 (pr.len (pr.seg (pr.rows [[x5, x7, x9]]) none (pr.natN 1)))
          (pr.bin .add false (pr.ld y4 0) (pr.lit (.int Go.IntKind.i64 (1))) fun x10 =>
          (J0 1 [.d x10, .r (pr.seg (pr.rows [[x5, x7, x9]]) none (pr.natN 1)), .n (pr.len (pr.seg (pr.rows [[x5, x7, x9]]) none (pr.natN 1))), .n (pr.len (pr.seg (pr.rows [[x5, x7, x9]]) none (pr.natN 1))), .d (pr.ld y4 3), .d (pr.ld y4 4), .d (pr.ld y4 5)]))))))]))]))])
    (pr.bin .eql false (pr.ld y0 0) (pr.lit (.int Go.IntKind.i64 (0))) fun x4 =>
    (pr.cond x4
     (pr.bnd (pr.lenD (pr.ld y0 1) fun x5 =>
     (pr.bin .lss false (pr.ld y0 0) x5 fun x6 =>
      (pr.cond x6
       (pr.rowD 2 (pr.ld y0 1) (pr.ld y0 0) fun w7 =>
       (pr.out 0 [.d (pr.ld y0 0), .d (pr.cell w7 0), .d (pr.cell w7 1), .d (pr.ld y0 1), .d (pr.ld y0 2), .d (pr.ld y0 3)]))
       (pr.out 0 [.d (pr.ld y0 0), .d (pr.lit (.int Go.IntKind.i64 (0))), .d (pr.lit (.int Go.IntKind.i64 (0))), .d (pr.ld y0 1), .d (pr.ld y0 2), .d (pr.ld y0 3)])))) [fun y5 => (pr.bin .add false (pr.lit (.int Go.IntKind.i64 (1))) (pr.ld y5 0) fun x6 =>
      (pr.bnd (pr.call 26 [(pr.ld y5 1), (pr.lit (.int Go.IntKind.i64 (20)))]) [fun y7 => (pr.bin .add false (pr.lit (.int Go.IntKind.i64 (90))) (pr.ld y7 0) fun x8 =>
        (pr.bnd (pr.call 26 [(pr.ld y5 2), (pr.lit (.int Go.IntKind.i64 (12)))]) [fun y9 => (pr.bin .add false x8 (pr.ld y9 0) fun x10 =>
          (pr.eqN (pr.natN 1) (pr.len (pr.rows [[x6, x8, x10]])) (pr.isNil (pr.seg (pr.rows [[x6, x8, x10]]) none (pr.natN 1))
           (pr.bin .add false (pr.ld y5 0) (pr.lit (.int Go.IntKind.i64 (1))) fun x11 =>
           (J0 0 [.d x11, .d (pr.ld y5 3), .d (pr.ld y5 4), .d (pr.ld y5 5)]))
           (pr.fits 24 (pr.len (pr.seg (pr.rows [[x6, x8, x10]]) none (pr.natN 1)))
           (pr.bin .add false (pr.ld y5 0) (pr.lit (.int Go.IntKind.i64 (1))) fun x11 =>
           (J0 1 [.d x11, .r (pr.seg (pr.rows [[x6, x8, x10]]) none (pr.natN 1)), .n (pr.len (pr.seg (pr.rows [[x6, x8, x10]]) none (pr.natN 1))), .n (pr.len (pr.seg (pr.rows [[x6, x8, x10]]) none (pr.natN 1))), .d (pr.ld y5 3), .d (pr.ld y5 4), .d (pr.ld y5 5)]))))))]))]))])
     (pr.out 0 [.d (pr.ld y0 1), .d (pr.ld y0 2), .d (pr.ld y0 3)])))))
   (pr.bin .eql false (pr.ld y0 0) (pr.lit (.int Go.IntKind.i64 (0))) fun x3 =>
   (pr.cond x3
    (pr.bnd (pr.lenD (pr.ld y0 1) fun x4 =>
    (pr.bin .lss false (pr.ld y0 0) x4 fun x5 =>
     (pr.cond x5
      (pr.rowD 2 (pr.ld y0 1) (pr.ld y0 0) fun w6 =>
      (pr.out 0 [.d (pr.ld y0 0), .d (pr.cell w6 0), .d (pr.cell w6 1), .d (pr.ld y0 1), .d (pr.ld y0 2), .d (pr.ld y0 3)]))
      (pr.out 0 [.d (pr.ld y0 0), .d (pr.lit (.int Go.IntKind.i64 (0))), .d (pr.lit (.int Go.IntKind.i64 (0))), .d (pr.ld y0 1), .d (pr.ld y0 2), .d (pr.ld y0 3)])))) [fun y4 => (pr.bin .add false (pr.lit (.int Go.IntKind.i64 (1))) (pr.ld y4 0) fun x5 =>
     (pr.bnd (pr.call 26 [(pr.ld y4 1), (pr.lit (.int Go.IntKind.i64 (20)))]) [fun y6 => (pr.bin .add false (pr.lit (.int Go.IntKind.i64 (90))) (pr.ld y6 0) fun x7 =>
       (pr.bnd (pr.call 26 [(pr.ld y4 2), (pr.lit (.int Go.IntKind.i64 (12)))]) [fun y8 => (pr.bin .add false x7 (pr.ld y8 0) fun x9 =>
         (pr.eqN (pr.natN 1) (pr.len (pr.rows [[x5, x7, x9]])) (pr.isNil (pr.seg (pr.rows [[x5, x7, x9]]) none (pr.natN 1))
          (pr.bin .add false (pr.ld y4 0) (pr.lit (.int Go.IntKind.i64 (1))) fun x10 =>
          (J0 0 [.d x10, .d (pr.ld y4 3), .d (pr.ld y4 4), .d (pr.ld y4 5)]))
          (pr.fits 24 (pr.len (pr.seg (pr.rows [[x5, x7, x9]]) none (pr.natN 1)))
          (pr.bin .add false (pr.ld y4 0) (pr.lit (.int Go.IntKind.i64 (1))) fun x10 =>
          (J0 1 [.d x10, .r (pr.seg (pr.rows [[x5, x7, x9]]) none (pr.natN 1)), .n (pr.len (pr.seg (pr.rows [[x5, x7, x9]]) none (pr.natN 1))), .n (pr.len (pr.seg (pr.rows [[x5, x7, x9]]) none (pr.natN 1))), .d (pr.ld y4 3), .d (pr.ld y4 4), .d (pr.ld y4 5)]))))))]))]))])
    (pr.out 0 [.d (pr.ld y0 1), .d (pr.ld y0 2), .d (pr.ld y0 3)]))))))
def L25_1  : (Nat → List (Y Δ N R M) → Ω) → E → Ω := fun J0 y0 =>
 (pr.lenD (pr.ld y0 4) fun x1 =>
 (pr.bin .lss false (pr.ld y0 0) x1 fun x2 =>
  (pr.cond x2
   (pr.bin .lss false (pr.ld y0 0) (pr.lit (.int Go.IntKind.i64 (3))) fun x3 =>
   (pr.cond x3
    (pr.bnd (pr.lenD (pr.ld y0 4) fun x4 =>
    (pr.bin .lss false (pr.ld y0 0) x4 fun x5 =>
     (pr.cond x5
      (pr.rowD 2 (pr.ld y0 4) (pr.ld y0 0) fun w6 =>
      (pr.out 0 [.d (pr.ld y0 0), .r (pr.lr y0 1), .d (pr.cell w6 0), .d (pr.cell w6 1), .n (pr.ln y0 2), .n (pr.ln y0 3), .d (pr.ld y0 4), .d (pr.ld y0 5), .d (pr.ld y0 6)]))
      (pr.out 0 [.d (pr.ld y0 0), .r (pr.lr y0 1), .d (pr.lit (.int Go.IntKind.i64 (0))), .d (pr.lit (.int Go.IntKind.i64 (0))), .n (pr.ln y0 2), .n (pr.ln y0 3), .d (pr.ld y0 4), .d (pr.ld y0 5), .d (pr.ld y0 6)])))) [fun y4 => (pr.bin .add false (pr.lit (.int Go.IntKind.i64 (1))) (pr.ld y4 0) fun x5 =>
     (pr.bnd (pr.call 26 [(pr.ld y4 2), (pr.lit (.int Go.IntKind.i64 (20)))]) [fun y6 => (pr.bin .add false (pr.lit (.int Go.IntKind.i64 (90))) (pr.ld y6 0) fun x7 =>
       (pr.bnd (pr.call 26 [(pr.ld y4 3), (pr.lit (.int Go.IntKind.i64 (12)))]) [fun y8 => (pr.bin .add false x7 (pr.ld y8 0) fun x9 =>
         (pr.eqN (pr.natN 1) (pr.len (pr.rows [[x5, x7, x9]])) (pr.eqN (pr.ln y4 5) (pr.len (pr.lr y4 1)) (pr.eqN (pr.ln y4 4) (pr.len (pr.lr y4 1)) (pr.fits 24 (pr.addN (pr.ln y4 4) (pr.len (pr.seg (pr.rows [[x5, x7, x9]]) none (pr.natN 1))))
          (pr.bin .add false (pr.ld y4 0) (pr.lit (.int Go.IntKind.i64 (1))) fun x10 =>
          (J0 1 [.d x10, .r (pr.app (pr.lr y4 1) (pr.seg (pr.rows [[x5, x7, x9]]) none (pr.natN 1))), .n (pr.addN (pr.ln y4 4) (pr.len (pr.seg (pr.rows [[x5, x7, x9]]) none (pr.natN 1)))), .n (pr.addN (pr.ln y4 4) (pr.len (pr.seg (pr.rows [[x5, x7, x9]]) none (pr.natN 1)))), .d (pr.ld y4 6), .d (pr.ld y4 7), .d (pr.ld y4 8)])))))))]))]))])
    (pr.bin .eql false (pr.ld y0 0) (pr.lit (.int Go.IntKind.i64 (0))) fun x4 =>
    (pr.cond x4
     (pr.bnd (pr.lenD (pr.ld y0 4) fun x5 =>
     (pr.bin .lss false (pr.ld y0 0) x5 fun x6 =>
      (pr.cond x6
       (pr.rowD 2 (pr.ld y0 4) (pr.ld y0 0) fun w7 =>
       (pr.out 0 [.d (pr.ld y0 0), .r (pr.lr y0 1), .d (pr.cell w7 0), .d (pr.cell w7 1), .n (pr.ln y0 2), .n (pr.ln y0 3), .d (pr.ld y0 4), .d (pr.ld y0 5), .d (pr.ld y0 6)]))
       (pr.out 0 [.d (pr.ld y0 0), .r (pr.lr y0 1), .d (pr.lit (.int Go.IntKind.i64 (0))), .d (pr.lit (.int Go.IntKind.i64 (0))), .n (pr.ln y0 2), .n (pr.ln y0 3), .d (pr.ld y0 4), .d (pr.ld y0 5), .d (pr.ld y0 6)])))) [fun y5 => (pr.bin .add false (pr.lit (.int Go.IntKind.i64 (1))) (pr.ld y5 0) fun x6 =>
      (pr.bnd (pr.call 26 [(pr.ld y5 2), (pr.lit (.int Go.IntKind.i64 (20)))]) [fun y7 => (pr.bin .add false (pr.lit (.int Go.IntKind.i64 (90))) (pr.ld y7 0) fun x8 =>
        (pr.bnd (pr.call 26 [(pr.ld y5 3), (pr.lit (.int Go.IntKind.i64 (12)))]) [fun y9 => (pr.bin .add false x8 (pr.ld y9 0) fun x10 =>
          (pr.eqN (pr.natN 1) (pr.len (pr.rows [[x6, x8, x10]])) (pr.eqN (pr.ln y5 5) (pr.len (pr.lr y5 1)) (pr.eqN (pr.ln y5 4) (pr.len (pr.lr y5 1)) (pr.fits 24 (pr.addN (pr.ln y5 4) (pr.len (pr.seg (pr.rows [[x6, x8, x10]]) none (pr.natN 1))))
           (pr.bin .add false (pr.ld y5 0) (pr.lit (.int Go.IntKind.i64 (1))) fun x11 =>
           (J0 1 [.d x11, .r (pr.app (pr.lr y5 1) (pr.seg (pr.rows [[x6, x8, x10]]) none (pr.natN 1))), .n (pr.addN (pr.ln y5 4) (pr.len (pr.seg (pr.rows [[x6, x8, x10]]) none (pr.natN 1)))), .n (pr.addN (pr.ln y5 4) (pr.len (pr.seg (pr.rows [[x6, x8, x10]]) none (pr.natN 1)))), .d (pr.ld y5 6), .d (pr.ld y5 7), .d (pr.ld y5 8)])))))))]))]))])
     (pr.out 1 [.r (pr.lr y0 1), .n (pr.ln y0 2), .n (pr.ln y0 3), .d (pr.ld y0 4), .d (pr.ld y0 5), .d (pr.ld y0 6)])))))
   (pr.bin .eql false (pr.ld y0 0) (pr.lit (.int Go.IntKind.i64 (0))) fun x3 =>
   (pr.cond x3
    (pr.bnd (pr.lenD (pr.ld y0 4) fun x4 =>
    (pr.bin .lss false (pr.ld y0 0) x4 fun x5 =>
     (pr.cond x5
      (pr.rowD 2 (pr.ld y0 4) (pr.ld y0 0) fun w6 =>
      (pr.out 0 [.d (pr.ld y0 0), .r (pr.lr y0 1), .d (pr.cell w6 0), .d (pr.cell w6 1), .n (pr.ln y0 2), .n (pr.ln y0 3), .d (pr.ld y0 4), .d (pr.ld y0 5), .d (pr.ld y0 6)]))
      (pr.out 0 [.d (pr.ld y0 0), .r (pr.lr y0 1), .d (pr.lit (.int Go.IntKind.i64 (0))), .d (pr.lit (.int Go.IntKind.i64 (0))), .n (pr.ln y0 2), .n (pr.ln y0 3), .d (pr.ld y0 4), .d (pr.ld y0 5), .d (pr.ld y0 6)])))) [fun y4 => (pr.bin .add false (pr.lit (.int Go.IntKind.i64 (1))) (pr.ld y4 0) fun x5 =>
     (pr.bnd (pr.call 26 [(pr.ld y4 2), (pr.lit (.int Go.IntKind.i64 (20)))]) [fun y6 => (pr.bin .add false (pr.lit (.int Go.IntKind.i64 (90))) (pr.ld y6 0) fun x7 =>
       (pr.bnd (pr.call 26 [(pr.ld y4 3), (pr.lit (.int Go.IntKind.i64 (12)))]) [fun y8 => (pr.bin .add false x7 (pr.ld y8 0) fun x9 =>
         (pr.eqN (pr.natN 1) (pr.len (pr.rows [[x5, x7, x9]])) (pr.eqN (pr.ln y4 5) (pr.len (pr.lr y4 1)) (pr.eqN (pr.ln y4 4) (pr.len (pr.lr y4 1)) (pr.fits 24 (pr.addN (pr.ln y4 4) (pr.len (pr.seg (pr.rows [[x5, x7, x9]]) none (pr.natN 1))))
          (pr.bin .add false (pr.ld y4 0) (pr.lit (.int Go.IntKind.i64 (1))) fun x10 =>
          (J0 1 [.d x10, .r (pr.app (pr.lr y4 1) (pr.seg (pr.rows [[x5, x7, x9]]) none (pr.natN 1))), .n (pr.addN (pr.ln y4 4) (pr.len (pr.seg (pr.rows [[x5, x7, x9]]) none (pr.natN 1)))), .n (pr.addN (pr.ln y4 4) (pr.len (pr.seg (pr.rows [[x5, x7, x9]]) none (pr.natN 1)))), .d (pr.ld y4 6), .d (pr.ld y4 7), .d (pr.ld y4 8)])))))))]))]))])
    (pr.out 1 [.r (pr.lr y0 1), .n (pr.ln y0 2), .n (pr.ln y0 3), .d (pr.ld y0 4), .d (pr.ld y0 5), .d (pr.ld y0 6)]))))))
def L25_2  : (Nat → List (Y Δ N R M) → Ω) → E → Ω := fun J1 y1 =>
 (pr.lenD (pr.ld y1 2) fun x2 =>
  (pr.bin .lss false (pr.ld y1 0) x2 fun x3 =>
   (pr.cond x3
    (pr.bin .lss false (pr.ld y1 0) (pr.lit (.int Go.IntKind.i64 (10))) fun x4 =>
    (pr.cond x4
     (pr.bnd (pr.lenD (pr.ld y1 2) fun x5 =>
     (pr.bin .lss false (pr.ld y1 0) x5 fun x6 =>
      (pr.cond x6
       (pr.rowD 3 (pr.ld y1 2) (pr.ld y1 0) fun w7 =>
       (pr.out 0 [.d (pr.ld y1 0), .d (pr.cell w7 0), .d (pr.cell w7 1), .d (pr.cell w7 2), .d (pr.ld y1 1), .d (pr.ld y1 2), .d (pr.ld y1 3)]))
       (pr.out 0 [.d (pr.ld y1 0), .d (pr.lit (.int Go.IntKind.i64 (0))), .d (pr.lit (.int Go.IntKind.i64 (0))), .d (pr.lit (.int Go.IntKind.i64 (0))), .d (pr.ld y1 1), .d (pr.ld y1 2), .d (pr.ld y1 3)])))) [fun y5 => (pr.bnd (pr.call 26 [(pr.ld y5 1), (pr.lit (.int Go.IntKind.i64 (0)))]) [fun y6 => (pr.bin .add false (pr.lit (.int Go.IntKind.i64 (1))) (pr.ld y6 0) fun x7 =>
       (pr.bnd (pr.call 26 [(pr.ld y5 2), (pr.lit (.int Go.IntKind.i64 (9)))]) [fun y8 => (pr.bin .add false (pr.lit (.int Go.IntKind.i64 (1))) (pr.ld y8 0) fun x9 =>
         (pr.bnd (pr.call 26 [(pr.ld y5 3), (pr.lit (.int Go.IntKind.i64 (12)))]) [fun y10 => (pr.eqN (pr.natN 1) (pr.len (pr.rows [[x7, x9, (pr.ld y10 0)]])) (pr.isNil (pr.seg (pr.rows [[x7, x9, (pr.ld y10 0)]]) none (pr.natN 1))
           (pr.bin .add false (pr.ld y5 0) (pr.lit (.int Go.IntKind.i64 (1))) fun x11 =>
           (J1 0 [.d x11, .d (pr.ld y5 4), .d (pr.ld y5 5), .d (pr.ld y5 6)]))
           (pr.fits 24 (pr.len (pr.seg (pr.rows [[x7, x9, (pr.ld y10 0)]]) none (pr.natN 1)))
           (pr.bin .add false (pr.ld y5 0) (pr.lit (.int Go.IntKind.i64 (1))) fun x11 =>
           (J1 1 [.d x11, .r (pr.seg (pr.rows [[x7, x9, (pr.ld y10 0)]]) none (pr.natN 1)), .n (pr.len (pr.seg (pr.rows [[x7, x9, (pr.ld y10 0)]]) none (pr.natN 1))), .n (pr.len (pr.seg (pr.rows [[x7, x9, (pr.ld y10 0)]]) none (pr.natN 1))), .d (pr.ld y5 4), .d (pr.ld y5 5), .d (pr.ld y5 6)])))))]))]))])])
     (pr.bin .eql false (pr.ld y1 0) (pr.lit (.int Go.IntKind.i64 (0))) fun x5 =>
     (pr.cond x5
      (pr.bnd (pr.lenD (pr.ld y1 2) fun x6 =>
      (pr.bin .lss false (pr.ld y1 0) x6 fun x7 =>
       (pr.cond x7
        (pr.rowD 3 (pr.ld y1 2) (pr.ld y1 0) fun w8 =>
        (pr.out 0 [.d (pr.ld y1 0), .d (pr.cell w8 0), .d (pr.cell w8 1), .d (pr.cell w8 2), .d (pr.ld y1 1), .d (pr.ld y1 2), .d (pr.ld y1 3)]))
        (pr.out 0 [.d (pr.ld y1 0), .d (pr.lit (.int Go.IntKind.i64 (0))), .d (pr.lit (.int Go.IntKind.i64 (0))), .d (pr.lit (.int Go.IntKind.i64 (0))), .d (pr.ld y1 1), .d (pr.ld y1 2), .d (pr.ld y1 3)])))) [fun y6 => (pr.bnd (pr.call 26 [(pr.ld y6 1), (pr.lit (.int Go.IntKind.i64 (0)))]) [fun y7 => (pr.bin .add false (pr.lit (.int Go.IntKind.i64 (1))) (pr.ld y7 0) fun x8 =>
        (pr.bnd (pr.call 26 [(pr.ld y6 2), (pr.lit (.int Go.IntKind.i64 (9)))]) [fun y9 => (pr.bin .add false (pr.lit (.int Go.IntKind.i64 (1))) (pr.ld y9 0) fun x10 =>
          (pr.bnd (pr.call 26 [(pr.ld y6 3), (pr.lit (.int Go.IntKind.i64 (12)))]) [fun y11 => (pr.eqN (pr.natN 1) (pr.len (pr.rows [[x8, x10, (pr.ld y11 0)]])) (pr.isNil (pr.seg (pr.rows [[x8, x10, (pr.ld y11 0)]]) none (pr.natN 1))
            (pr.bin .add false (pr.ld y6 0) (pr.lit (.int Go.IntKind.i64 (1))) fun x12 =>
            (J1 0 [.d x12, .d (pr.ld y6 4), .d (pr.ld y6 5), .d (pr.ld y6 6)]))
            (pr.fits 24 (pr.len (pr.seg (pr.rows [[x8, x10, (pr.ld y11 0)]]) none (pr.natN 1)))
            (pr.bin .add false (pr.ld y6 0) (pr.lit (.int Go.IntKind.i64 (1))) fun x12 =>
            (J1 1 [.d x12, .r (pr.seg (pr.rows [[x8, x10, (pr.ld y11 0)]]) none (pr.natN 1)), .n (pr.len (pr.seg (pr.rows [[x8, x10, (pr.ld y11 0)]]) none (pr.natN 1))), .n (pr.len (pr.seg (pr.rows [[x8, x10, (pr.ld y11 0)]]) none (pr.natN 1))), .d (pr.ld y6 4), .d (pr.ld y6 5), .d (pr.ld y6 6)])))))]))]))])])
      (pr.out 0 [.d (pr.ld y1 1), .d (pr.ld y1 2), .d (pr.ld y1 3)])))))
    (pr.bin .eql false (pr.ld y1 0) (pr.lit (.int Go.IntKind.i64 (0))) fun x4 =>
    (pr.cond x4
     (pr.bnd (pr.lenD (pr.ld y1 2) fun x5 =>
     (pr.bin .lss false (pr.ld y1 0) x5 fun x6 =>
      (pr.cond x6
       (pr.rowD 3 (pr.ld y1 2) (pr.ld y1 0) fun w7 =>
       (pr.out 0 [.d (pr.ld y1 0), .d (pr.cell w7 0), .d (pr.cell w7 1), .d (pr.cell w7 2), .d (pr.ld y1 1), .d (pr.ld y1 2), .d (pr.ld y1 3)]))
       (pr.out 0 [.d (pr.ld y1 0), .d (pr.lit (.int Go.IntKind.i64 (0))), .d (pr.lit (.int Go.IntKind.i64 (0))), .d (pr.lit (.int Go.IntKind.i64 (0))), .d (pr.ld y1 1), .d (pr.ld y1 2), .d (pr.ld y1 3)])))) [fun y5 => (pr.bnd (pr.call 26 [(pr.ld y5 1), (pr.lit (.int Go.IntKind.i64 (0)))]) [fun y6 => (pr.bin .add false (pr.lit (.int Go.IntKind.i64 (1))) (pr.ld y6 0) fun x7 =>
       (pr.bnd (pr.call 26 [(pr.ld y5 2), (pr.lit (.int Go.IntKind.i64 (9)))]) [fun y8 => (pr.bin .add false (pr.lit (.int Go.IntKind.i64 (1))) (pr.ld y8 0) fun x9 =>
         (pr.bnd (pr.call 26 [(pr.ld y5 3), (pr.lit (.int Go.IntKind.i64 (12)))]) [fun y10 => (pr.eqN (pr.natN 1) (pr.len (pr.rows [[x7, x9, (pr.ld y10 0)]])) (pr.isNil (pr.seg (pr.rows [[x7, x9, (pr.ld y10 0)]]) none (pr.natN 1))
           (pr.bin .add false (pr.ld y5 0) (pr.lit (.int Go.IntKind.i64 (1))) fun x11 =>
           (J1 0 [.d x11, .d (pr.ld y5 4), .d (pr.ld y5 5), .d (pr.ld y5 6)]))
           (pr.fits 24 (pr.len (pr.seg (pr.rows [[x7, x9, (pr.ld y10 0)]]) none (pr.natN 1)))
           (pr.bin .add false (pr.ld y5 0) (pr.lit (.int Go.IntKind.i64 (1))) fun x11 =>
           (J1 1 [.d x11, .r (pr.seg (pr.rows [[x7, x9, (pr.ld y10 0)]]) none (pr.natN 1)), .n (pr.len (pr.seg (pr.rows [[x7, x9, (pr.ld y10 0)]]) none (pr.natN 1))), .n (pr.len (pr.seg (pr.rows [[x7, x9, (pr.ld y10 0)]]) none (pr.natN 1))), .d (pr.ld y5 4), .d (pr.ld y5 5), .d (pr.ld y5 6)])))))]))]))])])
     (pr.out 0 [.d (pr.ld y1 1), .d (pr.ld y1 2), .d (pr.ld y1 3)]))))))
def L25_3  : (Nat → List (Y Δ N R M) → Ω) → E → Ω := fun J1 y1 =>
 (pr.lenD (pr.ld y1 5) fun x2 =>
  (pr.bin .lss false (pr.ld y1 0) x2 fun x3 =>
   (pr.cond x3
    (pr.bin .lss false (pr.ld y1 0) (pr.lit (.int Go.IntKind.i64 (10))) fun x4 =>
    (pr.cond x4
     (pr.bnd (pr.lenD (pr.ld y1 5) fun x5 =>
     (pr.bin .lss false (pr.ld y1 0) x5 fun x6 =>
      (pr.cond x6
       (pr.rowD 3 (pr.ld y1 5) (pr.ld y1 0) fun w7 =>
       (pr.out 0 [.d (pr.ld y1 0), .r (pr.lr y1 1), .d (pr.cell w7 0), .d (pr.cell w7 1), .d (pr.cell w7 2), .n (pr.ln y1 2), .n (pr.ln y1 3), .d (pr.ld y1 4), .d (pr.ld y1 5), .d (pr.ld y1 6)]))
       (pr.out 0 [.d (pr.ld y1 0), .r (pr.lr y1 1), .d (pr.lit (.int Go.IntKind.i64 (0))), .d (pr.lit (.int Go.IntKind.i64 (0))), .d (pr.lit (.int Go.IntKind.i64 (0))), .n (pr.ln y1 2), .n (pr.ln y1 3), .d (pr.ld y1 4), .d (pr.ld y1 5), .d (pr.ld y1 6)])))) [fun y5 => (pr.bnd (pr.call 26 [(pr.ld y5 2), (pr.lit (.int Go.IntKind.i64 (0)))]) [fun y6 => (pr.bin .add false (pr.lit (.int Go.IntKind.i64 (1))) (pr.ld y6 0) fun x7 =>
       (pr.bnd (pr.call 26 [(pr.ld y5 3), (pr.lit (.int Go.IntKind.i64 (9)))]) [fun y8 => (pr.bin .add false (pr.lit (.int Go.IntKind.i64 (1))) (pr.ld y8 0) fun x9 =>
         (pr.bnd (pr.call 26 [(pr.ld y5 4), (pr.lit (.int Go.IntKind.i64 (12)))]) [fun y10 => (pr.eqN (pr.natN 1) (pr.len (pr.rows [[x7, x9, (pr.ld y10 0)]])) (pr.eqN (pr.ln y5 6) (pr.len (pr.lr y5 1)) (pr.eqN (pr.ln y5 5) (pr.len (pr.lr y5 1)) (pr.fits 24 (pr.addN (pr.ln y5 5) (pr.len (pr.seg (pr.rows [[x7, x9, (pr.ld y10 0)]]) none (pr.natN 1))))
           (pr.bin .add false (pr.ld y5 0) (pr.lit (.int Go.IntKind.i64 (1))) fun x11 =>
           (J1 1 [.d x11, .r (pr.app (pr.lr y5 1) (pr.seg (pr.rows [[x7, x9, (pr.ld y10 0)]]) none (pr.natN 1))), .n (pr.addN (pr.ln y5 5) (pr.len (pr.seg (pr.rows [[x7, x9, (pr.ld y10 0)]]) none (pr.natN 1)))), .n (pr.addN (pr.ln y5 5) (pr.len (pr.seg (pr.rows [[x7, x9, (pr.ld y10 0)]]) none (pr.natN 1)))), .d (pr.ld y5 7), .d (pr.ld y5 8), .d (pr.ld y5 9)]))))))]))]))])])
     (pr.bin .eql false (pr.ld y1 0) (pr.lit (.int Go.IntKind.i64 (0))) fun x5 =>
     (pr.cond x5
      (pr.bnd (pr.lenD (pr.ld y1 5) fun x6 =>
      (pr.bin .lss false (pr.ld y1 0) x6 fun x7 =>
       (pr.cond x7
        (pr.rowD 3 (pr.ld y1 5) (pr.ld y1 0) fun w8 =>
        (pr.out 0 [.d (pr.ld y1 0), .r (pr.lr y1 1), .d (pr.cell w8 0), .d (pr.cell w8 1), .d (pr.cell w8 2), .n (pr.ln y1 2), .n (pr.ln y1 3), .d (pr.ld y1 4), .d (pr.ld y1 5), .d (pr.ld y1 6)]))
        (pr.out 0 [.d (pr.ld y1 0), .r (pr.lr y1 1), .d (pr.lit (.int Go.IntKind.i64 (0))), .d (pr.lit (.int Go.IntKind.i64 (0))), .d (pr.lit (.int Go.IntKind.i64 (0))), .n (pr.ln y1 2), .n (pr.ln y1 3), .d (pr.ld y1 4), .d (pr.ld y1 5), .d (pr.ld y1 6)])))) [fun y6 => (pr.bnd (pr.call 26 [(pr.ld y6 2), (pr.lit (.int Go.IntKind.i64 (0)))]) [fun y7 => (pr.bin .add false (pr.lit (.int Go.IntKind.i64 (1))) (pr.ld y7 0) fun x8 =>
        (pr.bnd (pr.call 26 [(pr.ld y6 3), (pr.lit (.int Go.IntKind.i64 (9)))]) [fun y9 => (pr.bin .add false (pr.lit (.int Go.IntKind.i64 (1))) (pr.ld y9 0) fun x10 =>
          (pr.bnd (pr.call 26 [(pr.ld y6 4), (pr.lit (.int Go.IntKind.i64 (12)))]) [fun y11 => (pr.eqN (pr.natN 1) (pr.len (pr.rows [[x8, x10, (pr.ld y11 0)]])) (pr.eqN (pr.ln y6 6) (pr.len (pr.lr y6 1)) (pr.eqN (pr.ln y6 5) (pr.len (pr.lr y6 1)) (pr.fits 24 (pr.addN (pr.ln y6 5) (pr.len (pr.seg (pr.rows [[x8, x10, (pr.ld y11 0)]]) none (pr.natN 1))))
            (pr.bin .add false (pr.ld y6 0) (pr.lit (.int Go.IntKind.i64 (1))) fun x12 =>
            (J1 1 [.d x12, .r (pr.app (pr.lr y6 1) (pr.seg (pr.rows [[x8, x10, (pr.ld y11 0)]]) none (pr.natN 1))), .n (pr.addN (pr.ln y6 5) (pr.len (pr.seg (pr.rows [[x8, x10, (pr.ld y11 0)]]) none (pr.natN 1)))), .n (pr.addN (pr.ln y6 5) (pr.len (pr.seg (pr.rows [[x8, x10, (pr.ld y11 0)]]) none (pr.natN 1)))), .d (pr.ld y6 7), .d (pr.ld y6 8), .d (pr.ld y6 9)]))))))]))]))])])
      (pr.out 1 [.r (pr.lr y1 1), .n (pr.ln y1 2), .n (pr.ln y1 3), .d (pr.ld y1 4), .d (pr.ld y1 5), .d (pr.ld y1 6)])))))
    (pr.bin .eql false (pr.ld y1 0) (pr.lit (.int Go.IntKind.i64 (0))) fun x4 =>
    (pr.cond x4
     (pr.bnd (pr.lenD (pr.ld y1 5) fun x5 =>
     (pr.bin .lss false (pr.ld y1 0) x5 fun x6 =>
      (pr.cond x6
       (pr.rowD 3 (pr.ld y1 5) (pr.ld y1 0) fun w7 =>
       (pr.out 0 [.d (pr.ld y1 0), .r (pr.lr y1 1), .d (pr.cell w7 0), .d (pr.cell w7 1), .d (pr.cell w7 2), .n (pr.ln y1 2), .n (pr.ln y1 3), .d (pr.ld y1 4), .d (pr.ld y1 5), .d (pr.ld y1 6)]))
       (pr.out 0 [.d (pr.ld y1 0), .r (pr.lr y1 1), .d (pr.lit (.int Go.IntKind.i64 (0))), .d (pr.lit (.int Go.IntKind.i64 (0))), .d (pr.lit (.int Go.IntKind.i64 (0))), .n (pr.ln y1 2), .n (pr.ln y1 3), .d (pr.ld y1 4), .d (pr.ld y1 5), .d (pr.ld y1 6)])))) [fun y5 => (pr.bnd (pr.call 26 [(pr.ld y5 2), (pr.lit (.int Go.IntKind.i64 (0)))]) [fun y6 => (pr.bin .add false (pr.lit (.int Go.IntKind.i64 (1))) (pr.ld y6 0) fun x7 =>
       (pr.bnd (pr.call 26 [(pr.ld y5 3), (pr.lit (.int Go.IntKind.i64 (9)))]) [fun y8 => (pr.bin .add false (pr.lit (.int Go.IntKind.i64 (1))) (pr.ld y8 0) fun x9 =>
         (pr.bnd (pr.call 26 [(pr.ld y5 4), (pr.lit (.int Go.IntKind.i64 (12)))]) [fun y10 => (pr.eqN (pr.natN 1) (pr.len (pr.rows [[x7, x9, (pr.ld y10 0)]])) (pr.eqN (pr.ln y5 6) (pr.len (pr.lr y5 1)) (pr.eqN (pr.ln y5 5) (pr.len (pr.lr y5 1)) (pr.fits 24 (pr.addN (pr.ln y5 5) (pr.len (pr.seg (pr.rows [[x7, x9, (pr.ld y10 0)]]) none (pr.natN 1))))
           (pr.bin .add false (pr.ld y5 0) (pr.lit (.int Go.IntKind.i64 (1))) fun x11 =>
           (J1 1 [.d x11, .r (pr.app (pr.lr y5 1) (pr.seg (pr.rows [[x7, x9, (pr.ld y10 0)]]) none (pr.natN 1))), .n (pr.addN (pr.ln y5 5) (pr.len (pr.seg (pr.rows [[x7, x9, (pr.ld y10 0)]]) none (pr.natN 1)))), .n (pr.addN (pr.ln y5 5) (pr.len (pr.seg (pr.rows [[x7, x9, (pr.ld y10 0)]]) none (pr.natN 1)))), .d (pr.ld y5 7), .d (pr.ld y5 8), .d (pr.ld y5 9)]))))))]))]))])])
     (pr.out 1 [.r (pr.lr y1 1), .n (pr.ln y1 2), .n (pr.ln y1 3), .d (pr.ld y1 4), .d (pr.ld y1 5), .d (pr.ld y1 6)]))))))
def L25_4  : (Nat → List (Y Δ N R M) → Ω) → E → Ω := fun J2 y2 =>
 (pr.lenD (pr.ld y2 3) fun x3 =>
   (pr.bin .lss false (pr.ld y2 0) x3 fun x4 =>
    (pr.cond x4
     (pr.bin .lss false (pr.ld y2 0) (pr.lit (.int Go.IntKind.i64 (6))) fun x5 =>
     (pr.cond x5
      (pr.bnd (pr.lenD (pr.ld y2 3) fun x6 =>
      (pr.bin .lss false (pr.ld y2 0) x6 fun x7 =>
       (pr.cond x7
        (pr.rowD 3 (pr.ld y2 3) (pr.ld y2 0) fun w8 =>
        (pr.out 0 [.d (pr.ld y2 0), .d (pr.cell w8 0), .d (pr.cell w8 1), .d (pr.cell w8 2), .d (pr.ld y2 1), .d (pr.ld y2 2), .d (pr.ld y2 3)]))
        (pr.out 0 [.d (pr.ld y2 0), .d (pr.lit (.int Go.IntKind.i64 (0))), .d (pr.lit (.int Go.IntKind.i64 (0))), .d (pr.lit (.int Go.IntKind.i64 (0))), .d (pr.ld y2 1), .d (pr.ld y2 2), .d (pr.ld y2 3)])))) [fun y6 => (pr.bin .mul false (pr.lit (.int Go.IntKind.i64 (2))) (pr.ld y6 0) fun x7 =>
       (pr.bin .add false (pr.lit (.int Go.IntKind.i64 (3))) x7 fun x8 =>
        (pr.bnd (pr.call 26 [(pr.ld y6 1), (pr.lit (.int Go.IntKind.i64 (4)))]) [fun y9 => (pr.bin .add false (pr.lit (.int Go.IntKind.i64 (1))) (pr.ld y9 0) fun x10 =>
          (pr.bnd (pr.call 26 [(pr.ld y6 2), (pr.lit (.int Go.IntKind.i64 (0)))]) [fun y11 => (pr.bin .sub false (pr.lit (.int Go.IntKind.i64 (0))) (pr.ld y11 0) fun x12 =>
            (pr.bnd (pr.call 26 [(pr.ld y6 3), x12]) [fun y13 => (pr.bin .add false (pr.ld y11 0) (pr.ld y13 0) fun x14 =>
              (pr.eqN (pr.natN 1) (pr.len (pr.rows [[x8, x10, (pr.ld y11 0), x14]])) (pr.isNil (pr.seg (pr.rows [[x8, x10, (pr.ld y11 0), x14]]) none (pr.natN 1))
               (pr.bin .add false (pr.ld y6 0) (pr.lit (.int Go.IntKind.i64 (1))) fun x15 =>
               (J2 0 [.d x15, .d (pr.ld y6 4), .d (pr.ld y6 5), .d (pr.ld y6 6)]))
               (pr.fits 32 (pr.len (pr.seg (pr.rows [[x8, x10, (pr.ld y11 0), x14]]) none (pr.natN 1)))
               (pr.bin .add false (pr.ld y6 0) (pr.lit (.int Go.IntKind.i64 (1))) fun x15 =>
               (J2 1 [.n (pr.len (pr.seg (pr.rows [[x8, x10, (pr.ld y11 0), x14]]) none (pr.natN 1))), .n (pr.len (pr.seg (pr.rows [[x8, x10, (pr.ld y11 0), x14]]) none (pr.natN 1))), .d x15, .r (pr.seg (pr.rows [[x8, x10, (pr.ld y11 0), x14]]) none (pr.natN 1)), .d (pr.ld y6 4), .d (pr.ld y6 5), .d (pr.ld y6 6)]))))))]))]))])))])
      (pr.bin .eql false (pr.ld y2 0) (pr.lit (.int Go.IntKind.i64 (0))) fun x6 =>
      (pr.cond x6
       (pr.bnd (pr.lenD (pr.ld y2 3) fun x7 =>
       (pr.bin .lss false (pr.ld y2 0) x7 fun x8 =>
        (pr.cond x8
         (pr.rowD 3 (pr.ld y2 3) (pr.ld y2 0) fun w9 =>
         (pr.out 0 [.d (pr.ld y2 0), .d (pr.cell w9 0), .d (pr.cell w9 1), .d (pr.cell w9 2), .d (pr.ld y2 1), .d (pr.ld y2 2), .d (pr.ld y2 3)]))
         (pr.out 0 [.d (pr.ld y2 0), .d (pr.lit (.int Go.IntKind.i64 (0))), .d (pr.lit (.int Go.IntKind.i64 (0))), .d (pr.lit (.int Go.IntKind.i64 (0))), .d (pr.ld y2 1), .d (pr.ld y2 2), .d (pr.ld y2 3)])))) [fun y7 => (pr.bin .mul false (pr.lit (.int Go.IntKind.i64 (2))) (pr.ld y7 0) fun x8 =>
        (pr.bin .add false (pr.lit (.int Go.IntKind.i64 (3))) x8 fun x9 =>
         (pr.bnd (pr.call 26 [(pr.ld y7 1), (pr.lit (.int Go.IntKind.i64 (4)))]) [fun y10 => (pr.bin .add false (pr.lit (.int Go.IntKind.i64 (1))) (pr.ld y10 0) fun x11 =>
           (pr.bnd (pr.call 26 [(pr.ld y7 2), (pr.lit (.int Go.IntKind.i64 (0)))]) [fun y12 => (pr.bin .sub false (pr.lit (.int Go.IntKind.i64 (0))) (pr.ld y12 0) fun x13 =>
             (pr.bnd (pr.call 26 [(pr.ld y7 3), x13]) [fun y14 => (pr.bin .add false (pr.ld y12 0) (pr.ld y14 0) fun x15 =>
               (pr.eqN (pr.natN 1) (pr.len (pr.rows [[x9, x11, (pr.ld y12 0), x15]])) (pr.isNil (pr.seg (pr.rows [[x9, x11, (pr.ld y12 0), x15]]) none (pr.natN 1))
                (pr.bin .add false (pr.ld y7 0) (pr.lit (.int Go.IntKind.i64 (1))) fun x16 =>
                (J2 0 [.d x16, .d (pr.ld y7 4), .d (pr.ld y7 5), .d (pr.ld y7 6)]))
                (pr.fits 32 (pr.len (pr.seg (pr.rows [[x9, x11, (pr.ld y12 0), x15]]) none (pr.natN 1)))
                (pr.bin .add false (pr.ld y7 0) (pr.lit (.int Go.IntKind.i64 (1))) fun x16 =>
                (J2 1 [.n (pr.len (pr.seg (pr.rows [[x9, x11, (pr.ld y12 0), x15]]) none (pr.natN 1))), .n (pr.len (pr.seg (pr.rows [[x9, x11, (pr.ld y12 0), x15]]) none (pr.natN 1))), .d x16, .r (pr.seg (pr.rows [[x9, x11, (pr.ld y12 0), x15]]) none (pr.natN 1)), .d (pr.ld y7 4), .d (pr.ld y7 5), .d (pr.ld y7 6)]))))))]))]))])))])
       (pr.out 0 [])))))
     (pr.bin .eql false (pr.ld y2 0) (pr.lit (.int Go.IntKind.i64 (0))) fun x5 =>
     (pr.cond x5
      (pr.bnd (pr.lenD (pr.ld y2 3) fun x6 =>
      (pr.bin .lss false (pr.ld y2 0) x6 fun x7 =>
       (pr.cond x7
        (pr.rowD 3 (pr.ld y2 3) (pr.ld y2 0) fun w8 =>
        (pr.out 0 [.d (pr.ld y2 0), .d (pr.cell w8 0), .d (pr.cell w8 1), .d (pr.cell w8 2), .d (pr.ld y2 1), .d (pr.ld y2 2), .d (pr.ld y2 3)]))
        (pr.out 0 [.d (pr.ld y2 0), .d (pr.lit (.int Go.IntKind.i64 (0))), .d (pr.lit (.int Go.IntKind.i64 (0))), .d (pr.lit (.int Go.IntKind.i64 (0))), .d (pr.ld y2 1), .d (pr.ld y2 2), .d (pr.ld y2 3)])))) [fun y6 => (pr.bin .mul false (pr.lit (.int Go.IntKind.i64 (2))) (pr.ld y6 0) fun x7 =>
       (pr.bin .add false (pr.lit (.int Go.IntKind.i64 (3))) x7 fun x8 =>
        (pr.bnd (pr.call 26 [(pr.ld y6 1), (pr.lit (.int Go.IntKind.i64 (4)))]) [fun y9 => (pr.bin .add false (pr.lit (.int Go.IntKind.i64 (1))) (pr.ld y9 0) fun x10 =>
          (pr.bnd (pr.call 26 [(pr.ld y6 2), (pr.lit (.int Go.IntKind.i64 (0)))]) [fun y11 => (pr.bin .sub false (pr.lit (.int Go.IntKind.i64 (0))) (pr.ld y11 0) fun x12 =>
            (pr.bnd (pr.call 26 [(pr.ld y6 3), x12]) [fun y13 => (pr.bin .add false (pr.ld y11 0) (pr.ld y13 0) fun x14 =>
              (pr.eqN (pr.natN 1) (pr.len (pr.rows [[x8, x10, (pr.ld y11 0), x14]])) (pr.isNil (pr.seg (pr.rows [[x8, x10, (pr.ld y11 0), x14]]) none (pr.natN 1))
               (pr.bin .add false (pr.ld y6 0) (pr.lit (.int Go.IntKind.i64 (1))) fun x15 =>
               (J2 0 [.d x15, .d (pr.ld y6 4), .d (pr.ld y6 5), .d (pr.ld y6 6)]))
               (pr.fits 32 (pr.len (pr.seg (pr.rows [[x8, x10, (pr.ld y11 0), x14]]) none (pr.natN 1)))
               (pr.bin .add false (pr.ld y6 0) (pr.lit (.int Go.IntKind.i64 (1))) fun x15 =>
               (J2 1 [.n (pr.len (pr.seg (pr.rows [[x8, x10, (pr.ld y11 0), x14]]) none (pr.natN 1))), .n (pr.len (pr.seg (pr.rows [[x8, x10, (pr.ld y11 0), x14]]) none (pr.natN 1))), .d x15, .r (pr.seg (pr.rows [[x8, x10, (pr.ld y11 0), x14]]) none (pr.natN 1)), .d (pr.ld y6 4), .d (pr.ld y6 5), .d (pr.ld y6 6)]))))))]))]))])))])
      (pr.out 0 []))))))
def L25_5  : (Nat → List (Y Δ N R M) → Ω) → E → Ω := fun J2 y2 =>
 (pr.lenD (pr.ld y2 6) fun x3 =>
   (pr.bin .lss false (pr.ld y2 2) x3 fun x4 =>
    (pr.cond x4
     (pr.bin .lss false (pr.ld y2 2) (pr.lit (.int Go.IntKind.i64 (6))) fun x5 =>
     (pr.cond x5
      (pr.bnd (pr.lenD (pr.ld y2 6) fun x6 =>
      (pr.bin .lss false (pr.ld y2 2) x6 fun x7 =>
       (pr.cond x7
        (pr.rowD 3 (pr.ld y2 6) (pr.ld y2 2) fun w8 =>
        (pr.out 0 [.n (pr.ln y2 0), .n (pr.ln y2 1), .d (pr.ld y2 2), .d (pr.cell w8 0), .d (pr.cell w8 1), .d (pr.cell w8 2), .r (pr.lr y2 3), .d (pr.ld y2 4), .d (pr.ld y2 5), .d (pr.ld y2 6)]))
        (pr.out 0 [.n (pr.ln y2 0), .n (pr.ln y2 1), .d (pr.ld y2 2), .d (pr.lit (.int Go.IntKind.i64 (0))), .d (pr.lit (.int Go.IntKind.i64 (0))), .d (pr.lit (.int Go.IntKind.i64 (0))), .r (pr.lr y2 3), .d (pr.ld y2 4), .d (pr.ld y2 5), .d (pr.ld y2 6)])))) [fun y6 => (pr.bin .mul false (pr.lit (.int Go.IntKind.i64 (2))) (pr.ld y6 2) fun x7 =>
       (pr.bin .add false (pr.lit (.int Go.IntKind.i64 (3))) x7 fun x8 =>
        (pr.bnd (pr.call 26 [(pr.ld y6 3), (pr.lit (.int Go.IntKind.i64 (4)))]) [fun y9 => (pr.bin .add false (pr.lit (.int Go.IntKind.i64 (1))) (pr.ld y9 0) fun x10 =>
          (pr.bnd (pr.call 26 [(pr.ld y6 4), (pr.lit (.int Go.IntKind.i64 (0)))]) [fun y11 => (pr.bin .sub false (pr.lit (.int Go.IntKind.i64 (0))) (pr.ld y11 0) fun x12 =>
            (pr.bnd (pr.call 26 [(pr.ld y6 5), x12]) [fun y13 => (pr.bin .add false (pr.ld y11 0) (pr.ld y13 0) fun x14 =>
              (pr.eqN (pr.natN 1) (pr.len (pr.rows [[x8, x10, (pr.ld y11 0), x14]])) (pr.eqN (pr.ln y6 1) (pr.len (pr.lr y6 6)) (pr.eqN (pr.ln y6 0) (pr.len (pr.lr y6 6)) (pr.fits 32 (pr.addN (pr.ln y6 0) (pr.len (pr.seg (pr.rows [[x8, x10, (pr.ld y11 0), x14]]) none (pr.natN 1))))
               (pr.bin .add false (pr.ld y6 2) (pr.lit (.int Go.IntKind.i64 (1))) fun x15 =>
               (J2 1 [.n (pr.addN (pr.ln y6 0) (pr.len (pr.seg (pr.rows [[x8, x10, (pr.ld y11 0), x14]]) none (pr.natN 1)))), .n (pr.addN (pr.ln y6 0) (pr.len (pr.seg (pr.rows [[x8, x10, (pr.ld y11 0), x14]]) none (pr.natN 1)))), .d x15, .r (pr.app (pr.lr y6 6) (pr.seg (pr.rows [[x8, x10, (pr.ld y11 0), x14]]) none (pr.natN 1))), .d (pr.ld y6 7), .d (pr.ld y6 8), .d (pr.ld y6 9)])))))))]))]))])))])
      (pr.bin .eql false (pr.ld y2 2) (pr.lit (.int Go.IntKind.i64 (0))) fun x6 =>
      (pr.cond x6
       (pr.bnd (pr.lenD (pr.ld y2 6) fun x7 =>
       (pr.bin .lss false (pr.ld y2 2) x7 fun x8 =>
        (pr.cond x8
         (pr.rowD 3 (pr.ld y2 6) (pr.ld y2 2) fun w9 =>
         (pr.out 0 [.n (pr.ln y2 0), .n (pr.ln y2 1), .d (pr.ld y2 2), .d (pr.cell w9 0), .d (pr.cell w9 1), .d (pr.cell w9 2), .r (pr.lr y2 3), .d (pr.ld y2 4), .d (pr.ld y2 5), .d (pr.ld y2 6)]))
         (pr.out 0 [.n (pr.ln y2 0), .n (pr.ln y2 1), .d (pr.ld y2 2), .d (pr.lit (.int Go.IntKind.i64 (0))), .d (pr.lit (.int Go.IntKind.i64 (0))), .d (pr.lit (.int Go.IntKind.i64 (0))), .r (pr.lr y2 3), .d (pr.ld y2 4), .d (pr.ld y2 5), .d (pr.ld y2 6)])))) [fun y7 => (pr.bin .mul false (pr.lit (.int Go.IntKind.i64 (2))) (pr.ld y7 2) fun x8 =>
        (pr.bin .add false (pr.lit (.int Go.IntKind.i64 (3))) x8 fun x9 =>
         (pr.bnd (pr.call 26 [(pr.ld y7 3), (pr.lit (.int Go.IntKind.i64 (4)))]) [fun y10 => (pr.bin .add false (pr.lit (.int Go.IntKind.i64 (1))) (pr.ld y10 0) fun x11 =>
           (pr.bnd (pr.call 26 [(pr.ld y7 4), (pr.lit (.int Go.IntKind.i64 (0)))]) [fun y12 => (pr.bin .sub false (pr.lit (.int Go.IntKind.i64 (0))) (pr.ld y12 0) fun x13 =>
             (pr.bnd (pr.call 26 [(pr.ld y7 5), x13]) [fun y14 => (pr.bin .add false (pr.ld y12 0) (pr.ld y14 0) fun x15 =>
               (pr.eqN (pr.natN 1) (pr.len (pr.rows [[x9, x11, (pr.ld y12 0), x15]])) (pr.eqN (pr.ln y7 1) (pr.len (pr.lr y7 6)) (pr.eqN (pr.ln y7 0) (pr.len (pr.lr y7 6)) (pr.fits 32 (pr.addN (pr.ln y7 0) (pr.len (pr.seg (pr.rows [[x9, x11, (pr.ld y12 0), x15]]) none (pr.natN 1))))
                (pr.bin .add false (pr.ld y7 2) (pr.lit (.int Go.IntKind.i64 (1))) fun x16 =>
                (J2 1 [.n (pr.addN (pr.ln y7 0) (pr.len (pr.seg (pr.rows [[x9, x11, (pr.ld y12 0), x15]]) none (pr.natN 1)))), .n (pr.addN (pr.ln y7 0) (pr.len (pr.seg (pr.rows [[x9, x11, (pr.ld y12 0), x15]]) none (pr.natN 1)))), .d x16, .r (pr.app (pr.lr y7 6) (pr.seg (pr.rows [[x9, x11, (pr.ld y12 0), x15]]) none (pr.natN 1))), .d (pr.ld y7 7), .d (pr.ld y7 8), .d (pr.ld y7 9)])))))))]))]))])))])
       (pr.out 1 [.n (pr.ln y2 0), .n (pr.ln y2 1), .r (pr.lr y2 3)])))))
     (pr.bin .eql false (pr.ld y2 2) (pr.lit (.int Go.IntKind.i64 (0))) fun x5 =>
     (pr.cond x5
      (pr.bnd (pr.lenD (pr.ld y2 6) fun x6 =>
      (pr.bin .lss false (pr.ld y2 2) x6 fun x7 =>
       (pr.cond x7
        (pr.rowD 3 (pr.ld y2 6) (pr.ld y2 2) fun w8 =>
        (pr.out 0 [.n (pr.ln y2 0), .n (pr.ln y2 1), .d (pr.ld y2 2), .d (pr.cell w8 0), .d (pr.cell w8 1), .d (pr.cell w8 2), .r (pr.lr y2 3), .d (pr.ld y2 4), .d (pr.ld y2 5), .d (pr.ld y2 6)]))
        (pr.out 0 [.n (pr.ln y2 0), .n (pr.ln y2 1), .d (pr.ld y2 2), .d (pr.lit (.int Go.IntKind.i64 (0))), .d (pr.lit (.int Go.IntKind.i64 (0))), .d (pr.lit (.int Go.IntKind.i64 (0))), .r (pr.lr y2 3), .d (pr.ld y2 4), .d (pr.ld y2 5), .d (pr.ld y2 6)])))) [fun y6 => (pr.bin .mul false (pr.lit (.int Go.IntKind.i64 (2))) (pr.ld y6 2) fun x7 =>
       (pr.bin .add false (pr.lit (.int Go.IntKind.i64 (3))) x7 fun x8 =>
        (pr.bnd (pr.call 26 [(pr.ld y6 3), (pr.lit (.int Go.IntKind.i64 (4)))]) [fun y9 => (pr.bin .add false (pr.lit (.int Go.IntKind.i64 (1))) (pr.ld y9 0) fun x10 =>
          (pr.bnd (pr.call 26 [(pr.ld y6 4), (pr.lit (.int Go.IntKind.i64 (0)))]) [fun y11 => (pr.bin .sub false (pr.lit (.int Go.IntKind.i64 (0))) (pr.ld y11 0) fun x12 =>
            (pr.bnd (pr.call 26 [(pr.ld y6 5), x12]) [fun y13 => (pr.bin .add false (pr.ld y11 0) (pr.ld y13 0) fun x14 =>
              (pr.eqN (pr.natN 1) (pr.len (pr.rows [[x8, x10, (pr.ld y11 0), x14]])) (pr.eqN (pr.ln y6 1) (pr.len (pr.lr y6 6)) (pr.eqN (pr.ln y6 0) (pr.len (pr.lr y6 6)) (pr.fits 32 (pr.addN (pr.ln y6 0) (pr.len (pr.seg (pr.rows [[x8, x10, (pr.ld y11 0), x14]]) none (pr.natN 1))))
               (pr.bin .add false (pr.ld y6 2) (pr.lit (.int Go.IntKind.i64 (1))) fun x15 =>
               (J2 1 [.n (pr.addN (pr.ln y6 0) (pr.len (pr.seg (pr.rows [[x8, x10, (pr.ld y11 0), x14]]) none (pr.natN 1)))), .n (pr.addN (pr.ln y6 0) (pr.len (pr.seg (pr.rows [[x8, x10, (pr.ld y11 0), x14]]) none (pr.natN 1)))), .d x15, .r (pr.app (pr.lr y6 6) (pr.seg (pr.rows [[x8, x10, (pr.ld y11 0), x14]]) none (pr.natN 1))), .d (pr.ld y6 7), .d (pr.ld y6 8), .d (pr.ld y6 9)])))))))]))]))])))])
      (pr.out 1 [.n (pr.ln y2 0), .n (pr.ln y2 1), .r (pr.lr y2 3)]))))))
def L25_6  : (Nat → List (Y Δ N R M) → Ω) → E → Ω := fun J2 y2 =>
 (pr.lenD (pr.ld y2 6) fun x3 =>
   (pr.bin .lss false (pr.ld y2 0) x3 fun x4 =>
    (pr.cond x4
     (pr.bin .lss false (pr.ld y2 0) (pr.lit (.int Go.IntKind.i64 (6))) fun x5 =>
     (pr.cond x5
      (pr.bnd (pr.lenD (pr.ld y2 6) fun x6 =>
      (pr.bin .lss false (pr.ld y2 0) x6 fun x7 =>
       (pr.cond x7
        (pr.rowD 3 (pr.ld y2 6) (pr.ld y2 0) fun w8 =>
        (pr.out 0 [.d (pr.ld y2 0), .r (pr.lr y2 1), .d (pr.cell w8 0), .d (pr.cell w8 1), .d (pr.cell w8 2), .n (pr.ln y2 2), .n (pr.ln y2 3), .d (pr.ld y2 4), .d (pr.ld y2 5), .d (pr.ld y2 6)]))
        (pr.out 0 [.d (pr.ld y2 0), .r (pr.lr y2 1), .d (pr.lit (.int Go.IntKind.i64 (0))), .d (pr.lit (.int Go.IntKind.i64 (0))), .d (pr.lit (.int Go.IntKind.i64 (0))), .n (pr.ln y2 2), .n (pr.ln y2 3), .d (pr.ld y2 4), .d (pr.ld y2 5), .d (pr.ld y2 6)])))) [fun y6 => (pr.bin .mul false (pr.lit (.int Go.IntKind.i64 (2))) (pr.ld y6 0) fun x7 =>
       (pr.bin .add false (pr.lit (.int Go.IntKind.i64 (3))) x7 fun x8 =>
        (pr.bnd (pr.call 26 [(pr.ld y6 2), (pr.lit (.int Go.IntKind.i64 (4)))]) [fun y9 => (pr.bin .add false (pr.lit (.int Go.IntKind.i64 (1))) (pr.ld y9 0) fun x10 =>
          (pr.bnd (pr.call 26 [(pr.ld y6 3), (pr.natD (pr.ln y6 5))]) [fun y11 => (pr.bin .sub false (pr.natD (pr.ln y6 5)) (pr.ld y11 0) fun x12 =>
            (pr.bnd (pr.call 26 [(pr.ld y6 4), x12]) [fun y13 => (pr.bin .add false (pr.ld y11 0) (pr.ld y13 0) fun x14 =>
              (pr.eqN (pr.natN 1) (pr.len (pr.rows [[x8, x10, (pr.ld y11 0), x14]])) (pr.isNil (pr.seg (pr.rows [[x8, x10, (pr.ld y11 0), x14]]) none (pr.natN 1))
               (pr.bin .add false (pr.ld y6 0) (pr.lit (.int Go.IntKind.i64 (1))) fun x15 =>
               (J2 0 [.d x15, .r (pr.lr y6 1), .n (pr.ln y6 5), .n (pr.ln y6 6), .d (pr.ld y6 7), .d (pr.ld y6 8), .d (pr.ld y6 9)]))
               (pr.fits 32 (pr.len (pr.seg (pr.rows [[x8, x10, (pr.ld y11 0), x14]]) none (pr.natN 1)))
               (pr.bin .add false (pr.ld y6 0) (pr.lit (.int Go.IntKind.i64 (1))) fun x15 =>
               (J2 1 [.n (pr.len (pr.seg (pr.rows [[x8, x10, (pr.ld y11 0), x14]]) none (pr.natN 1))), .n (pr.len (pr.seg (pr.rows [[x8, x10, (pr.ld y11 0), x14]]) none (pr.natN 1))), .d x15, .r (pr.lr y6 1), .r (pr.seg (pr.rows [[x8, x10, (pr.ld y11 0), x14]]) none (pr.natN 1)), .n (pr.ln y6 5), .n (pr.ln y6 6), .d (pr.ld y6 7), .d (pr.ld y6 8), .d (pr.ld y6 9)]))))))]))]))])))])
      (pr.bin .eql false (pr.ld y2 0) (pr.lit (.int Go.IntKind.i64 (0))) fun x6 =>
      (pr.cond x6
       (pr.bnd (pr.lenD (pr.ld y2 6) fun x7 =>
       (pr.bin .lss false (pr.ld y2 0) x7 fun x8 =>
        (pr.cond x8
         (pr.rowD 3 (pr.ld y2 6) (pr.ld y2 0) fun w9 =>
         (pr.out 0 [.d (pr.ld y2 0), .r (pr.lr y2 1), .d (pr.cell w9 0), .d (pr.cell w9 1), .d (pr.cell w9 2), .n (pr.ln y2 2), .n (pr.ln y2 3), .d (pr.ld y2 4), .d (pr.ld y2 5), .d (pr.ld y2 6)]))
         (pr.out 0 [.d (pr.ld y2 0), .r (pr.lr y2 1), .d (pr.lit (.int Go.IntKind.i64 (0))), .d (pr.lit (.int Go.IntKind.i64 (0))), .d (pr.lit (.int Go.IntKind.i64 (0))), .n (pr.ln y2 2), .n (pr.ln y2 3), .d (pr.ld y2 4), .d (pr.ld y2 5), .d (pr.ld y2 6)])))) [fun y7 => (pr.bin .mul false (pr.lit (.int Go.IntKind.i64 (2))) (pr.ld y7 0) fun x8 =>
        (pr.bin .add false (pr.lit (.int Go.IntKind.i64 (3))) x8 fun x9 =>
         (pr.bnd (pr.call 26 [(pr.ld y7 2), (pr.lit (.int Go.IntKind.i64 (4)))]) [fun y10 => (pr.bin .add false (pr.lit (.int Go.IntKind.i64 (1))) (pr.ld y10 0) fun x11 =>
           (pr.bnd (pr.call 26 [(pr.ld y7 3), (pr.natD (pr.ln y7 5))]) [fun y12 => (pr.bin .sub false (pr.natD (pr.ln y7 5)) (pr.ld y12 0) fun x13 =>
             (pr.bnd (pr.call 26 [(pr.ld y7 4), x13]) [fun y14 => (pr.bin .add false (pr.ld y12 0) (pr.ld y14 0) fun x15 =>
               (pr.eqN (pr.natN 1) (pr.len (pr.rows [[x9, x11, (pr.ld y12 0), x15]])) (pr.isNil (pr.seg (pr.rows [[x9, x11, (pr.ld y12 0), x15]]) none (pr.natN 1))
                (pr.bin .add false (pr.ld y7 0) (pr.lit (.int Go.IntKind.i64 (1))) fun x16 =>
                (J2 0 [.d x16, .r (pr.lr y7 1), .n (pr.ln y7 5), .n (pr.ln y7 6), .d (pr.ld y7 7), .d (pr.ld y7 8), .d (pr.ld y7 9)]))
                (pr.fits 32 (pr.len (pr.seg (pr.rows [[x9, x11, (pr.ld y12 0), x15]]) none (pr.natN 1)))
                (pr.bin .add false (pr.ld y7 0) (pr.lit (.int Go.IntKind.i64 (1))) fun x16 =>
                (J2 1 [.n (pr.len (pr.seg (pr.rows [[x9, x11, (pr.ld y12 0), x15]]) none (pr.natN 1))), .n (pr.len (pr.seg (pr.rows [[x9, x11, (pr.ld y12 0), x15]]) none (pr.natN 1))), .d x16, .r (pr.lr y7 1), .r (pr.seg (pr.rows [[x9, x11, (pr.ld y12 0), x15]]) none (pr.natN 1)), .n (pr.ln y7 5), .n (pr.ln y7 6), .d (pr.ld y7 7), .d (pr.ld y7 8), .d (pr.ld y7 9)]))))))]))]))])))])
       (pr.out 0 [.r (pr.lr y2 1), .n (pr.ln y2 2), .n (pr.ln y2 3)])))))
     (pr.bin .eql false (pr.ld y2 0) (pr.lit (.int Go.IntKind.i64 (0))) fun x5 =>
     (pr.cond x5
      (pr.bnd (pr.lenD (pr.ld y2 6) fun x6 =>
      (pr.bin .lss false (pr.ld y2 0) x6 fun x7 =>
       (pr.cond x7
        (pr.rowD 3 (pr.ld y2 6) (pr.ld y2 0) fun w8 =>
        (pr.out 0 [.d (pr.ld y2 0), .r (pr.lr y2 1), .d (pr.cell w8 0), .d (pr.cell w8 1), .d (pr.cell w8 2), .n (pr.ln y2 2), .n (pr.ln y2 3), .d (pr.ld y2 4), .d (pr.ld y2 5), .d (pr.ld y2 6)]))
        (pr.out 0 [.d (pr.ld y2 0), .r (pr.lr y2 1), .d (pr.lit (.int Go.IntKind.i64 (0))), .d (pr.lit (.int Go.IntKind.i64 (0))), .d (pr.lit (.int Go.IntKind.i64 (0))), .n (pr.ln y2 2), .n (pr.ln y2 3), .d (pr.ld y2 4), .d (pr.ld y2 5), .d (pr.ld y2 6)])))) [fun y6 => (pr.bin .mul false (pr.lit (.int Go.IntKind.i64 (2))) (pr.ld y6 0) fun x7 =>
       (pr.bin .add false (pr.lit (.int Go.IntKind.i64 (3))) x7 fun x8 =>
        (pr.bnd (pr.call 26 [(pr.ld y6 2), (pr.lit (.int Go.IntKind.i64 (4)))]) [fun y9 => (pr.bin .add false (pr.lit (.int Go.IntKind.i64 (1))) (pr.ld y9 0) fun x10 =>
          (pr.bnd (pr.call 26 [(pr.ld y6 3), (pr.natD (pr.ln y6 5))]) [fun y11 => (pr.bin .sub false (pr.natD (pr.ln y6 5)) (pr.ld y11 0) fun x12 =>
            (pr.bnd (pr.call 26 [(pr.ld y6 4), x12]) [fun y13 => (pr.bin .add false (pr.ld y11 0) (pr.ld y13 0) fun x14 =>
              (pr.eqN (pr.natN 1) (pr.len (pr.rows [[x8, x10, (pr.ld y11 0), x14]])) (pr.isNil (pr.seg (pr.rows [[x8, x10, (pr.ld y11 0), x14]]) none (pr.natN 1))
               (pr.bin .add false (pr.ld y6 0) (pr.lit (.int Go.IntKind.i64 (1))) fun x15 =>
               (J2 0 [.d x15, .r (pr.lr y6 1), .n (pr.ln y6 5), .n (pr.ln y6 6), .d (pr.ld y6 7), .d (pr.ld y6 8), .d (pr.ld y6 9)]))
               (pr.fits 32 (pr.len (pr.seg (pr.rows [[x8, x10, (pr.ld y11 0), x14]]) none (pr.natN 1)))
               (pr.bin .add false (pr.ld y6 0) (pr.lit (.int Go.IntKind.i64 (1))) fun x15 =>
               (J2 1 [.n (pr.len (pr.seg (pr.rows [[x8, x10, (pr.ld y11 0), x14]]) none (pr.natN 1))), .n (pr.len (pr.seg (pr.rows [[x8, x10, (pr.ld y11 0), x14]]) none (pr.natN 1))), .d x15, .r (pr.lr y6 1), .r (pr.seg (pr.rows [[x8, x10, (pr.ld y11 0), x14]]) none (pr.natN 1)), .n (pr.ln y6 5), .n (pr.ln y6 6), .d (pr.ld y6 7), .d (pr.ld y6 8), .d (pr.ld y6 9)]))))))]))]))])))])
      (pr.out 0 [.r (pr.lr y2 1), .n (pr.ln y2 2), .n (pr.ln y2 3)]))))))
def L25_7  : (Nat → List (Y Δ N R M) → Ω) → E → Ω := fun J2 y2 =>
 (pr.lenD (pr.ld y2 9) fun x3 =>
   (pr.bin .lss false (pr.ld y2 2) x3 fun x4 =>
    (pr.cond x4
     (pr.bin .lss false (pr.ld y2 2) (pr.lit (.int Go.IntKind.i64 (6))) fun x5 =>
     (pr.cond x5
      (pr.bnd (pr.lenD (pr.ld y2 9) fun x6 =>
      (pr.bin .lss false (pr.ld y2 2) x6 fun x7 =>
       (pr.cond x7
        (pr.rowD 3 (pr.ld y2 9) (pr.ld y2 2) fun w8 =>
        (pr.out 0 [.n (pr.ln y2 0), .n (pr.ln y2 1), .d (pr.ld y2 2), .r (pr.lr y2 3), .d (pr.cell w8 0), .d (pr.cell w8 1), .d (pr.cell w8 2), .r (pr.lr y2 4), .n (pr.ln y2 5), .n (pr.ln y2 6), .d (pr.ld y2 7), .d (pr.ld y2 8), .d (pr.ld y2 9)]))
        (pr.out 0 [.n (pr.ln y2 0), .n (pr.ln y2 1), .d (pr.ld y2 2), .r (pr.lr y2 3), .d (pr.lit (.int Go.IntKind.i64 (0))), .d (pr.lit (.int Go.IntKind.i64 (0))), .d (pr.lit (.int Go.IntKind.i64 (0))), .r (pr.lr y2 4), .n (pr.ln y2 5), .n (pr.ln y2 6), .d (pr.ld y2 7), .d (pr.ld y2 8), .d (pr.ld y2 9)])))) [fun y6 => (pr.bin .mul false (pr.lit (.int Go.IntKind.i64 (2))) (pr.ld y6 2) fun x7 =>
       (pr.bin .add false (pr.lit (.int Go.IntKind.i64 (3))) x7 fun x8 =>
        (pr.bnd (pr.call 26 [(pr.ld y6 4), (pr.lit (.int Go.IntKind.i64 (4)))]) [fun y9 => (pr.bin .add false (pr.lit (.int Go.IntKind.i64 (1))) (pr.ld y9 0) fun x10 =>
          (pr.bnd (pr.call 26 [(pr.ld y6 5), (pr.natD (pr.ln y6 8))]) [fun y11 => (pr.bin .sub false (pr.natD (pr.ln y6 8)) (pr.ld y11 0) fun x12 =>
            (pr.bnd (pr.call 26 [(pr.ld y6 6), x12]) [fun y13 => (pr.bin .add false (pr.ld y11 0) (pr.ld y13 0) fun x14 =>
              (pr.eqN (pr.natN 1) (pr.len (pr.rows [[x8, x10, (pr.ld y11 0), x14]])) (pr.eqN (pr.ln y6 1) (pr.len (pr.lr y6 7)) (pr.eqN (pr.ln y6 0) (pr.len (pr.lr y6 7)) (pr.fits 32 (pr.addN (pr.ln y6 0) (pr.len (pr.seg (pr.rows [[x8, x10, (pr.ld y11 0), x14]]) none (pr.natN 1))))
               (pr.bin .add false (pr.ld y6 2) (pr.lit (.int Go.IntKind.i64 (1))) fun x15 =>
               (J2 1 [.n (pr.addN (pr.ln y6 0) (pr.len (pr.seg (pr.rows [[x8, x10, (pr.ld y11 0), x14]]) none (pr.natN 1)))), .n (pr.addN (pr.ln y6 0) (pr.len (pr.seg (pr.rows [[x8, x10, (pr.ld y11 0), x14]]) none (pr.natN 1)))), .d x15, .r (pr.lr y6 3), .r (pr.app (pr.lr y6 7) (pr.seg (pr.rows [[x8, x10, (pr.ld y11 0), x14]]) none (pr.natN 1))), .n (pr.ln y6 8), .n (pr.ln y6 9), .d (pr.ld y6 10), .d (pr.ld y6 11), .d (pr.ld y6 12)])))))))]))]))])))])
      (pr.bin .eql false (pr.ld y2 2) (pr.lit (.int Go.IntKind.i64 (0))) fun x6 =>
      (pr.cond x6
       (pr.bnd (pr.lenD (pr.ld y2 9) fun x7 =>
       (pr.bin .lss false (pr.ld y2 2) x7 fun x8 =>
        (pr.cond x8
         (pr.rowD 3 (pr.ld y2 9) (pr.ld y2 2) fun w9 =>
         (pr.out 0 [.n (pr.ln y2 0), .n (pr.ln y2 1), .d (pr.ld y2 2), .r (pr.lr y2 3), .d (pr.cell w9 0), .d (pr.cell w9 1), .d (pr.cell w9 2), .r (pr.lr y2 4), .n (pr.ln y2 5), .n (pr.ln y2 6), .d (pr.ld y2 7), .d (pr.ld y2 8), .d (pr.ld y2 9)]))
         (pr.out 0 [.n (pr.ln y2 0), .n (pr.ln y2 1), .d (pr.ld y2 2), .r (pr.lr y2 3), .d (pr.lit (.int Go.IntKind.i64 (0))), .d (pr.lit (.int Go.IntKind.i64 (0))), .d (pr.lit (.int Go.IntKind.i64 (0))), .r (pr.lr y2 4), .n (pr.ln y2 5), .n (pr.ln y2 6), .d (pr.ld y2 7), .d (pr.ld y2 8), .d (pr.ld y2 9)])))) [fun y7 => (pr.bin .mul false (pr.lit (.int Go.IntKind.i64 (2))) (pr.ld y7 2) fun x8 =>
        (pr.bin .add false (pr.lit (.int Go.IntKind.i64 (3))) x8 fun x9 =>
         (pr.bnd (pr.call 26 [(pr.ld y7 4), (pr.lit (.int Go.IntKind.i64 (4)))]) [fun y10 => (pr.bin .add false (pr.lit (.int Go.IntKind.i64 (1))) (pr.ld y10 0) fun x11 =>
           (pr.bnd (pr.call 26 [(pr.ld y7 5), (pr.natD (pr.ln y7 8))]) [fun y12 => (pr.bin .sub false (pr.natD (pr.ln y7 8)) (pr.ld y12 0) fun x13 =>
             (pr.bnd (pr.call 26 [(pr.ld y7 6), x13]) [fun y14 => (pr.bin .add false (pr.ld y12 0) (pr.ld y14 0) fun x15 =>
               (pr.eqN (pr.natN 1) (pr.len (pr.rows [[x9, x11, (pr.ld y12 0), x15]])) (pr.eqN (pr.ln y7 1) (pr.len (pr.lr y7 7)) (pr.eqN (pr.ln y7 0) (pr.len (pr.lr y7 7)) (pr.fits 32 (pr.addN (pr.ln y7 0) (pr.len (pr.seg (pr.rows [[x9, x11, (pr.ld y12 0), x15]]) none (pr.natN 1))))
                (pr.bin .add false (pr.ld y7 2) (pr.lit (.int Go.IntKind.i64 (1))) fun x16 =>
                (J2 1 [.n (pr.addN (pr.ln y7 0) (pr.len (pr.seg (pr.rows [[x9, x11, (pr.ld y12 0), x15]]) none (pr.natN 1)))), .n (pr.addN (pr.ln y7 0) (pr.len (pr.seg (pr.rows [[x9, x11, (pr.ld y12 0), x15]]) none (pr.natN 1)))), .d x16, .r (pr.lr y7 3), .r (pr.app (pr.lr y7 7) (pr.seg (pr.rows [[x9, x11, (pr.ld y12 0), x15]]) none (pr.natN 1))), .n (pr.ln y7 8), .n (pr.ln y7 9), .d (pr.ld y7 10), .d (pr.ld y7 11), .d (pr.ld y7 12)])))))))]))]))])))])
       (pr.out 1 [.n (pr.ln y2 0), .n (pr.ln y2 1), .r (pr.lr y2 3), .r (pr.lr y2 4), .n (pr.ln y2 5), .n (pr.ln y2 6)])))))
     (pr.bin .eql false (pr.ld y2 2) (pr.lit (.int Go.IntKind.i64 (0))) fun x5 =>
     (pr.cond x5
      (pr.bnd (pr.lenD (pr.ld y2 9) fun x6 =>
      (pr.bin .lss false (pr.ld y2 2) x6 fun x7 =>
       (pr.cond x7
        (pr.rowD 3 (pr.ld y2 9) (pr.ld y2 2) fun w8 =>
        (pr.out 0 [.n (pr.ln y2 0), .n (pr.ln y2 1), .d (pr.ld y2 2), .r (pr.lr y2 3), .d (pr.cell w8 0), .d (pr.cell w8 1), .d (pr.cell w8 2), .r (pr.lr y2 4), .n (pr.ln y2 5), .n (pr.ln y2 6), .d (pr.ld y2 7), .d (pr.ld y2 8), .d (pr.ld y2 9)]))
        (pr.out 0 [.n (pr.ln y2 0), .n (pr.ln y2 1), .d (pr.ld y2 2), .r (pr.lr y2 3), .d (pr.lit (.int Go.IntKind.i64 (0))), .d (pr.lit (.int Go.IntKind.i64 (0))), .d (pr.lit (.int Go.IntKind.i64 (0))), .r (pr.lr y2 4), .n (pr.ln y2 5), .n (pr.ln y2 6), .d (pr.ld y2 7), .d (pr.ld y2 8), .d (pr.ld y2 9)])))) [fun y6 => (pr.bin .mul false (pr.lit (.int Go.IntKind.i64 (2))) (pr.ld y6 2) fun x7 =>
       (pr.bin .add false (pr.lit (.int Go.IntKind.i64 (3))) x7 fun x8 =>
        (pr.bnd (pr.call 26 [(pr.ld y6 4), (pr.lit (.int Go.IntKind.i64 (4)))]) [fun y9 => (pr.bin .add false (pr.lit (.int Go.IntKind.i64 (1))) (pr.ld y9 0) fun x10 =>
          (pr.bnd (pr.call 26 [(pr.ld y6 5), (pr.natD (pr.ln y6 8))]) [fun y11 => (pr.bin .sub false (pr.natD (pr.ln y6 8)) (pr.ld y11 0) fun x12 =>
            (pr.bnd (pr.call 26 [(pr.ld y6 6), x12]) [fun y13 => (pr.bin .add false (pr.ld y11 0) (pr.ld y13 0) fun x14 =>
              (pr.eqN (pr.natN 1) (pr.len (pr.rows [[x8, x10, (pr.ld y11 0), x14]])) (pr.eqN (pr.ln y6 1) (pr.len (pr.lr y6 7)) (pr.eqN (pr.ln y6 0) (pr.len (pr.lr y6 7)) (pr.fits 32 (pr.addN (pr.ln y6 0) (pr.len (pr.seg (pr.rows [[x8, x10, (pr.ld y11 0), x14]]) none (pr.natN 1))))
               (pr.bin .add false (pr.ld y6 2) (pr.lit (.int Go.IntKind.i64 (1))) fun x15 =>
               (J2 1 [.n (pr.addN (pr.ln y6 0) (pr.len (pr.seg (pr.rows [[x8, x10, (pr.ld y11 0), x14]]) none (pr.natN 1)))), .n (pr.addN (pr.ln y6 0) (pr.len (pr.seg (pr.rows [[x8, x10, (pr.ld y11 0), x14]]) none (pr.natN 1)))), .d x15, .r (pr.lr y6 3), .r (pr.app (pr.lr y6 7) (pr.seg (pr.rows [[x8, x10, (pr.ld y11 0), x14]]) none (pr.natN 1))), .n (pr.ln y6 8), .n (pr.ln y6 9), .d (pr.ld y6 10), .d (pr.ld y6 11), .d (pr.ld y6 12)])))))))]))]))])))])
      (pr.out 1 [.n (pr.ln y2 0), .n (pr.ln y2 1), .r (pr.lr y2 3), .r (pr.lr y2 4), .n (pr.ln y2 5), .n (pr.ln y2 6)]))))))
def L25_8  : (Nat → List (Y Δ N R M) → Ω) → E → Ω := fun J1 y1 =>
 (pr.lenD (pr.ld y1 5) fun x2 =>
  (pr.bin .lss false (pr.ld y1 0) x2 fun x3 =>
   (pr.cond x3
    (pr.bin .lss false (pr.ld y1 0) (pr.lit (.int Go.IntKind.i64 (10))) fun x4 =>
    (pr.cond x4
     (pr.bnd (pr.lenD (pr.ld y1 5) fun x5 =>
     (pr.bin .lss false (pr.ld y1 0) x5 fun x6 =>
      (pr.cond x6
       (pr.rowD 3 (pr.ld y1 5) (pr.ld y1 0) fun w7 =>
       (pr.out 0 [.d (pr.ld y1 0), .r (pr.lr y1 1), .d (pr.cell w7 0), .d (pr.cell w7 1), .d (pr.cell w7 2), .n (pr.ln y1 2), .n (pr.ln y1 3), .d (pr.ld y1 4), .d (pr.ld y1 5), .d (pr.ld y1 6)]))
       (pr.out 0 [.d (pr.ld y1 0), .r (pr.lr y1 1), .d (pr.lit (.int Go.IntKind.i64 (0))), .d (pr.lit (.int Go.IntKind.i64 (0))), .d (pr.lit (.int Go.IntKind.i64 (0))), .n (pr.ln y1 2), .n (pr.ln y1 3), .d (pr.ld y1 4), .d (pr.ld y1 5), .d (pr.ld y1 6)])))) [fun y5 => (pr.bnd (pr.call 26 [(pr.ld y5 2), (pr.natD (pr.ln y5 5))]) [fun y6 => (pr.bin .add false (pr.lit (.int Go.IntKind.i64 (1))) (pr.ld y6 0) fun x7 =>
       (pr.bnd (pr.call 26 [(pr.ld y5 3), (pr.lit (.int Go.IntKind.i64 (9)))]) [fun y8 => (pr.bin .add false (pr.lit (.int Go.IntKind.i64 (1))) (pr.ld y8 0) fun x9 =>
         (pr.bnd (pr.call 26 [(pr.ld y5 4), (pr.lit (.int Go.IntKind.i64 (12)))]) [fun y10 => (pr.eqN (pr.natN 1) (pr.len (pr.rows [[x7, x9, (pr.ld y10 0)]])) (pr.isNil (pr.seg (pr.rows [[x7, x9, (pr.ld y10 0)]]) none (pr.natN 1))
           (pr.bin .add false (pr.ld y5 0) (pr.lit (.int Go.IntKind.i64 (1))) fun x11 =>
           (J1 0 [.d x11, .r (pr.lr y5 1), .n (pr.ln y5 5), .n (pr.ln y5 6), .d (pr.ld y5 7), .d (pr.ld y5 8), .d (pr.ld y5 9)]))
           (pr.fits 24 (pr.len (pr.seg (pr.rows [[x7, x9, (pr.ld y10 0)]]) none (pr.natN 1)))
           (pr.bin .add false (pr.ld y5 0) (pr.lit (.int Go.IntKind.i64 (1))) fun x11 =>
           (J1 1 [.d x11, .r (pr.seg (pr.rows [[x7, x9, (pr.ld y10 0)]]) none (pr.natN 1)), .r (pr.lr y5 1), .n (pr.ln y5 5), .n (pr.ln y5 6), .n (pr.len (pr.seg (pr.rows [[x7, x9, (pr.ld y10 0)]]) none (pr.natN 1))), .n (pr.len (pr.seg (pr.rows [[x7, x9, (pr.ld y10 0)]]) none (pr.natN 1))), .d (pr.ld y5 7), .d (pr.ld y5 8), .d (pr.ld y5 9)])))))]))]))])])
     (pr.bin .eql false (pr.ld y1 0) (pr.lit (.int Go.IntKind.i64 (0))) fun x5 =>
     (pr.cond x5
      (pr.bnd (pr.lenD (pr.ld y1 5) fun x6 =>
      (pr.bin .lss false (pr.ld y1 0) x6 fun x7 =>
       (pr.cond x7
        (pr.rowD 3 (pr.ld y1 5) (pr.ld y1 0) fun w8 =>
        (pr.out 0 [.d (pr.ld y1 0), .r (pr.lr y1 1), .d (pr.cell w8 0), .d (pr.cell w8 1), .d (pr.cell w8 2), .n (pr.ln y1 2), .n (pr.ln y1 3), .d (pr.ld y1 4), .d (pr.ld y1 5), .d (pr.ld y1 6)]))
        (pr.out 0 [.d (pr.ld y1 0), .r (pr.lr y1 1), .d (pr.lit (.int Go.IntKind.i64 (0))), .d (pr.lit (.int Go.IntKind.i64 (0))), .d (pr.lit (.int Go.IntKind.i64 (0))), .n (pr.ln y1 2), .n (pr.ln y1 3), .d (pr.ld y1 4), .d (pr.ld y1 5), .d (pr.ld y1 6)])))) [fun y6 => (pr.bnd (pr.call 26 [(pr.ld y6 2), (pr.natD (pr.ln y6 5))]) [fun y7 => (pr.bin .add false (pr.lit (.int Go.IntKind.i64 (1))) (pr.ld y7 0) fun x8 =>
        (pr.bnd (pr.call 26 [(pr.ld y6 3), (pr.lit (.int Go.IntKind.i64 (9)))]) [fun y9 => (pr.bin .add false (pr.lit (.int Go.IntKind.i64 (1))) (pr.ld y9 0) fun x10 =>
          (pr.bnd (pr.call 26 [(pr.ld y6 4), (pr.lit (.int Go.IntKind.i64 (12)))]) [fun y11 => (pr.eqN (pr.natN 1) (pr.len (pr.rows [[x8, x10, (pr.ld y11 0)]])) (pr.isNil (pr.seg (pr.rows [[x8, x10, (pr.ld y11 0)]]) none (pr.natN 1))
            (pr.bin .add false (pr.ld y6 0) (pr.lit (.int Go.IntKind.i64 (1))) fun x12 =>
            (J1 0 [.d x12, .r (pr.lr y6 1), .n (pr.ln y6 5), .n (pr.ln y6 6), .d (pr.ld y6 7), .d (pr.ld y6 8), .d (pr.ld y6 9)]))
            (pr.fits 24 (pr.len (pr.seg (pr.rows [[x8, x10, (pr.ld y11 0)]]) none (pr.natN 1)))
            (pr.bin .add false (pr.ld y6 0) (pr.lit (.int Go.IntKind.i64 (1))) fun x12 =>
            (J1 1 [.d x12, .r (pr.seg (pr.rows [[x8, x10, (pr.ld y11 0)]]) none (pr.natN 1)), .r (pr.lr y6 1), .n (pr.ln y6 5), .n (pr.ln y6 6), .n (pr.len (pr.seg (pr.rows [[x8, x10, (pr.ld y11 0)]]) none (pr.natN 1))), .n (pr.len (pr.seg (pr.rows [[x8, x10, (pr.ld y11 0)]]) none (pr.natN 1))), .d (pr.ld y6 7), .d (pr.ld y6 8), .d (pr.ld y6 9)])))))]))]))])])
      (pr.out 0 [.r (pr.lr y1 1), .n (pr.ln y1 2), .n (pr.ln y1 3), .d (pr.ld y1 4), .d (pr.ld y1 5), .d (pr.ld y1 6)])))))
    (pr.bin .eql false (pr.ld y1 0) (pr.lit (.int Go.IntKind.i64 (0))) fun x4 =>
    (pr.cond x4
     (pr.bnd (pr.lenD (pr.ld y1 5) fun x5 =>
     (pr.bin .lss false (pr.ld y1 0) x5 fun x6 =>
      (pr.cond x6
       (pr.rowD 3 (pr.ld y1 5) (pr.ld y1 0) fun w7 =>
       (pr.out 0 [.d (pr.ld y1 0), .r (pr.lr y1 1), .d (pr.cell w7 0), .d (pr.cell w7 1), .d (pr.cell w7 2), .n (pr.ln y1 2), .n (pr.ln y1 3), .d (pr.ld y1 4), .d (pr.ld y1 5), .d (pr.ld y1 6)]))
       (pr.out 0 [.d (pr.ld y1 0), .r (pr.lr y1 1), .d (pr.lit (.int Go.IntKind.i64 (0))), .d (pr.lit (.int Go.IntKind.i64 (0))), .d (pr.lit (.int Go.IntKind.i64 (0))), .n (pr.ln y1 2), .n (pr.ln y1 3), .d (pr.ld y1 4), .d (pr.ld y1 5), .d (pr.ld y1 6)])))) [fun y5 => (pr.bnd (pr.call 26 [(pr.ld y5 2), (pr.natD (pr.ln y5 5))]) [fun y6 => (pr.bin .add false (pr.lit (.int Go.IntKind.i64 (1))) (pr.ld y6 0) fun x7 =>
       (pr.bnd (pr.call 26 [(pr.ld y5 3), (pr.lit (.int Go.IntKind.i64 (9)))]) [fun y8 => (pr.bin .add false (pr.lit (.int Go.IntKind.i64 (1))) (pr.ld y8 0) fun x9 =>
         (pr.bnd (pr.call 26 [(pr.ld y5 4), (pr.lit (.int Go.IntKind.i64 (12)))]) [fun y10 => (pr.eqN (pr.natN 1) (pr.len (pr.rows [[x7, x9, (pr.ld y10 0)]])) (pr.isNil (pr.seg (pr.rows [[x7, x9, (pr.ld y10 0)]]) none (pr.natN 1))
           (pr.bin .add false (pr.ld y5 0) (pr.lit (.int Go.IntKind.i64 (1))) fun x11 =>
           (J1 0 [.d x11, .r (pr.lr y5 1), .n (pr.ln y5 5), .n (pr.ln y5 6), .d (pr.ld y5 7), .d (pr.ld y5 8), .d (pr.ld y5 9)]))
           (pr.fits 24 (pr.len (pr.seg (pr.rows [[x7, x9, (pr.ld y10 0)]]) none (pr.natN 1)))
           (pr.bin .add false (pr.ld y5 0) (pr.lit (.int Go.IntKind.i64 (1))) fun x11 =>
           (J1 1 [.d x11, .r (pr.seg (pr.rows [[x7, x9, (pr.ld y10 0)]]) none (pr.natN 1)), .r (pr.lr y5 1), .n (pr.ln y5 5), .n (pr.ln y5 6), .n (pr.len (pr.seg (pr.rows [[x7, x9, (pr.ld y10 0)]]) none (pr.natN 1))), .n (pr.len (pr.seg (pr.rows [[x7, x9, (pr.ld y10 0)]]) none (pr.natN 1))), .d (pr.ld y5 7), .d (pr.ld y5 8), .d (pr.ld y5 9)])))))]))]))])])
     (pr.out 0 [.r (pr.lr y1 1), .n (pr.ln y1 2), .n (pr.ln y1 3), .d (pr.ld y1 4), .d (pr.ld y1 5), .d (pr.ld y1 6)]))))))
def L25_9  : (Nat → List (Y Δ N R M) → Ω) → E → Ω := fun J1 y1 =>
 (pr.lenD (pr.ld y1 8) fun x2 =>
  (pr.bin .lss false (pr.ld y1 0) x2 fun x3 =>
   (pr.cond x3
    (pr.bin .lss false (pr.ld y1 0) (pr.lit (.int Go.IntKind.i64 (10))) fun x4 =>
    (pr.cond x4
     (pr.bnd (pr.lenD (pr.ld y1 8) fun x5 =>
     (pr.bin .lss false (pr.ld y1 0) x5 fun x6 =>
      (pr.cond x6
       (pr.rowD 3 (pr.ld y1 8) (pr.ld y1 0) fun w7 =>
       (pr.out 0 [.d (pr.ld y1 0), .r (pr.lr y1 1), .r (pr.lr y1 2), .d (pr.cell w7 0), .d (pr.cell w7 1), .d (pr.cell w7 2), .n (pr.ln y1 3), .n (pr.ln y1 4), .n (pr.ln y1 5), .n (pr.ln y1 6), .d (pr.ld y1 7), .d (pr.ld y1 8), .d (pr.ld y1 9)]))
       (pr.out 0 [.d (pr.ld y1 0), .r (pr.lr y1 1), .r (pr.lr y1 2), .d (pr.lit (.int Go.IntKind.i64 (0))), .d (pr.lit (.int Go.IntKind.i64 (0))), .d (pr.lit (.int Go.IntKind.i64 (0))), .n (pr.ln y1 3), .n (pr.ln y1 4), .n (pr.ln y1 5), .n (pr.ln y1 6), .d (pr.ld y1 7), .d (pr.ld y1 8), .d (pr.ld y1 9)])))) [fun y5 => (pr.bnd (pr.call 26 [(pr.ld y5 3), (pr.natD (pr.ln y5 6))]) [fun y6 => (pr.bin .add false (pr.lit (.int Go.IntKind.i64 (1))) (pr.ld y6 0) fun x7 =>
       (pr.bnd (pr.call 26 [(pr.ld y5 4), (pr.lit (.int Go.IntKind.i64 (9)))]) [fun y8 => (pr.bin .add false (pr.lit (.int Go.IntKind.i64 (1))) (pr.ld y8 0) fun x9 =>
         (pr.bnd (pr.call 26 [(pr.ld y5 5), (pr.lit (.int Go.IntKind.i64 (12)))]) [fun y10 => (pr.eqN (pr.natN 1) (pr.len (pr.rows [[x7, x9, (pr.ld y10 0)]])) (pr.eqN (pr.ln y5 9) (pr.len (pr.lr y5 1)) (pr.eqN (pr.ln y5 8) (pr.len (pr.lr y5 1)) (pr.fits 24 (pr.addN (pr.ln y5 8) (pr.len (pr.seg (pr.rows [[x7, x9, (pr.ld y10 0)]]) none (pr.natN 1))))
           (pr.bin .add false (pr.ld y5 0) (pr.lit (.int Go.IntKind.i64 (1))) fun x11 =>
           (J1 1 [.d x11, .r (pr.app (pr.lr y5 1) (pr.seg (pr.rows [[x7, x9, (pr.ld y10 0)]]) none (pr.natN 1))), .r (pr.lr y5 2), .n (pr.ln y5 6), .n (pr.ln y5 7), .n (pr.addN (pr.ln y5 8) (pr.len (pr.seg (pr.rows [[x7, x9, (pr.ld y10 0)]]) none (pr.natN 1)))), .n (pr.addN (pr.ln y5 8) (pr.len (pr.seg (pr.rows [[x7, x9, (pr.ld y10 0)]]) none (pr.natN 1)))), .d (pr.ld y5 10), .d (pr.ld y5 11), .d (pr.ld y5 12)]))))))]))]))])])
     (pr.bin .eql false (pr.ld y1 0) (pr.lit (.int Go.IntKind.i64 (0))) fun x5 =>
     (pr.cond x5
      (pr.bnd (pr.lenD (pr.ld y1 8) fun x6 =>
      (pr.bin .lss false (pr.ld y1 0) x6 fun x7 =>
       (pr.cond x7
        (pr.rowD 3 (pr.ld y1 8) (pr.ld y1 0) fun w8 =>
        (pr.out 0 [.d (pr.ld y1 0), .r (pr.lr y1 1), .r (pr.lr y1 2), .d (pr.cell w8 0), .d (pr.cell w8 1), .d (pr.cell w8 2), .n (pr.ln y1 3), .n (pr.ln y1 4), .n (pr.ln y1 5), .n (pr.ln y1 6), .d (pr.ld y1 7), .d (pr.ld y1 8), .d (pr.ld y1 9)]))
        (pr.out 0 [.d (pr.ld y1 0), .r (pr.lr y1 1), .r (pr.lr y1 2), .d (pr.lit (.int Go.IntKind.i64 (0))), .d (pr.lit (.int Go.IntKind.i64 (0))), .d (pr.lit (.int Go.IntKind.i64 (0))), .n (pr.ln y1 3), .n (pr.ln y1 4), .n (pr.ln y1 5), .n (pr.ln y1 6), .d (pr.ld y1 7), .d (pr.ld y1 8), .d (pr.ld y1 9)])))) [fun y6 => (pr.bnd (pr.call 26 [(pr.ld y6 3), (pr.natD (pr.ln y6 6))]) [fun y7 => (pr.bin .add false (pr.lit (.int Go.IntKind.i64 (1))) (pr.ld y7 0) fun x8 =>
        (pr.bnd (pr.call 26 [(pr.ld y6 4), (pr.lit (.int Go.IntKind.i64 (9)))]) [fun y9 => (pr.bin .add false (pr.lit (.int Go.IntKind.i64 (1))) (pr.ld y9 0) fun x10 =>
          (pr.bnd (pr.call 26 [(pr.ld y6 5), (pr.lit (.int Go.IntKind.i64 (12)))]) [fun y11 => (pr.eqN (pr.natN 1) (pr.len (pr.rows [[x8, x10, (pr.ld y11 0)]])) (pr.eqN (pr.ln y6 9) (pr.len (pr.lr y6 1)) (pr.eqN (pr.ln y6 8) (pr.len (pr.lr y6 1)) (pr.fits 24 (pr.addN (pr.ln y6 8) (pr.len (pr.seg (pr.rows [[x8, x10, (pr.ld y11 0)]]) none (pr.natN 1))))
            (pr.bin .add false (pr.ld y6 0) (pr.lit (.int Go.IntKind.i64 (1))) fun x12 =>
            (J1 1 [.d x12, .r (pr.app (pr.lr y6 1) (pr.seg (pr.rows [[x8, x10, (pr.ld y11 0)]]) none (pr.natN 1))), .r (pr.lr y6 2), .n (pr.ln y6 6), .n (pr.ln y6 7), .n (pr.addN (pr.ln y6 8) (pr.len (pr.seg (pr.rows [[x8, x10, (pr.ld y11 0)]]) none (pr.natN 1)))), .n (pr.addN (pr.ln y6 8) (pr.len (pr.seg (pr.rows [[x8, x10, (pr.ld y11 0)]]) none (pr.natN 1)))), .d (pr.ld y6 10), .d (pr.ld y6 11), .d (pr.ld y6 12)]))))))]))]))])])
      (pr.out 1 [.r (pr.lr y1 1), .r (pr.lr y1 2), .n (pr.ln y1 3), .n (pr.ln y1 4), .n (pr.ln y1 5), .n (pr.ln y1 6), .d (pr.ld y1 7), .d (pr.ld y1 8), .d (pr.ld y1 9)])))))
    (pr.bin .eql false (pr.ld y1 0) (pr.lit (.int Go.IntKind.i64 (0))) fun x4 =>
    (pr.cond x4
     (pr.bnd (pr.lenD (pr.ld y1 8) fun x5 =>
     (pr.bin .lss false (pr.ld y1 0) x5 fun x6 =>
      (pr.cond x6
       (pr.rowD 3 (pr.ld y1 8) (pr.ld y1 0) fun w7 =>
       (pr.out 0 [.d (pr.ld y1 0), .r (pr.lr y1 1), .r (pr.lr y1 2), .d (pr.cell w7 0), .d (pr.cell w7 1), .d (pr.cell w7 2), .n (pr.ln y1 3), .n (pr.ln y1 4), .n (pr.ln y1 5), .n (pr.ln y1 6), .d (pr.ld y1 7), .d (pr.ld y1 8), .d (pr.ld y1 9)]))
       (pr.out 0 [.d (pr.ld y1 0), .r (pr.lr y1 1), .r (pr.lr y1 2), .d (pr.lit (.int Go.IntKind.i64 (0))), .d (pr.lit (.int Go.IntKind.i64 (0))), .d (pr.lit (.int Go.IntKind.i64 (0))), .n (pr.ln y1 3), .n (pr.ln y1 4), .n (pr.ln y1 5), .n (pr.ln y1 6), .d (pr.ld y1 7), .d (pr.ld y1 8), .d (pr.ld y1 9)])))) [fun y5 => (pr.bnd (pr.call 26 [(pr.ld y5 3), (pr.natD (pr.ln y5 6))]) [fun y6 => (pr.bin .add false (pr.lit (.int Go.IntKind.i64 (1))) (pr.ld y6 0) fun x7 =>
       (pr.bnd (pr.call 26 [(pr.ld y5 4), (pr.lit (.int Go.IntKind.i64 (9)))]) [fun y8 => (pr.bin .add false (pr.lit (.int Go.IntKind.i64 (1))) (pr.ld y8 0) fun x9 =>
         (pr.bnd (pr.call 26 [(pr.ld y5 5), (pr.lit (.int Go.IntKind.i64 (12)))]) [fun y10 => (pr.eqN (pr.natN 1) (pr.len (pr.rows [[x7, x9, (pr.ld y10 0)]])) (pr.eqN (pr.ln y5 9) (pr.len (pr.lr y5 1)) (pr.eqN (pr.ln y5 8) (pr.len (pr.lr y5 1)) (pr.fits 24 (pr.addN (pr.ln y5 8) (pr.len (pr.seg (pr.rows [[x7, x9, (pr.ld y10 0)]]) none (pr.natN 1))))
           (pr.bin .add false (pr.ld y5 0) (pr.lit (.int Go.IntKind.i64 (1))) fun x11 =>
           (J1 1 [.d x11, .r (pr.app (pr.lr y5 1) (pr.seg (pr.rows [[x7, x9, (pr.ld y10 0)]]) none (pr.natN 1))), .r (pr.lr y5 2), .n (pr.ln y5 6), .n (pr.ln y5 7), .n (pr.addN (pr.ln y5 8) (pr.len (pr.seg (pr.rows [[x7, x9, (pr.ld y10 0)]]) none (pr.natN 1)))), .n (pr.addN (pr.ln y5 8) (pr.len (pr.seg (pr.rows [[x7, x9, (pr.ld y10 0)]]) none (pr.natN 1)))), .d (pr.ld y5 10), .d (pr.ld y5 11), .d (pr.ld y5 12)]))))))]))]))])])
     (pr.out 1 [.r (pr.lr y1 1), .r (pr.lr y1 2), .n (pr.ln y1 3), .n (pr.ln y1 4), .n (pr.ln y1 5), .n (pr.ln y1 6), .d (pr.ld y1 7), .d (pr.ld y1 8), .d (pr.ld y1 9)]))))))
def L25_10  : (Nat → List (Y Δ N R M) → Ω) → E → Ω := fun J2 y2 =>
 (pr.lenD (pr.ld y2 6) fun x3 =>
   (pr.bin .lss false (pr.ld y2 0) x3 fun x4 =>
    (pr.cond x4
     (pr.bin .lss false (pr.ld y2 0) (pr.lit (.int Go.IntKind.i64 (6))) fun x5 =>
     (pr.cond x5
      (pr.bnd (pr.lenD (pr.ld y2 6) fun x6 =>
      (pr.bin .lss false (pr.ld y2 0) x6 fun x7 =>
       (pr.cond x7
        (pr.rowD 3 (pr.ld y2 6) (pr.ld y2 0) fun w8 =>
        (pr.out 0 [.d (pr.ld y2 0), .r (pr.lr y2 1), .d (pr.cell w8 0), .d (pr.cell w8 1), .d (pr.cell w8 2), .n (pr.ln y2 2), .n (pr.ln y2 3), .d (pr.ld y2 4), .d (pr.ld y2 5), .d (pr.ld y2 6)]))
        (pr.out 0 [.d (pr.ld y2 0), .r (pr.lr y2 1), .d (pr.lit (.int Go.IntKind.i64 (0))), .d (pr.lit (.int Go.IntKind.i64 (0))), .d (pr.lit (.int Go.IntKind.i64 (0))), .n (pr.ln y2 2), .n (pr.ln y2 3), .d (pr.ld y2 4), .d (pr.ld y2 5), .d (pr.ld y2 6)])))) [fun y6 => (pr.bin .mul false (pr.lit (.int Go.IntKind.i64 (2))) (pr.ld y6 0) fun x7 =>
       (pr.bin .add false (pr.lit (.int Go.IntKind.i64 (3))) x7 fun x8 =>
        (pr.bnd (pr.call 26 [(pr.ld y6 2), (pr.lit (.int Go.IntKind.i64 (4)))]) [fun y9 => (pr.bin .add false (pr.lit (.int Go.IntKind.i64 (1))) (pr.ld y9 0) fun x10 =>
          (pr.bnd (pr.call 26 [(pr.ld y6 3), (pr.lit (.int Go.IntKind.i64 (0)))]) [fun y11 => (pr.bin .sub false (pr.lit (.int Go.IntKind.i64 (0))) (pr.ld y11 0) fun x12 =>
            (pr.bnd (pr.call 26 [(pr.ld y6 4), x12]) [fun y13 => (pr.bin .add false (pr.ld y11 0) (pr.ld y13 0) fun x14 =>
              (pr.eqN (pr.natN 1) (pr.len (pr.rows [[x8, x10, (pr.ld y11 0), x14]])) (pr.isNil (pr.seg (pr.rows [[x8, x10, (pr.ld y11 0), x14]]) none (pr.natN 1))
               (pr.bin .add false (pr.ld y6 0) (pr.lit (.int Go.IntKind.i64 (1))) fun x15 =>
               (J2 0 [.d x15, .r (pr.lr y6 1), .n (pr.ln y6 5), .n (pr.ln y6 6), .d (pr.ld y6 7), .d (pr.ld y6 8), .d (pr.ld y6 9)]))
               (pr.fits 32 (pr.len (pr.seg (pr.rows [[x8, x10, (pr.ld y11 0), x14]]) none (pr.natN 1)))
               (pr.bin .add false (pr.ld y6 0) (pr.lit (.int Go.IntKind.i64 (1))) fun x15 =>
               (J2 1 [.n (pr.len (pr.seg (pr.rows [[x8, x10, (pr.ld y11 0), x14]]) none (pr.natN 1))), .n (pr.len (pr.seg (pr.rows [[x8, x10, (pr.ld y11 0), x14]]) none (pr.natN 1))), .d x15, .r (pr.lr y6 1), .r (pr.seg (pr.rows [[x8, x10, (pr.ld y11 0), x14]]) none (pr.natN 1)), .n (pr.ln y6 5), .n (pr.ln y6 6), .d (pr.ld y6 7), .d (pr.ld y6 8), .d (pr.ld y6 9)]))))))]))]))])))])
      (pr.bin .eql false (pr.ld y2 0) (pr.lit (.int Go.IntKind.i64 (0))) fun x6 =>
      (pr.cond x6
       (pr.bnd (pr.lenD (pr.ld y2 6) fun x7 =>
       (pr.bin .lss false (pr.ld y2 0) x7 fun x8 =>
        (pr.cond x8
         (pr.rowD 3 (pr.ld y2 6) (pr.ld y2 0) fun w9 =>
         (pr.out 0 [.d (pr.ld y2 0), .r (pr.lr y2 1), .d (pr.cell w9 0), .d (pr.cell w9 1), .d (pr.cell w9 2), .n (pr.ln y2 2), .n (pr.ln y2 3), .d (pr.ld y2 4), .d (pr.ld y2 5), .d (pr.ld y2 6)]))
         (pr.out 0 [.d (pr.ld y2 0), .r (pr.lr y2 1), .d (pr.lit (.int Go.IntKind.i64 (0))), .d (pr.lit (.int Go.IntKind.i64 (0))), .d (pr.lit (.int Go.IntKind.i64 (0))), .n (pr.ln y2 2), .n (pr.ln y2 3), .d (pr.ld y2 4), .d (pr.ld y2 5), .d (pr.ld y2 6)])))) [fun y7 => (pr.bin .mul false (pr.lit (.int Go.IntKind.i64 (2))) (pr.ld y7 0) fun x8 =>
        (pr.bin .add false (pr.lit (.int Go.IntKind.i64 (3))) x8 fun x9 =>
         (pr.bnd (pr.call 26 [(pr.ld y7 2), (pr.lit (.int Go.IntKind.i64 (4)))]) [fun y10 => (pr.bin .add false (pr.lit (.int Go.IntKind.i64 (1))) (pr.ld y10 0) fun x11 =>
           (pr.bnd (pr.call 26 [(pr.ld y7 3), (pr.lit (.int Go.IntKind.i64 (0)))]) [fun y12 => (pr.bin .sub false (pr.lit (.int Go.IntKind.i64 (0))) (pr.ld y12 0) fun x13 =>
             (pr.bnd (pr.call 26 [(pr.ld y7 4), x13]) [fun y14 => (pr.bin .add false (pr.ld y12 0) (pr.ld y14 0) fun x15 =>
               (pr.eqN (pr.natN 1) (pr.len (pr.rows [[x9, x11, (pr.ld y12 0), x15]])) (pr.isNil (pr.seg (pr.rows [[x9, x11, (pr.ld y12 0), x15]]) none (pr.natN 1))
                (pr.bin .add false (pr.ld y7 0) (pr.lit (.int Go.IntKind.i64 (1))) fun x16 =>
                (J2 0 [.d x16, .r (pr.lr y7 1), .n (pr.ln y7 5), .n (pr.ln y7 6), .d (pr.ld y7 7), .d (pr.ld y7 8), .d (pr.ld y7 9)]))
                (pr.fits 32 (pr.len (pr.seg (pr.rows [[x9, x11, (pr.ld y12 0), x15]]) none (pr.natN 1)))
                (pr.bin .add false (pr.ld y7 0) (pr.lit (.int Go.IntKind.i64 (1))) fun x16 =>
                (J2 1 [.n (pr.len (pr.seg (pr.rows [[x9, x11, (pr.ld y12 0), x15]]) none (pr.natN 1))), .n (pr.len (pr.seg (pr.rows [[x9, x11, (pr.ld y12 0), x15]]) none (pr.natN 1))), .d x16, .r (pr.lr y7 1), .r (pr.seg (pr.rows [[x9, x11, (pr.ld y12 0), x15]]) none (pr.natN 1)), .n (pr.ln y7 5), .n (pr.ln y7 6), .d (pr.ld y7 7), .d (pr.ld y7 8), .d (pr.ld y7 9)]))))))]))]))])))])
       (pr.out 0 [.r (pr.lr y2 1), .n (pr.ln y2 2), .n (pr.ln y2 3)])))))
     (pr.bin .eql false (pr.ld y2 0) (pr.lit (.int Go.IntKind.i64 (0))) fun x5 =>
     (pr.cond x5
      (pr.bnd (pr.lenD (pr.ld y2 6) fun x6 =>
      (pr.bin .lss false (pr.ld y2 0) x6 fun x7 =>
       (pr.cond x7
        (pr.rowD 3 (pr.ld y2 6) (pr.ld y2 0) fun w8 =>
        (pr.out 0 [.d (pr.ld y2 0), .r (pr.lr y2 1), .d (pr.cell w8 0), .d (pr.cell w8 1), .d (pr.cell w8 2), .n (pr.ln y2 2), .n (pr.ln y2 3), .d (pr.ld y2 4), .d (pr.ld y2 5), .d (pr.ld y2 6)]))
        (pr.out 0 [.d (pr.ld y2 0), .r (pr.lr y2 1), .d (pr.lit (.int Go.IntKind.i64 (0))), .d (pr.lit (.int Go.IntKind.i64 (0))), .d (pr.lit (.int Go.IntKind.i64 (0))), .n (pr.ln y2 2), .n (pr.ln y2 3), .d (pr.ld y2 4), .d (pr.ld y2 5), .d (pr.ld y2 6)])))) [fun y6 => (pr.bin .mul false (pr.lit (.int Go.IntKind.i64 (2))) (pr.ld y6 0) fun x7 =>
       (pr.bin .add false (pr.lit (.int Go.IntKind.i64 (3))) x7 fun x8 =>
        (pr.bnd (pr.call 26 [(pr.ld y6 2), (pr.lit (.int Go.IntKind.i64 (4)))]) [fun y9 => (pr.bin .add false (pr.lit (.int Go.IntKind.i64 (1))) (pr.ld y9 0) fun x10 =>
          (pr.bnd (pr.call 26 [(pr.ld y6 3), (pr.lit (.int Go.IntKind.i64 (0)))]) [fun y11 => (pr.bin .sub false (pr.lit (.int Go.IntKind.i64 (0))) (pr.ld y11 0) fun x12 =>
            (pr.bnd (pr.call 26 [(pr.ld y6 4), x12]) [fun y13 => (pr.bin .add false (pr.ld y11 0) (pr.ld y13 0) fun x14 =>
              (pr.eqN (pr.natN 1) (pr.len (pr.rows [[x8, x10, (pr.ld y11 0), x14]])) (pr.isNil (pr.seg (pr.rows [[x8, x10, (pr.ld y11 0), x14]]) none (pr.natN 1))
               (pr.bin .add false (pr.ld y6 0) (pr.lit (.int Go.IntKind.i64 (1))) fun x15 =>
               (J2 0 [.d x15, .r (pr.lr y6 1), .n (pr.ln y6 5), .n (pr.ln y6 6), .d (pr.ld y6 7), .d (pr.ld y6 8), .d (pr.ld y6 9)]))
               (pr.fits 32 (pr.len (pr.seg (pr.rows [[x8, x10, (pr.ld y11 0), x14]]) none (pr.natN 1)))
               (pr.bin .add false (pr.ld y6 0) (pr.lit (.int Go.IntKind.i64 (1))) fun x15 =>
               (J2 1 [.n (pr.len (pr.seg (pr.rows [[x8, x10, (pr.ld y11 0), x14]]) none (pr.natN 1))), .n (pr.len (pr.seg (pr.rows [[x8, x10, (pr.ld y11 0), x14]]) none (pr.natN 1))), .d x15, .r (pr.lr y6 1), .r (pr.seg (pr.rows [[x8, x10, (pr.ld y11 0), x14]]) none (pr.natN 1)), .n (pr.ln y6 5), .n (pr.ln y6 6), .d (pr.ld y6 7), .d (pr.ld y6 8), .d (pr.ld y6 9)]))))))]))]))])))])
      (pr.out 0 [.r (pr.lr y2 1), .n (pr.ln y2 2), .n (pr.ln y2 3)]))))))
def L25_11  : (Nat → List (Y Δ N R M) → Ω) → E → Ω := fun J2 y2 =>
 (pr.lenD (pr.ld y2 9) fun x3 =>
   (pr.bin .lss false (pr.ld y2 2) x3 fun x4 =>
    (pr.cond x4
     (pr.bin .lss false (pr.ld y2 2) (pr.lit (.int Go.IntKind.i64 (6))) fun x5 =>
     (pr.cond x5
      (pr.bnd (pr.lenD (pr.ld y2 9) fun x6 =>
      (pr.bin .lss false (pr.ld y2 2) x6 fun x7 =>
       (pr.cond x7
        (pr.rowD 3 (pr.ld y2 9) (pr.ld y2 2) fun w8 =>
        (pr.out 0 [.n (pr.ln y2 0), .n (pr.ln y2 1), .d (pr.ld y2 2), .r (pr.lr y2 3), .d (pr.cell w8 0), .d (pr.cell w8 1), .d (pr.cell w8 2), .r (pr.lr y2 4), .n (pr.ln y2 5), .n (pr.ln y2 6), .d (pr.ld y2 7), .d (pr.ld y2 8), .d (pr.ld y2 9)]))
        (pr.out 0 [.n (pr.ln y2 0), .n (pr.ln y2 1), .d (pr.ld y2 2), .r (pr.lr y2 3), .d (pr.lit (.int Go.IntKind.i64 (0))), .d (pr.lit (.int Go.IntKind.i64 (0))), .d (pr.lit (.int Go.IntKind.i64 (0))), .r (pr.lr y2 4), .n (pr.ln y2 5), .n (pr.ln y2 6), .d (pr.ld y2 7), .d (pr.ld y2 8), .d (pr.ld y2 9)])))) [fun y6 => (pr.bin .mul false (pr.lit (.int Go.IntKind.i64 (2))) (pr.ld y6 2) fun x7 =>
       (pr.bin .add false (pr.lit (.int Go.IntKind.i64 (3))) x7 fun x8 =>
        (pr.bnd (pr.call 26 [(pr.ld y6 4), (pr.lit (.int Go.IntKind.i64 (4)))]) [fun y9 => (pr.bin .add false (pr.lit (.int Go.IntKind.i64 (1))) (pr.ld y9 0) fun x10 =>
          (pr.bnd (pr.call 26 [(pr.ld y6 5), (pr.lit (.int Go.IntKind.i64 (0)))]) [fun y11 => (pr.bin .sub false (pr.lit (.int Go.IntKind.i64 (0))) (pr.ld y11 0) fun x12 =>
            (pr.bnd (pr.call 26 [(pr.ld y6 6), x12]) [fun y13 => (pr.bin .add false (pr.ld y11 0) (pr.ld y13 0) fun x14 =>
              (pr.eqN (pr.natN 1) (pr.len (pr.rows [[x8, x10, (pr.ld y11 0), x14]])) (pr.eqN (pr.ln y6 1) (pr.len (pr.lr y6 7)) (pr.eqN (pr.ln y6 0) (pr.len (pr.lr y6 7)) (pr.fits 32 (pr.addN (pr.ln y6 0) (pr.len (pr.seg (pr.rows [[x8, x10, (pr.ld y11 0), x14]]) none (pr.natN 1))))
               (pr.bin .add false (pr.ld y6 2) (pr.lit (.int Go.IntKind.i64 (1))) fun x15 =>
               (J2 1 [.n (pr.addN (pr.ln y6 0) (pr.len (pr.seg (pr.rows [[x8, x10, (pr.ld y11 0), x14]]) none (pr.natN 1)))), .n (pr.addN (pr.ln y6 0) (pr.len (pr.seg (pr.rows [[x8, x10, (pr.ld y11 0), x14]]) none (pr.natN 1)))), .d x15, .r (pr.lr y6 3), .r (pr.app (pr.lr y6 7) (pr.seg (pr.rows [[x8, x10, (pr.ld y11 0), x14]]) none (pr.natN 1))), .n (pr.ln y6 8), .n (pr.ln y6 9), .d (pr.ld y6 10), .d (pr.ld y6 11), .d (pr.ld y6 12)])))))))]))]))])))])
      (pr.bin .eql false (pr.ld y2 2) (pr.lit (.int Go.IntKind.i64 (0))) fun x6 =>
      (pr.cond x6
       (pr.bnd (pr.lenD (pr.ld y2 9) fun x7 =>
       (pr.bin .lss false (pr.ld y2 2) x7 fun x8 =>
        (pr.cond x8
         (pr.rowD 3 (pr.ld y2 9) (pr.ld y2 2) fun w9 =>
         (pr.out 0 [.n (pr.ln y2 0), .n (pr.ln y2 1), .d (pr.ld y2 2), .r (pr.lr y2 3), .d (pr.cell w9 0), .d (pr.cell w9 1), .d (pr.cell w9 2), .r (pr.lr y2 4), .n (pr.ln y2 5), .n (pr.ln y2 6), .d (pr.ld y2 7), .d (pr.ld y2 8), .d (pr.ld y2 9)]))
         (pr.out 0 [.n (pr.ln y2 0), .n (pr.ln y2 1), .d (pr.ld y2 2), .r (pr.lr y2 3), .d (pr.lit (.int Go.IntKind.i64 (0))), .d (pr.lit (.int Go.IntKind.i64 (0))), .d (pr.lit (.int Go.IntKind.i64 (0))), .r (pr.lr y2 4), .n (pr.ln y2 5), .n (pr.ln y2 6), .d (pr.ld y2 7), .d (pr.ld y2 8), .d (pr.ld y2 9)])))) [fun y7 => (pr.bin .mul false (pr.lit (.int Go.IntKind.i64 (2))) (pr.ld y7 2) fun x8 =>
        (pr.bin .add false (pr.lit (.int Go.IntKind.i64 (3))) x8 fun x9 =>
         (pr.bnd (pr.call 26 [(pr.ld y7 4), (pr.lit (.int Go.IntKind.i64 (4)))]) [fun y10 => (pr.bin .add false (pr.lit (.int Go.IntKind.i64 (1))) (pr.ld y10 0) fun x11 =>
           (pr.bnd (pr.call 26 [(pr.ld y7 5), (pr.lit (.int Go.IntKind.i64 (0)))]) [fun y12 => (pr.bin .sub false (pr.lit (.int Go.IntKind.i64 (0))) (pr.ld y12 0) fun x13 =>
             (pr.bnd (pr.call 26 [(pr.ld y7 6), x13]) [fun y14 => (pr.bin .add false (pr.ld y12 0) (pr.ld y14 0) fun x15 =>
               (pr.eqN (pr.natN 1) (pr.len (pr.rows [[x9, x11, (pr.ld y12 0), x15]])) (pr.eqN (pr.ln y7 1) (pr.len (pr.lr y7 7)) (pr.eqN (pr.ln y7 0) (pr.len (pr.lr y7 7)) (pr.fits 32 (pr.addN (pr.ln y7 0) (pr.len (pr.seg (pr.rows [[x9, x11, (pr.ld y12 0), x15]]) none (pr.natN 1))))
                (pr.bin .add false (pr.ld y7 2) (pr.lit (.int Go.IntKind.i64 (1))) fun x16 =>
                (J2 1 [.n (pr.addN (pr.ln y7 0) (pr.len (pr.seg (pr.rows [[x9, x11, (pr.ld y12 0), x15]]) none (pr.natN 1)))), .n (pr.addN (pr.ln y7 0) (pr.len (pr.seg (pr.rows [[x9, x11, (pr.ld y12 0), x15]]) none (pr.natN 1)))), .d x16, .r (pr.lr y7 3), .r (pr.app (pr.lr y7 7) (pr.seg (pr.rows [[x9, x11, (pr.ld y12 0), x15]]) none (pr.natN 1))), .n (pr.ln y7 8), .n (pr.ln y7 9), .d (pr.ld y7 10), .d (pr.ld y7 11), .d (pr.ld y7 12)])))))))]))]))])))])
       (pr.out 1 [.n (pr.ln y2 0), .n (pr.ln y2 1), .r (pr.lr y2 3), .r (pr.lr y2 4), .n (pr.ln y2 5), .n (pr.ln y2 6)])))))
     (pr.bin .eql false (pr.ld y2 2) (pr.lit (.int Go.IntKind.i64 (0))) fun x5 =>
     (pr.cond x5
      (pr.bnd (pr.lenD (pr.ld y2 9) fun x6 =>
      (pr.bin .lss false (pr.ld y2 2) x6 fun x7 =>
       (pr.cond x7
        (pr.rowD 3 (pr.ld y2 9) (pr.ld y2 2) fun w8 =>
        (pr.out 0 [.n (pr.ln y2 0), .n (pr.ln y2 1), .d (pr.ld y2 2), .r (pr.lr y2 3), .d (pr.cell w8 0), .d (pr.cell w8 1), .d (pr.cell w8 2), .r (pr.lr y2 4), .n (pr.ln y2 5), .n (pr.ln y2 6), .d (pr.ld y2 7), .d (pr.ld y2 8), .d (pr.ld y2 9)]))
        (pr.out 0 [.n (pr.ln y2 0), .n (pr.ln y2 1), .d (pr.ld y2 2), .r (pr.lr y2 3), .d (pr.lit (.int Go.IntKind.i64 (0))), .d (pr.lit (.int Go.IntKind.i64 (0))), .d (pr.lit (.int Go.IntKind.i64 (0))), .r (pr.lr y2 4), .n (pr.ln y2 5), .n (pr.ln y2 6), .d (pr.ld y2 7), .d (pr.ld y2 8), .d (pr.ld y2 9)])))) [fun y6 => (pr.bin .mul false (pr.lit (.int Go.IntKind.i64 (2))) (pr.ld y6 2) fun x7 =>
       (pr.bin .add false (pr.lit (.int Go.IntKind.i64 (3))) x7 fun x8 =>
        (pr.bnd (pr.call 26 [(pr.ld y6 4), (pr.lit (.int Go.IntKind.i64 (4)))]) [fun y9 => (pr.bin .add false (pr.lit (.int Go.IntKind.i64 (1))) (pr.ld y9 0) fun x10 =>
          (pr.bnd (pr.call 26 [(pr.ld y6 5), (pr.lit (.int Go.IntKind.i64 (0)))]) [fun y11 => (pr.bin .sub false (pr.lit (.int Go.IntKind.i64 (0))) (pr.ld y11 0) fun x12 =>
            (pr.bnd (pr.call 26 [(pr.ld y6 6), x12]) [fun y13 => (pr.bin .add false (pr.ld y11 0) (pr.ld y13 0) fun x14 =>
              (pr.eqN (pr.natN 1) (pr.len (pr.rows [[x8, x10, (pr.ld y11 0), x14]])) (pr.eqN (pr.ln y6 1) (pr.len (pr.lr y6 7)) (pr.eqN (pr.ln y6 0) (pr.len (pr.lr y6 7)) (pr.fits 32 (pr.addN (pr.ln y6 0) (pr.len (pr.seg (pr.rows [[x8, x10, (pr.ld y11 0), x14]]) none (pr.natN 1))))
               (pr.bin .add false (pr.ld y6 2) (pr.lit (.int Go.IntKind.i64 (1))) fun x15 =>
               (J2 1 [.n (pr.addN (pr.ln y6 0) (pr.len (pr.seg (pr.rows [[x8, x10, (pr.ld y11 0), x14]]) none (pr.natN 1)))), .n (pr.addN (pr.ln y6 0) (pr.len (pr.seg (pr.rows [[x8, x10, (pr.ld y11 0), x14]]) none (pr.natN 1)))), .d x15, .r (pr.lr y6 3), .r (pr.app (pr.lr y6 7) (pr.seg (pr.rows [[x8, x10, (pr.ld y11 0), x14]]) none (pr.natN 1))), .n (pr.ln y6 8), .n (pr.ln y6 9), .d (pr.ld y6 10), .d (pr.ld y6 11), .d (pr.ld y6 12)])))))))]))]))])))])
      (pr.out 1 [.n (pr.ln y2 0), .n (pr.ln y2 1), .r (pr.lr y2 3), .r (pr.lr y2 4), .n (pr.ln y2 5), .n (pr.ln y2 6)]))))))
def L25_12  : (Nat → List (Y Δ N R M) → Ω) → E → Ω := fun J2 y2 =>
 (pr.lenD (pr.ld y2 9) fun x3 =>
   (pr.bin .lss false (pr.ld y2 0) x3 fun x4 =>
    (pr.cond x4
     (pr.bin .lss false (pr.ld y2 0) (pr.lit (.int Go.IntKind.i64 (6))) fun x5 =>
     (pr.cond x5
      (pr.bnd (pr.lenD (pr.ld y2 9) fun x6 =>
      (pr.bin .lss false (pr.ld y2 0) x6 fun x7 =>
       (pr.cond x7
        (pr.rowD 3 (pr.ld y2 9) (pr.ld y2 0) fun w8 =>
        (pr.out 0 [.d (pr.ld y2 0), .r (pr.lr y2 1), .r (pr.lr y2 2), .d (pr.cell w8 0), .d (pr.cell w8 1), .d (pr.cell w8 2), .n (pr.ln y2 3), .n (pr.ln y2 4), .n (pr.ln y2 5), .n (pr.ln y2 6), .d (pr.ld y2 7), .d (pr.ld y2 8), .d (pr.ld y2 9)]))
        (pr.out 0 [.d (pr.ld y2 0), .r (pr.lr y2 1), .r (pr.lr y2 2), .d (pr.lit (.int Go.IntKind.i64 (0))), .d (pr.lit (.int Go.IntKind.i64 (0))), .d (pr.lit (.int Go.IntKind.i64 (0))), .n (pr.ln y2 3), .n (pr.ln y2 4), .n (pr.ln y2 5), .n (pr.ln y2 6), .d (pr.ld y2 7), .d (pr.ld y2 8), .d (pr.ld y2 9)])))) [fun y6 => (pr.bin .mul false (pr.lit (.int Go.IntKind.i64 (2))) (pr.ld y6 0) fun x7 =>
       (pr.bin .add false (pr.lit (.int Go.IntKind.i64 (3))) x7 fun x8 =>
        (pr.bnd (pr.call 26 [(pr.ld y6 3), (pr.lit (.int Go.IntKind.i64 (4)))]) [fun y9 => (pr.bin .add false (pr.lit (.int Go.IntKind.i64 (1))) (pr.ld y9 0) fun x10 =>
          (pr.bnd (pr.call 26 [(pr.ld y6 4), (pr.natD (pr.ln y6 8))]) [fun y11 => (pr.bin .sub false (pr.natD (pr.ln y6 8)) (pr.ld y11 0) fun x12 =>
            (pr.bnd (pr.call 26 [(pr.ld y6 5), x12]) [fun y13 => (pr.bin .add false (pr.ld y11 0) (pr.ld y13 0) fun x14 =>
              (pr.eqN (pr.natN 1) (pr.len (pr.rows [[x8, x10, (pr.ld y11 0), x14]])) (pr.isNil (pr.seg (pr.rows [[x8, x10, (pr.ld y11 0), x14]]) none (pr.natN 1))
               (pr.bin .add false (pr.ld y6 0) (pr.lit (.int Go.IntKind.i64 (1))) fun x15 =>
               (J2 0 [.d x15, .r (pr.lr y6 1), .r (pr.lr y6 2), .n (pr.ln y6 6), .n (pr.ln y6 7), .n (pr.ln y6 8), .n (pr.ln y6 9), .d (pr.ld y6 10), .d (pr.ld y6 11), .d (pr.ld y6 12)]))
               (pr.fits 32 (pr.len (pr.seg (pr.rows [[x8, x10, (pr.ld y11 0), x14]]) none (pr.natN 1)))
               (pr.bin .add false (pr.ld y6 0) (pr.lit (.int Go.IntKind.i64 (1))) fun x15 =>
               (J2 1 [.n (pr.len (pr.seg (pr.rows [[x8, x10, (pr.ld y11 0), x14]]) none (pr.natN 1))), .n (pr.len (pr.seg (pr.rows [[x8, x10, (pr.ld y11 0), x14]]) none (pr.natN 1))), .d x15, .r (pr.lr y6 1), .r (pr.lr y6 2), .r (pr.seg (pr.rows [[x8, x10, (pr.ld y11 0), x14]]) none (pr.natN 1)), .n (pr.ln y6 6), .n (pr.ln y6 7), .n (pr.ln y6 8), .n (pr.ln y6 9), .d (pr.ld y6 10), .d (pr.ld y6 11), .d (pr.ld y6 12)]))))))]))]))])))])
      (pr.bin .eql false (pr.ld y2 0) (pr.lit (.int Go.IntKind.i64 (0))) fun x6 =>
      (pr.cond x6
       (pr.bnd (pr.lenD (pr.ld y2 9) fun x7 =>
       (pr.bin .lss false (pr.ld y2 0) x7 fun x8 =>
        (pr.cond x8
         (pr.rowD 3 (pr.ld y2 9) (pr.ld y2 0) fun w9 =>
         (pr.out 0 [.d (pr.ld y2 0), .r (pr.lr y2 1), .r (pr.lr y2 2), .d (pr.cell w9 0), .d (pr.cell w9 1), .d (pr.cell w9 2), .n (pr.ln y2 3), .n (pr.ln y2 4), .n (pr.ln y2 5), .n (pr.ln y2 6), .d (pr.ld y2 7), .d (pr.ld y2 8), .d (pr.ld y2 9)]))
         (pr.out 0 [.d (pr.ld y2 0), .r (pr.lr y2 1), .r (pr.lr y2 2), .d (pr.lit (.int Go.IntKind.i64 (0))), .d (pr.lit (.int Go.IntKind.i64 (0))), .d (pr.lit (.int Go.IntKind.i64 (0))), .n (pr.ln y2 3), .n (pr.ln y2 4), .n (pr.ln y2 5), .n (pr.ln y2 6), .d (pr.ld y2 7), .d (pr.ld y2 8), .d (pr.ld y2 9)])))) [fun y7 => (pr.bin .mul false (pr.lit (.int Go.IntKind.i64 (2))) (pr.ld y7 0) fun x8 =>
        (pr.bin .add false (pr.lit (.int Go.IntKind.i64 (3))) x8 fun x9 =>
         (pr.bnd (pr.call 26 [(pr.ld y7 3), (pr.lit (.int Go.IntKind.i64 (4)))]) [fun y10 => (pr.bin .add false (pr.lit (.int Go.IntKind.i64 (1))) (pr.ld y10 0) fun x11 =>
           (pr.bnd (pr.call 26 [(pr.ld y7 4), (pr.natD (pr.ln y7 8))]) [fun y12 => (pr.bin .sub false (pr.natD (pr.ln y7 8)) (pr.ld y12 0) fun x13 =>
             (pr.bnd (pr.call 26 [(pr.ld y7 5), x13]) [fun y14 => (pr.bin .add false (pr.ld y12 0) (pr.ld y14 0) fun x15 =>
               (pr.eqN (pr.natN 1) (pr.len (pr.rows [[x9, x11, (pr.ld y12 0), x15]])) (pr.isNil (pr.seg (pr.rows [[x9, x11, (pr.ld y12 0), x15]]) none (pr.natN 1))
                (pr.bin .add false (pr.ld y7 0) (pr.lit (.int Go.IntKind.i64 (1))) fun x16 =>
                (J2 0 [.d x16, .r (pr.lr y7 1), .r (pr.lr y7 2), .n (pr.ln y7 6), .n (pr.ln y7 7), .n (pr.ln y7 8), .n (pr.ln y7 9), .d (pr.ld y7 10), .d (pr.ld y7 11), .d (pr.ld y7 12)]))
                (pr.fits 32 (pr.len (pr.seg (pr.rows [[x9, x11, (pr.ld y12 0), x15]]) none (pr.natN 1)))
                (pr.bin .add false (pr.ld y7 0) (pr.lit (.int Go.IntKind.i64 (1))) fun x16 =>
                (J2 1 [.n (pr.len (pr.seg (pr.rows [[x9, x11, (pr.ld y12 0), x15]]) none (pr.natN 1))), .n (pr.len (pr.seg (pr.rows [[x9, x11, (pr.ld y12 0), x15]]) none (pr.natN 1))), .d x16, .r (pr.lr y7 1), .r (pr.lr y7 2), .r (pr.seg (pr.rows [[x9, x11, (pr.ld y12 0), x15]]) none (pr.natN 1)), .n (pr.ln y7 6), .n (pr.ln y7 7), .n (pr.ln y7 8), .n (pr.ln y7 9), .d (pr.ld y7 10), .d (pr.ld y7 11), .d (pr.ld y7 12)]))))))]))]))])))])
       (pr.out 0 [.r (pr.lr y2 1), .r (pr.lr y2 2), .n (pr.ln y2 3), .n (pr.ln y2 4), .n (pr.ln y2 5), .n (pr.ln y2 6)])))))
     (pr.bin .eql false (pr.ld y2 0) (pr.lit (.int Go.IntKind.i64 (0))) fun x5 =>
     (pr.cond x5
      (pr.bnd (pr.lenD (pr.ld y2 9) fun x6 =>
      (pr.bin .lss false (pr.ld y2 0) x6 fun x7 =>
       (pr.cond x7
        (pr.rowD 3 (pr.ld y2 9) (pr.ld y2 0) fun w8 =>
        (pr.out 0 [.d (pr.ld y2 0), .r (pr.lr y2 1), .r (pr.lr y2 2), .d (pr.cell w8 0), .d (pr.cell w8 1), .d (pr.cell w8 2), .n (pr.ln y2 3), .n (pr.ln y2 4), .n (pr.ln y2 5), .n (pr.ln y2 6), .d (pr.ld y2 7), .d (pr.ld y2 8), .d (pr.ld y2 9)]))
        (pr.out 0 [.d (pr.ld y2 0), .r (pr.lr y2 1), .r (pr.lr y2 2), .d (pr.lit (.int Go.IntKind.i64 (0))), .d (pr.lit (.int Go.IntKind.i64 (0))), .d (pr.lit (.int Go.IntKind.i64 (0))), .n (pr.ln y2 3), .n (pr.ln y2 4), .n (pr.ln y2 5), .n (pr.ln y2 6), .d (pr.ld y2 7), .d (pr.ld y2 8), .d (pr.ld y2 9)])))) [fun y6 => (pr.bin .mul false (pr.lit (.int Go.IntKind.i64 (2))) (pr.ld y6 0) fun x7 =>
       (pr.bin .add false (pr.lit (.int Go.IntKind.i64 (3))) x7 fun x8 =>
        (pr.bnd (pr.call 26 [(pr.ld y6 3), (pr.lit (.int Go.IntKind.i64 (4)))]) [fun y9 => (pr.bin .add false (pr.lit (.int Go.IntKind.i64 (1))) (pr.ld y9 0) fun x10 =>
          (pr.bnd (pr.call 26 [(pr.ld y6 4), (pr.natD (pr.ln y6 8))]) [fun y11 => (pr.bin .sub false (pr.natD (pr.ln y6 8)) (pr.ld y11 0) fun x12 =>
            (pr.bnd (pr.call 26 [(pr.ld y6 5), x12]) [fun y13 => (pr.bin .add false (pr.ld y11 0) (pr.ld y13 0) fun x14 =>
              (pr.eqN (pr.natN 1) (pr.len (pr.rows [[x8, x10, (pr.ld y11 0), x14]])) (pr.isNil (pr.seg (pr.rows [[x8, x10, (pr.ld y11 0), x14]]) none (pr.natN 1))
               (pr.bin .add false (pr.ld y6 0) (pr.lit (.int Go.IntKind.i64 (1))) fun x15 =>
               (J2 0 [.d x15, .r (pr.lr y6 1), .r (pr.lr y6 2), .n (pr.ln y6 6), .n (pr.ln y6 7), .n (pr.ln y6 8), .n (pr.ln y6 9), .d (pr.ld y6 10), .d (pr.ld y6 11), .d (pr.ld y6 12)]))
               (pr.fits 32 (pr.len (pr.seg (pr.rows [[x8, x10, (pr.ld y11 0), x14]]) none (pr.natN 1)))
               (pr.bin .add false (pr.ld y6 0) (pr.lit (.int Go.IntKind.i64 (1))) fun x15 =>
               (J2 1 [.n (pr.len (pr.seg (pr.rows [[x8, x10, (pr.ld y11 0), x14]]) none (pr.natN 1))), .n (pr.len (pr.seg (pr.rows [[x8, x10, (pr.ld y11 0), x14]]) none (pr.natN 1))), .d x15, .r (pr.lr y6 1), .r (pr.lr y6 2), .r (pr.seg (pr.rows [[x8, x10, (pr.ld y11 0), x14]]) none (pr.natN 1)), .n (pr.ln y6 6), .n (pr.ln y6 7), .n (pr.ln y6 8), .n (pr.ln y6 9), .d (pr.ld y6 10), .d (pr.ld y6 11), .d (pr.ld y6 12)]))))))]))]))])))])
      (pr.out 0 [.r (pr.lr y2 1), .r (pr.lr y2 2), .n (pr.ln y2 3), .n (pr.ln y2 4), .n (pr.ln y2 5), .n (pr.ln y2 6)]))))))
def L25_13  : (Nat → List (Y Δ N R M) → Ω) → E → Ω := fun J2 y2 =>
 (pr.lenD (pr.ld y2 12) fun x3 =>
   (pr.bin .lss false (pr.ld y2 2) x3 fun x4 =>
    (pr.cond x4
     (pr.bin .lss false (pr.ld y2 2) (pr.lit (.int Go.IntKind.i64 (6))) fun x5 =>
     (pr.cond x5
      (pr.bnd (pr.lenD (pr.ld y2 12) fun x6 =>
      (pr.bin .lss false (pr.ld y2 2) x6 fun x7 =>
       (pr.cond x7
        (pr.rowD 3 (pr.ld y2 12) (pr.ld y2 2) fun w8 =>
        (pr.out 0 [.n (pr.ln y2 0), .n (pr.ln y2 1), .d (pr.ld y2 2), .r (pr.lr y2 3), .r (pr.lr y2 4), .d (pr.cell w8 0), .d (pr.cell w8 1), .d (pr.cell w8 2), .r (pr.lr y2 5), .n (pr.ln y2 6), .n (pr.ln y2 7), .n (pr.ln y2 8), .n (pr.ln y2 9), .d (pr.ld y2 10), .d (pr.ld y2 11), .d (pr.ld y2 12)]))
        (pr.out 0 [.n (pr.ln y2 0), .n (pr.ln y2 1), .d (pr.ld y2 2), .r (pr.lr y2 3), .r (pr.lr y2 4), .d (pr.lit (.int Go.IntKind.i64 (0))), .d (pr.lit (.int Go.IntKind.i64 (0))), .d (pr.lit (.int Go.IntKind.i64 (0))), .r (pr.lr y2 5), .n (pr.ln y2 6), .n (pr.ln y2 7), .n (pr.ln y2 8), .n (pr.ln y2 9), .d (pr.ld y2 10), .d (pr.ld y2 11), .d (pr.ld y2 12)])))) [fun y6 => (pr.bin .mul false (pr.lit (.int Go.IntKind.i64 (2))) (pr.ld y6 2) fun x7 =>
       (pr.bin .add false (pr.lit (.int Go.IntKind.i64 (3))) x7 fun x8 =>
        (pr.bnd (pr.call 26 [(pr.ld y6 5), (pr.lit (.int Go.IntKind.i64 (4)))]) [fun y9 => (pr.bin .add false (pr.lit (.int Go.IntKind.i64 (1))) (pr.ld y9 0) fun x10 =>
          (pr.bnd (pr.call 26 [(pr.ld y6 6), (pr.natD (pr.ln y6 11))]) [fun y11 => (pr.bin .sub false (pr.natD (pr.ln y6 11)) (pr.ld y11 0) fun x12 =>
            (pr.bnd (pr.call 26 [(pr.ld y6 7), x12]) [fun y13 => (pr.bin .add false (pr.ld y11 0) (pr.ld y13 0) fun x14 =>
              (pr.eqN (pr.natN 1) (pr.len (pr.rows [[x8, x10, (pr.ld y11 0), x14]])) (pr.eqN (pr.ln y6 1) (pr.len (pr.lr y6 8)) (pr.eqN (pr.ln y6 0) (pr.len (pr.lr y6 8)) (pr.fits 32 (pr.addN (pr.ln y6 0) (pr.len (pr.seg (pr.rows [[x8, x10, (pr.ld y11 0), x14]]) none (pr.natN 1))))
               (pr.bin .add false (pr.ld y6 2) (pr.lit (.int Go.IntKind.i64 (1))) fun x15 =>
               (J2 1 [.n (pr.addN (pr.ln y6 0) (pr.len (pr.seg (pr.rows [[x8, x10, (pr.ld y11 0), x14]]) none (pr.natN 1)))), .n (pr.addN (pr.ln y6 0) (pr.len (pr.seg (pr.rows [[x8, x10, (pr.ld y11 0), x14]]) none (pr.natN 1)))), .d x15, .r (pr.lr y6 3), .r (pr.lr y6 4), .r (pr.app (pr.lr y6 8) (pr.seg (pr.rows [[x8, x10, (pr.ld y11 0), x14]]) none (pr.natN 1))), .n (pr.ln y6 9), .n (pr.ln y6 10), .n (pr.ln y6 11), .n (pr.ln y6 12), .d (pr.ld y6 13), .d (pr.ld y6 14), .d (pr.ld y6 15)])))))))]))]))])))])
      (pr.bin .eql false (pr.ld y2 2) (pr.lit (.int Go.IntKind.i64 (0))) fun x6 =>
      (pr.cond x6
       (pr.bnd (pr.lenD (pr.ld y2 12) fun x7 =>
       (pr.bin .lss false (pr.ld y2 2) x7 fun x8 =>
        (pr.cond x8
         (pr.rowD 3 (pr.ld y2 12) (pr.ld y2 2) fun w9 =>
         (pr.out 0 [.n (pr.ln y2 0), .n (pr.ln y2 1), .d (pr.ld y2 2), .r (pr.lr y2 3), .r (pr.lr y2 4), .d (pr.cell w9 0), .d (pr.cell w9 1), .d (pr.cell w9 2), .r (pr.lr y2 5), .n (pr.ln y2 6), .n (pr.ln y2 7), .n (pr.ln y2 8), .n (pr.ln y2 9), .d (pr.ld y2 10), .d (pr.ld y2 11), .d (pr.ld y2 12)]))
         (pr.out 0 [.n (pr.ln y2 0), .n (pr.ln y2 1), .d (pr.ld y2 2), .r (pr.lr y2 3), .r (pr.lr y2 4), .d (pr.lit (.int Go.IntKind.i64 (0))), .d (pr.lit (.int Go.IntKind.i64 (0))), .d (pr.lit (.int Go.IntKind.i64 (0))), .r (pr.lr y2 5), .n (pr.ln y2 6), .n (pr.ln y2 7), .n (pr.ln y2 8), .n (pr.ln y2 9), .d (pr.ld y2 10), .d (pr.ld y2 11), .d (pr.ld y2 12)])))) [fun y7 => (pr.bin .mul false (pr.lit (.int Go.IntKind.i64 (2))) (pr.ld y7 2) fun x8 =>
        (pr.bin .add false (pr.lit (.int Go.IntKind.i64 (3))) x8 fun x9 =>
         (pr.bnd (pr.call 26 [(pr.ld y7 5), (pr.lit (.int Go.IntKind.i64 (4)))]) [fun y10 => (pr.bin .add false (pr.lit (.int Go.IntKind.i64 (1))) (pr.ld y10 0) fun x11 =>
           (pr.bnd (pr.call 26 [(pr.ld y7 6), (pr.natD (pr.ln y7 11))]) [fun y12 => (pr.bin .sub false (pr.natD (pr.ln y7 11)) (pr.ld y12 0) fun x13 =>
             (pr.bnd (pr.call 26 [(pr.ld y7 7), x13]) [fun y14 => (pr.bin .add false (pr.ld y12 0) (pr.ld y14 0) fun x15 =>
               (pr.eqN (pr.natN 1) (pr.len (pr.rows [[x9, x11, (pr.ld y12 0), x15]])) (pr.eqN (pr.ln y7 1) (pr.len (pr.lr y7 8)) (pr.eqN (pr.ln y7 0) (pr.len (pr.lr y7 8)) (pr.fits 32 (pr.addN (pr.ln y7 0) (pr.len (pr.seg (pr.rows [[x9, x11, (pr.ld y12 0), x15]]) none (pr.natN 1))))
                (pr.bin .add false (pr.ld y7 2) (pr.lit (.int Go.IntKind.i64 (1))) fun x16 =>
                (J2 1 [.n (pr.addN (pr.ln y7 0) (pr.len (pr.seg (pr.rows [[x9, x11, (pr.ld y12 0), x15]]) none (pr.natN 1)))), .n (pr.addN (pr.ln y7 0) (pr.len (pr.seg (pr.rows [[x9, x11, (pr.ld y12 0), x15]]) none (pr.natN 1)))), .d x16, .r (pr.lr y7 3), .r (pr.lr y7 4), .r (pr.app (pr.lr y7 8) (pr.seg (pr.rows [[x9, x11, (pr.ld y12 0), x15]]) none (pr.natN 1))), .n (pr.ln y7 9), .n (pr.ln y7 10), .n (pr.ln y7 11), .n (pr.ln y7 12), .d (pr.ld y7 13), .d (pr.ld y7 14), .d (pr.ld y7 15)])))))))]))]))])))])
       (pr.out 1 [.n (pr.ln y2 0), .n (pr.ln y2 1), .r (pr.lr y2 3), .r (pr.lr y2 4), .r (pr.lr y2 5), .n (pr.ln y2 6), .n (pr.ln y2 7), .n (pr.ln y2 8), .n (pr.ln y2 9)])))))
     (pr.bin .eql false (pr.ld y2 2) (pr.lit (.int Go.IntKind.i64 (0))) fun x5 =>
     (pr.cond x5
      (pr.bnd (pr.lenD (pr.ld y2 12) fun x6 =>
      (pr.bin .lss false (pr.ld y2 2) x6 fun x7 =>
       (pr.cond x7
        (pr.rowD 3 (pr.ld y2 12) (pr.ld y2 2) fun w8 =>
        (pr.out 0 [.n (pr.ln y2 0), .n (pr.ln y2 1), .d (pr.ld y2 2), .r (pr.lr y2 3), .r (pr.lr y2 4), .d (pr.cell w8 0), .d (pr.cell w8 1), .d (pr.cell w8 2), .r (pr.lr y2 5), .n (pr.ln y2 6), .n (pr.ln y2 7), .n (pr.ln y2 8), .n (pr.ln y2 9), .d (pr.ld y2 10), .d (pr.ld y2 11), .d (pr.ld y2 12)]))
        (pr.out 0 [.n (pr.ln y2 0), .n (pr.ln y2 1), .d (pr.ld y2 2), .r (pr.lr y2 3), .r (pr.lr y2 4), .d (pr.lit (.int Go.IntKind.i64 (0))), .d (pr.lit (.int Go.IntKind.i64 (0))), .d (pr.lit (.int Go.IntKind.i64 (0))), .r (pr.lr y2 5), .n (pr.ln y2 6), .n (pr.ln y2 7), .n (pr.ln y2 8), .n (pr.ln y2 9), .d (pr.ld y2 10), .d (pr.ld y2 11), .d (pr.ld y2 12)])))) [fun y6 => (pr.bin .mul false (pr.lit (.int Go.IntKind.i64 (2))) (pr.ld y6 2) fun x7 =>
       (pr.bin .add false (pr.lit (.int Go.IntKind.i64 (3))) x7 fun x8 =>
        (pr.bnd (pr.call 26 [(pr.ld y6 5), (pr.lit (.int Go.IntKind.i64 (4)))]) [fun y9 => (pr.bin .add false (pr.lit (.int Go.IntKind.i64 (1))) (pr.ld y9 0) fun x10 =>
          (pr.bnd (pr.call 26 [(pr.ld y6 6), (pr.natD (pr.ln y6 11))]) [fun y11 => (pr.bin .sub false (pr.natD (pr.ln y6 11)) (pr.ld y11 0) fun x12 =>
            (pr.bnd (pr.call 26 [(pr.ld y6 7), x12]) [fun y13 => (pr.bin .add false (pr.ld y11 0) (pr.ld y13 0) fun x14 =>
              (pr.eqN (pr.natN 1) (pr.len (pr.rows [[x8, x10, (pr.ld y11 0), x14]])) (pr.eqN (pr.ln y6 1) (pr.len (pr.lr y6 8)) (pr.eqN (pr.ln y6 0) (pr.len (pr.lr y6 8)) (pr.fits 32 (pr.addN (pr.ln y6 0) (pr.len (pr.seg (pr.rows [[x8, x10, (pr.ld y11 0), x14]]) none (pr.natN 1))))
               (pr.bin .add false (pr.ld y6 2) (pr.lit (.int Go.IntKind.i64 (1))) fun x15 =>
               (J2 1 [.n (pr.addN (pr.ln y6 0) (pr.len (pr.seg (pr.rows [[x8, x10, (pr.ld y11 0), x14]]) none (pr.natN 1)))), .n (pr.addN (pr.ln y6 0) (pr.len (pr.seg (pr.rows [[x8, x10, (pr.ld y11 0), x14]]) none (pr.natN 1)))), .d x15, .r (pr.lr y6 3), .r (pr.lr y6 4), .r (pr.app (pr.lr y6 8) (pr.seg (pr.rows [[x8, x10, (pr.ld y11 0), x14]]) none (pr.natN 1))), .n (pr.ln y6 9), .n (pr.ln y6 10), .n (pr.ln y6 11), .n (pr.ln y6 12), .d (pr.ld y6 13), .d (pr.ld y6 14), .d (pr.ld y6 15)])))))))]))]))])))])
      (pr.out 1 [.n (pr.ln y2 0), .n (pr.ln y2 1), .r (pr.lr y2 3), .r (pr.lr y2 4), .r (pr.lr y2 5), .n (pr.ln y2 6), .n (pr.ln y2 7), .n (pr.ln y2 8), .n (pr.ln y2 9)]))))))
def G25 (a0 a1 a2 : Δ) : Ω :=
 (pr.bnd (pr.loop [(L25_0 pr), (L25_1 pr)] 0 [.d (pr.lit (.int Go.IntKind.i64 (0))), .d a0, .d a1, .d a2]) [fun y0 => (pr.bnd (pr.loop [(L25_2 pr), (L25_3 pr)] 0 [.d (pr.lit (.int Go.IntKind.i64 (0))), .d (pr.ld y0 0), .d (pr.ld y0 1), .d (pr.ld y0 2)]) [fun y1 => (pr.bnd (pr.loop [(L25_4 pr), (L25_5 pr)] 0 [.d (pr.lit (.int Go.IntKind.i64 (0))), .d (pr.ld y1 0), .d (pr.ld y1 1), .d (pr.ld y1 2)]) [fun y2 => (pr.out 0 [.d (pr.lit (.slice none 0 0)), .d (pr.lit (.slice none 0 0)), .d (pr.lit (.slice none 0 0))]), fun y2 => (pr.eqN (pr.ln y2 1) (pr.len (pr.lr y2 2)) (pr.out 0 [.d (pr.lit (.slice none 0 0)), .d (pr.lit (.slice none 0 0)), .d (pr.slD 4 (pr.seg (pr.lr y2 2) none (pr.ln y2 0)))]))]), fun y1 => (pr.bnd (pr.loop [(L25_6 pr), (L25_7 pr)] 0 [.d (pr.lit (.int Go.IntKind.i64 (0))), .r (pr.lr y1 0), .n (pr.ln y1 1), .n (pr.ln y1 2), .d (pr.ld y1 3), .d (pr.ld y1 4), .d (pr.ld y1 5)]) [fun y2 => (pr.eqN (pr.ln y2 2) (pr.len (pr.lr y2 0)) (pr.out 0 [.d (pr.lit (.slice none 0 0)), .d (pr.slD 3 (pr.seg (pr.lr y2 0) none (pr.ln y2 1))), .d (pr.lit (.slice none 0 0))])), fun y2 => (pr.eqN (pr.ln y2 5) (pr.len (pr.lr y2 2)) (pr.eqN (pr.ln y2 1) (pr.len (pr.lr y2 3)) (pr.out 0 [.d (pr.lit (.slice none 0 0)), .d (pr.slD 3 (pr.seg (pr.lr y2 2) none (pr.ln y2 4))), .d (pr.slD 4 (pr.seg (pr.lr y2 3) none (pr.ln y2 0)))])))])]), fun y0 => (pr.bnd (pr.loop [(L25_8 pr), (L25_9 pr)] 0 [.d (pr.lit (.int Go.IntKind.i64 (0))), .r (pr.lr y0 0), .n (pr.ln y0 1), .n (pr.ln y0 2), .d (pr.ld y0 3), .d (pr.ld y0 4), .d (pr.ld y0 5)]) [fun y1 => (pr.bnd (pr.loop [(L25_10 pr), (L25_11 pr)] 0 [.d (pr.lit (.int Go.IntKind.i64 (0))), .r (pr.lr y1 0), .n (pr.ln y1 1), .n (pr.ln y1 2), .d (pr.ld y1 3), .d (pr.ld y1 4), .d (pr.ld y1 5)]) [fun y2 => (pr.eqN (pr.ln y2 2) (pr.len (pr.lr y2 0)) (pr.out 0 [.d (pr.slD 3 (pr.seg (pr.lr y2 0) none (pr.ln y2 1))), .d (pr.lit (.slice none 0 0)), .d (pr.lit (.slice none 0 0))])), fun y2 => (pr.eqN (pr.ln y2 5) (pr.len (pr.lr y2 2)) (pr.eqN (pr.ln y2 1) (pr.len (pr.lr y2 3)) (pr.out 0 [.d (pr.slD 3 (pr.seg (pr.lr y2 2) none (pr.ln y2 4))), .d (pr.lit (.slice none 0 0)), .d (pr.slD 4 (pr.seg (pr.lr y2 3) none (pr.ln y2 0)))])))]), fun y1 => (pr.bnd (pr.loop [(L25_12 pr), (L25_13 pr)] 0 [.d (pr.lit (.int Go.IntKind.i64 (0))), .r (pr.lr y1 0), .r (pr.lr y1 1), .n (pr.ln y1 2), .n (pr.ln y1 3), .n (pr.ln y1 4), .n (pr.ln y1 5), .d (pr.ld y1 6), .d (pr.ld y1 7), .d (pr.ld y1 8)]) [fun y2 => (pr.eqN (pr.ln y2 3) (pr.len (pr.lr y2 1)) (pr.eqN (pr.ln y2 5) (pr.len (pr.lr y2 0)) (pr.out 0 [.d (pr.slD 3 (pr.seg (pr.lr y2 1) none (pr.ln y2 2))), .d (pr.slD 3 (pr.seg (pr.lr y2 0) none (pr.ln y2 4))), .d (pr.lit (.slice none 0 0))]))), fun y2 => (pr.eqN (pr.ln y2 6) (pr.len (pr.lr y2 3)) (pr.eqN (pr.ln y2 8) (pr.len (pr.lr y2 2)) (pr.eqN (pr.ln y2 1) (pr.len (pr.lr y2 4)) (pr.out 0 [.d (pr.slD 3 (pr.seg (pr.lr y2 3) none (pr.ln y2 5))), .d (pr.slD 3 (pr.seg (pr.lr y2 2) none (pr.ln y2 7))), .d (pr.slD 4 (pr.seg (pr.lr y2 4) none (pr.ln y2 0)))]))))])])])
end
theorem G25_eq {Δ N R W M E Ω : Type} (pr : Pr Δ N R W M E Ω) (a0 a1 a2 : Δ) : fun3 pr tb Try.prog 400 25 [a0, a1, a2] = G25 pr a0 a1 a2 := by kernel_rfl
theorem F25 (n : Nat) (a0 a1 a2 : D) : FN (n + 1) 25 [a0, a1, a2] = G25 (RP n) a0 a1 a2 := G25_eq _ a0 a1 a2
end Go.VE
/- What the functions of this program do, made by a program of ours out of the evaluator itself. -/
namespace Go.VE
open Go.RowKit Go.Proofs
set_option maxRecDepth 100000
set_option maxHeartbeats 4000000
section
variable {Δ N R W M E Ω : Type} (pr : Pr Δ N R W M E Ω)
/-! leazing/leazingref04.Mod -/
def G26 (a0 a1 : Δ) : Ω :=
 (pr.bin .rem false a0 a1 fun x0 =>
(pr.bin .add false x0 a1 fun x1 =>
 (pr.bin .rem false x1 a1 fun x2 =>
  (pr.out 0 [.d x2]))))
/-! leazing/drift.Compare -/
def G28 (a0 a1 a2 a3 : Δ) : Ω :=
 (pr.bnd (pr.call 69 [a0, a1]) [fun y0 => (pr.un .not (pr.ld y0 0) fun x1 => (pr.cond x1
  (pr.out 0 [.d (pr.lit (.int Go.IntKind.i64 (0))), .d (pr.lit (.int Go.IntKind.i64 (1)))])
  (pr.bnd (pr.call 69 [a2, a3]) [fun y2 => (pr.un .not (pr.ld y2 0) fun x3 => (pr.cond x3
    (pr.out 0 [.d (pr.lit (.int Go.IntKind.i64 (0))), .d (pr.lit (.int Go.IntKind.i64 (1)))])
    (pr.bnd (pr.call 70 [a0, a1, a2, a3]) [fun y4 => (pr.out 0 [.d (pr.ld y4 0), .d (pr.lit (.int Go.IntKind.i64 (0)))])])))])))])
/-! leazing/drift.Length -/
def G30 (a0 a1 a2 a3 : Δ) : Ω :=
 (pr.bnd (pr.call 15 [a0, a1]) [fun y0 => (pr.bin .neq false (pr.ld y0 0) (pr.lit (.int Go.IntKind.i64 (0))) fun x1 =>
 (pr.cond x1
  (pr.out 0 [.d (pr.lit (.int Go.IntKind.i64 (0))), .d (pr.lit (.int Go.IntKind.i64 (0))), .d (pr.ld y0 0)])
  (pr.eqN (pr.natN 1) (pr.len (pr.rows [[a2, a3]])) (pr.bnd (pr.call 71 [a0, a1, (pr.slD 2 (pr.seg (pr.rows [[a2, a3]]) none (pr.natN 1)))]) [fun y2 => (pr.lits [.d (pr.ld y2 0)]
   (pr.un .not (pr.ld y2 0) fun x3 => (pr.cond x3
    (pr.out 0 [.d (pr.lit (.int Go.IntKind.i64 (0))), .d (pr.lit (.int Go.IntKind.i64 (0))), .d (pr.lit (.int Go.IntKind.i64 (45)))])
    (pr.bnd (pr.call 73 [a0, a1, a2, a3]) [fun y4 => (pr.eqN (pr.len (pr.lr y4 0)) (pr.len (pr.lr y4 0)) (pr.bnd (pr.call 72 [a0, a1, (pr.slD 1 (pr.seg (pr.lr y4 0) none (pr.len (pr.lr y4 0))))]) [fun y5 => (pr.lits [.d (pr.ld y5 0), .d (pr.ld y5 1)]
      (pr.out 0 [.d (pr.ld y5 0), .d (pr.ld y5 1), .d (pr.lit (.int Go.IntKind.i64 (0)))]))]))]))))]))))])
/-! leazing/drift.Longer -/
def L31_0  : (Nat → List (Y Δ N R M) → Ω) → E → Ω := fun J6 y6 =>
 (pr.bin .lss false (pr.ld y6 5) (pr.ld y6 4) fun x7 =>
       (pr.cond x7
        (pr.eqN (pr.ln y6 1) (pr.len (pr.lr y6 7)) (pr.inx (pr.ld y6 5) (pr.ln y6 0) fun n8 => (pr.eqN (pr.ln y6 1) (pr.len (pr.lr y6 7)) (pr.rowAt 1 (pr.lr y6 7) n8 fun w9 => (pr.eqN (pr.ln y6 3) (pr.len (pr.lr y6 6)) (pr.inx (pr.ld y6 5) (pr.ln y6 2) fun n10 => (pr.eqN (pr.ln y6 3) (pr.len (pr.lr y6 6)) (pr.rowAt 1 (pr.lr y6 6) n10 fun w11 => (pr.bin .sub false (pr.cell w9 0) (pr.cell w11 0) fun x12 =>
            (pr.eqN (pr.ln y6 1) (pr.len (pr.lr y6 7)) (pr.inx (pr.ld y6 5) (pr.ln y6 0) fun n13 => (pr.eqN (pr.ln y6 1) (pr.len (pr.lr y6 7)) (pr.rowAt 1 (pr.lr y6 7) n13 fun w14 => (pr.bin .add false (pr.ld y6 5) (pr.lit (.int Go.IntKind.i64 (1))) fun x15 =>
               (J6 0 [.n (pr.ln y6 0), .n (pr.ln y6 1), .n (pr.ln y6 2), .n (pr.ln y6 3), .d (pr.ld y6 4), .d x15, .r (pr.lr y6 6), .r (pr.setR (pr.lr y6 7) n13 [x12]), .d (pr.ld y6 8), .d (pr.ld y6 9)])))))))))))))))
        (pr.out 0 [.n (pr.ln y6 0), .n (pr.ln y6 1), .r (pr.lr y6 7), .d (pr.ld y6 8), .d (pr.ld y6 9)])))
def G31 (a0 a1 a2 a3 a4 a5 : Δ) : Ω :=
 (pr.bnd (pr.call 15 [a0, a1]) [fun y0 => (pr.bin .neq false (pr.ld y0 0) (pr.lit (.int Go.IntKind.i64 (0))) fun x1 =>
 (pr.cond x1
  (pr.out 0 [.d (pr.lit (.int Go.IntKind.i64 (0))), .d (pr.ld y0 0)])
  (pr.eqN (pr.natN 2) (pr.len (pr.rows [[a2, a3], [a4, a5]])) (pr.bnd (pr.call 71 [a0, a1, (pr.slD 2 (pr.seg (pr.rows [[a2, a3], [a4, a5]]) none (pr.natN 2)))]) [fun y2 => (pr.lits [.d (pr.ld y2 0)]
   (pr.un .not (pr.ld y2 0) fun x3 => (pr.cond x3
    (pr.out 0 [.d (pr.lit (.int Go.IntKind.i64 (0))), .d (pr.lit (.int Go.IntKind.i64 (45)))])
    (pr.bnd (pr.call 73 [a0, a1, a2, a3]) [fun y4 => (pr.bnd (pr.call 73 [a0, a1, a4, a5]) [fun y5 => (pr.bnd (pr.loop [(L31_0 pr)] 0 [.n (pr.len (pr.lr y4 0)), .n (pr.len (pr.lr y4 0)), .n (pr.len (pr.lr y5 0)), .n (pr.len (pr.lr y5 0)), .d (pr.natD (pr.len (pr.lr y4 0))), .d (pr.lit (.int Go.IntKind.i64 (0))), .r (pr.lr y5 0), .r (pr.lr y4 0), .d a0, .d a1]) [fun y6 => (pr.eqN (pr.ln y6 1) (pr.len (pr.lr y6 2)) (pr.bnd (pr.call 72 [(pr.ld y6 3), (pr.ld y6 4), (pr.slD 1 (pr.seg (pr.lr y6 2) none (pr.ln y6 0)))]) [fun y7 => (pr.lits [.d (pr.ld y7 0), .d (pr.ld y7 1)]
        (pr.bin .gtr false (pr.ld y7 0) (pr.lit (.int Go.IntKind.i64 (0))) fun x8 =>
        (pr.cond x8
         (pr.out 0 [.d (pr.lit (.int Go.IntKind.i64 (1))), .d (pr.lit (.int Go.IntKind.i64 (0)))])
         (pr.bin .leq false (pr.ld y7 1) (pr.lit (.int Go.IntKind.i64 (0))) fun x9 =>
         (pr.cond x9
          (pr.out 0 [.d (pr.lit (.int Go.IntKind.i64 (0))), .d (pr.lit (.int Go.IntKind.i64 (0)))])
          (pr.out 0 [.d (pr.lit (.int Go.IntKind.i64 (2))), .d (pr.lit (.int Go.IntKind.i64 (0)))]))))))]))])])]))))]))))])
/-! leazing/drift.Truly -/
def L32_0  : (Nat → List (Y Δ N R M) → Ω) → E → Ω := fun J6 y6 =>
 (pr.bin .lss false (pr.ld y6 3) (pr.ld y6 2) fun x7 =>
       (pr.cond x7
        (pr.rowD 3 (pr.ld y6 1) (pr.ld y6 3) fun w8 =>
        (pr.rowD 1 (pr.ld y6 0) (pr.ld y6 3) fun w9 =>
         (pr.bnd (pr.call 59 [(pr.cell w9 0), (pr.cell w8 1), (pr.cell w8 2)]) [fun y10 => (pr.un .not (pr.ld y10 0) fun x11 => (pr.cond x11
            (pr.out 0 [.d (pr.lit (.int Go.IntKind.i64 (0))), .d (pr.lit (.int Go.IntKind.i64 (1)))])
            (pr.bin .add false (pr.ld y6 3) (pr.lit (.int Go.IntKind.i64 (1))) fun x12 =>
            (J6 0 [.d (pr.ld y6 0), .d (pr.ld y6 1), .d (pr.ld y6 2), .d x12, .d (pr.ld y6 4), .d (pr.ld y6 5), .d (pr.ld y6 6), .d (pr.ld y6 7)]))))])))
        (pr.out 1 [.d (pr.ld y6 0), .d (pr.ld y6 4), .d (pr.ld y6 5), .d (pr.ld y6 6), .d (pr.ld y6 7)])))
def L32_1  : (Nat → List (Y Δ N R M) → Ω) → E → Ω := fun J10 y10 =>
 (pr.bin .lss false (pr.ld y10 5) (pr.ld y10 4) fun x11 =>
           (pr.cond x11
            (pr.eqN (pr.ln y10 3) (pr.len (pr.lr y10 6)) (pr.inx (pr.ld y10 5) (pr.ln y10 2) fun n12 => (pr.eqN (pr.ln y10 3) (pr.len (pr.lr y10 6)) (pr.rowAt 1 (pr.lr y10 6) n12 fun w13 => (pr.rowD 1 (pr.ld y10 0) (pr.ld y10 5) fun w14 =>
              (pr.bin .mul false (pr.cell w13 0) (pr.cell w14 0) fun x15 =>
               (pr.bin .add false (pr.ld y10 1) x15 fun x16 =>
                (pr.bin .add false (pr.ld y10 5) (pr.lit (.int Go.IntKind.i64 (1))) fun x17 =>
                 (J10 0 [.d (pr.ld y10 0), .d x16, .n (pr.ln y10 2), .n (pr.ln y10 3), .d (pr.ld y10 4), .d x17, .r (pr.lr y10 6)])))))))))
            (pr.out 0 [.d (pr.ld y10 1)])))
def G32 (a0 a1 a2 a3 a4 : Δ) : Ω :=
 (pr.bnd (pr.call 15 [a0, a1]) [fun y0 => (pr.bin .neq false (pr.ld y0 0) (pr.lit (.int Go.IntKind.i64 (0))) fun x1 =>
 (pr.cond x1
  (pr.out 0 [.d (pr.lit (.int Go.IntKind.i64 (0))), .d (pr.ld y0 0)])
  (pr.lenD a2 fun x2 =>
  (pr.lenD a0 fun x3 =>
   (pr.bin .neq false x2 x3 fun x4 =>
    (pr.cond x4
     (pr.out 0 [.d (pr.lit (.int Go.IntKind.i64 (0))), .d (pr.lit (.int Go.IntKind.i64 (1)))])
     (pr.lenD a0 fun x5 =>
     (pr.bnd (pr.loop [(L32_0 pr)] 0 [.d a2, .d a0, .d x5, .d (pr.lit (.int Go.IntKind.i64 (0))), .d a3, .d a4, .d a0, .d a1]) [fun y6 => (pr.out 0 [.d (pr.ld y6 0), .d (pr.ld y6 1)]), fun y6 => (pr.eqN (pr.natN 1) (pr.len (pr.rows [[(pr.ld y6 1), (pr.ld y6 2)]])) (pr.bnd (pr.call 71 [(pr.ld y6 3), (pr.ld y6 4), (pr.slD 2 (pr.seg (pr.rows [[(pr.ld y6 1), (pr.ld y6 2)]]) none (pr.natN 1)))]) [fun y7 => (pr.lits [.d (pr.ld y7 0)]
        (pr.un .not (pr.ld y7 0) fun x8 => (pr.cond x8
         (pr.out 0 [.d (pr.lit (.int Go.IntKind.i64 (0))), .d (pr.lit (.int Go.IntKind.i64 (45)))])
         (pr.bnd (pr.call 73 [(pr.ld y6 3), (pr.ld y6 4), (pr.ld y6 1), (pr.ld y6 2)]) [fun y9 => (pr.bnd (pr.loop [(L32_1 pr)] 0 [.d (pr.ld y6 0), .d (pr.lit (.int Go.IntKind.i64 (0))), .n (pr.len (pr.lr y9 0)), .n (pr.len (pr.lr y9 0)), .d (pr.natD (pr.len (pr.lr y9 0))), .d (pr.lit (.int Go.IntKind.i64 (0))), .r (pr.lr y9 0)]) [fun y10 => (pr.out 0 [.d (pr.ld y10 0), .d (pr.lit (.int Go.IntKind.i64 (0)))])])]))))]))]))))))))])
/-! leazing/leazingref04.Length -/
def G37 (a0 a1 a2 a3 : Δ) : Ω :=
 (pr.bnd (pr.call 16 [a0, a1]) [fun y0 => (pr.bin .neq false (pr.ld y0 0) (pr.lit (.int Go.IntKind.i64 (0))) fun x1 =>
 (pr.cond x1
  (pr.out 0 [.d (pr.lit (.int Go.IntKind.i64 (0))), .d (pr.lit (.int Go.IntKind.i64 (0))), .d (pr.lit (.int Go.IntKind.i64 (42)))])
  (pr.bnd (pr.call 77 [a0, a1, a2, a3]) [fun y2 => (pr.un .not (pr.ld y2 0) fun x3 => (pr.cond x3
    (pr.out 0 [.d (pr.lit (.int Go.IntKind.i64 (0))), .d (pr.lit (.int Go.IntKind.i64 (0))), .d (pr.lit (.int Go.IntKind.i64 (45)))])
    (pr.bnd (pr.call 79 [a0, a1, a2, a3]) [fun y4 => (pr.eqN (pr.len (pr.lr y4 0)) (pr.len (pr.lr y4 0)) (pr.bnd (pr.call 78 [a0, a1, (pr.slD 1 (pr.seg (pr.lr y4 0) none (pr.len (pr.lr y4 0))))]) [fun y5 => (pr.lits [.d (pr.ld y5 0), .d (pr.ld y5 1)]
      (pr.out 0 [.d (pr.ld y5 0), .d (pr.ld y5 1), .d (pr.lit (.int Go.IntKind.i64 (0)))]))]))])))])))])
/-! leazing/leazingref04.Longer -/
def L38_0  : (Nat → List (Y Δ N R M) → Ω) → E → Ω := fun J8 y8 =>
 (pr.bin .lss false (pr.ld y8 4) (pr.natD (pr.ln y8 0)) fun x9 =>
         (pr.cond x9
          (pr.eqN (pr.ln y8 1) (pr.len (pr.lr y8 6)) (pr.inx (pr.ld y8 4) (pr.ln y8 0) fun n10 => (pr.eqN (pr.ln y8 1) (pr.len (pr.lr y8 6)) (pr.rowAt 1 (pr.lr y8 6) n10 fun w11 => (pr.eqN (pr.ln y8 3) (pr.len (pr.lr y8 5)) (pr.inx (pr.ld y8 4) (pr.ln y8 2) fun n12 => (pr.eqN (pr.ln y8 3) (pr.len (pr.lr y8 5)) (pr.rowAt 1 (pr.lr y8 5) n12 fun w13 => (pr.bin .sub false (pr.cell w11 0) (pr.cell w13 0) fun x14 =>
              (pr.eqN (pr.ln y8 1) (pr.len (pr.lr y8 6)) (pr.inx (pr.ld y8 4) (pr.ln y8 0) fun n15 => (pr.eqN (pr.ln y8 1) (pr.len (pr.lr y8 6)) (pr.rowAt 1 (pr.lr y8 6) n15 fun w16 => (pr.bin .add false (pr.ld y8 4) (pr.lit (.int Go.IntKind.i64 (1))) fun x17 =>
                 (J8 0 [.n (pr.ln y8 0), .n (pr.ln y8 1), .n (pr.ln y8 2), .n (pr.ln y8 3), .d x17, .r (pr.lr y8 5), .r (pr.setR (pr.lr y8 6) n15 [x14]), .d (pr.ld y8 7), .d (pr.ld y8 8)])))))))))))))))
          (pr.out 0 [.n (pr.ln y8 0), .n (pr.ln y8 1), .r (pr.lr y8 6), .d (pr.ld y8 7), .d (pr.ld y8 8)])))
def G38 (a0 a1 a2 a3 a4 a5 : Δ) : Ω :=
 (pr.bnd (pr.call 16 [a0, a1]) [fun y0 => (pr.bin .neq false (pr.ld y0 0) (pr.lit (.int Go.IntKind.i64 (0))) fun x1 =>
 (pr.cond x1
  (pr.out 0 [.d (pr.lit (.int Go.IntKind.i64 (0))), .d (pr.lit (.int Go.IntKind.i64 (42)))])
  (pr.bnd (pr.call 77 [a0, a1, a2, a3]) [fun y2 => (pr.un .not (pr.ld y2 0) fun x3 => (pr.cond x3
    (pr.out 0 [.d (pr.lit (.int Go.IntKind.i64 (0))), .d (pr.lit (.int Go.IntKind.i64 (45)))])
    (pr.bnd (pr.call 77 [a0, a1, a4, a5]) [fun y4 => (pr.un .not (pr.ld y4 0) fun x5 => (pr.cond x5
      (pr.out 0 [.d (pr.lit (.int Go.IntKind.i64 (0))), .d (pr.lit (.int Go.IntKind.i64 (45)))])
      (pr.bnd (pr.call 79 [a0, a1, a2, a3]) [fun y6 => (pr.bnd (pr.call 79 [a0, a1, a4, a5]) [fun y7 => (pr.bnd (pr.loop [(L38_0 pr)] 0 [.n (pr.len (pr.lr y6 0)), .n (pr.len (pr.lr y6 0)), .n (pr.len (pr.lr y7 0)), .n (pr.len (pr.lr y7 0)), .d (pr.lit (.int Go.IntKind.i64 (0))), .r (pr.lr y7 0), .r (pr.lr y6 0), .d a0, .d a1]) [fun y8 => (pr.eqN (pr.ln y8 1) (pr.len (pr.lr y8 2)) (pr.bnd (pr.call 78 [(pr.ld y8 3), (pr.ld y8 4), (pr.slD 1 (pr.seg (pr.lr y8 2) none (pr.ln y8 0)))]) [fun y9 => (pr.lits [.d (pr.ld y9 0), .d (pr.ld y9 1)]
          (pr.bin .gtr false (pr.ld y9 0) (pr.lit (.int Go.IntKind.i64 (0))) fun x10 =>
          (pr.cond x10
           (pr.out 0 [.d (pr.lit (.int Go.IntKind.i64 (1))), .d (pr.lit (.int Go.IntKind.i64 (0)))])
           (pr.bin .leq false (pr.ld y9 1) (pr.lit (.int Go.IntKind.i64 (0))) fun x11 =>
           (pr.cond x11
            (pr.out 0 [.d (pr.lit (.int Go.IntKind.i64 (0))), .d (pr.lit (.int Go.IntKind.i64 (0)))])
            (pr.out 0 [.d (pr.lit (.int Go.IntKind.i64 (2))), .d (pr.lit (.int Go.IntKind.i64 (0)))]))))))]))])])])))])))])))])
/-! leazing/leazingref04.Truly -/
def L39_0  : (Nat → List (Y Δ N R M) → Ω) → E → Ω := fun J7 y7 =>
 (pr.bin .lss false (pr.ld y7 4) (pr.natD (pr.ln y7 1)) fun x8 =>
        (pr.cond x8
         (pr.eqN (pr.ln y7 2) (pr.len (pr.lr y7 5)) (pr.inx (pr.ld y7 4) (pr.ln y7 1) fun n9 => (pr.eqN (pr.ln y7 2) (pr.len (pr.lr y7 5)) (pr.rowAt 1 (pr.lr y7 5) n9 fun w10 => (pr.rowD 1 (pr.ld y7 0) (pr.ld y7 4) fun w11 =>
           (pr.bin .mul false (pr.cell w10 0) (pr.cell w11 0) fun x12 =>
            (pr.bin .add false (pr.ld y7 3) x12 fun x13 =>
             (pr.bin .add false (pr.ld y7 4) (pr.lit (.int Go.IntKind.i64 (1))) fun x14 =>
              (J7 0 [.d (pr.ld y7 0), .n (pr.ln y7 1), .n (pr.ln y7 2), .d x13, .d x14, .r (pr.lr y7 5)])))))))))
         (pr.out 0 [.d (pr.ld y7 3)])))
def G39 (a0 a1 a2 a3 a4 : Δ) : Ω :=
 (pr.bnd (pr.call 16 [a0, a1]) [fun y0 => (pr.bin .neq false (pr.ld y0 0) (pr.lit (.int Go.IntKind.i64 (0))) fun x1 =>
 (pr.cond x1
  (pr.out 0 [.d (pr.lit (.int Go.IntKind.i64 (0))), .d (pr.lit (.int Go.IntKind.i64 (42)))])
  (pr.bnd (pr.call 80 [a0, a1, a2]) [fun y2 => (pr.un .not (pr.ld y2 0) fun x3 => (pr.cond x3
    (pr.out 0 [.d (pr.lit (.int Go.IntKind.i64 (0))), .d (pr.lit (.int Go.IntKind.i64 (1)))])
    (pr.bnd (pr.call 77 [a0, a1, a3, a4]) [fun y4 => (pr.un .not (pr.ld y4 0) fun x5 => (pr.cond x5
      (pr.out 0 [.d (pr.lit (.int Go.IntKind.i64 (0))), .d (pr.lit (.int Go.IntKind.i64 (45)))])
      (pr.bnd (pr.call 79 [a0, a1, a3, a4]) [fun y6 => (pr.bnd (pr.loop [(L39_0 pr)] 0 [.d a2, .n (pr.len (pr.lr y6 0)), .n (pr.len (pr.lr y6 0)), .d (pr.lit (.int Go.IntKind.i64 (0))), .d (pr.lit (.int Go.IntKind.i64 (0))), .r (pr.lr y6 0)]) [fun y7 => (pr.out 0 [.d (pr.ld y7 0), .d (pr.lit (.int Go.IntKind.i64 (0)))])])])))])))])))])
/-! leazing/drift.Worth -/
def G40 (a0 a1 a2 a3 : Δ) : Ω :=
 (pr.bnd (pr.call 15 [a0, a1]) [fun y0 => (pr.bin .neq false (pr.ld y0 0) (pr.lit (.int Go.IntKind.i64 (0))) fun x1 =>
 (pr.cond x1
  (pr.out 0 [.d (pr.lit (.int Go.IntKind.i64 (0))), .d (pr.ld y0 0)])
  (pr.eqN (pr.natN 1) (pr.len (pr.rows [[a2, a3]])) (pr.bnd (pr.call 71 [a0, a1, (pr.slD 2 (pr.seg (pr.rows [[a2, a3]]) none (pr.natN 1)))]) [fun y2 => (pr.lits [.d (pr.ld y2 0)]
   (pr.un .not (pr.ld y2 0) fun x3 => (pr.cond x3
    (pr.out 0 [.d (pr.lit (.int Go.IntKind.i64 (0))), .d (pr.lit (.int Go.IntKind.i64 (45)))])
    (pr.bnd (pr.call 81 [a0, a1, a2, a3]) [fun y4 => (pr.out 0 [.d (pr.ld y4 0), .d (pr.lit (.int Go.IntKind.i64 (0)))])]))))]))))])
/-! leazing/leazingref04.Worth -/
def G41 (a0 a1 a2 a3 : Δ) : Ω :=
 (pr.bnd (pr.call 16 [a0, a1]) [fun y0 => (pr.bin .neq false (pr.ld y0 0) (pr.lit (.int Go.IntKind.i64 (0))) fun x1 =>
 (pr.cond x1
  (pr.out 0 [.d (pr.lit (.int Go.IntKind.i64 (0))), .d (pr.lit (.int Go.IntKind.i64 (42)))])
  (pr.bnd (pr.call 77 [a0, a1, a2, a3]) [fun y2 => (pr.un .not (pr.ld y2 0) fun x3 => (pr.cond x3
    (pr.out 0 [.d (pr.lit (.int Go.IntKind.i64 (0))), .d (pr.lit (.int Go.IntKind.i64 (45)))])
    (pr.bnd (pr.call 82 [a0, a1, a2, a3]) [fun y4 => (pr.out 0 [.d (pr.ld y4 0), .d (pr.lit (.int Go.IntKind.i64 (0)))])])))])))])
/-! leazing/leazingref04.Compare -/
def G42 (a0 a1 a2 a3 : Δ) : Ω :=
 (pr.bnd (pr.call 83 [a0, a1]) [fun y0 => (pr.un .not (pr.ld y0 0) fun x1 => (pr.cond x1
  (pr.out 0 [.d (pr.lit (.int Go.IntKind.i64 (0))), .d (pr.lit (.int Go.IntKind.i64 (1)))])
  (pr.bnd (pr.call 83 [a2, a3]) [fun y2 => (pr.un .not (pr.ld y2 0) fun x3 => (pr.cond x3
    (pr.out 0 [.d (pr.lit (.int Go.IntKind.i64 (0))), .d (pr.lit (.int Go.IntKind.i64 (1)))])
    (pr.bnd (pr.call 56 [a0, a1, a2, a3]) [fun y4 => (pr.cond (pr.ld y4 0)
     (pr.out 0 [.d (pr.lit (.int Go.IntKind.i64 (-1))), .d (pr.lit (.int Go.IntKind.i64 (0)))])
     (pr.bnd (pr.call 56 [a2, a3, a0, a1]) [fun y5 => (pr.cond (pr.ld y5 0)
      (pr.out 0 [.d (pr.lit (.int Go.IntKind.i64 (1))), .d (pr.lit (.int Go.IntKind.i64 (0)))])
      (pr.out 0 [.d (pr.lit (.int Go.IntKind.i64 (0))), .d (pr.lit (.int Go.IntKind.i64 (0)))]))]))])))])))])
/-! leazing/leazingref04.Less -/
def G56 (a0 a1 a2 a3 : Δ) : Ω :=
 (pr.bin .mul false a0 a3 fun x0 =>
(pr.bin .mul false a2 a1 fun x1 =>
 (pr.bin .lss false x0 x1 fun x2 =>
  (pr.out 0 [.d x2]))))
/-! leazing/drift.within -/
def G59 (a0 a1 a2 : Δ) : Ω :=
 (pr.bin .leq false a1 a0 fun x0 =>
(pr.cond x0
 (pr.bin .leq false a0 a2 fun x1 =>
 (pr.out 0 [.d x1]))
 (pr.out 0 [.d (pr.lit (.bool false))])))
/-! slices.Concat[[]leazing/api.Claim,leazing/api.Claim] -/
def L60_0  : (Nat → List (Y Δ N R M) → Ω) → E → Ω := fun J1 y1 =>
 (pr.bin .lss false (pr.ld y1 4) (pr.ld y1 3) fun x2 =>
  (pr.cond x2
   (pr.rowD 1 (pr.ld y1 2) (pr.ld y1 4) fun w3 =>
   (pr.lenD (pr.cell w3 0) fun x4 =>
    (pr.bin .add false (pr.ld y1 1) x4 fun x5 =>
     (pr.bin .lss false x5 (pr.lit (.int Go.IntKind.i64 (0))) fun x6 =>
      (pr.cond x6
       pr.fail
       (pr.bin .add false (pr.ld y1 4) (pr.lit (.int Go.IntKind.i64 (1))) fun x7 =>
       (J1 0 [.d (pr.ld y1 0), .d x5, .d (pr.ld y1 2), .d (pr.ld y1 3), .d x7])))))))
   (pr.out 0 [.d (pr.ld y1 0), .d (pr.ld y1 1)])))
def L60_1  : (Nat → List (Y Δ N R M) → Ω) → E → Ω := fun J4 y4 =>
 (pr.bin .lss false (pr.ld y4 4) (pr.ld y4 3) fun x5 =>
     (pr.cond x5
      (pr.rowD 1 (pr.ld y4 2) (pr.ld y4 4) fun w6 =>
      (pr.rowsD 4 (pr.cell w6 0) fun r7 => (pr.eqN (pr.ln y4 1) (pr.len (pr.lr y4 5)) (pr.eqN (pr.ln y4 0) (pr.len (pr.lr y4 5)) (pr.fits 32 (pr.addN (pr.ln y4 0) (pr.len r7))
        (pr.bin .add false (pr.ld y4 4) (pr.lit (.int Go.IntKind.i64 (1))) fun x8 =>
        (J4 0 [.n (pr.addN (pr.ln y4 0) (pr.len r7)), .n (pr.addN (pr.ln y4 0) (pr.len r7)), .d (pr.ld y4 2), .d (pr.ld y4 3), .d x8, .r (pr.app (pr.lr y4 5) r7)])))))))
      (pr.out 0 [.n (pr.ln y4 0), .n (pr.ln y4 1), .r (pr.lr y4 5)])))
def L60_2  : (Nat → List (Y Δ N R M) → Ω) → E → Ω := fun J4 y4 =>
 (pr.bin .lss false (pr.ld y4 3) (pr.ld y4 2) fun x5 =>
     (pr.cond x5
      (pr.rowD 1 (pr.ld y4 1) (pr.ld y4 3) fun w6 =>
      (pr.rowsD 4 (pr.cell w6 0) fun r7 => (pr.nilD (pr.ld y4 0) (pr.isNil r7
        (pr.bin .add false (pr.ld y4 3) (pr.lit (.int Go.IntKind.i64 (1))) fun x8 =>
        (J4 0 [.d (pr.lit (.slice none 0 0)), .d (pr.ld y4 1), .d (pr.ld y4 2), .d x8]))
        (pr.fits 32 (pr.len r7)
        (pr.bin .add false (pr.ld y4 3) (pr.lit (.int Go.IntKind.i64 (1))) fun x8 =>
        (J4 1 [.n (pr.len r7), .n (pr.len r7), .d (pr.ld y4 1), .d (pr.ld y4 2), .d x8, .r r7])))))))
      (pr.out 0 [.d (pr.ld y4 0)])))
def L60_3  : (Nat → List (Y Δ N R M) → Ω) → E → Ω := fun J4 y4 =>
 (pr.bin .lss false (pr.ld y4 4) (pr.ld y4 3) fun x5 =>
     (pr.cond x5
      (pr.rowD 1 (pr.ld y4 2) (pr.ld y4 4) fun w6 =>
      (pr.rowsD 4 (pr.cell w6 0) fun r7 => (pr.eqN (pr.ln y4 1) (pr.len (pr.lr y4 5)) (pr.eqN (pr.ln y4 0) (pr.len (pr.lr y4 5)) (pr.fits 32 (pr.addN (pr.ln y4 0) (pr.len r7))
        (pr.bin .add false (pr.ld y4 4) (pr.lit (.int Go.IntKind.i64 (1))) fun x8 =>
        (J4 1 [.n (pr.addN (pr.ln y4 0) (pr.len r7)), .n (pr.addN (pr.ln y4 0) (pr.len r7)), .d (pr.ld y4 2), .d (pr.ld y4 3), .d x8, .r (pr.app (pr.lr y4 5) r7)])))))))
      (pr.out 1 [.n (pr.ln y4 0), .n (pr.ln y4 1), .r (pr.lr y4 5)])))
def G60 (a0 : Δ) : Ω :=
 (pr.lenD a0 fun x0 =>
(pr.bnd (pr.loop [(L60_0 pr)] 0 [.d a0, .d (pr.lit (.int Go.IntKind.i64 (0))), .d a0, .d x0, .d (pr.lit (.int Go.IntKind.i64 (0)))]) [fun y1 => (pr.bnd (pr.call 89 [(pr.lit (.slice none 0 0)), (pr.ld y1 1)]) [fun y2 => (pr.lenD (pr.ld y1 0) fun x3 =>
   (pr.bnd (pr.loop [(L60_1 pr)] 0 [.n (pr.len (pr.lr y2 0)), .n (pr.len (pr.lr y2 0)), .d (pr.ld y1 0), .d x3, .d (pr.lit (.int Go.IntKind.i64 (0))), .r (pr.lr y2 0)]) [fun y4 => (pr.eqN (pr.ln y4 1) (pr.len (pr.lr y4 2)) (pr.leN (pr.ln y4 0) (pr.len (pr.lr y4 2)) (pr.out 0 [.r (pr.seg (pr.lr y4 2) none (pr.ln y4 0))])))])), fun y2 => (pr.lenD (pr.ld y1 0) fun x3 =>
   (pr.bnd (pr.loop [(L60_2 pr), (L60_3 pr)] 0 [.d (pr.ld y2 0), .d (pr.ld y1 0), .d x3, .d (pr.lit (.int Go.IntKind.i64 (0)))]) [fun y4 => (pr.out 1 [.d (pr.ld y4 0)]), fun y4 => (pr.eqN (pr.ln y4 1) (pr.len (pr.lr y4 2)) (pr.leN (pr.ln y4 0) (pr.len (pr.lr y4 2)) (pr.out 0 [.r (pr.seg (pr.lr y4 2) none (pr.ln y4 0))])))]))])]))
/-! leazing/leazingref04.In -/
def G61 (a0 a1 a2 : Δ) : Ω :=
 (pr.bin .geq false a0 a1 fun x0 =>
(pr.cond x0
 (pr.bin .leq false a0 a2 fun x1 =>
 (pr.out 0 [.d x1]))
 (pr.out 0 [.d (pr.lit (.bool false))])))
/-! leazing/drift.chains -/
def L62_0  : (Nat → List (Y Δ N R M) → Ω) → E → Ω := fun J1 y1 =>
 (pr.bin .lss false (pr.ld y1 2) (pr.ld y1 1) fun x2 =>
  (pr.cond x2
   (pr.rowD 3 (pr.ld y1 0) (pr.ld y1 2) fun w3 =>
   (pr.upd 0 (pr.lm y1 3) (pr.cell w3 0) [(pr.ld y1 2)] fun q4 => (pr.bin .add false (pr.ld y1 2) (pr.lit (.int Go.IntKind.i64 (1))) fun x5 =>
     (J1 0 [.d (pr.ld y1 0), .d (pr.ld y1 1), .d x5, .m q4]))))
   (pr.out 0 [.m (pr.lm y1 3)])))
def G62 (a0 a1 : Δ) : Ω :=
 (pr.lenD a0 fun x0 =>
(pr.bnd (pr.loop [(L62_0 pr)] 0 [.d a0, .d x0, .d (pr.lit (.int Go.IntKind.i64 (0))), .m pr.emp]) [fun y1 => (pr.out 0 [.m (pr.lm y1 0)])]))
/-! leazing/leazingref04.chain -/
def L63_0  : (Nat → List (Y Δ N R M) → Ω) → E → Ω := fun J0 y0 =>
 (pr.lenD (pr.ld y0 2) fun x1 =>
 (pr.bin .lss false (pr.ld y0 1) x1 fun x2 =>
  (pr.cond x2
   (pr.rowD 3 (pr.ld y0 2) (pr.ld y0 1) fun w3 =>
   (pr.bin .eql false (pr.cell w3 0) (pr.ld y0 0) fun x4 =>
    (pr.cond x4
     (pr.out 0 [.d (pr.ld y0 1)])
     (pr.bin .add false (pr.ld y0 1) (pr.lit (.int Go.IntKind.i64 (1))) fun x5 =>
     (J0 0 [.d (pr.ld y0 0), .d x5, .d (pr.ld y0 2), .d (pr.ld y0 3)])))))
   (pr.out 1 []))))
def G63 (a0 a1 a2 : Δ) : Ω :=
 (pr.bnd (pr.loop [(L63_0 pr)] 0 [.d a2, .d (pr.lit (.int Go.IntKind.i64 (0))), .d a0, .d a1]) [fun y0 => (pr.out 0 [.d (pr.ld y0 0)]), fun y0 => (pr.out 0 [.d (pr.lit (.int Go.IntKind.i64 (-1)))])])
/-! slices.ContainsFunc[[]leazing/api.Claim,leazing/api.Claim] -/
def G64 (a0 a1 : Δ) : Ω :=
 (pr.bnd (pr.call 90 [a0, a1]) [fun y0 => (pr.bin .geq false (pr.ld y0 0) (pr.lit (.int Go.IntKind.i64 (0))) fun x1 =>
 (pr.out 0 [.d x1]))])
/-! leazing/drift.CheckClaims$1 -/
def G65 (a0 a1 a2 a3 a4 a5 a6 a7 : Δ) : Ω :=
 (pr.bin .eql false a0 a4 fun x0 =>
(pr.out 0 [.d x0]))
/-! leazing/leazingref04.areClaims -/
def L66_0  : (Nat → List (Y Δ N R M) → Ω) → E → Ω := fun J9 y9 =>
 (pr.bin .lss false (pr.ld y9 2) (pr.ld y9 1) fun x10 =>
          (pr.cond x10
           (pr.rowD 4 (pr.ld y9 0) (pr.ld y9 2) fun w11 =>
           (pr.rowD 4 (pr.ld y9 0) (pr.ld y9 1) fun w12 =>
            (pr.bin .eql false (pr.cell w11 0) (pr.cell w12 0) fun x13 =>
             (pr.cond x13
              (pr.out 0 [.d (pr.lit (.bool false))])
              (pr.bin .add false (pr.ld y9 2) (pr.lit (.int Go.IntKind.i64 (1))) fun x14 =>
              (J9 0 [.d (pr.ld y9 0), .d (pr.ld y9 1), .d x14, .d (pr.ld y9 3), .d (pr.ld y9 4)]))))))
           (pr.out 1 [.d (pr.ld y9 0), .d (pr.ld y9 1), .d (pr.ld y9 3), .d (pr.ld y9 4)])))
def L66_1  : (Nat → List (Y Δ N R M) → Ω) → E → Ω := fun J0 y0 =>
 (pr.lenD (pr.ld y0 0) fun x1 =>
 (pr.bin .lss false (pr.ld y0 1) x1 fun x2 =>
  (pr.cond x2
   (pr.rowD 4 (pr.ld y0 0) (pr.ld y0 1) fun w3 =>
   (pr.bnd (pr.call 24 [(pr.cell w3 0), (pr.cell w3 1), (pr.cell w3 2), (pr.cell w3 3)]) [fun y4 => (pr.bin .neq false (pr.ld y4 0) (pr.lit (.int Go.IntKind.i64 (0))) fun x5 =>
     (pr.cond x5
      (pr.out 0 [.d (pr.lit (.bool false))])
      (pr.rowD 4 (pr.ld y0 0) (pr.ld y0 1) fun w6 =>
      (pr.lenD (pr.ld y0 3) fun x7 =>
       (pr.bin .geq false (pr.cell w6 3) x7 fun x8 =>
        (pr.cond x8
         (pr.out 0 [.d (pr.lit (.bool false))])
         (pr.bnd (pr.loop [(L66_0 pr)] 0 [.d (pr.ld y0 0), .d (pr.ld y0 1), .d (pr.lit (.int Go.IntKind.i64 (0))), .d (pr.ld y0 2), .d (pr.ld y0 3)]) [fun y9 => (pr.out 0 [.d (pr.ld y9 0)]), fun y9 => (pr.bin .add false (pr.ld y9 1) (pr.lit (.int Go.IntKind.i64 (1))) fun x10 =>
          (J0 0 [.d (pr.ld y9 0), .d x10, .d (pr.ld y9 2), .d (pr.ld y9 3)]))])))))))]))
   (pr.out 1 [.d (pr.ld y0 0)]))))
def G66 (a0 a1 a2 : Δ) : Ω :=
 (pr.bnd (pr.loop [(L66_1 pr)] 0 [.d a2, .d (pr.lit (.int Go.IntKind.i64 (0))), .d a0, .d a1]) [fun y0 => (pr.out 0 [.d (pr.ld y0 0)]), fun y0 => (pr.lenD (pr.ld y0 0) fun x1 =>
 (pr.bnd (pr.call 61 [x1, (pr.lit (.int Go.IntKind.i64 (1))), (pr.lit (.int Go.IntKind.i64 (12)))]) [fun y2 => (pr.out 0 [.d (pr.ld y2 0)])]))])
/-! leazing/drift.isGain -/
def G69 (a0 a1 : Δ) : Ω :=
 (pr.bnd (pr.call 59 [a0, (pr.lit (.int Go.IntKind.i64 (0))), (pr.lit (.int Go.IntKind.i64 (1000000)))]) [fun y0 => (pr.cond (pr.ld y0 0)
 (pr.bnd (pr.call 59 [a1, (pr.lit (.int Go.IntKind.i64 (1))), (pr.lit (.int Go.IntKind.i64 (1000000)))]) [fun y1 => (pr.out 0 [.d (pr.ld y1 0)])])
 (pr.out 0 [.d (pr.lit (.bool false))]))])
/-! (leazing/drift.gain).against -/
def G70 (a0 a1 a2 a3 : Δ) : Ω :=
 (pr.bin .mul false a0 a3 fun x0 =>
(pr.bin .mul false a2 a1 fun x1 =>
 (pr.bnd (pr.call 93 [x0, x1]) [fun y2 => (pr.out 0 [.d (pr.ld y2 0)])])))
/-! leazing/drift.areDrifts -/
def G71 (a0 a1 a2 : Δ) : Ω :=
 (pr.bnd (pr.call 94 [a2, (pr.fnD 95 [(pr.dpD [a0, a1] 0)])]) [fun y0 => (pr.lits [.d (pr.ld y0 0)]
 (pr.un .not (pr.ld y0 0) fun x1 => (pr.out 0 [.d x1])))])
/-! leazing/drift.span -/
def L72_0  : (Nat → List (Y Δ N R M) → Ω) → E → Ω := fun J1 y1 =>
 (pr.bin .lss false (pr.ld y1 3) (pr.ld y1 2) fun x2 =>
  (pr.cond x2
   (pr.rowD 3 (pr.ld y1 1) (pr.ld y1 3) fun w3 =>
   (pr.rowD 1 (pr.ld y1 0) (pr.ld y1 3) fun w4 =>
    (pr.bin .mul false (pr.cell w4 0) (pr.cell w3 1) fun x5 =>
     (pr.rowD 1 (pr.ld y1 0) (pr.ld y1 3) fun w6 =>
      (pr.bin .mul false (pr.cell w6 0) (pr.cell w3 2) fun x7 =>
       (pr.mm false x5 x7 fun x8 => (pr.bin .add false (pr.ld y1 4) x8 fun x9 =>
         (pr.rowD 1 (pr.ld y1 0) (pr.ld y1 3) fun w10 =>
          (pr.bin .mul false (pr.cell w10 0) (pr.cell w3 1) fun x11 =>
           (pr.rowD 1 (pr.ld y1 0) (pr.ld y1 3) fun w12 =>
            (pr.bin .mul false (pr.cell w12 0) (pr.cell w3 2) fun x13 =>
             (pr.mm true x11 x13 fun x14 => (pr.bin .add false (pr.ld y1 5) x14 fun x15 =>
               (pr.bin .add false (pr.ld y1 3) (pr.lit (.int Go.IntKind.i64 (1))) fun x16 =>
                (J1 0 [.d (pr.ld y1 0), .d (pr.ld y1 1), .d (pr.ld y1 2), .d x16, .d x9, .d x15, .d (pr.ld y1 6), .d (pr.ld y1 7)])))))))))))))))
   (pr.out 0 [.d (pr.ld y1 4), .d (pr.ld y1 5), .d (pr.ld y1 6), .d (pr.ld y1 7)])))
def G72 (a0 a1 a2 : Δ) : Ω :=
 (pr.lenD a0 fun x0 =>
(pr.bnd (pr.loop [(L72_0 pr)] 0 [.d a2, .d a0, .d x0, .d (pr.lit (.int Go.IntKind.i64 (0))), .d (pr.lit (.int Go.IntKind.i64 (0))), .d (pr.lit (.int Go.IntKind.i64 (0))), .d (pr.lit (.int Go.IntKind.i64 (0))), .d (pr.lit (.int Go.IntKind.i64 (0)))]) [fun y1 => (pr.out 0 [.d (pr.ld y1 0), .d (pr.ld y1 1)])]))
/-! leazing/drift.links -/
def L73_0  : (Nat → List (Y Δ N R M) → Ω) → E → Ω := fun J6 y6 =>
 (pr.bin .lss false (pr.ld y6 4) (pr.ld y6 3) fun x7 =>
       (pr.cond x7
        (pr.rowD 3 (pr.ld y6 2) (pr.ld y6 4) fun w8 =>
        (pr.look 0 [(.int Go.IntKind.i64 (0))] (pr.lm y6 5) (pr.cell w8 0) fun w9 x9 =>
         (pr.eqN (pr.ln y6 1) (pr.len (pr.lr y6 6)) (pr.inx (pr.cell w9 0) (pr.ln y6 0) fun n10 => (pr.eqN (pr.ln y6 1) (pr.len (pr.lr y6 6)) (pr.rowAt 1 (pr.lr y6 6) n10 fun w11 => (pr.bin .add false (pr.cell w11 0) (pr.cell w8 1) fun x12 =>
            (pr.eqN (pr.ln y6 1) (pr.len (pr.lr y6 6)) (pr.inx (pr.cell w9 0) (pr.ln y6 0) fun n13 => (pr.eqN (pr.ln y6 1) (pr.len (pr.lr y6 6)) (pr.rowAt 1 (pr.lr y6 6) n13 fun w14 => (pr.bin .add false (pr.ld y6 4) (pr.lit (.int Go.IntKind.i64 (1))) fun x15 =>
               (J6 0 [.n (pr.ln y6 0), .n (pr.ln y6 1), .d (pr.ld y6 2), .d (pr.ld y6 3), .d x15, .m (pr.lm y6 5), .r (pr.setR (pr.lr y6 6) n13 [x12])])))))))))))))
        (pr.out 0 [.n (pr.ln y6 0), .n (pr.ln y6 1), .r (pr.lr y6 6)])))
def G73 (a0 a1 a2 a3 : Δ) : Ω :=
 (pr.lenD a0 fun x0 =>
(pr.mkN 8 x0 x0 fun n1 => (pr.bnd (pr.call 62 [a0, a1]) [fun y2 => (pr.bin .add false a3 (pr.lit (.int Go.IntKind.i64 (1))) fun x3 =>
   (pr.cutD 3 a1 (some a2) (some x3) fun x4 =>
    (pr.lenD x4 fun x5 =>
     (pr.bnd (pr.loop [(L73_0 pr)] 0 [.n n1, .n n1, .d x4, .d x5, .d (pr.lit (.int Go.IntKind.i64 (0))), .m (pr.lm y2 0), .r (pr.repl n1 [(pr.lit (.int Go.IntKind.i64 (0)))])]) [fun y6 => (pr.eqN (pr.ln y6 1) (pr.len (pr.lr y6 2)) (pr.leN (pr.ln y6 0) (pr.len (pr.lr y6 2)) (pr.out 0 [.r (pr.seg (pr.lr y6 2) none (pr.ln y6 0))])))]))))])))
/-! leazing/leazingref04.isDrift -/
def G77 (a0 a1 a2 a3 : Δ) : Ω :=
 (pr.bnd (pr.call 61 [a2, (pr.lit (.int Go.IntKind.i64 (0))), a3]) [fun y0 => (pr.cond (pr.ld y0 0)
 (pr.lenD a1 fun x1 =>
 (pr.bin .lss false a3 x1 fun x2 =>
  (pr.out 0 [.d x2])))
 (pr.out 0 [.d (pr.lit (.bool false))]))])
/-! leazing/leazingref04.span -/
def L78_0  : (Nat → List (Y Δ N R M) → Ω) → E → Ω := fun J0 y0 =>
 (pr.lenD (pr.ld y0 0) fun x1 =>
 (pr.bin .lss false (pr.ld y0 1) x1 fun x2 =>
  (pr.cond x2
   (pr.rowD 1 (pr.ld y0 0) (pr.ld y0 1) fun w3 =>
   (pr.rowD 3 (pr.ld y0 6) (pr.ld y0 1) fun w4 =>
    (pr.bin .mul false (pr.cell w3 0) (pr.cell w4 1) fun x5 =>
     (pr.rowD 1 (pr.ld y0 0) (pr.ld y0 1) fun w6 =>
      (pr.rowD 3 (pr.ld y0 6) (pr.ld y0 1) fun w7 =>
       (pr.bin .mul false (pr.cell w6 0) (pr.cell w7 2) fun x8 =>
        (pr.mm false x5 x8 fun x9 => (pr.bin .add false (pr.ld y0 2) x9 fun x10 =>
          (pr.mm true x5 x8 fun x11 => (pr.bin .add false (pr.ld y0 3) x11 fun x12 =>
            (pr.bin .add false (pr.ld y0 1) (pr.lit (.int Go.IntKind.i64 (1))) fun x13 =>
             (J0 0 [.d (pr.ld y0 0), .d x13, .d x10, .d x12, .d (pr.ld y0 4), .d (pr.ld y0 5), .d (pr.ld y0 6), .d (pr.ld y0 7)]))))))))))))
   (pr.out 0 [.d (pr.ld y0 2), .d (pr.ld y0 3), .d (pr.ld y0 4), .d (pr.ld y0 5)]))))
def G78 (a0 a1 a2 : Δ) : Ω :=
 (pr.bnd (pr.loop [(L78_0 pr)] 0 [.d a2, .d (pr.lit (.int Go.IntKind.i64 (0))), .d (pr.lit (.int Go.IntKind.i64 (0))), .d (pr.lit (.int Go.IntKind.i64 (0))), .d (pr.lit (.int Go.IntKind.i64 (0))), .d (pr.lit (.int Go.IntKind.i64 (0))), .d a0, .d a1]) [fun y0 => (pr.out 0 [.d (pr.ld y0 0), .d (pr.ld y0 1)])])
/-! leazing/leazingref04.links -/
def L79_0  : (Nat → List (Y Δ N R M) → Ω) → E → Ω := fun J2 y2 =>
 (pr.bin .leq false (pr.ld y2 2) (pr.ld y2 5) fun x3 =>
   (pr.cond x3
    (pr.rowD 3 (pr.ld y2 7) (pr.ld y2 2) fun w4 =>
    (pr.bnd (pr.call 63 [(pr.ld y2 6), (pr.ld y2 7), (pr.cell w4 0)]) [fun y5 => (pr.eqN (pr.ln y2 1) (pr.len (pr.lr y2 3)) (pr.inx (pr.ld y5 0) (pr.ln y2 0) fun n6 => (pr.eqN (pr.ln y2 1) (pr.len (pr.lr y2 3)) (pr.rowAt 1 (pr.lr y2 3) n6 fun w7 => (pr.rowD 3 (pr.ld y2 7) (pr.ld y2 2) fun w8 =>
        (pr.bin .add false (pr.cell w7 0) (pr.cell w8 1) fun x9 =>
         (pr.eqN (pr.ln y2 1) (pr.len (pr.lr y2 3)) (pr.inx (pr.ld y5 0) (pr.ln y2 0) fun n10 => (pr.eqN (pr.ln y2 1) (pr.len (pr.lr y2 3)) (pr.rowAt 1 (pr.lr y2 3) n10 fun w11 => (pr.bin .add false (pr.ld y2 2) (pr.lit (.int Go.IntKind.i64 (1))) fun x12 =>
            (J2 0 [.n (pr.ln y2 0), .n (pr.ln y2 1), .d x12, .r (pr.setR (pr.lr y2 3) n10 [x9]), .d (pr.ld y2 4), .d (pr.ld y2 5), .d (pr.ld y2 6), .d (pr.ld y2 7)]))))))))))))]))
    (pr.out 0 [.n (pr.ln y2 0), .n (pr.ln y2 1), .r (pr.lr y2 3)])))
def G79 (a0 a1 a2 a3 : Δ) : Ω :=
 (pr.lenD a0 fun x0 =>
(pr.mkN 8 x0 x0 fun n1 => (pr.bnd (pr.loop [(L79_0 pr)] 0 [.n n1, .n n1, .d a2, .r (pr.repl n1 [(pr.lit (.int Go.IntKind.i64 (0)))]), .d a2, .d a3, .d a0, .d a1]) [fun y2 => (pr.eqN (pr.ln y2 1) (pr.len (pr.lr y2 2)) (pr.leN (pr.ln y2 0) (pr.len (pr.lr y2 2)) (pr.out 0 [.r (pr.seg (pr.lr y2 2) none (pr.ln y2 0))])))])))
/-! leazing/leazingref04.areLinks -/
def L80_0  : (Nat → List (Y Δ N R M) → Ω) → E → Ω := fun J3 y3 =>
 (pr.lenD (pr.ld y3 0) fun x4 =>
    (pr.bin .lss false (pr.ld y3 1) x4 fun x5 =>
     (pr.cond x5
      (pr.rowD 1 (pr.ld y3 0) (pr.ld y3 1) fun w6 =>
      (pr.rowD 3 (pr.ld y3 2) (pr.ld y3 1) fun w7 =>
       (pr.rowD 3 (pr.ld y3 2) (pr.ld y3 1) fun w8 =>
        (pr.bnd (pr.call 61 [(pr.cell w6 0), (pr.cell w7 1), (pr.cell w8 2)]) [fun y9 => (pr.un .not (pr.ld y9 0) fun x10 => (pr.cond x10
           (pr.out 0 [.d (pr.lit (.bool false))])
           (pr.bin .add false (pr.ld y3 1) (pr.lit (.int Go.IntKind.i64 (1))) fun x11 =>
           (J3 0 [.d (pr.ld y3 0), .d x11, .d (pr.ld y3 2), .d (pr.ld y3 3)]))))]))))
      (pr.out 1 []))))
def G80 (a0 a1 a2 : Δ) : Ω :=
 (pr.lenD a2 fun x0 =>
(pr.lenD a0 fun x1 =>
 (pr.bin .neq false x0 x1 fun x2 =>
  (pr.cond x2
   (pr.out 0 [.d (pr.lit (.bool false))])
   (pr.bnd (pr.loop [(L80_0 pr)] 0 [.d a2, .d (pr.lit (.int Go.IntKind.i64 (0))), .d a0, .d a1]) [fun y3 => (pr.out 0 [.d (pr.ld y3 0)]), fun y3 => (pr.out 0 [.d (pr.lit (.bool true))])])))))
/-! leazing/drift.worth -/
def L81_0  : (Nat → List (Y Δ N R M) → Ω) → E → Ω := fun J1 y1 =>
 (pr.bin .leq false (pr.ld y1 0) (pr.ld y1 2) fun x2 =>
  (pr.cond x2
   (pr.lenD (pr.ld y1 4) fun x3 =>
   (pr.bin .lss false (pr.ld y1 0) x3 fun x4 =>
    (pr.cond x4
     (pr.rowD 3 (pr.ld y1 4) (pr.ld y1 0) fun w5 =>
     (pr.eqN (pr.natN 1) (pr.len (pr.rows [[(pr.cell w5 2)]])) (pr.isNil (pr.seg (pr.rows [[(pr.cell w5 2)]]) none (pr.natN 1))
      (pr.bin .add false (pr.ld y1 0) (pr.lit (.int Go.IntKind.i64 (1))) fun x6 =>
      (J1 0 [.d x6, .d (pr.ld y1 1), .d (pr.ld y1 2), .d (pr.ld y1 3), .d (pr.ld y1 4)]))
      (pr.fits 8 (pr.len (pr.seg (pr.rows [[(pr.cell w5 2)]]) none (pr.natN 1)))
      (pr.bin .add false (pr.ld y1 0) (pr.lit (.int Go.IntKind.i64 (1))) fun x6 =>
      (J1 1 [.n (pr.len (pr.seg (pr.rows [[(pr.cell w5 2)]]) none (pr.natN 1))), .n (pr.len (pr.seg (pr.rows [[(pr.cell w5 2)]]) none (pr.natN 1))), .d x6, .r (pr.seg (pr.rows [[(pr.cell w5 2)]]) none (pr.natN 1)), .d (pr.ld y1 1), .d (pr.ld y1 2), .d (pr.ld y1 3), .d (pr.ld y1 4)]))))))
     (pr.out 0 []))))
   (pr.out 0 [])))
def L81_1  : (Nat → List (Y Δ N R M) → Ω) → E → Ω := fun J1 y1 =>
 (pr.bin .leq false (pr.ld y1 2) (pr.ld y1 5) fun x2 =>
  (pr.cond x2
   (pr.lenD (pr.ld y1 7) fun x3 =>
   (pr.bin .lss false (pr.ld y1 2) x3 fun x4 =>
    (pr.cond x4
     (pr.rowD 3 (pr.ld y1 7) (pr.ld y1 2) fun w5 =>
     (pr.eqN (pr.natN 1) (pr.len (pr.rows [[(pr.cell w5 2)]])) (pr.eqN (pr.ln y1 1) (pr.len (pr.lr y1 3)) (pr.eqN (pr.ln y1 0) (pr.len (pr.lr y1 3)) (pr.fits 8 (pr.addN (pr.ln y1 0) (pr.len (pr.seg (pr.rows [[(pr.cell w5 2)]]) none (pr.natN 1))))
      (pr.bin .add false (pr.ld y1 2) (pr.lit (.int Go.IntKind.i64 (1))) fun x6 =>
      (J1 1 [.n (pr.addN (pr.ln y1 0) (pr.len (pr.seg (pr.rows [[(pr.cell w5 2)]]) none (pr.natN 1)))), .n (pr.addN (pr.ln y1 0) (pr.len (pr.seg (pr.rows [[(pr.cell w5 2)]]) none (pr.natN 1)))), .d x6, .r (pr.app (pr.lr y1 3) (pr.seg (pr.rows [[(pr.cell w5 2)]]) none (pr.natN 1))), .d (pr.ld y1 4), .d (pr.ld y1 5), .d (pr.ld y1 6), .d (pr.ld y1 7)])))))))
     (pr.out 1 [.n (pr.ln y1 0), .n (pr.ln y1 1), .r (pr.lr y1 3)]))))
   (pr.out 1 [.n (pr.ln y1 0), .n (pr.ln y1 1), .r (pr.lr y1 3)])))
def G81 (a0 a1 a2 a3 : Δ) : Ω :=
 (pr.mm true a2 (pr.lit (.int Go.IntKind.i64 (0))) fun x0 => (pr.bnd (pr.loop [(L81_0 pr), (L81_1 pr)] 0 [.d x0, .d a2, .d a3, .d a0, .d a1]) [fun y1 => (pr.bnd (pr.call 98 [(pr.lit (.slice none 0 0))]) [fun y2 => (pr.out 0 [.d (pr.ld y2 0)])]), fun y1 => (pr.eqN (pr.ln y1 1) (pr.len (pr.lr y1 2)) (pr.bnd (pr.call 98 [(pr.slD 1 (pr.seg (pr.lr y1 2) none (pr.ln y1 0)))]) [fun y2 => (pr.lits [.d (pr.ld y2 0)]
   (pr.out 0 [.d (pr.ld y2 0)]))]))]))
/-! leazing/leazingref04.worth -/
def L82_0  : (Nat → List (Y Δ N R M) → Ω) → E → Ω := fun J0 y0 =>
 (pr.bin .leq false (pr.ld y0 2) (pr.ld y0 0) fun x1 =>
 (pr.cond x1
  (pr.lenD (pr.ld y0 4) fun x2 =>
  (pr.bin .lss false (pr.ld y0 2) x2 fun x3 =>
   (pr.cond x3
    (pr.rowD 3 (pr.ld y0 4) (pr.ld y0 2) fun w4 =>
    (pr.bin .add false (pr.ld y0 1) (pr.cell w4 2) fun x5 =>
     (pr.bin .add false (pr.ld y0 2) (pr.lit (.int Go.IntKind.i64 (1))) fun x6 =>
      (J0 0 [.d (pr.ld y0 0), .d x5, .d x6, .d (pr.ld y0 3), .d (pr.ld y0 4)]))))
    (pr.out 0 [.d (pr.ld y0 1)]))))
  (pr.out 0 [.d (pr.ld y0 1)])))
def G82 (a0 a1 a2 a3 : Δ) : Ω :=
 (pr.bnd (pr.loop [(L82_0 pr)] 0 [.d a3, .d (pr.lit (.int Go.IntKind.i64 (0))), .d a2, .d a0, .d a1]) [fun y0 => (pr.out 0 [.d (pr.ld y0 0)])])
/-! leazing/leazingref04.isGain -/
def G83 (a0 a1 : Δ) : Ω :=
 (pr.bnd (pr.call 61 [a0, (pr.lit (.int Go.IntKind.i64 (0))), (pr.lit (.int Go.IntKind.i64 (1000000)))]) [fun y0 => (pr.cond (pr.ld y0 0)
 (pr.bnd (pr.call 61 [a1, (pr.lit (.int Go.IntKind.i64 (1))), (pr.lit (.int Go.IntKind.i64 (1000000)))]) [fun y1 => (pr.out 0 [.d (pr.ld y1 0)])])
 (pr.out 0 [.d (pr.lit (.bool false))]))])
/-! slices.Grow[[]leazing/api.Claim,leazing/api.Claim] -/
def G89 (a0 a1 : Δ) : Ω :=
 (pr.bnd (pr.bin .lss false a1 (pr.lit (.int Go.IntKind.i64 (0))) fun x0 =>
(pr.cond x0
 pr.fail
 (pr.out 0 [.d a0, .d a1]))) [fun y0 => (pr.nilD (pr.ld y0 0) (pr.lenD (pr.ld y0 0) fun x1 =>
 (pr.bin .sub false (pr.lit (.int Go.IntKind.i64 (0))) x1 fun x2 =>
  (pr.bin .sub false (pr.ld y0 1) x2 fun x3 =>
   (pr.bin .gtr false x3 (pr.lit (.int Go.IntKind.i64 (0))) fun x4 =>
    (pr.cond x4
     (pr.nilD (pr.ld y0 0) (pr.cutD 4 (pr.ld y0 0) none (some (pr.lit (.int Go.IntKind.i64 (0)))) fun x5 =>
     (pr.nilD x5 (pr.gap 32 x3 fun n6 => (pr.lenD (pr.ld y0 0) fun x7 =>
       (pr.eqN n6 (pr.len (pr.repl n6 [(pr.lit (.int Go.IntKind.i64 (0))), (pr.lit (.int Go.IntKind.i64 (0))), (pr.lit (.int Go.IntKind.i64 (0))), (pr.lit (.int Go.IntKind.i64 (0)))])) (pr.cut none (some x7) n6 (fun n8 m8 => (pr.eqN n6 (pr.len (pr.repl n6 [(pr.lit (.int Go.IntKind.i64 (0))), (pr.lit (.int Go.IntKind.i64 (0))), (pr.lit (.int Go.IntKind.i64 (0))), (pr.lit (.int Go.IntKind.i64 (0)))])) (pr.leN m8 (pr.len (pr.repl n6 [(pr.lit (.int Go.IntKind.i64 (0))), (pr.lit (.int Go.IntKind.i64 (0))), (pr.lit (.int Go.IntKind.i64 (0))), (pr.lit (.int Go.IntKind.i64 (0)))])) (pr.out 0 [.r (pr.seg (pr.repl n6 [(pr.lit (.int Go.IntKind.i64 (0))), (pr.lit (.int Go.IntKind.i64 (0))), (pr.lit (.int Go.IntKind.i64 (0))), (pr.lit (.int Go.IntKind.i64 (0)))]) none m8)]))))
        pr.fail)))))))
     (pr.out 1 [.d (pr.ld y0 0)])))))))])
/-! slices.IndexFunc[[]leazing/api.Claim,leazing/api.Claim] -/
def L90_0  : (Nat → List (Y Δ N R M) → Ω) → E → Ω := fun J1 y1 =>
 (pr.bin .lss false (pr.ld y1 3) (pr.ld y1 2) fun x2 =>
  (pr.cond x2
   (pr.rowD 4 (pr.ld y1 0) (pr.ld y1 3) fun w3 =>
   (pr.bnd (pr.callD (pr.ld y1 1) [.agg 4] [(pr.cell w3 0), (pr.cell w3 1), (pr.cell w3 2), (pr.cell w3 3)]) [fun y4 => (pr.cond (pr.ld y4 0)
     (pr.out 0 [.d (pr.ld y1 3)])
     (pr.bin .add false (pr.ld y1 3) (pr.lit (.int Go.IntKind.i64 (1))) fun x5 =>
     (J1 0 [.d (pr.ld y1 0), .d (pr.ld y1 1), .d (pr.ld y1 2), .d x5])))]))
   (pr.out 1 [])))
def G90 (a0 a1 : Δ) : Ω :=
 (pr.lenD a0 fun x0 =>
(pr.bnd (pr.loop [(L90_0 pr)] 0 [.d a0, .d a1, .d x0, .d (pr.lit (.int Go.IntKind.i64 (0)))]) [fun y1 => (pr.out 0 [.d (pr.ld y1 0)]), fun y1 => (pr.out 0 [.d (pr.lit (.int Go.IntKind.i64 (-1)))])]))
/-! cmp.Compare[int] -/
def G93 (a0 a1 : Δ) : Ω :=
 (pr.bnd (pr.call 106 [a0]) [fun y0 => (pr.bnd (pr.call 106 [a1]) [fun y1 => (pr.cond (pr.ld y0 0)
  (pr.cond (pr.ld y1 0)
  (pr.out 0 [.d (pr.lit (.int Go.IntKind.i64 (0)))])
  (pr.out 0 [.d (pr.lit (.int Go.IntKind.i64 (-1)))]))
  (pr.cond (pr.ld y1 0)
  (pr.out 0 [.d (pr.lit (.int Go.IntKind.i64 (1)))])
  (pr.bin .lss false a0 a1 fun x2 =>
  (pr.cond x2
   (pr.out 0 [.d (pr.lit (.int Go.IntKind.i64 (-1)))])
   (pr.bin .gtr false a0 a1 fun x3 =>
   (pr.cond x3
    (pr.out 0 [.d (pr.lit (.int Go.IntKind.i64 (1)))])
    (pr.out 0 [.d (pr.lit (.int Go.IntKind.i64 (0)))])))))))])])
/-! slices.ContainsFunc[[]leazing/api.Drift,leazing/api.Drift] -/
def G94 (a0 a1 : Δ) : Ω :=
 (pr.bnd (pr.call 107 [a0, a1]) [fun y0 => (pr.bin .geq false (pr.ld y0 0) (pr.lit (.int Go.IntKind.i64 (0))) fun x1 =>
 (pr.out 0 [.d x1]))])
/-! leazing/drift.areDrifts$1 -/
def G95 (a0 a1 a2 a3 : Δ) : Ω :=
 (pr.bin .lss false a0 (pr.lit (.int Go.IntKind.i64 (0))) fun x0 =>
(pr.cond x0
 (pr.out 0 [.d (pr.lit (.bool true))])
 (pr.bin .lss false a1 a0 fun x1 =>
 (pr.cond x1
  (pr.out 0 [.d (pr.lit (.bool true))])
  (pr.lenD a3 fun x2 =>
  (pr.bin .geq false a1 x2 fun x3 =>
   (pr.out 0 [.d x3])))))))
/-! leazing/drift.sum -/
def L98_0  : (Nat → List (Y Δ N R M) → Ω) → E → Ω := fun J1 y1 =>
 (pr.bin .lss false (pr.ld y1 3) (pr.ld y1 2) fun x2 =>
  (pr.cond x2
   (pr.rowD 1 (pr.ld y1 1) (pr.ld y1 3) fun w3 =>
   (pr.bin .add false (pr.ld y1 0) (pr.cell w3 0) fun x4 =>
    (pr.bin .add false (pr.ld y1 3) (pr.lit (.int Go.IntKind.i64 (1))) fun x5 =>
     (J1 0 [.d x4, .d (pr.ld y1 1), .d (pr.ld y1 2), .d x5]))))
   (pr.out 0 [.d (pr.ld y1 0)])))
def G98 (a0 : Δ) : Ω :=
 (pr.lenD a0 fun x0 =>
(pr.bnd (pr.loop [(L98_0 pr)] 0 [.d (pr.lit (.int Go.IntKind.i64 (0))), .d a0, .d x0, .d (pr.lit (.int Go.IntKind.i64 (0)))]) [fun y1 => (pr.out 0 [.d (pr.ld y1 0)])]))
/-! cmp.isNaN[int] -/
def G106 (a0 : Δ) : Ω :=
 (pr.bin .neq false a0 a0 fun x0 =>
(pr.out 0 [.d x0]))
/-! slices.IndexFunc[[]leazing/api.Drift,leazing/api.Drift] -/
def L107_0  : (Nat → List (Y Δ N R M) → Ω) → E → Ω := fun J1 y1 =>
 (pr.bin .lss false (pr.ld y1 3) (pr.ld y1 2) fun x2 =>
  (pr.cond x2
   (pr.rowD 2 (pr.ld y1 0) (pr.ld y1 3) fun w3 =>
   (pr.bnd (pr.callD (pr.ld y1 1) [.agg 2] [(pr.cell w3 0), (pr.cell w3 1)]) [fun y4 => (pr.cond (pr.ld y4 0)
     (pr.out 0 [.d (pr.ld y1 3)])
     (pr.bin .add false (pr.ld y1 3) (pr.lit (.int Go.IntKind.i64 (1))) fun x5 =>
     (J1 0 [.d (pr.ld y1 0), .d (pr.ld y1 1), .d (pr.ld y1 2), .d x5])))]))
   (pr.out 1 [])))
def G107 (a0 a1 : Δ) : Ω :=
 (pr.lenD a0 fun x0 =>
(pr.bnd (pr.loop [(L107_0 pr)] 0 [.d a0, .d a1, .d x0, .d (pr.lit (.int Go.IntKind.i64 (0)))]) [fun y1 => (pr.out 0 [.d (pr.ld y1 0)]), fun y1 => (pr.out 0 [.d (pr.lit (.int Go.IntKind.i64 (-1)))])]))
end
theorem G26_eq {Δ N R W M E Ω : Type} (pr : Pr Δ N R W M E Ω) (a0 a1 : Δ) : fun3 pr tb Try.prog 400 26 [a0, a1] = G26 pr a0 a1 := by kernel_rfl
theorem F26 (n : Nat) (a0 a1 : D) : FN (n + 1) 26 [a0, a1] = G26 (RP n) a0 a1 := G26_eq _ a0 a1
theorem G28_eq {Δ N R W M E Ω : Type} (pr : Pr Δ N R W M E Ω) (a0 a1 a2 a3 : Δ) : fun3 pr tb Try.prog 400 28 [a0, a1, a2, a3] = G28 pr a0 a1 a2 a3 := by kernel_rfl
theorem F28 (n : Nat) (a0 a1 a2 a3 : D) : FN (n + 1) 28 [a0, a1, a2, a3] = G28 (RP n) a0 a1 a2 a3 := G28_eq _ a0 a1 a2 a3
theorem G30_eq {Δ N R W M E Ω : Type} (pr : Pr Δ N R W M E Ω) (a0 a1 a2 a3 : Δ) : fun3 pr tb Try.prog 400 30 [a0, a1, a2, a3] = G30 pr a0 a1 a2 a3 := by kernel_rfl
theorem F30 (n : Nat) (a0 a1 a2 a3 : D) : FN (n + 1) 30 [a0, a1, a2, a3] = G30 (RP n) a0 a1 a2 a3 := G30_eq _ a0 a1 a2 a3
theorem G31_eq {Δ N R W M E Ω : Type} (pr : Pr Δ N R W M E Ω) (a0 a1 a2 a3 a4 a5 : Δ) : fun3 pr tb Try.prog 400 31 [a0, a1, a2, a3, a4, a5] = G31 pr a0 a1 a2 a3 a4 a5 := by kernel_rfl
theorem F31 (n : Nat) (a0 a1 a2 a3 a4 a5 : D) : FN (n + 1) 31 [a0, a1, a2, a3, a4, a5] = G31 (RP n) a0 a1 a2 a3 a4 a5 := G31_eq _ a0 a1 a2 a3 a4 a5
theorem G32_eq {Δ N R W M E Ω : Type} (pr : Pr Δ N R W M E Ω) (a0 a1 a2 a3 a4 : Δ) : fun3 pr tb Try.prog 400 32 [a0, a1, a2, a3, a4] = G32 pr a0 a1 a2 a3 a4 := by kernel_rfl
theorem F32 (n : Nat) (a0 a1 a2 a3 a4 : D) : FN (n + 1) 32 [a0, a1, a2, a3, a4] = G32 (RP n) a0 a1 a2 a3 a4 := G32_eq _ a0 a1 a2 a3 a4
theorem G37_eq {Δ N R W M E Ω : Type} (pr : Pr Δ N R W M E Ω) (a0 a1 a2 a3 : Δ) : fun3 pr tb Try.prog 400 37 [a0, a1, a2, a3] = G37 pr a0 a1 a2 a3 := by kernel_rfl
theorem F37 (n : Nat) (a0 a1 a2 a3 : D) : FN (n + 1) 37 [a0, a1, a2, a3] = G37 (RP n) a0 a1 a2 a3 := G37_eq _ a0 a1 a2 a3
theorem G38_eq {Δ N R W M E Ω : Type} (pr : Pr Δ N R W M E Ω) (a0 a1 a2 a3 a4 a5 : Δ) : fun3 pr tb Try.prog 400 38 [a0, a1, a2, a3, a4, a5] = G38 pr a0 a1 a2 a3 a4 a5 := by kernel_rfl
theorem F38 (n : Nat) (a0 a1 a2 a3 a4 a5 : D) : FN (n + 1) 38 [a0, a1, a2, a3, a4, a5] = G38 (RP n) a0 a1 a2 a3 a4 a5 := G38_eq _ a0 a1 a2 a3 a4 a5
theorem G39_eq {Δ N R W M E Ω : Type} (pr : Pr Δ N R W M E Ω) (a0 a1 a2 a3 a4 : Δ) : fun3 pr tb Try.prog 400 39 [a0, a1, a2, a3, a4] = G39 pr a0 a1 a2 a3 a4 := by kernel_rfl
theorem F39 (n : Nat) (a0 a1 a2 a3 a4 : D) : FN (n + 1) 39 [a0, a1, a2, a3, a4] = G39 (RP n) a0 a1 a2 a3 a4 := G39_eq _ a0 a1 a2 a3 a4
theorem G40_eq {Δ N R W M E Ω : Type} (pr : Pr Δ N R W M E Ω) (a0 a1 a2 a3 : Δ) : fun3 pr tb Try.prog 400 40 [a0, a1, a2, a3] = G40 pr a0 a1 a2 a3 := by kernel_rfl
theorem F40 (n : Nat) (a0 a1 a2 a3 : D) : FN (n + 1) 40 [a0, a1, a2, a3] = G40 (RP n) a0 a1 a2 a3 := G40_eq _ a0 a1 a2 a3
theorem G41_eq {Δ N R W M E Ω : Type} (pr : Pr Δ N R W M E Ω) (a0 a1 a2 a3 : Δ) : fun3 pr tb Try.prog 400 41 [a0, a1, a2, a3] = G41 pr a0 a1 a2 a3 := by kernel_rfl
theorem F41 (n : Nat) (a0 a1 a2 a3 : D) : FN (n + 1) 41 [a0, a1, a2, a3] = G41 (RP n) a0 a1 a2 a3 := G41_eq _ a0 a1 a2 a3
theorem G42_eq {Δ N R W M E Ω : Type} (pr : Pr Δ N R W M E Ω) (a0 a1 a2 a3 : Δ) : fun3 pr tb Try.prog 400 42 [a0, a1, a2, a3] = G42 pr a0 a1 a2 a3 := by kernel_rfl
theorem F42 (n : Nat) (a0 a1 a2 a3 : D) : FN (n + 1) 42 [a0, a1, a2, a3] = G42 (RP n) a0 a1 a2 a3 := G42_eq _ a0 a1 a2 a3
theorem G56_eq {Δ N R W M E Ω : Type} (pr : Pr Δ N R W M E Ω) (a0 a1 a2 a3 : Δ) : fun3 pr tb Try.prog 400 56 [a0, a1, a2, a3] = G56 pr a0 a1 a2 a3 := by kernel_rfl
theorem F56 (n : Nat) (a0 a1 a2 a3 : D) : FN (n + 1) 56 [a0, a1, a2, a3] = G56 (RP n) a0 a1 a2 a3 := G56_eq _ a0 a1 a2 a3
theorem G59_eq {Δ N R W M E Ω : Type} (pr : Pr Δ N R W M E Ω) (a0 a1 a2 : Δ) : fun3 pr tb Try.prog 400 59 [a0, a1, a2] = G59 pr a0 a1 a2 := by kernel_rfl
theorem F59 (n : Nat) (a0 a1 a2 : D) : FN (n + 1) 59 [a0, a1, a2] = G59 (RP n) a0 a1 a2 := G59_eq _ a0 a1 a2
theorem G60_eq {Δ N R W M E Ω : Type} (pr : Pr Δ N R W M E Ω) (a0 : Δ) : fun3 pr tb Try.prog 400 60 [a0] = G60 pr a0 := by kernel_rfl
theorem F60 (n : Nat) (a0 : D) : FN (n + 1) 60 [a0] = G60 (RP n) a0 := G60_eq _ a0
theorem G61_eq {Δ N R W M E Ω : Type} (pr : Pr Δ N R W M E Ω) (a0 a1 a2 : Δ) : fun3 pr tb Try.prog 400 61 [a0, a1, a2] = G61 pr a0 a1 a2 := by kernel_rfl
theorem F61 (n : Nat) (a0 a1 a2 : D) : FN (n + 1) 61 [a0, a1, a2] = G61 (RP n) a0 a1 a2 := G61_eq _ a0 a1 a2
theorem G62_eq {Δ N R W M E Ω : Type} (pr : Pr Δ N R W M E Ω) (a0 a1 : Δ) : fun3 pr tb Try.prog 400 62 [a0, a1] = G62 pr a0 a1 := by kernel_rfl
theorem F62 (n : Nat) (a0 a1 : D) : FN (n + 1) 62 [a0, a1] = G62 (RP n) a0 a1 := G62_eq _ a0 a1
theorem G63_eq {Δ N R W M E Ω : Type} (pr : Pr Δ N R W M E Ω) (a0 a1 a2 : Δ) : fun3 pr tb Try.prog 400 63 [a0, a1, a2] = G63 pr a0 a1 a2 := by kernel_rfl
theorem F63 (n : Nat) (a0 a1 a2 : D) : FN (n + 1) 63 [a0, a1, a2] = G63 (RP n) a0 a1 a2 := G63_eq _ a0 a1 a2
theorem G64_eq {Δ N R W M E Ω : Type} (pr : Pr Δ N R W M E Ω) (a0 a1 : Δ) : fun3 pr tb Try.prog 400 64 [a0, a1] = G64 pr a0 a1 := by kernel_rfl
theorem F64 (n : Nat) (a0 a1 : D) : FN (n + 1) 64 [a0, a1] = G64 (RP n) a0 a1 := G64_eq _ a0 a1
theorem G65_eq {Δ N R W M E Ω : Type} (pr : Pr Δ N R W M E Ω) (a0 a1 a2 a3 a4 a5 a6 a7 : Δ) : fun3 pr tb Try.prog 400 65 [a0, a1, a2, a3, a4, a5, a6, a7] = G65 pr a0 a1 a2 a3 a4 a5 a6 a7 := by kernel_rfl
theorem F65 (n : Nat) (a0 a1 a2 a3 a4 a5 a6 a7 : D) : FN (n + 1) 65 [a0, a1, a2, a3, a4, a5, a6, a7] = G65 (RP n) a0 a1 a2 a3 a4 a5 a6 a7 := G65_eq _ a0 a1 a2 a3 a4 a5 a6 a7
theorem G66_eq {Δ N R W M E Ω : Type} (pr : Pr Δ N R W M E Ω) (a0 a1 a2 : Δ) : fun3 pr tb Try.prog 400 66 [a0, a1, a2] = G66 pr a0 a1 a2 := by kernel_rfl
theorem F66 (n : Nat) (a0 a1 a2 : D) : FN (n + 1) 66 [a0, a1, a2] = G66 (RP n) a0 a1 a2 := G66_eq _ a0 a1 a2
theorem G69_eq {Δ N R W M E Ω : Type} (pr : Pr Δ N R W M E Ω) (a0 a1 : Δ) : fun3 pr tb Try.prog 400 69 [a0, a1] = G69 pr a0 a1 := by kernel_rfl
theorem F69 (n : Nat) (a0 a1 : D) : FN (n + 1) 69 [a0, a1] = G69 (RP n) a0 a1 := G69_eq _ a0 a1
theorem G70_eq {Δ N R W M E Ω : Type} (pr : Pr Δ N R W M E Ω) (a0 a1 a2 a3 : Δ) : fun3 pr tb Try.prog 400 70 [a0, a1, a2, a3] = G70 pr a0 a1 a2 a3 := by kernel_rfl
theorem F70 (n : Nat) (a0 a1 a2 a3 : D) : FN (n + 1) 70 [a0, a1, a2, a3] = G70 (RP n) a0 a1 a2 a3 := G70_eq _ a0 a1 a2 a3
theorem G71_eq {Δ N R W M E Ω : Type} (pr : Pr Δ N R W M E Ω) (a0 a1 a2 : Δ) : fun3 pr tb Try.prog 400 71 [a0, a1, a2] = G71 pr a0 a1 a2 := by kernel_rfl
theorem F71 (n : Nat) (a0 a1 a2 : D) : FN (n + 1) 71 [a0, a1, a2] = G71 (RP n) a0 a1 a2 := G71_eq _ a0 a1 a2
theorem G72_eq {Δ N R W M E Ω : Type} (pr : Pr Δ N R W M E Ω) (a0 a1 a2 : Δ) : fun3 pr tb Try.prog 400 72 [a0, a1, a2] = G72 pr a0 a1 a2 := by kernel_rfl
theorem F72 (n : Nat) (a0 a1 a2 : D) : FN (n + 1) 72 [a0, a1, a2] = G72 (RP n) a0 a1 a2 := G72_eq _ a0 a1 a2
theorem G73_eq {Δ N R W M E Ω : Type} (pr : Pr Δ N R W M E Ω) (a0 a1 a2 a3 : Δ) : fun3 pr tb Try.prog 400 73 [a0, a1, a2, a3] = G73 pr a0 a1 a2 a3 := by kernel_rfl
theorem F73 (n : Nat) (a0 a1 a2 a3 : D) : FN (n + 1) 73 [a0, a1, a2, a3] = G73 (RP n) a0 a1 a2 a3 := G73_eq _ a0 a1 a2 a3
theorem G77_eq {Δ N R W M E Ω : Type} (pr : Pr Δ N R W M E Ω) (a0 a1 a2 a3 : Δ) : fun3 pr tb Try.prog 400 77 [a0, a1, a2, a3] = G77 pr a0 a1 a2 a3 := by kernel_rfl
theorem F77 (n : Nat) (a0 a1 a2 a3 : D) : FN (n + 1) 77 [a0, a1, a2, a3] = G77 (RP n) a0 a1 a2 a3 := G77_eq _ a0 a1 a2 a3
theorem G78_eq {Δ N R W M E Ω : Type} (pr : Pr Δ N R W M E Ω) (a0 a1 a2 : Δ) : fun3 pr tb Try.prog 400 78 [a0, a1, a2] = G78 pr a0 a1 a2 := by kernel_rfl
theorem F78 (n : Nat) (a0 a1 a2 : D) : FN (n + 1) 78 [a0, a1, a2] = G78 (RP n) a0 a1 a2 := G78_eq _ a0 a1 a2
theorem G79_eq {Δ N R W M E Ω : Type} (pr : Pr Δ N R W M E Ω) (a0 a1 a2 a3 : Δ) : fun3 pr tb Try.prog 400 79 [a0, a1, a2, a3] = G79 pr a0 a1 a2 a3 := by kernel_rfl
theorem F79 (n : Nat) (a0 a1 a2 a3 : D) : FN (n + 1) 79 [a0, a1, a2, a3] = G79 (RP n) a0 a1 a2 a3 := G79_eq _ a0 a1 a2 a3
theorem G80_eq {Δ N R W M E Ω : Type} (pr : Pr Δ N R W M E Ω) (a0 a1 a2 : Δ) : fun3 pr tb Try.prog 400 80 [a0, a1, a2] = G80 pr a0 a1 a2 := by kernel_rfl
theorem F80 (n : Nat) (a0 a1 a2 : D) : FN (n + 1) 80 [a0, a1, a2] = G80 (RP n) a0 a1 a2 := G80_eq _ a0 a1 a2
theorem G81_eq {Δ N R W M E Ω : Type} (pr : Pr Δ N R W M E Ω) (a0 a1 a2 a3 : Δ) : fun3 pr tb Try.prog 400 81 [a0, a1, a2, a3] = G81 pr a0 a1 a2 a3 := by kernel_rfl
theorem F81 (n : Nat) (a0 a1 a2 a3 : D) : FN (n + 1) 81 [a0, a1, a2, a3] = G81 (RP n) a0 a1 a2 a3 := G81_eq _ a0 a1 a2 a3
theorem G82_eq {Δ N R W M E Ω : Type} (pr : Pr Δ N R W M E Ω) (a0 a1 a2 a3 : Δ) : fun3 pr tb Try.prog 400 82 [a0, a1, a2, a3] = G82 pr a0 a1 a2 a3 := by kernel_rfl
theorem F82 (n : Nat) (a0 a1 a2 a3 : D) : FN (n + 1) 82 [a0, a1, a2, a3] = G82 (RP n) a0 a1 a2 a3 := G82_eq _ a0 a1 a2 a3
theorem G83_eq {Δ N R W M E Ω : Type} (pr : Pr Δ N R W M E Ω) (a0 a1 : Δ) : fun3 pr tb Try.prog 400 83 [a0, a1] = G83 pr a0 a1 := by kernel_rfl
theorem F83 (n : Nat) (a0 a1 : D) : FN (n + 1) 83 [a0, a1] = G83 (RP n) a0 a1 := G83_eq _ a0 a1
theorem G89_eq {Δ N R W M E Ω : Type} (pr : Pr Δ N R W M E Ω) (a0 a1 : Δ) : fun3 pr tb Try.prog 400 89 [a0, a1] = G89 pr a0 a1 := by kernel_rfl
theorem F89 (n : Nat) (a0 a1 : D) : FN (n + 1) 89 [a0, a1] = G89 (RP n) a0 a1 := G89_eq _ a0 a1
theorem G90_eq {Δ N R W M E Ω : Type} (pr : Pr Δ N R W M E Ω) (a0 a1 : Δ) : fun3 pr tb Try.prog 400 90 [a0, a1] = G90 pr a0 a1 := by kernel_rfl
theorem F90 (n : Nat) (a0 a1 : D) : FN (n + 1) 90 [a0, a1] = G90 (RP n) a0 a1 := G90_eq _ a0 a1
theorem G93_eq {Δ N R W M E Ω : Type} (pr : Pr Δ N R W M E Ω) (a0 a1 : Δ) : fun3 pr tb Try.prog 400 93 [a0, a1] = G93 pr a0 a1 := by kernel_rfl
theorem F93 (n : Nat) (a0 a1 : D) : FN (n + 1) 93 [a0, a1] = G93 (RP n) a0 a1 := G93_eq _ a0 a1
theorem G94_eq {Δ N R W M E Ω : Type} (pr : Pr Δ N R W M E Ω) (a0 a1 : Δ) : fun3 pr tb Try.prog 400 94 [a0, a1] = G94 pr a0 a1 := by kernel_rfl
theorem F94 (n : Nat) (a0 a1 : D) : FN (n + 1) 94 [a0, a1] = G94 (RP n) a0 a1 := G94_eq _ a0 a1
theorem G95_eq {Δ N R W M E Ω : Type} (pr : Pr Δ N R W M E Ω) (a0 a1 a2 a3 : Δ) : fun3 pr tb Try.prog 400 95 [a0, a1, a2, a3] = G95 pr a0 a1 a2 a3 := by kernel_rfl
theorem F95 (n : Nat) (a0 a1 a2 a3 : D) : FN (n + 1) 95 [a0, a1, a2, a3] = G95 (RP n) a0 a1 a2 a3 := G95_eq _ a0 a1 a2 a3
theorem G98_eq {Δ N R W M E Ω : Type} (pr : Pr Δ N R W M E Ω) (a0 : Δ) : fun3 pr tb Try.prog 400 98 [a0] = G98 pr a0 := by kernel_rfl
theorem F98 (n : Nat) (a0 : D) : FN (n + 1) 98 [a0] = G98 (RP n) a0 := G98_eq _ a0
theorem G106_eq {Δ N R W M E Ω : Type} (pr : Pr Δ N R W M E Ω) (a0 : Δ) : fun3 pr tb Try.prog 400 106 [a0] = G106 pr a0 := by kernel_rfl
theorem F106 (n : Nat) (a0 : D) : FN (n + 1) 106 [a0] = G106 (RP n) a0 := G106_eq _ a0
theorem G107_eq {Δ N R W M E Ω : Type} (pr : Pr Δ N R W M E Ω) (a0 a1 : Δ) : fun3 pr tb Try.prog 400 107 [a0, a1] = G107 pr a0 a1 := by kernel_rfl
theorem F107 (n : Nat) (a0 a1 : D) : FN (n + 1) 107 [a0, a1] = G107 (RP n) a0 a1 := G107_eq _ a0 a1
end Go.VE
