/- Functions of Go's library that are taken as a whole: definitions alone. -/
import Derived.Test.YtgpdpocgkloogaaEval
namespace Go.Proofs.Ytgpdpocgkloogaa.X
open Go

def keyOf : List IV → Int
  | [.v (.int _ n)] => n
  | _ => 0
def sortE (xs : List (List IV)) : List (List IV) := xs.mergeSort fun a b => decide (keyOf a ≤ keyOf b)
def isI64 : List IV → Bool
  | [.v (.int .i64 _)] => true
  | _ => false

/-- Of an empty slice the clone is empty: whether it is nil is not told. -/
def cloneP : List PV → List Arr → Option (PV × List Arr × List Arr)
  | [.i (.lst [])], [] => some (.i .emp, [], [])
  | [.i .emp], [] => some (.i .emp, [], [])
  | _, _ => none
def sortP : List PV → List Arr → Option (PV × List Arr × List Arr)
  | [.ref 1000 0 0 n], [.arr 0 1 xs] => if n = xs.length ∧ n ≤ 4000000 ∧ xs.all isI64 = true then some (.tup [], [.arr 0 1 (sortE xs)], []) else none
  | [.i .emp], [] => some (.tup [], [], [])
  | _, _ => none
def mulP : List PV → List Arr → Option (PV × List Arr × List Arr)
  | [.i (.v (.int .u64 a)), .i (.v (.int .u64 b))], [] =>
    if 0 ≤ a ∧ a < 18446744073709551616 ∧ 0 ≤ b ∧ b < 18446744073709551616 then some (.tup [.i (.v (.int .u64 (a * b / 18446744073709551616))), .i (.v (.int .u64 (a * b % 18446744073709551616)))], [], []) else none
  | _, _ => none
end Go.Proofs.Ytgpdpocgkloogaa.X
