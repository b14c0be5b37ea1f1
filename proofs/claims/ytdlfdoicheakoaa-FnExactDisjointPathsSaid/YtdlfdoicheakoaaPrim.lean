/- Functions of Go's library that are taken as a whole: definitions alone. -/
import Derived.Test.YtdlfdoicheakoaaEval
import Derived.Lib.Atoi
import Derived.Lib.Bytealg
namespace Go.Proofs.Ytdlfdoicheakoaa.X
open Go
def keyOf : List IV → Int
  | [.v (.int _ n)] => n
  | _ => 0
def sortE (xs : List (List IV)) : List (List IV) := xs.mergeSort fun a b => decide (keyOf a ≤ keyOf b)
def isI64 : List IV → Bool
  | [.v (.int .i64 _)] => true
  | _ => false
/-- Of an empty slice the clone is empty: whether it is nil is not told. -/
def cloneP : List PV → List Arr → Option (PV × List Arr × List Arr)
  | [.i (.lst [])], [] => some (.i .emp, [], [])
  | [.i .emp], [] => some (.i .emp, [], [])
  | _, _ => none
def sortP : List PV → List Arr → Option (PV × List Arr × List Arr)
  | [.ref 1000 0 0 n], [.arr 0 1 xs] => if n = xs.length ∧ n ≤ 4000000 ∧ xs.all isI64 = true then some (.tup [], [.arr 0 1 (sortE xs)], []) else none
  | [.i .emp], [] => some (.tup [], [], [])
  | _, _ => none
def mulP : List PV → List Arr → Option (PV × List Arr × List Arr)
  | [.i (.v (.int .u64 a)), .i (.v (.int .u64 b))], [] =>
    if 0 ≤ a ∧ a < 18446744073709551616 ∧ 0 ≤ b ∧ b < 18446744073709551616 then some (.tup [.i (.v (.int .u64 (a * b / 18446744073709551616))), .i (.v (.int .u64 (a * b % 18446744073709551616)))], [], []) else none
  | _, _ => none
/-- An element goes in, not at the end. -/
def insP (k : Nat) : List PV → List Arr → Option (PV × List Arr × List Arr)
  | [.ref 1000 0 0 n, .i (.v (.int .i64 i)), .ref 1001 0 0 1], [.arr 0 k1 xs, .arr 0 k2 [x]] =>
    if (k1 = k ∧ k2 = k ∧ n = xs.length ∧ 0 ≤ i ∧ i < n ∧ n ≤ 1000000) ∧ x.length = k then some (.ref 1000 1 0 (n + 1), [.arr 1 k (xs.take i.toNat ++ x :: xs.drop i.toNat), .arr 0 k [x]], []) else none
  | _, _ => none
def keyE : List IV → Int × Int
  | [.v (.int _ a), .v (.int _ b)] => (a, b)
  | _ => (0, 0)
def isEd : List IV → Bool
  | [.v (.int .i64 _), .v (.int .i64 _)] => true
  | _ => false
/-- The first pair is not behind the second one. -/
def leE (a b : Int × Int) : Bool := decide (a.1 < b.1 ∨ (a.1 = b.1 ∧ a.2 ≤ b.2))
def sortF (xs : List (List IV)) : List (List IV) := xs.mergeSort fun a b => leE (keyE a) (keyE b)
def sortFP (c : FuncId) : List PV → List Arr → Option (PV × List Arr × List Arr)
  | [.ref 1000 0 0 n, .fn f [] []], [.arr 0 2 xs] => if f = c ∧ n = xs.length ∧ n ≤ 4000000 ∧ xs.all isEd = true then some (.tup [], [.arr 0 2 (sortF xs)], []) else none
  | [.i .emp, .fn f [] []], [] => if f = c then some (.tup [], [], []) else none
  | _, _ => none
/-- A string of bytes. -/
abbrev S (l : List UInt8) : PV := .i (.v (.string ⟨l.toArray⟩))
/-- A number below a hundred, in digits. -/
def dec2 (n : Nat) : List UInt8 := if n < 10 then [UInt8.ofNat (48 + n)] else [UInt8.ofNat (48 + n / 10), UInt8.ofNat (48 + n % 10)]
def itoaP : List PV → List Arr → Option (PV × List Arr × List Arr)
  | [.i (.v (.int .i64 n))], [] => if 0 ≤ n ∧ n < 100 then some (S (dec2 n.toNat), [], []) else none
  | _, _ => none
def atoiP : List PV → List Arr → Option (PV × List Arr × List Arr)
  | [.i (.v (.string s))], [] => if s.size ≤ 18 then (Lib.atoi s.data.toList).map fun n => (.tup [I n, .i (.v .nilIface)], [], []) else none
  | _, _ => none
/-- The place of a byte; how often a byte is there. -/
def idxP : List PV → List Arr → Option (PV × List Arr × List Arr)
  | [.i (.v (.string s)), .i (.v (.int .u8 c))], [] => some (I (Lib.indexByte s.data.toList c.toNat.toUInt8), [], [])
  | _, _ => none
def cntP : List PV → List Arr → Option (PV × List Arr × List Arr)
  | [.i (.v (.string s)), .i (.v (.string ⟨⟨[c]⟩⟩))], [] => some (I (Lib.countByte s.data.toList c), [], [])
  | _, _ => none
end Go.Proofs.Ytdlfdoicheakoaa.X
