/- What functions answer, and the plain laws behind it. -/
import Derived.Test.YtmocnnknnbalkaaGreatDoorEval
import Derived.Lib.Atoi
import Derived.Lib.Bytealg
import Derived.Test.YtmocnnknnbalkaaGreatDoorTab
/- Functions of Go's library that are taken as a whole: definitions alone. -/
namespace Go.Proofs.YtmocnnknnbalkaaGreatDoor.X
open Go
def keyOf : List IV → Int
  | [.v (.int _ n)] => n
  | _ => 0
def sortE (xs : List (List IV)) : List (List IV) := xs.mergeSort fun a b => decide (keyOf a ≤ keyOf b)
def isI64 : List IV → Bool
  | [.v (.int .i64 _)] => true
  | _ => false
/-- Of an empty slice the clone is empty: whether it is nil is not told. -/
def cloneP : List PV → List Arr → Option (PV × List Arr × List Arr)
  | [.i (.lst [])], [] => some (.i .emp, [], [])
  | [.i .emp], [] => some (.i .emp, [], [])
  | _, _ => none
def sortP : List PV → List Arr → Option (PV × List Arr × List Arr)
  | [.ref 1000 0 0 n], [.arr 0 1 xs] => if n = xs.length ∧ n ≤ 4000000 ∧ xs.all isI64 = true then some (.tup [], [.arr 0 1 (sortE xs)], []) else none
  | [.i .emp], [] => some (.tup [], [], [])
  | _, _ => none
def mulP : List PV → List Arr → Option (PV × List Arr × List Arr)
  | [.i (.v (.int .u64 a)), .i (.v (.int .u64 b))], [] =>
    if 0 ≤ a ∧ a < 18446744073709551616 ∧ 0 ≤ b ∧ b < 18446744073709551616 then some (.tup [.i (.v (.int .u64 (a * b / 18446744073709551616))), .i (.v (.int .u64 (a * b % 18446744073709551616)))], [], []) else none
  | _, _ => none
/-- An element goes in, not at the end. -/
def insP (k : Nat) : List PV → List Arr → Option (PV × List Arr × List Arr)
  | [.ref 1000 0 0 n, .i (.v (.int .i64 i)), .ref 1001 0 0 1], [.arr 0 k1 xs, .arr 0 k2 [x]] =>
    if (k1 = k ∧ k2 = k ∧ n = xs.length ∧ 0 ≤ i ∧ i < n ∧ n ≤ 1000000) ∧ x.length = k then some (.ref 1000 1 0 (n + 1), [.arr 1 k (xs.take i.toNat ++ x :: xs.drop i.toNat), .arr 0 k [x]], []) else none
  | _, _ => none
def keyE : List IV → Int × Int
  | [.v (.int _ a), .v (.int _ b)] => (a, b)
  | _ => (0, 0)
def isEd : List IV → Bool
  | [.v (.int .i64 _), .v (.int .i64 _)] => true
  | _ => false
/-- The first pair is not behind the second one. -/
def leE (a b : Int × Int) : Bool := decide (a.1 < b.1 ∨ (a.1 = b.1 ∧ a.2 ≤ b.2))
def sortF (xs : List (List IV)) : List (List IV) := xs.mergeSort fun a b => leE (keyE a) (keyE b)
def sortFP (c : FuncId) : List PV → List Arr → Option (PV × List Arr × List Arr)
  | [.ref 1000 0 0 n, .fn f [] []], [.arr 0 2 xs] => if f = c ∧ n = xs.length ∧ n ≤ 4000000 ∧ xs.all isEd = true then some (.tup [], [.arr 0 2 (sortF xs)], []) else none
  | [.i .emp, .fn f [] []], [] => if f = c then some (.tup [], [], []) else none
  | _, _ => none
/-- A string of bytes. -/
abbrev S (l : List UInt8) : PV := .i (.v (.string ⟨l.toArray⟩))
/-- A number below a hundred, in digits. -/
def dec2 (n : Nat) : List UInt8 := if n < 10 then [UInt8.ofNat (48 + n)] else [UInt8.ofNat (48 + n / 10), UInt8.ofNat (48 + n % 10)]
def itoaP : List PV → List Arr → Option (PV × List Arr × List Arr)
  | [.i (.v (.int .i64 n))], [] => if 0 ≤ n ∧ n < 100 then some (S (dec2 n.toNat), [], []) else none
  | _, _ => none
def atoiP : List PV → List Arr → Option (PV × List Arr × List Arr)
  | [.i (.v (.string s))], [] => if s.size ≤ 18 then (Lib.atoi s.data.toList).map fun n => (.tup [I n, .i (.v .nilIface)], [], []) else none
  | _, _ => none
/-- The place of a byte; how often a byte is there. -/
def idxP : List PV → List Arr → Option (PV × List Arr × List Arr)
  | [.i (.v (.string s)), .i (.v (.int .u8 c))], [] => some (I (Lib.indexByte s.data.toList c.toNat.toUInt8), [], [])
  | _, _ => none
def cntP : List PV → List Arr → Option (PV × List Arr × List Arr)
  | [.i (.v (.string s)), .i (.v (.string ⟨⟨[c]⟩⟩))], [] => some (I (Lib.countByte s.data.toList c), [], [])
  | _, _ => none
end Go.Proofs.YtmocnnknnbalkaaGreatDoor.X

/- How this program's calls are taken. -/
namespace Go.Proofs.YtmocnnknnbalkaaGreatDoor.X
open Go Go.Proofs
def cfg : Cfg where
  mutF f := mutL.contains f
  own me d := ownL.contains (me, d)
  prim f := if f = 25 then some (itoaP) else if f = 53 then some (sortP) else if f = 58 then some (cloneP) else if f = 62 then some (cntP) else if f = 105 then some (atoiP) else if f = 108 then some (insP 1) else if f = 109 then some (cloneP) else if f = 110 then some (insP 1) else if f = 111 then some (cloneP) else if f = 145 then some (idxP) else if f = 161 then some (insP 2) else if f = 193 then some (mulP) else none
  give me d := false
@[go_sem] theorem give_3 (d : Nat) : cfg.give 3 d = false := by rfl
@[go_sem] theorem give_4 (d : Nat) : cfg.give 4 d = false := by rfl
@[go_sem] theorem give_5 (d : Nat) : cfg.give 5 d = false := by rfl
@[go_sem] theorem give_6 (d : Nat) : cfg.give 6 d = false := by rfl
@[go_sem] theorem give_7 (d : Nat) : cfg.give 7 d = false := by rfl
@[go_sem] theorem give_8 (d : Nat) : cfg.give 8 d = false := by rfl
@[go_sem] theorem give_9 (d : Nat) : cfg.give 9 d = false := by rfl
@[go_sem] theorem give_10 (d : Nat) : cfg.give 10 d = false := by rfl
@[go_sem] theorem give_11 (d : Nat) : cfg.give 11 d = false := by rfl
@[go_sem] theorem give_12 (d : Nat) : cfg.give 12 d = false := by rfl
@[go_sem] theorem give_13 (d : Nat) : cfg.give 13 d = false := by rfl
@[go_sem] theorem give_14 (d : Nat) : cfg.give 14 d = false := by rfl
@[go_sem] theorem give_15 (d : Nat) : cfg.give 15 d = false := by rfl
@[go_sem] theorem give_16 (d : Nat) : cfg.give 16 d = false := by rfl
@[go_sem] theorem give_17 (d : Nat) : cfg.give 17 d = false := by rfl
@[go_sem] theorem give_18 (d : Nat) : cfg.give 18 d = false := by rfl
@[go_sem] theorem give_19 (d : Nat) : cfg.give 19 d = false := by rfl
@[go_sem] theorem give_20 (d : Nat) : cfg.give 20 d = false := by rfl
@[go_sem] theorem give_21 (d : Nat) : cfg.give 21 d = false := by rfl
@[go_sem] theorem give_22 (d : Nat) : cfg.give 22 d = false := by rfl
@[go_sem] theorem give_23 (d : Nat) : cfg.give 23 d = false := by rfl
@[go_sem] theorem give_24 (d : Nat) : cfg.give 24 d = false := by rfl
@[go_sem] theorem give_26 (d : Nat) : cfg.give 26 d = false := by rfl
@[go_sem] theorem give_27 (d : Nat) : cfg.give 27 d = false := by rfl
@[go_sem] theorem give_28 (d : Nat) : cfg.give 28 d = false := by rfl
@[go_sem] theorem give_29 (d : Nat) : cfg.give 29 d = false := by rfl
@[go_sem] theorem give_30 (d : Nat) : cfg.give 30 d = false := by rfl
@[go_sem] theorem give_31 (d : Nat) : cfg.give 31 d = false := by rfl
@[go_sem] theorem give_32 (d : Nat) : cfg.give 32 d = false := by rfl
@[go_sem] theorem give_33 (d : Nat) : cfg.give 33 d = false := by rfl
@[go_sem] theorem give_34 (d : Nat) : cfg.give 34 d = false := by rfl
@[go_sem] theorem give_35 (d : Nat) : cfg.give 35 d = false := by rfl
@[go_sem] theorem give_36 (d : Nat) : cfg.give 36 d = false := by rfl
@[go_sem] theorem give_37 (d : Nat) : cfg.give 37 d = false := by rfl
@[go_sem] theorem give_38 (d : Nat) : cfg.give 38 d = false := by rfl
@[go_sem] theorem give_39 (d : Nat) : cfg.give 39 d = false := by rfl
@[go_sem] theorem give_40 (d : Nat) : cfg.give 40 d = false := by rfl
@[go_sem] theorem give_41 (d : Nat) : cfg.give 41 d = false := by rfl
@[go_sem] theorem give_42 (d : Nat) : cfg.give 42 d = false := by rfl
@[go_sem] theorem give_43 (d : Nat) : cfg.give 43 d = false := by rfl
@[go_sem] theorem give_47 (d : Nat) : cfg.give 47 d = false := by rfl
@[go_sem] theorem give_48 (d : Nat) : cfg.give 48 d = false := by rfl
@[go_sem] theorem give_49 (d : Nat) : cfg.give 49 d = false := by rfl
@[go_sem] theorem give_50 (d : Nat) : cfg.give 50 d = false := by rfl
@[go_sem] theorem give_51 (d : Nat) : cfg.give 51 d = false := by rfl
@[go_sem] theorem give_52 (d : Nat) : cfg.give 52 d = false := by rfl
@[go_sem] theorem give_54 (d : Nat) : cfg.give 54 d = false := by rfl
@[go_sem] theorem give_55 (d : Nat) : cfg.give 55 d = false := by rfl
@[go_sem] theorem give_56 (d : Nat) : cfg.give 56 d = false := by rfl
@[go_sem] theorem give_57 (d : Nat) : cfg.give 57 d = false := by rfl
@[go_sem] theorem give_58 (d : Nat) : cfg.give 58 d = false := by rfl
@[go_sem] theorem give_59 (d : Nat) : cfg.give 59 d = false := by rfl
@[go_sem] theorem give_60 (d : Nat) : cfg.give 60 d = false := by rfl
@[go_sem] theorem give_63 (d : Nat) : cfg.give 63 d = false := by rfl
@[go_sem] theorem give_64 (d : Nat) : cfg.give 64 d = false := by rfl
@[go_sem] theorem give_65 (d : Nat) : cfg.give 65 d = false := by rfl
@[go_sem] theorem give_70 (d : Nat) : cfg.give 70 d = false := by rfl
@[go_sem] theorem give_74 (d : Nat) : cfg.give 74 d = false := by rfl
@[go_sem] theorem give_75 (d : Nat) : cfg.give 75 d = false := by rfl
@[go_sem] theorem give_89 (d : Nat) : cfg.give 89 d = false := by rfl
@[go_sem] theorem give_90 (d : Nat) : cfg.give 90 d = false := by rfl
@[go_sem] theorem give_94 (d : Nat) : cfg.give 94 d = false := by rfl
@[go_sem] theorem give_100 (d : Nat) : cfg.give 100 d = false := by rfl
@[go_sem] theorem give_101 (d : Nat) : cfg.give 101 d = false := by rfl
@[go_sem] theorem give_104 (d : Nat) : cfg.give 104 d = false := by rfl
@[go_sem] theorem give_106 (d : Nat) : cfg.give 106 d = false := by rfl
@[go_sem] theorem give_107 (d : Nat) : cfg.give 107 d = false := by rfl
@[go_sem] theorem give_108 (d : Nat) : cfg.give 108 d = false := by rfl
@[go_sem] theorem give_109 (d : Nat) : cfg.give 109 d = false := by rfl
@[go_sem] theorem give_110 (d : Nat) : cfg.give 110 d = false := by rfl
@[go_sem] theorem give_111 (d : Nat) : cfg.give 111 d = false := by rfl
@[go_sem] theorem give_113 (d : Nat) : cfg.give 113 d = false := by rfl
@[go_sem] theorem give_116 (d : Nat) : cfg.give 116 d = false := by rfl
@[go_sem] theorem give_149 (d : Nat) : cfg.give 149 d = false := by rfl
@[go_sem] theorem give_153 (d : Nat) : cfg.give 153 d = false := by rfl
@[go_sem] theorem give_154 (d : Nat) : cfg.give 154 d = false := by rfl
@[go_sem] theorem give_155 (d : Nat) : cfg.give 155 d = false := by rfl
@[go_sem] theorem give_160 (d : Nat) : cfg.give 160 d = false := by rfl
@[go_sem] theorem give_161 (d : Nat) : cfg.give 161 d = false := by rfl
@[go_sem] theorem give_166 (d : Nat) : cfg.give 166 d = false := by rfl
@[go_sem] theorem give_182 (d : Nat) : cfg.give 182 d = false := by rfl
@[go_sem] theorem mut_3 : cfg.mutF 3 = false := by rfl
@[go_sem] theorem mut_4 : cfg.mutF 4 = false := by rfl
@[go_sem] theorem mut_5 : cfg.mutF 5 = false := by rfl
@[go_sem] theorem mut_6 : cfg.mutF 6 = false := by rfl
@[go_sem] theorem mut_7 : cfg.mutF 7 = false := by rfl
@[go_sem] theorem mut_8 : cfg.mutF 8 = false := by rfl
@[go_sem] theorem mut_9 : cfg.mutF 9 = false := by rfl
@[go_sem] theorem mut_10 : cfg.mutF 10 = false := by rfl
@[go_sem] theorem mut_11 : cfg.mutF 11 = false := by rfl
@[go_sem] theorem mut_12 : cfg.mutF 12 = false := by rfl
@[go_sem] theorem mut_13 : cfg.mutF 13 = false := by rfl
@[go_sem] theorem mut_14 : cfg.mutF 14 = false := by rfl
@[go_sem] theorem mut_15 : cfg.mutF 15 = false := by rfl
@[go_sem] theorem mut_16 : cfg.mutF 16 = false := by rfl
@[go_sem] theorem mut_17 : cfg.mutF 17 = false := by rfl
@[go_sem] theorem mut_18 : cfg.mutF 18 = false := by rfl
@[go_sem] theorem mut_19 : cfg.mutF 19 = false := by rfl
@[go_sem] theorem mut_20 : cfg.mutF 20 = false := by rfl
@[go_sem] theorem mut_21 : cfg.mutF 21 = false := by rfl
@[go_sem] theorem mut_22 : cfg.mutF 22 = false := by rfl
@[go_sem] theorem mut_23 : cfg.mutF 23 = true := by rfl
@[go_sem] theorem mut_24 : cfg.mutF 24 = false := by rfl
@[go_sem] theorem mut_25 : cfg.mutF 25 = false := by rfl
@[go_sem] theorem mut_26 : cfg.mutF 26 = false := by rfl
@[go_sem] theorem mut_27 : cfg.mutF 27 = true := by rfl
@[go_sem] theorem mut_28 : cfg.mutF 28 = true := by rfl
@[go_sem] theorem mut_29 : cfg.mutF 29 = true := by rfl
@[go_sem] theorem mut_30 : cfg.mutF 30 = false := by rfl
@[go_sem] theorem mut_31 : cfg.mutF 31 = false := by rfl
@[go_sem] theorem mut_32 : cfg.mutF 32 = false := by rfl
@[go_sem] theorem mut_33 : cfg.mutF 33 = false := by rfl
@[go_sem] theorem mut_34 : cfg.mutF 34 = false := by rfl
@[go_sem] theorem mut_35 : cfg.mutF 35 = false := by rfl
@[go_sem] theorem mut_36 : cfg.mutF 36 = false := by rfl
@[go_sem] theorem mut_37 : cfg.mutF 37 = false := by rfl
@[go_sem] theorem mut_38 : cfg.mutF 38 = false := by rfl
@[go_sem] theorem mut_39 : cfg.mutF 39 = false := by rfl
@[go_sem] theorem mut_40 : cfg.mutF 40 = false := by rfl
@[go_sem] theorem mut_41 : cfg.mutF 41 = false := by rfl
@[go_sem] theorem mut_42 : cfg.mutF 42 = true := by rfl
@[go_sem] theorem mut_43 : cfg.mutF 43 = true := by rfl
@[go_sem] theorem mut_44 : cfg.mutF 44 = false := by rfl
@[go_sem] theorem mut_45 : cfg.mutF 45 = true := by rfl
@[go_sem] theorem mut_47 : cfg.mutF 47 = false := by rfl
@[go_sem] theorem mut_48 : cfg.mutF 48 = true := by rfl
@[go_sem] theorem mut_49 : cfg.mutF 49 = true := by rfl
@[go_sem] theorem mut_50 : cfg.mutF 50 = false := by rfl
@[go_sem] theorem mut_51 : cfg.mutF 51 = false := by rfl
@[go_sem] theorem mut_52 : cfg.mutF 52 = false := by rfl
@[go_sem] theorem mut_53 : cfg.mutF 53 = true := by rfl
@[go_sem] theorem mut_54 : cfg.mutF 54 = true := by rfl
@[go_sem] theorem mut_55 : cfg.mutF 55 = false := by rfl
@[go_sem] theorem mut_56 : cfg.mutF 56 = false := by rfl
@[go_sem] theorem mut_57 : cfg.mutF 57 = true := by rfl
@[go_sem] theorem mut_58 : cfg.mutF 58 = false := by rfl
@[go_sem] theorem mut_59 : cfg.mutF 59 = false := by rfl
@[go_sem] theorem mut_60 : cfg.mutF 60 = false := by rfl
@[go_sem] theorem mut_61 : cfg.mutF 61 = false := by rfl
@[go_sem] theorem mut_62 : cfg.mutF 62 = false := by rfl
@[go_sem] theorem mut_63 : cfg.mutF 63 = false := by rfl
@[go_sem] theorem mut_64 : cfg.mutF 64 = false := by rfl
@[go_sem] theorem mut_65 : cfg.mutF 65 = false := by rfl
@[go_sem] theorem mut_66 : cfg.mutF 66 = false := by rfl
@[go_sem] theorem mut_67 : cfg.mutF 67 = false := by rfl
@[go_sem] theorem mut_68 : cfg.mutF 68 = false := by rfl
@[go_sem] theorem mut_69 : cfg.mutF 69 = false := by rfl
@[go_sem] theorem mut_70 : cfg.mutF 70 = false := by rfl
@[go_sem] theorem mut_71 : cfg.mutF 71 = false := by rfl
@[go_sem] theorem mut_72 : cfg.mutF 72 = false := by rfl
@[go_sem] theorem mut_73 : cfg.mutF 73 = false := by rfl
@[go_sem] theorem mut_74 : cfg.mutF 74 = false := by rfl
@[go_sem] theorem mut_75 : cfg.mutF 75 = false := by rfl
@[go_sem] theorem mut_89 : cfg.mutF 89 = false := by rfl
@[go_sem] theorem mut_90 : cfg.mutF 90 = false := by rfl
@[go_sem] theorem mut_94 : cfg.mutF 94 = false := by rfl
@[go_sem] theorem mut_100 : cfg.mutF 100 = false := by rfl
@[go_sem] theorem mut_101 : cfg.mutF 101 = false := by rfl
@[go_sem] theorem mut_104 : cfg.mutF 104 = false := by rfl
@[go_sem] theorem mut_105 : cfg.mutF 105 = false := by rfl
@[go_sem] theorem mut_106 : cfg.mutF 106 = false := by rfl
@[go_sem] theorem mut_107 : cfg.mutF 107 = false := by rfl
@[go_sem] theorem mut_108 : cfg.mutF 108 = true := by rfl
@[go_sem] theorem mut_109 : cfg.mutF 109 = false := by rfl
@[go_sem] theorem mut_110 : cfg.mutF 110 = true := by rfl
@[go_sem] theorem mut_111 : cfg.mutF 111 = false := by rfl
@[go_sem] theorem mut_113 : cfg.mutF 113 = false := by rfl
@[go_sem] theorem mut_116 : cfg.mutF 116 = false := by rfl
@[go_sem] theorem mut_145 : cfg.mutF 145 = false := by rfl
@[go_sem] theorem mut_146 : cfg.mutF 146 = false := by rfl
@[go_sem] theorem mut_147 : cfg.mutF 147 = false := by rfl
@[go_sem] theorem mut_148 : cfg.mutF 148 = false := by rfl
@[go_sem] theorem mut_149 : cfg.mutF 149 = false := by rfl
@[go_sem] theorem mut_153 : cfg.mutF 153 = false := by rfl
@[go_sem] theorem mut_154 : cfg.mutF 154 = false := by rfl
@[go_sem] theorem mut_155 : cfg.mutF 155 = false := by rfl
@[go_sem] theorem mut_160 : cfg.mutF 160 = false := by rfl
@[go_sem] theorem mut_161 : cfg.mutF 161 = true := by rfl
@[go_sem] theorem mut_162 : cfg.mutF 162 = false := by rfl
@[go_sem] theorem mut_163 : cfg.mutF 163 = false := by rfl
@[go_sem] theorem mut_164 : cfg.mutF 164 = false := by rfl
@[go_sem] theorem mut_165 : cfg.mutF 165 = false := by rfl
@[go_sem] theorem mut_166 : cfg.mutF 166 = false := by rfl
@[go_sem] theorem mut_182 : cfg.mutF 182 = false := by rfl
@[go_sem] theorem mut_189 : cfg.mutF 189 = false := by rfl
@[go_sem] theorem mut_190 : cfg.mutF 190 = false := by rfl
@[go_sem] theorem own_3_12 : cfg.own 3 12 = false := by rfl
@[go_sem] theorem own_3_14 : cfg.own 3 14 = false := by rfl
@[go_sem] theorem own_3_17 : cfg.own 3 17 = false := by rfl
@[go_sem] theorem own_3_18 : cfg.own 3 18 = false := by rfl
@[go_sem] theorem own_3_22 : cfg.own 3 22 = false := by rfl
@[go_sem] theorem own_3_27 : cfg.own 3 27 = false := by rfl
@[go_sem] theorem own_3_28 : cfg.own 3 28 = false := by rfl
@[go_sem] theorem own_3_41 : cfg.own 3 41 = false := by rfl
@[go_sem] theorem own_3_45 : cfg.own 3 45 = false := by rfl
@[go_sem] theorem own_3_46 : cfg.own 3 46 = false := by rfl
@[go_sem] theorem own_3_50 : cfg.own 3 50 = false := by rfl
@[go_sem] theorem own_3_53 : cfg.own 3 53 = false := by rfl
@[go_sem] theorem own_4_4 : cfg.own 4 4 = false := by rfl
@[go_sem] theorem own_5_11 : cfg.own 5 11 = false := by rfl
@[go_sem] theorem own_5_14 : cfg.own 5 14 = false := by rfl
@[go_sem] theorem own_5_21 : cfg.own 5 21 = false := by rfl
@[go_sem] theorem own_6_25 : cfg.own 6 25 = false := by rfl
@[go_sem] theorem own_7_4 : cfg.own 7 4 = false := by rfl
@[go_sem] theorem own_7_8 : cfg.own 7 8 = false := by rfl
@[go_sem] theorem own_8_55 : cfg.own 8 55 = false := by rfl
@[go_sem] theorem own_10_4 : cfg.own 10 4 = false := by rfl
@[go_sem] theorem own_10_7 : cfg.own 10 7 = false := by rfl
@[go_sem] theorem own_11_12 : cfg.own 11 12 = false := by rfl
@[go_sem] theorem own_11_16 : cfg.own 11 16 = false := by rfl
@[go_sem] theorem own_11_36 : cfg.own 11 36 = false := by rfl
@[go_sem] theorem own_12_4 : cfg.own 12 4 = false := by rfl
@[go_sem] theorem own_12_8 : cfg.own 12 8 = false := by rfl
@[go_sem] theorem own_12_11 : cfg.own 12 11 = false := by rfl
@[go_sem] theorem own_13_5 : cfg.own 13 5 = true := by rfl
@[go_sem] theorem own_13_10 : cfg.own 13 10 = false := by rfl
@[go_sem] theorem own_13_11 : cfg.own 13 11 = false := by rfl
@[go_sem] theorem own_13_12 : cfg.own 13 12 = false := by rfl
@[go_sem] theorem own_13_13 : cfg.own 13 13 = false := by rfl
@[go_sem] theorem own_14_30 : cfg.own 14 30 = false := by rfl
@[go_sem] theorem own_15_39 : cfg.own 15 39 = false := by rfl
@[go_sem] theorem own_17_59 : cfg.own 17 59 = false := by rfl
@[go_sem] theorem own_18_14 : cfg.own 18 14 = false := by rfl
@[go_sem] theorem own_18_19 : cfg.own 18 19 = false := by rfl
@[go_sem] theorem own_18_32 : cfg.own 18 32 = false := by rfl
@[go_sem] theorem own_19_9 : cfg.own 19 9 = false := by rfl
@[go_sem] theorem own_19_14 : cfg.own 19 14 = false := by rfl
@[go_sem] theorem own_19_16 : cfg.own 19 16 = false := by rfl
@[go_sem] theorem own_20_6 : cfg.own 20 6 = false := by rfl
@[go_sem] theorem own_20_7 : cfg.own 20 7 = false := by rfl
@[go_sem] theorem own_22_7 : cfg.own 22 7 = false := by rfl
@[go_sem] theorem own_23_14 : cfg.own 23 14 = false := by rfl
@[go_sem] theorem own_23_22 : cfg.own 23 22 = false := by rfl
@[go_sem] theorem own_23_28 : cfg.own 23 28 = false := by rfl
@[go_sem] theorem own_23_37 : cfg.own 23 37 = false := by rfl
@[go_sem] theorem own_23_44 : cfg.own 23 44 = false := by rfl
@[go_sem] theorem own_23_49 : cfg.own 23 49 = false := by rfl
@[go_sem] theorem own_23_56 : cfg.own 23 56 = false := by rfl
@[go_sem] theorem own_24_16 : cfg.own 24 16 = false := by rfl
@[go_sem] theorem own_24_21 : cfg.own 24 21 = false := by rfl
@[go_sem] theorem own_27_8 : cfg.own 27 8 = true := by rfl
@[go_sem] theorem own_27_10 : cfg.own 27 10 = false := by rfl
@[go_sem] theorem own_27_23 : cfg.own 27 23 = false := by rfl
@[go_sem] theorem own_27_25 : cfg.own 27 25 = false := by rfl
@[go_sem] theorem own_27_33 : cfg.own 27 33 = false := by rfl
@[go_sem] theorem own_27_40 : cfg.own 27 40 = false := by rfl
@[go_sem] theorem own_28_10 : cfg.own 28 10 = false := by rfl
@[go_sem] theorem own_28_19 : cfg.own 28 19 = false := by rfl
@[go_sem] theorem own_28_25 : cfg.own 28 25 = false := by rfl
@[go_sem] theorem own_28_27 : cfg.own 28 27 = false := by rfl
@[go_sem] theorem own_28_28 : cfg.own 28 28 = false := by rfl
@[go_sem] theorem own_28_32 : cfg.own 28 32 = false := by rfl
@[go_sem] theorem own_28_40 : cfg.own 28 40 = false := by rfl
@[go_sem] theorem own_28_44 : cfg.own 28 44 = false := by rfl
@[go_sem] theorem own_28_53 : cfg.own 28 53 = false := by rfl
@[go_sem] theorem own_28_54 : cfg.own 28 54 = false := by rfl
@[go_sem] theorem own_28_61 : cfg.own 28 61 = false := by rfl
@[go_sem] theorem own_28_62 : cfg.own 28 62 = false := by rfl
@[go_sem] theorem own_29_38 : cfg.own 29 38 = false := by rfl
@[go_sem] theorem own_29_57 : cfg.own 29 57 = false := by rfl
@[go_sem] theorem own_30_37 : cfg.own 30 37 = false := by rfl
@[go_sem] theorem own_32_33 : cfg.own 32 33 = false := by rfl
@[go_sem] theorem own_34_13 : cfg.own 34 13 = false := by rfl
@[go_sem] theorem own_36_8 : cfg.own 36 8 = false := by rfl
@[go_sem] theorem own_36_10 : cfg.own 36 10 = false := by rfl
@[go_sem] theorem own_37_9 : cfg.own 37 9 = true := by rfl
@[go_sem] theorem own_37_11 : cfg.own 37 11 = false := by rfl
@[go_sem] theorem own_38_7 : cfg.own 38 7 = false := by rfl
@[go_sem] theorem own_38_12 : cfg.own 38 12 = false := by rfl
@[go_sem] theorem own_40_18 : cfg.own 40 18 = false := by rfl
@[go_sem] theorem own_40_23 : cfg.own 40 23 = false := by rfl
@[go_sem] theorem own_40_39 : cfg.own 40 39 = false := by rfl
@[go_sem] theorem own_41_9 : cfg.own 41 9 = false := by rfl
@[go_sem] theorem own_42_23 : cfg.own 42 23 = false := by rfl
@[go_sem] theorem own_42_29 : cfg.own 42 29 = false := by rfl
@[go_sem] theorem own_42_30 : cfg.own 42 30 = false := by rfl
@[go_sem] theorem own_42_35 : cfg.own 42 35 = false := by rfl
@[go_sem] theorem own_42_36 : cfg.own 42 36 = false := by rfl
@[go_sem] theorem own_42_41 : cfg.own 42 41 = false := by rfl
@[go_sem] theorem own_42_42 : cfg.own 42 42 = false := by rfl
@[go_sem] theorem own_42_47 : cfg.own 42 47 = false := by rfl
@[go_sem] theorem own_42_48 : cfg.own 42 48 = false := by rfl
@[go_sem] theorem own_42_53 : cfg.own 42 53 = false := by rfl
@[go_sem] theorem own_42_61 : cfg.own 42 61 = false := by rfl
@[go_sem] theorem own_42_70 : cfg.own 42 70 = false := by rfl
@[go_sem] theorem own_42_71 : cfg.own 42 71 = false := by rfl
@[go_sem] theorem own_42_79 : cfg.own 42 79 = false := by rfl
@[go_sem] theorem own_42_84 : cfg.own 42 84 = false := by rfl
@[go_sem] theorem own_42_93 : cfg.own 42 93 = false := by rfl
@[go_sem] theorem own_42_98 : cfg.own 42 98 = false := by rfl
@[go_sem] theorem own_42_106 : cfg.own 42 106 = false := by rfl
@[go_sem] theorem own_42_112 : cfg.own 42 112 = false := by rfl
@[go_sem] theorem own_42_120 : cfg.own 42 120 = false := by rfl
@[go_sem] theorem own_43_13 : cfg.own 43 13 = false := by rfl
@[go_sem] theorem own_43_21 : cfg.own 43 21 = false := by rfl
@[go_sem] theorem own_43_34 : cfg.own 43 34 = false := by rfl
@[go_sem] theorem own_49_9 : cfg.own 49 9 = false := by rfl
@[go_sem] theorem own_50_23 : cfg.own 50 23 = false := by rfl
@[go_sem] theorem own_54_33 : cfg.own 54 33 = false := by rfl
@[go_sem] theorem own_54_64 : cfg.own 54 64 = false := by rfl
@[go_sem] theorem own_55_22 : cfg.own 55 22 = false := by rfl
@[go_sem] theorem own_55_23 : cfg.own 55 23 = false := by rfl
@[go_sem] theorem own_57_10 : cfg.own 57 10 = false := by rfl
@[go_sem] theorem own_57_28 : cfg.own 57 28 = false := by rfl
@[go_sem] theorem own_59_7 : cfg.own 59 7 = false := by rfl
@[go_sem] theorem own_60_9 : cfg.own 60 9 = false := by rfl
@[go_sem] theorem own_63_7 : cfg.own 63 7 = false := by rfl
@[go_sem] theorem own_64_10 : cfg.own 64 10 = false := by rfl
@[go_sem] theorem own_65_15 : cfg.own 65 15 = false := by rfl
@[go_sem] theorem own_70_17 : cfg.own 70 17 = false := by rfl
@[go_sem] theorem own_74_18 : cfg.own 74 18 = false := by rfl
@[go_sem] theorem own_74_23 : cfg.own 74 23 = false := by rfl
@[go_sem] theorem own_74_37 : cfg.own 74 37 = false := by rfl
@[go_sem] theorem own_74_43 : cfg.own 74 43 = false := by rfl
@[go_sem] theorem own_74_48 : cfg.own 74 48 = false := by rfl
@[go_sem] theorem own_74_79 : cfg.own 74 79 = false := by rfl
@[go_sem] theorem own_75_10 : cfg.own 75 10 = false := by rfl
@[go_sem] theorem own_75_17 : cfg.own 75 17 = false := by rfl
@[go_sem] theorem own_75_26 : cfg.own 75 26 = false := by rfl
@[go_sem] theorem own_75_30 : cfg.own 75 30 = true := by rfl
@[go_sem] theorem own_75_33 : cfg.own 75 33 = false := by rfl
@[go_sem] theorem own_75_36 : cfg.own 75 36 = true := by rfl
@[go_sem] theorem own_75_44 : cfg.own 75 44 = false := by rfl
@[go_sem] theorem own_75_47 : cfg.own 75 47 = false := by rfl
@[go_sem] theorem own_89_16 : cfg.own 89 16 = false := by rfl
@[go_sem] theorem own_94_30 : cfg.own 94 30 = false := by rfl
@[go_sem] theorem own_94_47 : cfg.own 94 47 = false := by rfl
@[go_sem] theorem own_94_71 : cfg.own 94 71 = false := by rfl
@[go_sem] theorem own_94_105 : cfg.own 94 105 = false := by rfl
@[go_sem] theorem own_94_112 : cfg.own 94 112 = false := by rfl
@[go_sem] theorem own_94_137 : cfg.own 94 137 = false := by rfl
@[go_sem] theorem own_100_11 : cfg.own 100 11 = false := by rfl
@[go_sem] theorem own_100_35 : cfg.own 100 35 = false := by rfl
@[go_sem] theorem own_100_41 : cfg.own 100 41 = false := by rfl
@[go_sem] theorem own_100_44 : cfg.own 100 44 = false := by rfl
@[go_sem] theorem own_100_45 : cfg.own 100 45 = false := by rfl
@[go_sem] theorem own_100_47 : cfg.own 100 47 = false := by rfl
@[go_sem] theorem own_100_55 : cfg.own 100 55 = false := by rfl
@[go_sem] theorem own_100_57 : cfg.own 100 57 = false := by rfl
@[go_sem] theorem own_100_78 : cfg.own 100 78 = false := by rfl
@[go_sem] theorem own_104_10 : cfg.own 104 10 = false := by rfl
@[go_sem] theorem own_106_10 : cfg.own 106 10 = false := by rfl
@[go_sem] theorem own_106_15 : cfg.own 106 15 = false := by rfl
@[go_sem] theorem own_106_22 : cfg.own 106 22 = false := by rfl
@[go_sem] theorem own_106_29 : cfg.own 106 29 = true := by rfl
@[go_sem] theorem own_106_33 : cfg.own 106 33 = false := by rfl
@[go_sem] theorem own_106_36 : cfg.own 106 36 = false := by rfl
@[go_sem] theorem own_108_67 : cfg.own 108 67 = false := by rfl
@[go_sem] theorem own_108_93 : cfg.own 108 93 = false := by rfl
@[go_sem] theorem own_110_67 : cfg.own 110 67 = false := by rfl
@[go_sem] theorem own_110_93 : cfg.own 110 93 = false := by rfl
@[go_sem] theorem own_113_21 : cfg.own 113 21 = false := by rfl
@[go_sem] theorem own_116_8 : cfg.own 116 8 = false := by rfl
@[go_sem] theorem own_149_7 : cfg.own 149 7 = false := by rfl
@[go_sem] theorem own_160_30 : cfg.own 160 30 = false := by rfl
@[go_sem] theorem own_160_46 : cfg.own 160 46 = false := by rfl
@[go_sem] theorem own_161_67 : cfg.own 161 67 = false := by rfl
@[go_sem] theorem own_161_93 : cfg.own 161 93 = false := by rfl
@[go_sem] theorem own_166_7 : cfg.own 166 7 = false := by rfl
@[go_sem] theorem own_182_16 : cfg.own 182 16 = false := by rfl
end Go.Proofs.YtmocnnknnbalkaaGreatDoor.X
