/- What functions answer, and the plain laws behind it. -/
import Derived.Test.YtdjdgnabcecdlaaGreatDoorEval
import Derived.Lib.Atoi
import Derived.Lib.Bytealg
import Derived.Test.YtdjdgnabcecdlaaGreatDoorTab
/- Functions of Go's library that are taken as a whole: definitions alone. -/
namespace Go.Proofs.YtdjdgnabcecdlaaGreatDoor.X
open Go
def keyOf : List IV → Int
  | [.v (.int _ n)] => n
  | _ => 0
def sortE (xs : List (List IV)) : List (List IV) := xs.mergeSort fun a b => decide (keyOf a ≤ keyOf b)
def isI64 : List IV → Bool
  | [.v (.int .i64 _)] => true
  | _ => false
/-- Of an empty slice the clone is empty: whether it is nil is not told. -/
def cloneP : List PV → List Arr → Option (PV × List Arr × List Arr)
  | [.i (.lst [])], [] => some (.i .emp, [], [])
  | [.i .emp], [] => some (.i .emp, [], [])
  | _, _ => none
def sortP : List PV → List Arr → Option (PV × List Arr × List Arr)
  | [.ref 1000 0 0 n], [.arr 0 1 xs] => if n = xs.length ∧ n ≤ 4000000 ∧ xs.all isI64 = true then some (.tup [], [.arr 0 1 (sortE xs)], []) else none
  | [.i .emp], [] => some (.tup [], [], [])
  | _, _ => none
def mulP : List PV → List Arr → Option (PV × List Arr × List Arr)
  | [.i (.v (.int .u64 a)), .i (.v (.int .u64 b))], [] =>
    if 0 ≤ a ∧ a < 18446744073709551616 ∧ 0 ≤ b ∧ b < 18446744073709551616 then some (.tup [.i (.v (.int .u64 (a * b / 18446744073709551616))), .i (.v (.int .u64 (a * b % 18446744073709551616)))], [], []) else none
  | _, _ => none
/-- An element goes in, not at the end. -/
def insP (k : Nat) : List PV → List Arr → Option (PV × List Arr × List Arr)
  | [.ref 1000 0 0 n, .i (.v (.int .i64 i)), .ref 1001 0 0 1], [.arr 0 k1 xs, .arr 0 k2 [x]] =>
    if (k1 = k ∧ k2 = k ∧ n = xs.length ∧ 0 ≤ i ∧ i < n ∧ n ≤ 1000000) ∧ x.length = k then some (.ref 1000 1 0 (n + 1), [.arr 1 k (xs.take i.toNat ++ x :: xs.drop i.toNat), .arr 0 k [x]], []) else none
  | _, _ => none
def keyE : List IV → Int × Int
  | [.v (.int _ a), .v (.int _ b)] => (a, b)
  | _ => (0, 0)
def isEd : List IV → Bool
  | [.v (.int .i64 _), .v (.int .i64 _)] => true
  | _ => false
/-- The first pair is not behind the second one. -/
def leE (a b : Int × Int) : Bool := decide (a.1 < b.1 ∨ (a.1 = b.1 ∧ a.2 ≤ b.2))
def sortF (xs : List (List IV)) : List (List IV) := xs.mergeSort fun a b => leE (keyE a) (keyE b)
def sortFP (c : FuncId) : List PV → List Arr → Option (PV × List Arr × List Arr)
  | [.ref 1000 0 0 n, .fn f [] []], [.arr 0 2 xs] => if f = c ∧ n = xs.length ∧ n ≤ 4000000 ∧ xs.all isEd = true then some (.tup [], [.arr 0 2 (sortF xs)], []) else none
  | [.i .emp, .fn f [] []], [] => if f = c then some (.tup [], [], []) else none
  | _, _ => none
/-- A string of bytes. -/
abbrev S (l : List UInt8) : PV := .i (.v (.string ⟨l.toArray⟩))
/-- A number below a hundred, in digits. -/
def dec2 (n : Nat) : List UInt8 := if n < 10 then [UInt8.ofNat (48 + n)] else [UInt8.ofNat (48 + n / 10), UInt8.ofNat (48 + n % 10)]
def itoaP : List PV → List Arr → Option (PV × List Arr × List Arr)
  | [.i (.v (.int .i64 n))], [] => if 0 ≤ n ∧ n < 100 then some (S (dec2 n.toNat), [], []) else none
  | _, _ => none
def atoiP : List PV → List Arr → Option (PV × List Arr × List Arr)
  | [.i (.v (.string s))], [] => if s.size ≤ 18 then (Lib.atoi s.data.toList).map fun n => (.tup [I n, .i (.v .nilIface)], [], []) else none
  | _, _ => none
/-- The place of a byte; how often a byte is there. -/
def idxP : List PV → List Arr → Option (PV × List Arr × List Arr)
  | [.i (.v (.string s)), .i (.v (.int .u8 c))], [] => some (I (Lib.indexByte s.data.toList c.toNat.toUInt8), [], [])
  | _, _ => none
def cntP : List PV → List Arr → Option (PV × List Arr × List Arr)
  | [.i (.v (.string s)), .i (.v (.string ⟨⟨[c]⟩⟩))], [] => some (I (Lib.countByte s.data.toList c), [], [])
  | _, _ => none
end Go.Proofs.YtdjdgnabcecdlaaGreatDoor.X

/- How this program's calls are taken. -/
namespace Go.Proofs.YtdjdgnabcecdlaaGreatDoor.X
open Go Go.Proofs
def cfg : Cfg where
  mutF f := mutL.contains f
  own me d := ownL.contains (me, d)
  prim f := if f = 74 then some (itoaP) else if f = 83 then some (insP 2) else if f = 84 then some (cloneP) else if f = 156 then some (sortP) else if f = 170 then some (mulP) else if f = 172 then some (cntP) else if f = 205 then some (atoiP) else if f = 206 then some (insP 1) else if f = 207 then some (cloneP) else if f = 208 then some (insP 1) else if f = 209 then some (cloneP) else if f = 233 then some (idxP) else none
  give me d := if me = 68 then d == 14 else false
@[go_sem] theorem give_3 (d : Nat) : cfg.give 3 d = false := by rfl
@[go_sem] theorem give_13 (d : Nat) : cfg.give 13 d = false := by rfl
@[go_sem] theorem give_14 (d : Nat) : cfg.give 14 d = false := by rfl
@[go_sem] theorem give_15 (d : Nat) : cfg.give 15 d = false := by rfl
@[go_sem] theorem give_16 (d : Nat) : cfg.give 16 d = false := by rfl
@[go_sem] theorem give_17 (d : Nat) : cfg.give 17 d = false := by rfl
@[go_sem] theorem give_18 (d : Nat) : cfg.give 18 d = false := by rfl
@[go_sem] theorem give_19 (d : Nat) : cfg.give 19 d = false := by rfl
@[go_sem] theorem give_23 (d : Nat) : cfg.give 23 d = false := by rfl
@[go_sem] theorem give_36 (d : Nat) : cfg.give 36 d = false := by rfl
@[go_sem] theorem give_46 (d : Nat) : cfg.give 46 d = false := by rfl
@[go_sem] theorem give_60 (d : Nat) : cfg.give 60 d = false := by rfl
@[go_sem] theorem give_61 (d : Nat) : cfg.give 61 d = false := by rfl
@[go_sem] theorem give_62 (d : Nat) : cfg.give 62 d = false := by rfl
@[go_sem] theorem give_63 (d : Nat) : cfg.give 63 d = false := by rfl
@[go_sem] theorem give_64 (d : Nat) : cfg.give 64 d = false := by rfl
@[go_sem] theorem give_65 (d : Nat) : cfg.give 65 d = false := by rfl
@[go_sem] theorem give_66 (d : Nat) : cfg.give 66 d = false := by rfl
@[go_sem] theorem give_67 (d : Nat) : cfg.give 67 d = false := by rfl
@[go_sem] theorem give_68 (d : Nat) : cfg.give 68 d = (d == 14) := by rfl
@[go_sem] theorem give_69 (d : Nat) : cfg.give 69 d = false := by rfl
@[go_sem] theorem give_70 (d : Nat) : cfg.give 70 d = false := by rfl
@[go_sem] theorem give_71 (d : Nat) : cfg.give 71 d = false := by rfl
@[go_sem] theorem give_72 (d : Nat) : cfg.give 72 d = false := by rfl
@[go_sem] theorem give_73 (d : Nat) : cfg.give 73 d = false := by rfl
@[go_sem] theorem give_76 (d : Nat) : cfg.give 76 d = false := by rfl
@[go_sem] theorem give_80 (d : Nat) : cfg.give 80 d = false := by rfl
@[go_sem] theorem give_81 (d : Nat) : cfg.give 81 d = false := by rfl
@[go_sem] theorem give_82 (d : Nat) : cfg.give 82 d = false := by rfl
@[go_sem] theorem give_83 (d : Nat) : cfg.give 83 d = false := by rfl
@[go_sem] theorem give_84 (d : Nat) : cfg.give 84 d = false := by rfl
@[go_sem] theorem give_85 (d : Nat) : cfg.give 85 d = false := by rfl
@[go_sem] theorem give_86 (d : Nat) : cfg.give 86 d = false := by rfl
@[go_sem] theorem give_92 (d : Nat) : cfg.give 92 d = false := by rfl
@[go_sem] theorem give_94 (d : Nat) : cfg.give 94 d = false := by rfl
@[go_sem] theorem give_96 (d : Nat) : cfg.give 96 d = false := by rfl
@[go_sem] theorem give_99 (d : Nat) : cfg.give 99 d = false := by rfl
@[go_sem] theorem give_105 (d : Nat) : cfg.give 105 d = false := by rfl
@[go_sem] theorem give_112 (d : Nat) : cfg.give 112 d = false := by rfl
@[go_sem] theorem give_125 (d : Nat) : cfg.give 125 d = false := by rfl
@[go_sem] theorem give_126 (d : Nat) : cfg.give 126 d = false := by rfl
@[go_sem] theorem give_127 (d : Nat) : cfg.give 127 d = false := by rfl
@[go_sem] theorem give_128 (d : Nat) : cfg.give 128 d = false := by rfl
@[go_sem] theorem give_129 (d : Nat) : cfg.give 129 d = false := by rfl
@[go_sem] theorem give_130 (d : Nat) : cfg.give 130 d = false := by rfl
@[go_sem] theorem give_131 (d : Nat) : cfg.give 131 d = false := by rfl
@[go_sem] theorem give_132 (d : Nat) : cfg.give 132 d = false := by rfl
@[go_sem] theorem give_133 (d : Nat) : cfg.give 133 d = false := by rfl
@[go_sem] theorem give_134 (d : Nat) : cfg.give 134 d = false := by rfl
@[go_sem] theorem give_135 (d : Nat) : cfg.give 135 d = false := by rfl
@[go_sem] theorem give_136 (d : Nat) : cfg.give 136 d = false := by rfl
@[go_sem] theorem give_138 (d : Nat) : cfg.give 138 d = false := by rfl
@[go_sem] theorem give_139 (d : Nat) : cfg.give 139 d = false := by rfl
@[go_sem] theorem give_140 (d : Nat) : cfg.give 140 d = false := by rfl
@[go_sem] theorem give_143 (d : Nat) : cfg.give 143 d = false := by rfl
@[go_sem] theorem give_144 (d : Nat) : cfg.give 144 d = false := by rfl
@[go_sem] theorem give_145 (d : Nat) : cfg.give 145 d = false := by rfl
@[go_sem] theorem give_146 (d : Nat) : cfg.give 146 d = false := by rfl
@[go_sem] theorem give_147 (d : Nat) : cfg.give 147 d = false := by rfl
@[go_sem] theorem give_150 (d : Nat) : cfg.give 150 d = false := by rfl
@[go_sem] theorem give_158 (d : Nat) : cfg.give 158 d = false := by rfl
@[go_sem] theorem give_163 (d : Nat) : cfg.give 163 d = false := by rfl
@[go_sem] theorem give_169 (d : Nat) : cfg.give 169 d = false := by rfl
@[go_sem] theorem give_173 (d : Nat) : cfg.give 173 d = false := by rfl
@[go_sem] theorem give_174 (d : Nat) : cfg.give 174 d = false := by rfl
@[go_sem] theorem give_175 (d : Nat) : cfg.give 175 d = false := by rfl
@[go_sem] theorem give_176 (d : Nat) : cfg.give 176 d = false := by rfl
@[go_sem] theorem give_180 (d : Nat) : cfg.give 180 d = false := by rfl
@[go_sem] theorem give_181 (d : Nat) : cfg.give 181 d = false := by rfl
@[go_sem] theorem give_182 (d : Nat) : cfg.give 182 d = false := by rfl
@[go_sem] theorem give_183 (d : Nat) : cfg.give 183 d = false := by rfl
@[go_sem] theorem give_186 (d : Nat) : cfg.give 186 d = false := by rfl
@[go_sem] theorem give_187 (d : Nat) : cfg.give 187 d = false := by rfl
@[go_sem] theorem give_193 (d : Nat) : cfg.give 193 d = false := by rfl
@[go_sem] theorem give_200 (d : Nat) : cfg.give 200 d = false := by rfl
@[go_sem] theorem give_201 (d : Nat) : cfg.give 201 d = false := by rfl
@[go_sem] theorem give_202 (d : Nat) : cfg.give 202 d = false := by rfl
@[go_sem] theorem give_204 (d : Nat) : cfg.give 204 d = false := by rfl
@[go_sem] theorem give_206 (d : Nat) : cfg.give 206 d = false := by rfl
@[go_sem] theorem give_207 (d : Nat) : cfg.give 207 d = false := by rfl
@[go_sem] theorem give_208 (d : Nat) : cfg.give 208 d = false := by rfl
@[go_sem] theorem give_209 (d : Nat) : cfg.give 209 d = false := by rfl
@[go_sem] theorem give_210 (d : Nat) : cfg.give 210 d = false := by rfl
@[go_sem] theorem give_237 (d : Nat) : cfg.give 237 d = false := by rfl
@[go_sem] theorem give_238 (d : Nat) : cfg.give 238 d = false := by rfl
@[go_sem] theorem give_239 (d : Nat) : cfg.give 239 d = false := by rfl
@[go_sem] theorem mut_3 : cfg.mutF 3 = false := by rfl
@[go_sem] theorem mut_13 : cfg.mutF 13 = false := by rfl
@[go_sem] theorem mut_14 : cfg.mutF 14 = false := by rfl
@[go_sem] theorem mut_15 : cfg.mutF 15 = false := by rfl
@[go_sem] theorem mut_16 : cfg.mutF 16 = false := by rfl
@[go_sem] theorem mut_17 : cfg.mutF 17 = false := by rfl
@[go_sem] theorem mut_18 : cfg.mutF 18 = false := by rfl
@[go_sem] theorem mut_19 : cfg.mutF 19 = false := by rfl
@[go_sem] theorem mut_23 : cfg.mutF 23 = false := by rfl
@[go_sem] theorem mut_26 : cfg.mutF 26 = false := by rfl
@[go_sem] theorem mut_31 : cfg.mutF 31 = false := by rfl
@[go_sem] theorem mut_36 : cfg.mutF 36 = false := by rfl
@[go_sem] theorem mut_37 : cfg.mutF 37 = false := by rfl
@[go_sem] theorem mut_40 : cfg.mutF 40 = false := by rfl
@[go_sem] theorem mut_42 : cfg.mutF 42 = false := by rfl
@[go_sem] theorem mut_44 : cfg.mutF 44 = false := by rfl
@[go_sem] theorem mut_46 : cfg.mutF 46 = false := by rfl
@[go_sem] theorem mut_60 : cfg.mutF 60 = false := by rfl
@[go_sem] theorem mut_61 : cfg.mutF 61 = false := by rfl
@[go_sem] theorem mut_62 : cfg.mutF 62 = false := by rfl
@[go_sem] theorem mut_63 : cfg.mutF 63 = false := by rfl
@[go_sem] theorem mut_64 : cfg.mutF 64 = false := by rfl
@[go_sem] theorem mut_65 : cfg.mutF 65 = false := by rfl
@[go_sem] theorem mut_66 : cfg.mutF 66 = false := by rfl
@[go_sem] theorem mut_67 : cfg.mutF 67 = false := by rfl
@[go_sem] theorem mut_68 : cfg.mutF 68 = false := by rfl
@[go_sem] theorem mut_69 : cfg.mutF 69 = false := by rfl
@[go_sem] theorem mut_70 : cfg.mutF 70 = false := by rfl
@[go_sem] theorem mut_71 : cfg.mutF 71 = false := by rfl
@[go_sem] theorem mut_72 : cfg.mutF 72 = true := by rfl
@[go_sem] theorem mut_73 : cfg.mutF 73 = false := by rfl
@[go_sem] theorem mut_74 : cfg.mutF 74 = false := by rfl
@[go_sem] theorem mut_76 : cfg.mutF 76 = false := by rfl
@[go_sem] theorem mut_80 : cfg.mutF 80 = false := by rfl
@[go_sem] theorem mut_81 : cfg.mutF 81 = false := by rfl
@[go_sem] theorem mut_82 : cfg.mutF 82 = false := by rfl
@[go_sem] theorem mut_83 : cfg.mutF 83 = true := by rfl
@[go_sem] theorem mut_84 : cfg.mutF 84 = false := by rfl
@[go_sem] theorem mut_85 : cfg.mutF 85 = false := by rfl
@[go_sem] theorem mut_86 : cfg.mutF 86 = false := by rfl
@[go_sem] theorem mut_92 : cfg.mutF 92 = false := by rfl
@[go_sem] theorem mut_94 : cfg.mutF 94 = false := by rfl
@[go_sem] theorem mut_96 : cfg.mutF 96 = true := by rfl
@[go_sem] theorem mut_99 : cfg.mutF 99 = false := by rfl
@[go_sem] theorem mut_105 : cfg.mutF 105 = false := by rfl
@[go_sem] theorem mut_112 : cfg.mutF 112 = false := by rfl
@[go_sem] theorem mut_125 : cfg.mutF 125 = true := by rfl
@[go_sem] theorem mut_126 : cfg.mutF 126 = true := by rfl
@[go_sem] theorem mut_127 : cfg.mutF 127 = true := by rfl
@[go_sem] theorem mut_128 : cfg.mutF 128 = false := by rfl
@[go_sem] theorem mut_129 : cfg.mutF 129 = false := by rfl
@[go_sem] theorem mut_130 : cfg.mutF 130 = true := by rfl
@[go_sem] theorem mut_131 : cfg.mutF 131 = false := by rfl
@[go_sem] theorem mut_132 : cfg.mutF 132 = false := by rfl
@[go_sem] theorem mut_133 : cfg.mutF 133 = false := by rfl
@[go_sem] theorem mut_134 : cfg.mutF 134 = false := by rfl
@[go_sem] theorem mut_135 : cfg.mutF 135 = false := by rfl
@[go_sem] theorem mut_136 : cfg.mutF 136 = false := by rfl
@[go_sem] theorem mut_137 : cfg.mutF 137 = true := by rfl
@[go_sem] theorem mut_138 : cfg.mutF 138 = true := by rfl
@[go_sem] theorem mut_139 : cfg.mutF 139 = false := by rfl
@[go_sem] theorem mut_140 : cfg.mutF 140 = true := by rfl
@[go_sem] theorem mut_143 : cfg.mutF 143 = false := by rfl
@[go_sem] theorem mut_144 : cfg.mutF 144 = false := by rfl
@[go_sem] theorem mut_145 : cfg.mutF 145 = false := by rfl
@[go_sem] theorem mut_146 : cfg.mutF 146 = false := by rfl
@[go_sem] theorem mut_147 : cfg.mutF 147 = false := by rfl
@[go_sem] theorem mut_148 : cfg.mutF 148 = false := by rfl
@[go_sem] theorem mut_149 : cfg.mutF 149 = false := by rfl
@[go_sem] theorem mut_150 : cfg.mutF 150 = false := by rfl
@[go_sem] theorem mut_156 : cfg.mutF 156 = true := by rfl
@[go_sem] theorem mut_158 : cfg.mutF 158 = false := by rfl
@[go_sem] theorem mut_163 : cfg.mutF 163 = false := by rfl
@[go_sem] theorem mut_169 : cfg.mutF 169 = false := by rfl
@[go_sem] theorem mut_170 : cfg.mutF 170 = false := by rfl
@[go_sem] theorem mut_171 : cfg.mutF 171 = false := by rfl
@[go_sem] theorem mut_172 : cfg.mutF 172 = false := by rfl
@[go_sem] theorem mut_173 : cfg.mutF 173 = false := by rfl
@[go_sem] theorem mut_174 : cfg.mutF 174 = false := by rfl
@[go_sem] theorem mut_175 : cfg.mutF 175 = false := by rfl
@[go_sem] theorem mut_176 : cfg.mutF 176 = false := by rfl
@[go_sem] theorem mut_180 : cfg.mutF 180 = false := by rfl
@[go_sem] theorem mut_181 : cfg.mutF 181 = false := by rfl
@[go_sem] theorem mut_182 : cfg.mutF 182 = false := by rfl
@[go_sem] theorem mut_183 : cfg.mutF 183 = false := by rfl
@[go_sem] theorem mut_184 : cfg.mutF 184 = false := by rfl
@[go_sem] theorem mut_186 : cfg.mutF 186 = false := by rfl
@[go_sem] theorem mut_187 : cfg.mutF 187 = false := by rfl
@[go_sem] theorem mut_193 : cfg.mutF 193 = false := by rfl
@[go_sem] theorem mut_200 : cfg.mutF 200 = false := by rfl
@[go_sem] theorem mut_201 : cfg.mutF 201 = false := by rfl
@[go_sem] theorem mut_202 : cfg.mutF 202 = false := by rfl
@[go_sem] theorem mut_204 : cfg.mutF 204 = false := by rfl
@[go_sem] theorem mut_205 : cfg.mutF 205 = false := by rfl
@[go_sem] theorem mut_206 : cfg.mutF 206 = true := by rfl
@[go_sem] theorem mut_207 : cfg.mutF 207 = false := by rfl
@[go_sem] theorem mut_208 : cfg.mutF 208 = true := by rfl
@[go_sem] theorem mut_209 : cfg.mutF 209 = false := by rfl
@[go_sem] theorem mut_210 : cfg.mutF 210 = false := by rfl
@[go_sem] theorem mut_233 : cfg.mutF 233 = false := by rfl
@[go_sem] theorem mut_234 : cfg.mutF 234 = false := by rfl
@[go_sem] theorem mut_235 : cfg.mutF 235 = false := by rfl
@[go_sem] theorem mut_236 : cfg.mutF 236 = false := by rfl
@[go_sem] theorem mut_237 : cfg.mutF 237 = false := by rfl
@[go_sem] theorem mut_238 : cfg.mutF 238 = false := by rfl
@[go_sem] theorem mut_239 : cfg.mutF 239 = false := by rfl
@[go_sem] theorem mut_243 : cfg.mutF 243 = false := by rfl
@[go_sem] theorem mut_244 : cfg.mutF 244 = false := by rfl
@[go_sem] theorem mut_245 : cfg.mutF 245 = false := by rfl
@[go_sem] theorem mut_246 : cfg.mutF 246 = false := by rfl
@[go_sem] theorem own_3_17 : cfg.own 3 17 = false := by rfl
@[go_sem] theorem own_3_25 : cfg.own 3 25 = false := by rfl
@[go_sem] theorem own_3_32 : cfg.own 3 32 = false := by rfl
@[go_sem] theorem own_3_37 : cfg.own 3 37 = false := by rfl
@[go_sem] theorem own_3_50 : cfg.own 3 50 = false := by rfl
@[go_sem] theorem own_3_59 : cfg.own 3 59 = false := by rfl
@[go_sem] theorem own_3_74 : cfg.own 3 74 = false := by rfl
@[go_sem] theorem own_3_78 : cfg.own 3 78 = false := by rfl
@[go_sem] theorem own_3_84 : cfg.own 3 84 = false := by rfl
@[go_sem] theorem own_3_87 : cfg.own 3 87 = false := by rfl
@[go_sem] theorem own_13_6 : cfg.own 13 6 = false := by rfl
@[go_sem] theorem own_14_19 : cfg.own 14 19 = false := by rfl
@[go_sem] theorem own_14_25 : cfg.own 14 25 = false := by rfl
@[go_sem] theorem own_14_36 : cfg.own 14 36 = false := by rfl
@[go_sem] theorem own_14_43 : cfg.own 14 43 = false := by rfl
@[go_sem] theorem own_15_18 : cfg.own 15 18 = false := by rfl
@[go_sem] theorem own_15_25 : cfg.own 15 25 = false := by rfl
@[go_sem] theorem own_15_38 : cfg.own 15 38 = false := by rfl
@[go_sem] theorem own_15_55 : cfg.own 15 55 = false := by rfl
@[go_sem] theorem own_16_25 : cfg.own 16 25 = false := by rfl
@[go_sem] theorem own_18_12 : cfg.own 18 12 = false := by rfl
@[go_sem] theorem own_18_16 : cfg.own 18 16 = false := by rfl
@[go_sem] theorem own_18_36 : cfg.own 18 36 = false := by rfl
@[go_sem] theorem own_19_4 : cfg.own 19 4 = false := by rfl
@[go_sem] theorem own_19_8 : cfg.own 19 8 = false := by rfl
@[go_sem] theorem own_19_11 : cfg.own 19 11 = false := by rfl
@[go_sem] theorem own_23_10 : cfg.own 23 10 = false := by rfl
@[go_sem] theorem own_23_15 : cfg.own 23 15 = false := by rfl
@[go_sem] theorem own_23_22 : cfg.own 23 22 = false := by rfl
@[go_sem] theorem own_23_29 : cfg.own 23 29 = true := by rfl
@[go_sem] theorem own_23_33 : cfg.own 23 33 = false := by rfl
@[go_sem] theorem own_23_36 : cfg.own 23 36 = false := by rfl
@[go_sem] theorem own_36_55 : cfg.own 36 55 = false := by rfl
@[go_sem] theorem own_60_10 : cfg.own 60 10 = true := by rfl
@[go_sem] theorem own_60_12 : cfg.own 60 12 = false := by rfl
@[go_sem] theorem own_60_16 : cfg.own 60 16 = false := by rfl
@[go_sem] theorem own_60_20 : cfg.own 60 20 = false := by rfl
@[go_sem] theorem own_60_22 : cfg.own 60 22 = false := by rfl
@[go_sem] theorem own_60_26 : cfg.own 60 26 = false := by rfl
@[go_sem] theorem own_60_30 : cfg.own 60 30 = false := by rfl
@[go_sem] theorem own_60_37 : cfg.own 60 37 = false := by rfl
@[go_sem] theorem own_61_9 : cfg.own 61 9 = false := by rfl
@[go_sem] theorem own_61_13 : cfg.own 61 13 = false := by rfl
@[go_sem] theorem own_62_22 : cfg.own 62 22 = false := by rfl
@[go_sem] theorem own_62_29 : cfg.own 62 29 = false := by rfl
@[go_sem] theorem own_63_16 : cfg.own 63 16 = true := by rfl
@[go_sem] theorem own_63_34 : cfg.own 63 34 = false := by rfl
@[go_sem] theorem own_63_52 : cfg.own 63 52 = false := by rfl
@[go_sem] theorem own_65_28 : cfg.own 65 28 = false := by rfl
@[go_sem] theorem own_66_9 : cfg.own 66 9 = false := by rfl
@[go_sem] theorem own_66_13 : cfg.own 66 13 = false := by rfl
@[go_sem] theorem own_67_18 : cfg.own 67 18 = false := by rfl
@[go_sem] theorem own_67_38 : cfg.own 67 38 = false := by rfl
@[go_sem] theorem own_68_53 : cfg.own 68 53 = false := by rfl
@[go_sem] theorem own_71_7 : cfg.own 71 7 = false := by rfl
@[go_sem] theorem own_72_14 : cfg.own 72 14 = false := by rfl
@[go_sem] theorem own_72_22 : cfg.own 72 22 = false := by rfl
@[go_sem] theorem own_72_28 : cfg.own 72 28 = false := by rfl
@[go_sem] theorem own_72_37 : cfg.own 72 37 = false := by rfl
@[go_sem] theorem own_72_44 : cfg.own 72 44 = false := by rfl
@[go_sem] theorem own_72_49 : cfg.own 72 49 = false := by rfl
@[go_sem] theorem own_72_56 : cfg.own 72 56 = false := by rfl
@[go_sem] theorem own_73_16 : cfg.own 73 16 = false := by rfl
@[go_sem] theorem own_73_21 : cfg.own 73 21 = false := by rfl
@[go_sem] theorem own_76_59 : cfg.own 76 59 = false := by rfl
@[go_sem] theorem own_80_8 : cfg.own 80 8 = false := by rfl
@[go_sem] theorem own_81_30 : cfg.own 81 30 = false := by rfl
@[go_sem] theorem own_81_46 : cfg.own 81 46 = false := by rfl
@[go_sem] theorem own_82_9 : cfg.own 82 9 = false := by rfl
@[go_sem] theorem own_82_14 : cfg.own 82 14 = false := by rfl
@[go_sem] theorem own_82_16 : cfg.own 82 16 = false := by rfl
@[go_sem] theorem own_83_67 : cfg.own 83 67 = false := by rfl
@[go_sem] theorem own_83_93 : cfg.own 83 93 = false := by rfl
@[go_sem] theorem own_86_23 : cfg.own 86 23 = false := by rfl
@[go_sem] theorem own_92_21 : cfg.own 92 21 = false := by rfl
@[go_sem] theorem own_99_6 : cfg.own 99 6 = false := by rfl
@[go_sem] theorem own_105_9 : cfg.own 105 9 = false := by rfl
@[go_sem] theorem own_112_37 : cfg.own 112 37 = false := by rfl
@[go_sem] theorem own_125_9 : cfg.own 125 9 = false := by rfl
@[go_sem] theorem own_125_13 : cfg.own 125 13 = false := by rfl
@[go_sem] theorem own_125_21 : cfg.own 125 21 = false := by rfl
@[go_sem] theorem own_125_25 : cfg.own 125 25 = false := by rfl
@[go_sem] theorem own_125_34 : cfg.own 125 34 = false := by rfl
@[go_sem] theorem own_125_35 : cfg.own 125 35 = false := by rfl
@[go_sem] theorem own_125_42 : cfg.own 125 42 = false := by rfl
@[go_sem] theorem own_125_43 : cfg.own 125 43 = false := by rfl
@[go_sem] theorem own_126_8 : cfg.own 126 8 = true := by rfl
@[go_sem] theorem own_126_10 : cfg.own 126 10 = false := by rfl
@[go_sem] theorem own_126_23 : cfg.own 126 23 = false := by rfl
@[go_sem] theorem own_126_25 : cfg.own 126 25 = false := by rfl
@[go_sem] theorem own_126_33 : cfg.own 126 33 = false := by rfl
@[go_sem] theorem own_126_40 : cfg.own 126 40 = false := by rfl
@[go_sem] theorem own_127_9 : cfg.own 127 9 = false := by rfl
@[go_sem] theorem own_129_18 : cfg.own 129 18 = false := by rfl
@[go_sem] theorem own_131_6 : cfg.own 131 6 = false := by rfl
@[go_sem] theorem own_132_39 : cfg.own 132 39 = false := by rfl
@[go_sem] theorem own_132_61 : cfg.own 132 61 = false := by rfl
@[go_sem] theorem own_133_11 : cfg.own 133 11 = false := by rfl
@[go_sem] theorem own_133_15 : cfg.own 133 15 = true := by rfl
@[go_sem] theorem own_133_19 : cfg.own 133 19 = true := by rfl
@[go_sem] theorem own_135_18 : cfg.own 135 18 = false := by rfl
@[go_sem] theorem own_135_23 : cfg.own 135 23 = false := by rfl
@[go_sem] theorem own_135_39 : cfg.own 135 39 = false := by rfl
@[go_sem] theorem own_136_9 : cfg.own 136 9 = false := by rfl
@[go_sem] theorem own_138_13 : cfg.own 138 13 = false := by rfl
@[go_sem] theorem own_138_21 : cfg.own 138 21 = false := by rfl
@[go_sem] theorem own_138_34 : cfg.own 138 34 = false := by rfl
@[go_sem] theorem own_139_13 : cfg.own 139 13 = false := by rfl
@[go_sem] theorem own_139_23 : cfg.own 139 23 = false := by rfl
@[go_sem] theorem own_140_39 : cfg.own 140 39 = false := by rfl
@[go_sem] theorem own_140_44 : cfg.own 140 44 = false := by rfl
@[go_sem] theorem own_140_50 : cfg.own 140 50 = false := by rfl
@[go_sem] theorem own_140_60 : cfg.own 140 60 = false := by rfl
@[go_sem] theorem own_140_71 : cfg.own 140 71 = false := by rfl
@[go_sem] theorem own_140_85 : cfg.own 140 85 = false := by rfl
@[go_sem] theorem own_140_87 : cfg.own 140 87 = false := by rfl
@[go_sem] theorem own_140_95 : cfg.own 140 95 = false := by rfl
@[go_sem] theorem own_140_112 : cfg.own 140 112 = false := by rfl
@[go_sem] theorem own_140_115 : cfg.own 140 115 = false := by rfl
@[go_sem] theorem own_140_125 : cfg.own 140 125 = false := by rfl
@[go_sem] theorem own_140_130 : cfg.own 140 130 = false := by rfl
@[go_sem] theorem own_140_140 : cfg.own 140 140 = false := by rfl
@[go_sem] theorem own_140_151 : cfg.own 140 151 = false := by rfl
@[go_sem] theorem own_140_155 : cfg.own 140 155 = false := by rfl
@[go_sem] theorem own_140_158 : cfg.own 140 158 = false := by rfl
@[go_sem] theorem own_140_169 : cfg.own 140 169 = false := by rfl
@[go_sem] theorem own_140_176 : cfg.own 140 176 = false := by rfl
@[go_sem] theorem own_140_178 : cfg.own 140 178 = false := by rfl
@[go_sem] theorem own_145_7 : cfg.own 145 7 = false := by rfl
@[go_sem] theorem own_147_8 : cfg.own 147 8 = false := by rfl
@[go_sem] theorem own_147_10 : cfg.own 147 10 = false := by rfl
@[go_sem] theorem own_158_22 : cfg.own 158 22 = false := by rfl
@[go_sem] theorem own_158_23 : cfg.own 158 23 = false := by rfl
@[go_sem] theorem own_163_7 : cfg.own 163 7 = false := by rfl
@[go_sem] theorem own_173_7 : cfg.own 173 7 = false := by rfl
@[go_sem] theorem own_174_10 : cfg.own 174 10 = false := by rfl
@[go_sem] theorem own_175_15 : cfg.own 175 15 = false := by rfl
@[go_sem] theorem own_176_17 : cfg.own 176 17 = false := by rfl
@[go_sem] theorem own_180_18 : cfg.own 180 18 = false := by rfl
@[go_sem] theorem own_180_23 : cfg.own 180 23 = false := by rfl
@[go_sem] theorem own_180_37 : cfg.own 180 37 = false := by rfl
@[go_sem] theorem own_180_43 : cfg.own 180 43 = false := by rfl
@[go_sem] theorem own_180_48 : cfg.own 180 48 = false := by rfl
@[go_sem] theorem own_180_79 : cfg.own 180 79 = false := by rfl
@[go_sem] theorem own_181_10 : cfg.own 181 10 = false := by rfl
@[go_sem] theorem own_181_17 : cfg.own 181 17 = false := by rfl
@[go_sem] theorem own_181_26 : cfg.own 181 26 = false := by rfl
@[go_sem] theorem own_181_30 : cfg.own 181 30 = true := by rfl
@[go_sem] theorem own_181_33 : cfg.own 181 33 = false := by rfl
@[go_sem] theorem own_181_36 : cfg.own 181 36 = true := by rfl
@[go_sem] theorem own_181_44 : cfg.own 181 44 = false := by rfl
@[go_sem] theorem own_181_47 : cfg.own 181 47 = false := by rfl
@[go_sem] theorem own_182_8 : cfg.own 182 8 = false := by rfl
@[go_sem] theorem own_182_25 : cfg.own 182 25 = false := by rfl
@[go_sem] theorem own_183_11 : cfg.own 183 11 = false := by rfl
@[go_sem] theorem own_183_16 : cfg.own 183 16 = false := by rfl
@[go_sem] theorem own_193_16 : cfg.own 193 16 = false := by rfl
@[go_sem] theorem own_200_30 : cfg.own 200 30 = false := by rfl
@[go_sem] theorem own_200_47 : cfg.own 200 47 = false := by rfl
@[go_sem] theorem own_200_71 : cfg.own 200 71 = false := by rfl
@[go_sem] theorem own_200_105 : cfg.own 200 105 = false := by rfl
@[go_sem] theorem own_200_112 : cfg.own 200 112 = false := by rfl
@[go_sem] theorem own_200_137 : cfg.own 200 137 = false := by rfl
@[go_sem] theorem own_201_11 : cfg.own 201 11 = false := by rfl
@[go_sem] theorem own_201_35 : cfg.own 201 35 = false := by rfl
@[go_sem] theorem own_201_41 : cfg.own 201 41 = false := by rfl
@[go_sem] theorem own_201_44 : cfg.own 201 44 = false := by rfl
@[go_sem] theorem own_201_45 : cfg.own 201 45 = false := by rfl
@[go_sem] theorem own_201_47 : cfg.own 201 47 = false := by rfl
@[go_sem] theorem own_201_55 : cfg.own 201 55 = false := by rfl
@[go_sem] theorem own_201_57 : cfg.own 201 57 = false := by rfl
@[go_sem] theorem own_201_78 : cfg.own 201 78 = false := by rfl
@[go_sem] theorem own_204_10 : cfg.own 204 10 = false := by rfl
@[go_sem] theorem own_206_67 : cfg.own 206 67 = false := by rfl
@[go_sem] theorem own_206_93 : cfg.own 206 93 = false := by rfl
@[go_sem] theorem own_208_67 : cfg.own 208 67 = false := by rfl
@[go_sem] theorem own_208_93 : cfg.own 208 93 = false := by rfl
end Go.Proofs.YtdjdgnabcecdlaaGreatDoor.X
