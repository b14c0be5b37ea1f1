/- The kit's contract of slices.Sort at integers, laid at this translation by the kit's own tools, in plain words. -/
import Derived.Shelf.Sort.Plain
import Derived.Shelf.Slices.In.SortNone
import Derived.Shelf.Bits.Mul64
import Derived.Ground.Names2Prog
import Derived.Test.YtjffaedlmplcnaaProg
set_option linter.unusedVariables false
namespace Go.Proofs
open Go.Shelf
def Try.lays189_ren : Go.Shelf.Ren := ⟨fun | 189 => 153 | 125 => 164 | 257 => 163 | 128 => 177 | 129 => 178 | 294 => 168 | 295 => 169 | 296 => 170 | 297 => 171 | 298 => 172 | 299 => 173 | 216 => 174 | 300 => 175 | 301 => 176 | 328 => 179 | 329 => 180 | 330 => 181 | 331 => 182 | 332 => 183 | 215 => 157 | 343 => 184 | n => n, fun | 28 => 26 | 3 => 3 | 46 => 176 | 0 => 0 | 51 => 193 | 53 => 196 | 4 => 4 | 183 => 205 | 182 => 204 | 131 => 96 | 5 => 5 | 9 => 9 | 218 => 212 | 222 => 216 | 228 => 218 | 229 => 219 | n => n, fun | n => n⟩
theorem Try.lays189 : Go.Proofs.Lays.n189 Try.prog Try.lays189_ren := {
  mixed := by kernel_rfl
  f125 := Try.func164.trans (congrArg some (by kernel_rfl))
  f128 := Try.func177.trans (congrArg some (by kernel_rfl))
  f129 := Try.func178.trans (congrArg some (by kernel_rfl))
  f189 := Try.func153.trans (congrArg some (by kernel_rfl))
  f215 := Try.func157.trans (congrArg some (by kernel_rfl))
  f216 := Try.func174.trans (congrArg some (by kernel_rfl))
  f257 := Try.func163.trans (congrArg some (by kernel_rfl))
  f294 := Try.func168.trans (congrArg some (by kernel_rfl))
  f295 := Try.func169.trans (congrArg some (by kernel_rfl))
  f296 := Try.func170.trans (congrArg some (by kernel_rfl))
  f297 := Try.func171.trans (congrArg some (by kernel_rfl))
  f298 := Try.func172.trans (congrArg some (by kernel_rfl))
  f299 := Try.func173.trans (congrArg some (by kernel_rfl))
  f300 := Try.func175.trans (congrArg some (by kernel_rfl))
  f301 := Try.func176.trans (congrArg some (by kernel_rfl))
  f328 := Try.func179.trans (congrArg some (by kernel_rfl))
  f329 := Try.func180.trans (congrArg some (by kernel_rfl))
  f330 := Try.func181.trans (congrArg some (by kernel_rfl))
  f331 := Try.func182.trans (congrArg some (by kernel_rfl))
  f332 := Try.func183.trans (congrArg some (by kernel_rfl))
  f343 := Try.func184.trans (congrArg some (by kernel_rfl))
  t0 := Try.underlying0
  a0 := Try.isAgg0
  z0 := Try.sizeOf0
  v0 := Try.zeroValue0
  t3 := Try.underlying3
  a3 := Try.isAgg3
  z3 := Try.sizeOf3
  v3 := Try.zeroValue3
  t4 := Try.underlying4
  a4 := Try.isAgg4
  z4 := Try.sizeOf4
  v4 := Try.zeroValue4
  t5 := Try.underlying5
  a5 := Try.isAgg5
  z5 := Try.sizeOf5
  v5 := Try.zeroValue5
  t9 := Try.underlying9
  a9 := Try.isAgg9
  z9 := Try.sizeOf9
  v9 := Try.zeroValue9
  t28 := Try.underlying26
  a28 := Try.isAgg26
  z28 := Try.sizeOf26
  v28 := Try.zeroValue26
  t46 := Try.underlying176
  a46 := Try.isAgg176
  z46 := Try.sizeOf176
  v46 := Try.zeroValue176
  t51 := Try.underlying193
  a51 := Try.isAgg193
  z51 := Try.sizeOf193
  v51 := Try.zeroValue193
  t53 := Try.underlying196
  a53 := Try.isAgg196
  z53 := Try.sizeOf196
  v53 := Try.zeroValue196
  t131 := Try.underlying96
  a131 := Try.isAgg96
  z131 := Try.sizeOf96
  v131 := Try.zeroValue96
  t182 := Try.underlying204
  a182 := Try.isAgg204
  z182 := Try.sizeOf204
  v182 := Try.zeroValue204
  t183 := Try.underlying205
  a183 := Try.isAgg205
  z183 := Try.sizeOf205
  v183 := Try.zeroValue205
  t218 := Try.underlying212
  a218 := Try.isAgg212
  z218 := Try.sizeOf212
  v218 := Try.zeroValue212
  t222 := Try.underlying216
  a222 := Try.isAgg216
  z222 := Try.sizeOf216
  v222 := Try.zeroValue216
  t228 := Try.underlying218
  a228 := Try.isAgg218
  z228 := Try.sizeOf218
  v228 := Try.zeroValue218
  t229 := Try.underlying219
  a229 := Try.isAgg219
  z229 := Try.sizeOf219
  v229 := Try.zeroValue219 }
open Go.Sort Go.RowKit in
theorem Try.slices_Sort_int (blk off cap : Nat) (zs : List Int) (w : World) (hH : Holds (Value.int .i64) w blk off zs.toArray) (hblk : blk < w.heap.size) (hsz : zs.length < 4611686018427387904) :
    Calls Try.prog 153 #[.slice (some ⟨blk, off, none⟩) zs.length cap] w fun e w' =>
      e = .returned (.tuple #[]) ∧ ∃ n os, w' = grow (putRow (Value.int .i64) (Sort.ahead w n) blk off (zs.mergeSort fun x y => decide (x ≤ y)).toArray) os := Any.slices_Sort_int Try.lays189 blk off cap zs w hH hblk hsz
def Try.lays264_ren : Go.Shelf.Ren := ⟨fun | 264 => 162 | n => n, fun | 53 => 196 | 46 => 176 | n => n, fun | n => n⟩
theorem Try.lays264 : Go.Proofs.Lays.n264 Try.prog Try.lays264_ren := {
  mixed := by kernel_rfl
  f264 := Try.func162.trans (congrArg some (by kernel_rfl))
  t46 := Try.underlying176
  a46 := Try.isAgg176
  z46 := Try.sizeOf176
  v46 := Try.zeroValue176
  t53 := Try.underlying196
  a53 := Try.isAgg196
  z53 := Try.sizeOf196
  v53 := Try.zeroValue196 }
open Go.RowKit Go.Lib in
theorem Try.bits_Mul64 (x y : Nat) (hx : x < 18446744073709551616) (hy : y < 18446744073709551616) (w : World) :
    Calls Try.prog 162 #[.int .u64 x, .int .u64 y] w fun e w' => e = .returned (.tuple #[.int .u64 ((x * y / 18446744073709551616 : Nat) : Int), .int .u64 ((x * y % 18446744073709551616 : Nat) : Int)]) ∧ w' = w := Any.bits_Mul64 Try.lays264 x y hx hy w
def Try.lays212_ren : Go.Shelf.Ren := ⟨fun | 212 => 152 | 263 => 161 | 264 => 162 | n => n, fun | 46 => 176 | 51 => 193 | 146 => 194 | 53 => 196 | 148 => 197 | n => n, fun | n => n⟩
theorem Try.lays212 : Go.Proofs.Lays.n212 Try.prog Try.lays212_ren := {
  mixed := by kernel_rfl
  f212 := Try.func152.trans (congrArg some (by kernel_rfl))
  f263 := Try.func161.trans (congrArg some (by kernel_rfl))
  f264 := Try.func162.trans (congrArg some (by kernel_rfl))
  t46 := Try.underlying176
  a46 := Try.isAgg176
  z46 := Try.sizeOf176
  v46 := Try.zeroValue176
  t51 := Try.underlying193
  a51 := Try.isAgg193
  z51 := Try.sizeOf193
  v51 := Try.zeroValue193
  t53 := Try.underlying196
  a53 := Try.isAgg196
  z53 := Try.sizeOf196
  v53 := Try.zeroValue196
  t146 := Try.underlying194
  a146 := Try.isAgg194
  z146 := Try.sizeOf194
  v146 := Try.zeroValue194
  t148 := Try.underlying197
  a148 := Try.isAgg197
  z148 := Try.sizeOf197
  v148 := Try.zeroValue197 }
open Go.RowKit Go.Lib in
theorem Try.bits_Mul (x y : Nat) (hx : x < 18446744073709551616) (hy : y < 18446744073709551616) (w : World) :
    Calls Try.prog 152 #[.int .u64 x, .int .u64 y] w fun e w' => e = .returned (.tuple #[.int .u64 ((x * y / 18446744073709551616 : Nat) : Int), .int .u64 ((x * y % 18446744073709551616 : Nat) : Int)]) ∧ w' = w := Any.bits_Mul Try.lays212 x y hx hy w
open Go.RowKit Go.Sort in
theorem Try.slices_Sort_int_none (p : Option Addr) (cap : Nat) (w : World) :
    Calls Try.prog 153 #[.slice p 0 cap] w fun e w' => e = .returned (.tuple #[]) ∧ w' = w := Any.slices_Sort_int_none Try.lays189 p cap w
end Go.Proofs
