/- The kit's contract of slices.Sort at integers, laid at this translation by the kit's own tools, in plain words. -/
import Derived.Shelf.Sort.Plain
import Derived.Shelf.Slices.In.SortNone
import Derived.Shelf.Bits.Mul64
import Derived.Ground.Names2Prog
import Derived.Shelf.SlGeneric
import Derived.Shelf.SlSortCmp.NoneTotal
import Derived.Ground.SlsfProg
import Derived.Test.YtagpdfbgimnljaaProg
set_option linter.unusedVariables false
namespace Go.Proofs
open Go.Shelf
def Try.lays189_ren : Go.Shelf.Ren := ⟨fun | 189 => 140 | 125 => 187 | 257 => 190 | 128 => 212 | 129 => 213 | 294 => 215 | 295 => 216 | 296 => 217 | 297 => 218 | 298 => 219 | 299 => 220 | 216 => 221 | 300 => 222 | 301 => 223 | 328 => 236 | 329 => 232 | 330 => 233 | 331 => 237 | 332 => 238 | 215 => 214 | 343 => 244 | n => n, fun | 28 => 56 | 3 => 3 | 46 => 192 | 0 => 0 | 51 => 212 | 53 => 214 | 4 => 4 | 183 => 206 | 182 => 205 | 131 => 102 | 5 => 5 | 9 => 9 | 218 => 225 | 222 => 229 | 228 => 238 | 229 => 239 | n => n, fun | n => n⟩
theorem Try.lays189 : Go.Proofs.Lays.n189 Try.prog Try.lays189_ren := {
  mixed := by kernel_rfl
  f125 := Try.func187.trans (congrArg some (by kernel_rfl))
  f128 := Try.func212.trans (congrArg some (by kernel_rfl))
  f129 := Try.func213.trans (congrArg some (by kernel_rfl))
  f189 := Try.func140.trans (congrArg some (by kernel_rfl))
  f215 := Try.func214.trans (congrArg some (by kernel_rfl))
  f216 := Try.func221.trans (congrArg some (by kernel_rfl))
  f257 := Try.func190.trans (congrArg some (by kernel_rfl))
  f294 := Try.func215.trans (congrArg some (by kernel_rfl))
  f295 := Try.func216.trans (congrArg some (by kernel_rfl))
  f296 := Try.func217.trans (congrArg some (by kernel_rfl))
  f297 := Try.func218.trans (congrArg some (by kernel_rfl))
  f298 := Try.func219.trans (congrArg some (by kernel_rfl))
  f299 := Try.func220.trans (congrArg some (by kernel_rfl))
  f300 := Try.func222.trans (congrArg some (by kernel_rfl))
  f301 := Try.func223.trans (congrArg some (by kernel_rfl))
  f328 := Try.func236.trans (congrArg some (by kernel_rfl))
  f329 := Try.func232.trans (congrArg some (by kernel_rfl))
  f330 := Try.func233.trans (congrArg some (by kernel_rfl))
  f331 := Try.func237.trans (congrArg some (by kernel_rfl))
  f332 := Try.func238.trans (congrArg some (by kernel_rfl))
  f343 := Try.func244.trans (congrArg some (by kernel_rfl))
  t0 := Try.underlying0
  a0 := Try.isAgg0
  z0 := Try.sizeOf0
  v0 := Try.zeroValue0
  t3 := Try.underlying3
  a3 := Try.isAgg3
  z3 := Try.sizeOf3
  v3 := Try.zeroValue3
  t4 := Try.underlying4
  a4 := Try.isAgg4
  z4 := Try.sizeOf4
  v4 := Try.zeroValue4
  t5 := Try.underlying5
  a5 := Try.isAgg5
  z5 := Try.sizeOf5
  v5 := Try.zeroValue5
  t9 := Try.underlying9
  a9 := Try.isAgg9
  z9 := Try.sizeOf9
  v9 := Try.zeroValue9
  t28 := Try.underlying56
  a28 := Try.isAgg56
  z28 := Try.sizeOf56
  v28 := Try.zeroValue56
  t46 := Try.underlying192
  a46 := Try.isAgg192
  z46 := Try.sizeOf192
  v46 := Try.zeroValue192
  t51 := Try.underlying212
  a51 := Try.isAgg212
  z51 := Try.sizeOf212
  v51 := Try.zeroValue212
  t53 := Try.underlying214
  a53 := Try.isAgg214
  z53 := Try.sizeOf214
  v53 := Try.zeroValue214
  t131 := Try.underlying102
  a131 := Try.isAgg102
  z131 := Try.sizeOf102
  v131 := Try.zeroValue102
  t182 := Try.underlying205
  a182 := Try.isAgg205
  z182 := Try.sizeOf205
  v182 := Try.zeroValue205
  t183 := Try.underlying206
  a183 := Try.isAgg206
  z183 := Try.sizeOf206
  v183 := Try.zeroValue206
  t218 := Try.underlying225
  a218 := Try.isAgg225
  z218 := Try.sizeOf225
  v218 := Try.zeroValue225
  t222 := Try.underlying229
  a222 := Try.isAgg229
  z222 := Try.sizeOf229
  v222 := Try.zeroValue229
  t228 := Try.underlying238
  a228 := Try.isAgg238
  z228 := Try.sizeOf238
  v228 := Try.zeroValue238
  t229 := Try.underlying239
  a229 := Try.isAgg239
  z229 := Try.sizeOf239
  v229 := Try.zeroValue239 }
open Go.Sort Go.RowKit in
theorem Try.slices_Sort_int (blk off cap : Nat) (zs : List Int) (w : World) (hH : Holds (Value.int .i64) w blk off zs.toArray) (hblk : blk < w.heap.size) (hsz : zs.length < 4611686018427387904) :
    Calls Try.prog 140 #[.slice (some ⟨blk, off, none⟩) zs.length cap] w fun e w' =>
      e = .returned (.tuple #[]) ∧ ∃ n os, w' = grow (putRow (Value.int .i64) (Sort.ahead w n) blk off (zs.mergeSort fun x y => decide (x ≤ y)).toArray) os := Any.slices_Sort_int Try.lays189 blk off cap zs w hH hblk hsz
def Try.lays264_ren : Go.Shelf.Ren := ⟨fun | 264 => 240 | n => n, fun | 53 => 214 | 46 => 192 | n => n, fun | n => n⟩
theorem Try.lays264 : Go.Proofs.Lays.n264 Try.prog Try.lays264_ren := {
  mixed := by kernel_rfl
  f264 := Try.func240.trans (congrArg some (by kernel_rfl))
  t46 := Try.underlying192
  a46 := Try.isAgg192
  z46 := Try.sizeOf192
  v46 := Try.zeroValue192
  t53 := Try.underlying214
  a53 := Try.isAgg214
  z53 := Try.sizeOf214
  v53 := Try.zeroValue214 }
open Go.RowKit Go.Lib in
theorem Try.bits_Mul64 (x y : Nat) (hx : x < 18446744073709551616) (hy : y < 18446744073709551616) (w : World) :
    Calls Try.prog 240 #[.int .u64 x, .int .u64 y] w fun e w' => e = .returned (.tuple #[.int .u64 ((x * y / 18446744073709551616 : Nat) : Int), .int .u64 ((x * y % 18446744073709551616 : Nat) : Int)]) ∧ w' = w := Any.bits_Mul64 Try.lays264 x y hx hy w
def Try.lays212_ren : Go.Shelf.Ren := ⟨fun | 212 => 224 | 263 => 239 | 264 => 240 | n => n, fun | 46 => 192 | 51 => 212 | 146 => 233 | 53 => 214 | 148 => 235 | n => n, fun | n => n⟩
theorem Try.lays212 : Go.Proofs.Lays.n212 Try.prog Try.lays212_ren := {
  mixed := by kernel_rfl
  f212 := Try.func224.trans (congrArg some (by kernel_rfl))
  f263 := Try.func239.trans (congrArg some (by kernel_rfl))
  f264 := Try.func240.trans (congrArg some (by kernel_rfl))
  t46 := Try.underlying192
  a46 := Try.isAgg192
  z46 := Try.sizeOf192
  v46 := Try.zeroValue192
  t51 := Try.underlying212
  a51 := Try.isAgg212
  z51 := Try.sizeOf212
  v51 := Try.zeroValue212
  t53 := Try.underlying214
  a53 := Try.isAgg214
  z53 := Try.sizeOf214
  v53 := Try.zeroValue214
  t146 := Try.underlying233
  a146 := Try.isAgg233
  z146 := Try.sizeOf233
  v146 := Try.zeroValue233
  t148 := Try.underlying235
  a148 := Try.isAgg235
  z148 := Try.sizeOf235
  v148 := Try.zeroValue235 }
open Go.RowKit Go.Lib in
theorem Try.bits_Mul (x y : Nat) (hx : x < 18446744073709551616) (hy : y < 18446744073709551616) (w : World) :
    Calls Try.prog 224 #[.int .u64 x, .int .u64 y] w fun e w' => e = .returned (.tuple #[.int .u64 ((x * y / 18446744073709551616 : Nat) : Int), .int .u64 ((x * y % 18446744073709551616 : Nat) : Int)]) ∧ w' = w := Any.bits_Mul Try.lays212 x y hx hy w
open Go.RowKit Go.Sort in
theorem Try.slices_Sort_int_none (p : Option Addr) (cap : Nat) (w : World) :
    Calls Try.prog 140 #[.slice p 0 cap] w fun e w' => e = .returned (.tuple #[]) ∧ w' = w := Any.slices_Sort_int_none Try.lays189 p cap w
def Try.sortE_ren : Go.Shelf.Ren := ⟨fun | 6 => 138 | 15 => 187 | 14 => 186 | 28 => 212 | 29 => 213 | 20 => 204 | 21 => 205 | 22 => 206 | 23 => 207 | 24 => 208 | 25 => 209 | 26 => 210 | 27 => 211 | 46 => 231 | 47 => 232 | 48 => 233 | 49 => 234 | 50 => 235 | 57 => 243 | n => n, fun | 22 => 50 | 24 => 37 | 25 => 163 | 3 => 3 | 39 => 192 | 0 => 0 | 53 => 212 | 55 => 214 | 4 => 4 | 46 => 206 | 45 => 205 | 50 => 102 | 5 => 5 | 9 => 9 | 66 => 225 | 70 => 229 | 76 => 238 | 77 => 239 | n => n, fun | n => n⟩
theorem Try.sortE : Go.Proofs.SlLaysF0.n6 Try.prog Try.sortE_ren := {
  mixed := by kernel_rfl
  f6 := ⟨Try.f138.name, by decide, Try.func138.trans (congrArg some (by kernel_rfl))⟩
  f14 := ⟨Try.f186.name, by decide, Try.func186.trans (congrArg some (by kernel_rfl))⟩
  f15 := Try.func187.trans (congrArg some (by kernel_rfl))
  f20 := ⟨Try.f204.name, by decide, Try.func204.trans (congrArg some (by kernel_rfl))⟩
  f21 := ⟨Try.f205.name, by decide, Try.func205.trans (congrArg some (by kernel_rfl))⟩
  f22 := ⟨Try.f206.name, by decide, Try.func206.trans (congrArg some (by kernel_rfl))⟩
  f23 := ⟨Try.f207.name, by decide, Try.func207.trans (congrArg some (by kernel_rfl))⟩
  f24 := ⟨Try.f208.name, by decide, Try.func208.trans (congrArg some (by kernel_rfl))⟩
  f25 := ⟨Try.f209.name, by decide, Try.func209.trans (congrArg some (by kernel_rfl))⟩
  f26 := ⟨Try.f210.name, by decide, Try.func210.trans (congrArg some (by kernel_rfl))⟩
  f27 := ⟨Try.f211.name, by decide, Try.func211.trans (congrArg some (by kernel_rfl))⟩
  f28 := Try.func212.trans (congrArg some (by kernel_rfl))
  f29 := Try.func213.trans (congrArg some (by kernel_rfl))
  f46 := ⟨Try.f231.name, by decide, Try.func231.trans (congrArg some (by kernel_rfl))⟩
  f47 := Try.func232.trans (congrArg some (by kernel_rfl))
  f48 := Try.func233.trans (congrArg some (by kernel_rfl))
  f49 := ⟨Try.f234.name, by decide, Try.func234.trans (congrArg some (by kernel_rfl))⟩
  f50 := ⟨Try.f235.name, by decide, Try.func235.trans (congrArg some (by kernel_rfl))⟩
  f57 := ⟨Try.f243.name, by decide, Try.func243.trans (congrArg some (by kernel_rfl))⟩
  t0 := Try.underlying0
  a0 := Try.isAgg0
  z0 := Try.sizeOf0
  v0 := Try.zeroValue0
  t3 := Try.underlying3
  a3 := Try.isAgg3
  z3 := Try.sizeOf3
  v3 := Try.zeroValue3
  t4 := Try.underlying4
  a4 := Try.isAgg4
  z4 := Try.sizeOf4
  v4 := Try.zeroValue4
  t5 := Try.underlying5
  a5 := Try.isAgg5
  z5 := Try.sizeOf5
  v5 := Try.zeroValue5
  t9 := Try.underlying9
  a9 := Try.isAgg9
  z9 := Try.sizeOf9
  v9 := Try.zeroValue9
  t22 := Try.underlying50
  a22 := Try.isAgg50
  z22 := Try.sizeOf50
  v22 := Try.zeroValue50
  t25 := Try.underlying163
  a25 := Try.isAgg163
  z25 := Try.sizeOf163
  v25 := Try.zeroValue163
  t39 := Try.underlying192
  a39 := Try.isAgg192
  z39 := Try.sizeOf192
  v39 := Try.zeroValue192
  t45 := Try.underlying205
  a45 := Try.isAgg205
  z45 := Try.sizeOf205
  v45 := Try.zeroValue205
  t46 := Try.underlying206
  a46 := Try.isAgg206
  z46 := Try.sizeOf206
  v46 := Try.zeroValue206
  t50 := Try.underlying102
  a50 := Try.isAgg102
  z50 := Try.sizeOf102
  v50 := Try.zeroValue102
  t53 := Try.underlying212
  a53 := Try.isAgg212
  z53 := Try.sizeOf212
  v53 := Try.zeroValue212
  t55 := Try.underlying214
  a55 := Try.isAgg214
  z55 := Try.sizeOf214
  v55 := Try.zeroValue214
  t66 := Try.underlying225
  a66 := Try.isAgg225
  z66 := Try.sizeOf225
  v66 := Try.zeroValue225
  t70 := Try.underlying229
  a70 := Try.isAgg229
  z70 := Try.sizeOf229
  v70 := Try.zeroValue229
  t76 := Try.underlying238
  a76 := Try.isAgg238
  z76 := Try.sizeOf238
  v76 := Try.zeroValue238
  t77 := Try.underlying239
  a77 := Try.isAgg239
  z77 := Try.sizeOf239
  v77 := Try.zeroValue239 }
open Go.Sort Go.RowKit in
theorem Try.slices_SortFunc_none_E (p : Option Addr) (cap : Nat) (fv : Value) (w : World) :
    Calls Try.prog 138 #[.slice p 0 cap, fv] w fun e w' => e = .returned (.tuple #[]) ∧ w' = w := AnyF.slices_SortFunc_none Try.sortE p cap fv w
end Go.Proofs
