/- The kit's contract of slices.Sort at integers, laid at this translation by the kit's own tools, in plain words. -/
import Derived.Shelf.Sort.Plain
import Derived.Shelf.Slices.In.SortNone
import Derived.Shelf.Bits.Mul64
import Derived.Ground.Names2Prog
import Derived.Shelf.SlGeneric
import Derived.Shelf.SlSortCmp.NoneTotal
import Derived.Ground.SlsfProg
import Derived.Test.YteknfomddncboaaProg
set_option linter.unusedVariables false
namespace Go.Proofs
open Go.Shelf
def Try.lays189_ren : Go.Shelf.Ren := ⟨fun | 189 => 142 | 125 => 159 | 257 => 160 | 128 => 178 | 129 => 179 | 294 => 180 | 295 => 181 | 296 => 182 | 297 => 183 | 298 => 184 | 299 => 185 | 216 => 186 | 300 => 187 | 301 => 188 | 328 => 198 | 329 => 194 | 330 => 195 | 331 => 199 | 332 => 200 | 215 => 161 | 343 => 203 | n => n, fun | 28 => 56 | 3 => 3 | 46 => 173 | 0 => 0 | 51 => 199 | 53 => 201 | 4 => 4 | 183 => 193 | 182 => 192 | 131 => 79 | 5 => 5 | 9 => 9 | 218 => 212 | 222 => 216 | 228 => 220 | 229 => 221 | n => n, fun | n => n⟩
theorem Try.lays189 : Go.Proofs.Lays.n189 Try.prog Try.lays189_ren := {
  mixed := by kernel_rfl
  f125 := Try.func159.trans (congrArg some (by kernel_rfl))
  f128 := Try.func178.trans (congrArg some (by kernel_rfl))
  f129 := Try.func179.trans (congrArg some (by kernel_rfl))
  f189 := Try.func142.trans (congrArg some (by kernel_rfl))
  f215 := Try.func161.trans (congrArg some (by kernel_rfl))
  f216 := Try.func186.trans (congrArg some (by kernel_rfl))
  f257 := Try.func160.trans (congrArg some (by kernel_rfl))
  f294 := Try.func180.trans (congrArg some (by kernel_rfl))
  f295 := Try.func181.trans (congrArg some (by kernel_rfl))
  f296 := Try.func182.trans (congrArg some (by kernel_rfl))
  f297 := Try.func183.trans (congrArg some (by kernel_rfl))
  f298 := Try.func184.trans (congrArg some (by kernel_rfl))
  f299 := Try.func185.trans (congrArg some (by kernel_rfl))
  f300 := Try.func187.trans (congrArg some (by kernel_rfl))
  f301 := Try.func188.trans (congrArg some (by kernel_rfl))
  f328 := Try.func198.trans (congrArg some (by kernel_rfl))
  f329 := Try.func194.trans (congrArg some (by kernel_rfl))
  f330 := Try.func195.trans (congrArg some (by kernel_rfl))
  f331 := Try.func199.trans (congrArg some (by kernel_rfl))
  f332 := Try.func200.trans (congrArg some (by kernel_rfl))
  f343 := Try.func203.trans (congrArg some (by kernel_rfl))
  t0 := Try.underlying0
  a0 := Try.isAgg0
  z0 := Try.sizeOf0
  v0 := Try.zeroValue0
  t3 := Try.underlying3
  a3 := Try.isAgg3
  z3 := Try.sizeOf3
  v3 := Try.zeroValue3
  t4 := Try.underlying4
  a4 := Try.isAgg4
  z4 := Try.sizeOf4
  v4 := Try.zeroValue4
  t5 := Try.underlying5
  a5 := Try.isAgg5
  z5 := Try.sizeOf5
  v5 := Try.zeroValue5
  t9 := Try.underlying9
  a9 := Try.isAgg9
  z9 := Try.sizeOf9
  v9 := Try.zeroValue9
  t28 := Try.underlying56
  a28 := Try.isAgg56
  z28 := Try.sizeOf56
  v28 := Try.zeroValue56
  t46 := Try.underlying173
  a46 := Try.isAgg173
  z46 := Try.sizeOf173
  v46 := Try.zeroValue173
  t51 := Try.underlying199
  a51 := Try.isAgg199
  z51 := Try.sizeOf199
  v51 := Try.zeroValue199
  t53 := Try.underlying201
  a53 := Try.isAgg201
  z53 := Try.sizeOf201
  v53 := Try.zeroValue201
  t131 := Try.underlying79
  a131 := Try.isAgg79
  z131 := Try.sizeOf79
  v131 := Try.zeroValue79
  t182 := Try.underlying192
  a182 := Try.isAgg192
  z182 := Try.sizeOf192
  v182 := Try.zeroValue192
  t183 := Try.underlying193
  a183 := Try.isAgg193
  z183 := Try.sizeOf193
  v183 := Try.zeroValue193
  t218 := Try.underlying212
  a218 := Try.isAgg212
  z218 := Try.sizeOf212
  v218 := Try.zeroValue212
  t222 := Try.underlying216
  a222 := Try.isAgg216
  z222 := Try.sizeOf216
  v222 := Try.zeroValue216
  t228 := Try.underlying220
  a228 := Try.isAgg220
  z228 := Try.sizeOf220
  v228 := Try.zeroValue220
  t229 := Try.underlying221
  a229 := Try.isAgg221
  z229 := Try.sizeOf221
  v229 := Try.zeroValue221 }
open Go.Sort Go.RowKit in
theorem Try.slices_Sort_int (blk off cap : Nat) (zs : List Int) (w : World) (hH : Holds (Value.int .i64) w blk off zs.toArray) (hblk : blk < w.heap.size) (hsz : zs.length < 4611686018427387904) :
    Calls Try.prog 142 #[.slice (some ⟨blk, off, none⟩) zs.length cap] w fun e w' =>
      e = .returned (.tuple #[]) ∧ ∃ n os, w' = grow (putRow (Value.int .i64) (Sort.ahead w n) blk off (zs.mergeSort fun x y => decide (x ≤ y)).toArray) os := Any.slices_Sort_int Try.lays189 blk off cap zs w hH hblk hsz
def Try.lays264_ren : Go.Shelf.Ren := ⟨fun | 264 => 192 | n => n, fun | 53 => 201 | 46 => 173 | n => n, fun | n => n⟩
theorem Try.lays264 : Go.Proofs.Lays.n264 Try.prog Try.lays264_ren := {
  mixed := by kernel_rfl
  f264 := Try.func192.trans (congrArg some (by kernel_rfl))
  t46 := Try.underlying173
  a46 := Try.isAgg173
  z46 := Try.sizeOf173
  v46 := Try.zeroValue173
  t53 := Try.underlying201
  a53 := Try.isAgg201
  z53 := Try.sizeOf201
  v53 := Try.zeroValue201 }
open Go.RowKit Go.Lib in
theorem Try.bits_Mul64 (x y : Nat) (hx : x < 18446744073709551616) (hy : y < 18446744073709551616) (w : World) :
    Calls Try.prog 192 #[.int .u64 x, .int .u64 y] w fun e w' => e = .returned (.tuple #[.int .u64 ((x * y / 18446744073709551616 : Nat) : Int), .int .u64 ((x * y % 18446744073709551616 : Nat) : Int)]) ∧ w' = w := Any.bits_Mul64 Try.lays264 x y hx hy w
def Try.lays212_ren : Go.Shelf.Ren := ⟨fun | 212 => 169 | 263 => 191 | 264 => 192 | n => n, fun | 46 => 173 | 51 => 199 | 146 => 208 | 53 => 201 | 148 => 210 | n => n, fun | n => n⟩
theorem Try.lays212 : Go.Proofs.Lays.n212 Try.prog Try.lays212_ren := {
  mixed := by kernel_rfl
  f212 := Try.func169.trans (congrArg some (by kernel_rfl))
  f263 := Try.func191.trans (congrArg some (by kernel_rfl))
  f264 := Try.func192.trans (congrArg some (by kernel_rfl))
  t46 := Try.underlying173
  a46 := Try.isAgg173
  z46 := Try.sizeOf173
  v46 := Try.zeroValue173
  t51 := Try.underlying199
  a51 := Try.isAgg199
  z51 := Try.sizeOf199
  v51 := Try.zeroValue199
  t53 := Try.underlying201
  a53 := Try.isAgg201
  z53 := Try.sizeOf201
  v53 := Try.zeroValue201
  t146 := Try.underlying208
  a146 := Try.isAgg208
  z146 := Try.sizeOf208
  v146 := Try.zeroValue208
  t148 := Try.underlying210
  a148 := Try.isAgg210
  z148 := Try.sizeOf210
  v148 := Try.zeroValue210 }
open Go.RowKit Go.Lib in
theorem Try.bits_Mul (x y : Nat) (hx : x < 18446744073709551616) (hy : y < 18446744073709551616) (w : World) :
    Calls Try.prog 169 #[.int .u64 x, .int .u64 y] w fun e w' => e = .returned (.tuple #[.int .u64 ((x * y / 18446744073709551616 : Nat) : Int), .int .u64 ((x * y % 18446744073709551616 : Nat) : Int)]) ∧ w' = w := Any.bits_Mul Try.lays212 x y hx hy w
open Go.RowKit Go.Sort in
theorem Try.slices_Sort_int_none (p : Option Addr) (cap : Nat) (w : World) :
    Calls Try.prog 142 #[.slice p 0 cap] w fun e w' => e = .returned (.tuple #[]) ∧ w' = w := Any.slices_Sort_int_none Try.lays189 p cap w
def Try.sortE_ren : Go.Shelf.Ren := ⟨fun | 6 => 141 | 15 => 159 | 14 => 158 | 28 => 178 | 29 => 179 | 20 => 170 | 21 => 171 | 22 => 172 | 23 => 173 | 24 => 174 | 25 => 175 | 26 => 176 | 27 => 177 | 46 => 193 | 47 => 194 | 48 => 195 | 49 => 196 | 50 => 197 | 57 => 202 | n => n, fun | 22 => 50 | 24 => 37 | 25 => 146 | 3 => 3 | 39 => 173 | 0 => 0 | 53 => 199 | 55 => 201 | 4 => 4 | 46 => 193 | 45 => 192 | 50 => 79 | 5 => 5 | 9 => 9 | 66 => 212 | 70 => 216 | 76 => 220 | 77 => 221 | n => n, fun | n => n⟩
theorem Try.sortE : Go.Proofs.SlLaysF0.n6 Try.prog Try.sortE_ren := {
  mixed := by kernel_rfl
  f6 := ⟨Try.f141.name, by decide, Try.func141.trans (congrArg some (by kernel_rfl))⟩
  f14 := ⟨Try.f158.name, by decide, Try.func158.trans (congrArg some (by kernel_rfl))⟩
  f15 := Try.func159.trans (congrArg some (by kernel_rfl))
  f20 := ⟨Try.f170.name, by decide, Try.func170.trans (congrArg some (by kernel_rfl))⟩
  f21 := ⟨Try.f171.name, by decide, Try.func171.trans (congrArg some (by kernel_rfl))⟩
  f22 := ⟨Try.f172.name, by decide, Try.func172.trans (congrArg some (by kernel_rfl))⟩
  f23 := ⟨Try.f173.name, by decide, Try.func173.trans (congrArg some (by kernel_rfl))⟩
  f24 := ⟨Try.f174.name, by decide, Try.func174.trans (congrArg some (by kernel_rfl))⟩
  f25 := ⟨Try.f175.name, by decide, Try.func175.trans (congrArg some (by kernel_rfl))⟩
  f26 := ⟨Try.f176.name, by decide, Try.func176.trans (congrArg some (by kernel_rfl))⟩
  f27 := ⟨Try.f177.name, by decide, Try.func177.trans (congrArg some (by kernel_rfl))⟩
  f28 := Try.func178.trans (congrArg some (by kernel_rfl))
  f29 := Try.func179.trans (congrArg some (by kernel_rfl))
  f46 := ⟨Try.f193.name, by decide, Try.func193.trans (congrArg some (by kernel_rfl))⟩
  f47 := Try.func194.trans (congrArg some (by kernel_rfl))
  f48 := Try.func195.trans (congrArg some (by kernel_rfl))
  f49 := ⟨Try.f196.name, by decide, Try.func196.trans (congrArg some (by kernel_rfl))⟩
  f50 := ⟨Try.f197.name, by decide, Try.func197.trans (congrArg some (by kernel_rfl))⟩
  f57 := ⟨Try.f202.name, by decide, Try.func202.trans (congrArg some (by kernel_rfl))⟩
  t0 := Try.underlying0
  a0 := Try.isAgg0
  z0 := Try.sizeOf0
  v0 := Try.zeroValue0
  t3 := Try.underlying3
  a3 := Try.isAgg3
  z3 := Try.sizeOf3
  v3 := Try.zeroValue3
  t4 := Try.underlying4
  a4 := Try.isAgg4
  z4 := Try.sizeOf4
  v4 := Try.zeroValue4
  t5 := Try.underlying5
  a5 := Try.isAgg5
  z5 := Try.sizeOf5
  v5 := Try.zeroValue5
  t9 := Try.underlying9
  a9 := Try.isAgg9
  z9 := Try.sizeOf9
  v9 := Try.zeroValue9
  t22 := Try.underlying50
  a22 := Try.isAgg50
  z22 := Try.sizeOf50
  v22 := Try.zeroValue50
  t25 := Try.underlying146
  a25 := Try.isAgg146
  z25 := Try.sizeOf146
  v25 := Try.zeroValue146
  t39 := Try.underlying173
  a39 := Try.isAgg173
  z39 := Try.sizeOf173
  v39 := Try.zeroValue173
  t45 := Try.underlying192
  a45 := Try.isAgg192
  z45 := Try.sizeOf192
  v45 := Try.zeroValue192
  t46 := Try.underlying193
  a46 := Try.isAgg193
  z46 := Try.sizeOf193
  v46 := Try.zeroValue193
  t50 := Try.underlying79
  a50 := Try.isAgg79
  z50 := Try.sizeOf79
  v50 := Try.zeroValue79
  t53 := Try.underlying199
  a53 := Try.isAgg199
  z53 := Try.sizeOf199
  v53 := Try.zeroValue199
  t55 := Try.underlying201
  a55 := Try.isAgg201
  z55 := Try.sizeOf201
  v55 := Try.zeroValue201
  t66 := Try.underlying212
  a66 := Try.isAgg212
  z66 := Try.sizeOf212
  v66 := Try.zeroValue212
  t70 := Try.underlying216
  a70 := Try.isAgg216
  z70 := Try.sizeOf216
  v70 := Try.zeroValue216
  t76 := Try.underlying220
  a76 := Try.isAgg220
  z76 := Try.sizeOf220
  v76 := Try.zeroValue220
  t77 := Try.underlying221
  a77 := Try.isAgg221
  z77 := Try.sizeOf221
  v77 := Try.zeroValue221 }
open Go.Sort Go.RowKit in
theorem Try.slices_SortFunc_none_E (p : Option Addr) (cap : Nat) (fv : Value) (w : World) :
    Calls Try.prog 141 #[.slice p 0 cap, fv] w fun e w' => e = .returned (.tuple #[]) ∧ w' = w := AnyF.slices_SortFunc_none Try.sortE p cap fv w
end Go.Proofs
