/- Facts of one program's tables. -/
import Derived.Test.YteknfomddncboaaEval
import Derived.Test.YteknfomddncboaaProg
namespace Go.Proofs.Yteknfomddncboaa.X
open Go Go.Proofs
set_option maxRecDepth 100000
attribute [go_sem] Try.underlying0 Try.underlying1 Try.underlying2 Try.underlying3 Try.underlying4 Try.underlying5 Try.underlying6 Try.underlying7 Try.underlying8 Try.underlying9 Try.underlying10 Try.underlying11 Try.underlying12 Try.underlying13 Try.underlying14 Try.underlying15 Try.underlying16 Try.underlying17 Try.underlying18 Try.underlying19 Try.underlying20 Try.underlying21 Try.underlying22 Try.underlying23 Try.underlying24 Try.underlying25 Try.underlying26 Try.underlying27 Try.underlying28 Try.underlying29 Try.underlying30 Try.underlying31 Try.underlying32 Try.underlying33 Try.underlying34 Try.underlying35 Try.underlying36 Try.underlying37 Try.underlying38 Try.underlying39 Try.underlying40 Try.underlying41 Try.underlying42 Try.underlying43 Try.underlying44 Try.underlying45 Try.underlying46 Try.underlying47 Try.underlying48 Try.underlying49 Try.underlying50 Try.underlying51 Try.underlying52 Try.underlying53 Try.underlying54 Try.underlying55 Try.underlying56 Try.underlying57 Try.underlying58 Try.underlying59 Try.underlying60 Try.underlying61 Try.underlying62 Try.underlying63 Try.underlying64 Try.underlying65 Try.underlying66 Try.underlying67 Try.underlying68 Try.underlying69 Try.underlying70 Try.underlying71 Try.underlying72 Try.underlying73 Try.underlying74 Try.underlying75 Try.underlying76 Try.underlying77 Try.underlying78 Try.underlying79 Try.underlying80 Try.underlying81 Try.underlying82 Try.underlying83 Try.underlying84 Try.underlying85 Try.underlying86 Try.underlying87 Try.underlying88 Try.underlying89 Try.underlying90 Try.underlying91 Try.underlying92 Try.underlying93 Try.underlying94 Try.underlying95 Try.underlying96 Try.underlying97 Try.underlying98 Try.underlying99 Try.underlying100 Try.underlying101 Try.underlying102 Try.underlying103 Try.underlying104 Try.underlying105 Try.underlying106 Try.underlying107 Try.underlying108 Try.underlying109 Try.underlying110 Try.underlying111 Try.underlying112 Try.underlying113 Try.underlying114 Try.underlying115 Try.underlying116 Try.underlying117 Try.underlying118 Try.underlying119 Try.underlying120 Try.underlying121 Try.underlying122 Try.underlying123 Try.underlying124 Try.underlying125 Try.underlying126 Try.underlying127 Try.underlying128 Try.underlying129 Try.underlying130 Try.underlying131 Try.underlying132 Try.underlying133 Try.underlying134 Try.underlying135 Try.underlying136 Try.underlying137 Try.underlying138 Try.underlying139 Try.underlying140 Try.underlying141 Try.underlying142 Try.underlying143 Try.underlying144 Try.underlying145 Try.underlying146 Try.underlying147 Try.underlying148 Try.underlying149 Try.underlying150 Try.underlying151 Try.underlying152 Try.underlying153 Try.underlying154 Try.underlying155 Try.underlying156 Try.underlying157 Try.underlying158 Try.underlying159 Try.underlying160 Try.underlying161 Try.underlying162 Try.underlying163 Try.underlying164 Try.underlying165 Try.underlying166 Try.underlying167 Try.underlying168 Try.underlying169 Try.underlying170 Try.underlying171 Try.underlying172 Try.underlying173 Try.underlying174 Try.underlying175 Try.underlying176 Try.underlying177 Try.underlying178 Try.underlying179 Try.underlying180 Try.underlying181 Try.underlying182 Try.underlying183 Try.underlying184 Try.underlying185 Try.underlying186 Try.underlying187 Try.underlying188 Try.underlying189 Try.underlying190 Try.underlying191 Try.underlying192 Try.underlying193 Try.underlying194 Try.underlying195 Try.underlying196 Try.underlying197 Try.underlying198 Try.underlying199 Try.underlying200 Try.underlying201 Try.underlying202 Try.underlying203 Try.underlying204 Try.underlying205 Try.underlying206 Try.underlying207 Try.underlying208 Try.underlying209 Try.underlying210 Try.underlying211 Try.underlying212 Try.underlying213 Try.underlying214 Try.underlying215 Try.underlying216 Try.underlying217 Try.underlying218 Try.underlying219 Try.underlying220 Try.underlying221 Try.underlying222 Try.underlying223 Try.underlying224 Try.underlying225 Try.underlying226 Try.underlying227 Try.underlying228 Try.underlying229 Try.underlying230 Try.underlying231 Try.underlying232 Try.underlying233 Try.underlying234 Try.underlying235 Try.underlying236 Try.underlying237 Try.underlying238 Try.underlying239 Try.underlying240
theorem info_of {P : Program} {t n : Nat} {i : TypeInfo} (h : P.types.size = n) (hl : t < n) (hi : P.types[t]? = some i) : P.info? t = some i := by
  unfold Tables.info?
  rw [if_pos (by rw [h]; exact hl)]
  exact hi
def zB (n : Nat) : List IV := List.replicate n (.v (.bool false))
def fld (P : Program) (t i : Nat) : Field := (fieldT P t i).getD ⟨ "", 0, 0, false, "", "", 0⟩
@[go_sem] theorem info_3 : Try.prog.info? 3 = some Try.t3 := info_of Try.types_size (by decide) Try.type3
@[go_sem] theorem tz_3 : Try.t3.size = 1 := rfl
@[go_sem] theorem tb_3 : Try.t3.bytes = 8 := rfl
@[go_sem] theorem sz_3 : szOf Try.prog 3 = some 1 := by rw [szOf, info_3]; rfl
@[go_sem] theorem ag_3 : isAggT Try.prog 3 = some false := by rw [isAggT, Try.underlying3]; rfl
@[go_sem] theorem ze_3 : zeroC Try.prog 3 = some [(.v (.int .i64 0))] := by rw [zeroC, info_3]; rfl
@[go_sem] theorem info_4 : Try.prog.info? 4 = some Try.t4 := info_of Try.types_size (by decide) Try.type4
@[go_sem] theorem tz_4 : Try.t4.size = 1 := rfl
@[go_sem] theorem tb_4 : Try.t4.bytes = 1 := rfl
@[go_sem] theorem sz_4 : szOf Try.prog 4 = some 1 := by rw [szOf, info_4]; rfl
@[go_sem] theorem ag_4 : isAggT Try.prog 4 = some false := by rw [isAggT, Try.underlying4]; rfl
@[go_sem] theorem ze_4 : zeroC Try.prog 4 = some [(.v (.bool false))] := by rw [zeroC, info_4]; rfl
@[go_sem] theorem info_5 : Try.prog.info? 5 = some Try.t5 := info_of Try.types_size (by decide) Try.type5
@[go_sem] theorem tz_5 : Try.t5.size = 1 := rfl
@[go_sem] theorem tb_5 : Try.t5.bytes = 1 := rfl
@[go_sem] theorem sz_5 : szOf Try.prog 5 = some 1 := by rw [szOf, info_5]; rfl
@[go_sem] theorem ag_5 : isAggT Try.prog 5 = some false := by rw [isAggT, Try.underlying5]; rfl
@[go_sem] theorem ze_5 : zeroC Try.prog 5 = some [(.v (.int .u8 0))] := by rw [zeroC, info_5]; rfl
@[go_sem] theorem info_9 : Try.prog.info? 9 = some Try.t9 := info_of Try.types_size (by decide) Try.type9
@[go_sem] theorem tz_9 : Try.t9.size = 1 := rfl
@[go_sem] theorem tb_9 : Try.t9.bytes = 16 := rfl
@[go_sem] theorem sz_9 : szOf Try.prog 9 = some 1 := by rw [szOf, info_9]; rfl
@[go_sem] theorem ag_9 : isAggT Try.prog 9 = some false := by rw [isAggT, Try.underlying9]; rfl
@[go_sem] theorem ze_9 : zeroC Try.prog 9 = some [(.v (.string ⟨#[]⟩))] := by rw [zeroC, info_9]; rfl
@[go_sem] theorem info_22 : Try.prog.info? 22 = some Try.t22 := info_of Try.types_size (by decide) Try.type22
@[go_sem] theorem tz_22 : Try.t22.size = 1 := rfl
@[go_sem] theorem tb_22 : Try.t22.bytes = 24 := rfl
@[go_sem] theorem sz_22 : szOf Try.prog 22 = some 1 := by rw [szOf, info_22]; rfl
@[go_sem] theorem ag_22 : isAggT Try.prog 22 = some false := by rw [isAggT, Try.underlying22]; rfl
@[go_sem] theorem el_22 : elemT Try.prog 22 = some 5 := by rw [elemT, Try.underlying22]
@[go_sem] theorem ze_22 : zeroC Try.prog 22 = some [.emp] := by rw [zeroC, info_22]; rfl
@[go_sem] theorem info_23 : Try.prog.info? 23 = some Try.t23 := info_of Try.types_size (by decide) Try.type23
@[go_sem] theorem tz_23 : Try.t23.size = 1 := rfl
@[go_sem] theorem tb_23 : Try.t23.bytes = 24 := rfl
@[go_sem] theorem sz_23 : szOf Try.prog 23 = some 1 := by rw [szOf, info_23]; rfl
@[go_sem] theorem ag_23 : isAggT Try.prog 23 = some false := by rw [isAggT, Try.underlying23]; rfl
@[go_sem] theorem el_23 : elemT Try.prog 23 = some 62 := by rw [elemT, Try.underlying23]
@[go_sem] theorem ze_23 : zeroC Try.prog 23 = some [.emp] := by rw [zeroC, info_23]; rfl
@[go_sem] theorem info_26 : Try.prog.info? 26 = some Try.t26 := info_of Try.types_size (by decide) Try.type26
@[go_sem] theorem tz_26 : Try.t26.size = 1 := rfl
@[go_sem] theorem tb_26 : Try.t26.bytes = 24 := rfl
@[go_sem] theorem sz_26 : szOf Try.prog 26 = some 1 := by rw [szOf, info_26]; rfl
@[go_sem] theorem ag_26 : isAggT Try.prog 26 = some false := by rw [isAggT, Try.underlying26]; rfl
@[go_sem] theorem el_26 : elemT Try.prog 26 = some 4 := by rw [elemT, Try.underlying26]
@[go_sem] theorem ze_26 : zeroC Try.prog 26 = some [.emp] := by rw [zeroC, info_26]; rfl
@[go_sem] theorem info_32 : Try.prog.info? 32 = some Try.t32 := info_of Try.types_size (by decide) Try.type32
@[go_sem] theorem tz_32 : Try.t32.size = 1 := rfl
@[go_sem] theorem tb_32 : Try.t32.bytes = 24 := rfl
@[go_sem] theorem sz_32 : szOf Try.prog 32 = some 1 := by rw [szOf, info_32]; rfl
@[go_sem] theorem ag_32 : isAggT Try.prog 32 = some false := by rw [isAggT, Try.underlying32]; rfl
@[go_sem] theorem el_32 : elemT Try.prog 32 = some 39 := by rw [elemT, Try.underlying32]
@[go_sem] theorem ze_32 : zeroC Try.prog 32 = some [.emp] := by rw [zeroC, info_32]; rfl
@[go_sem] theorem info_37 : Try.prog.info? 37 = some Try.t37 := info_of Try.types_size (by decide) Try.type37
@[go_sem] theorem tz_37 : Try.t37.size = 2 := rfl
@[go_sem] theorem tb_37 : Try.t37.bytes = 16 := rfl
@[go_sem] theorem sz_37 : szOf Try.prog 37 = some 2 := by rw [szOf, info_37]; rfl
@[go_sem] theorem ag_37 : isAggT Try.prog 37 = some true := by rw [isAggT, Try.underlying37]; rfl
@[go_sem] theorem fd_37_0 : fieldT Try.prog 37 0 = some { name := "A", type := 3, offset := 0, embedded := false, tag := "", pkgPath := "", byteOffset := 0 } := by rw [fieldT, Try.underlying37]; rfl
@[go_sem] theorem fd_37_1 : fieldT Try.prog 37 1 = some { name := "B", type := 3, offset := 1, embedded := false, tag := "", pkgPath := "", byteOffset := 8 } := by rw [fieldT, Try.underlying37]; rfl
@[go_sem] theorem ze_37 : zeroC Try.prog 37 = some [(.v (.int .i64 0)), (.v (.int .i64 0))] := by rw [zeroC, info_37]; rfl
@[go_sem] theorem fs_37 : flatS Try.prog 37 2 = true := by simp [flatS, Try.underlying37, Try.stoodInHeld37, Try.eqGuardType37, Try.underlying3]
@[go_sem] theorem info_39 : Try.prog.info? 39 = some Try.t39 := info_of Try.types_size (by decide) Try.type39
@[go_sem] theorem tz_39 : Try.t39.size = 4 := rfl
@[go_sem] theorem tb_39 : Try.t39.bytes = 32 := rfl
@[go_sem] theorem sz_39 : szOf Try.prog 39 = some 4 := by rw [szOf, info_39]; rfl
@[go_sem] theorem ag_39 : isAggT Try.prog 39 = some true := by rw [isAggT, Try.underlying39]; rfl
@[go_sem] theorem fd_39_0 : fieldT Try.prog 39 0 = some { name := "Edge", type := 37, offset := 0, embedded := false, tag := "", pkgPath := "", byteOffset := 0 } := by rw [fieldT, Try.underlying39]; rfl
@[go_sem] theorem fd_39_1 : fieldT Try.prog 39 1 = some { name := "From", type := 3, offset := 2, embedded := false, tag := "", pkgPath := "", byteOffset := 16 } := by rw [fieldT, Try.underlying39]; rfl
@[go_sem] theorem fd_39_2 : fieldT Try.prog 39 2 = some { name := "To", type := 3, offset := 3, embedded := false, tag := "", pkgPath := "", byteOffset := 24 } := by rw [fieldT, Try.underlying39]; rfl
@[go_sem] theorem ze_39 : zeroC Try.prog 39 = some [(.v (.int .i64 0)), (.v (.int .i64 0)), (.v (.int .i64 0)), (.v (.int .i64 0))] := by rw [zeroC, info_39]; rfl
@[go_sem] theorem info_41 : Try.prog.info? 41 = some Try.t41 := info_of Try.types_size (by decide) Try.type41
@[go_sem] theorem tz_41 : Try.t41.size = 1 := rfl
@[go_sem] theorem tb_41 : Try.t41.bytes = 24 := rfl
@[go_sem] theorem sz_41 : szOf Try.prog 41 = some 1 := by rw [szOf, info_41]; rfl
@[go_sem] theorem ag_41 : isAggT Try.prog 41 = some false := by rw [isAggT, Try.underlying41]; rfl
@[go_sem] theorem el_41 : elemT Try.prog 41 = some 100 := by rw [elemT, Try.underlying41]
@[go_sem] theorem ze_41 : zeroC Try.prog 41 = some [.emp] := by rw [zeroC, info_41]; rfl
@[go_sem] theorem info_50 : Try.prog.info? 50 = some Try.t50 := info_of Try.types_size (by decide) Try.type50
@[go_sem] theorem tz_50 : Try.t50.size = 1 := rfl
@[go_sem] theorem tb_50 : Try.t50.bytes = 24 := rfl
@[go_sem] theorem sz_50 : szOf Try.prog 50 = some 1 := by rw [szOf, info_50]; rfl
@[go_sem] theorem ag_50 : isAggT Try.prog 50 = some false := by rw [isAggT, Try.underlying50]; rfl
@[go_sem] theorem el_50 : elemT Try.prog 50 = some 37 := by rw [elemT, Try.underlying50]
@[go_sem] theorem ze_50 : zeroC Try.prog 50 = some [.emp] := by rw [zeroC, info_50]; rfl
@[go_sem] theorem info_52 : Try.prog.info? 52 = some Try.t52 := info_of Try.types_size (by decide) Try.type52
@[go_sem] theorem tz_52 : Try.t52.size = 2 := rfl
@[go_sem] theorem tb_52 : Try.t52.bytes = 32 := rfl
@[go_sem] theorem sz_52 : szOf Try.prog 52 = some 2 := by rw [szOf, info_52]; rfl
@[go_sem] theorem ag_52 : isAggT Try.prog 52 = some true := by rw [isAggT, Try.underlying52]; rfl
@[go_sem] theorem fd_52_0 : fieldT Try.prog 52 0 = some { name := "Nodes", type := 3, offset := 0, embedded := false, tag := "", pkgPath := "", byteOffset := 0 } := by rw [fieldT, Try.underlying52]; rfl
@[go_sem] theorem fd_52_1 : fieldT Try.prog 52 1 = some { name := "Edges", type := 50, offset := 1, embedded := false, tag := "", pkgPath := "", byteOffset := 8 } := by rw [fieldT, Try.underlying52]; rfl
@[go_sem] theorem ze_52 : zeroC Try.prog 52 = some [(.v (.int .i64 0)), .emp] := by rw [zeroC, info_52]; rfl
@[go_sem] theorem info_56 : Try.prog.info? 56 = some Try.t56 := info_of Try.types_size (by decide) Try.type56
@[go_sem] theorem tz_56 : Try.t56.size = 1 := rfl
@[go_sem] theorem tb_56 : Try.t56.bytes = 24 := rfl
@[go_sem] theorem sz_56 : szOf Try.prog 56 = some 1 := by rw [szOf, info_56]; rfl
@[go_sem] theorem ag_56 : isAggT Try.prog 56 = some false := by rw [isAggT, Try.underlying56]; rfl
@[go_sem] theorem el_56 : elemT Try.prog 56 = some 3 := by rw [elemT, Try.underlying56]
@[go_sem] theorem ze_56 : zeroC Try.prog 56 = some [.emp] := by rw [zeroC, info_56]; rfl
@[go_sem] theorem info_58 : Try.prog.info? 58 = some Try.t58 := info_of Try.types_size (by decide) Try.type58
@[go_sem] theorem tz_58 : Try.t58.size = 4 := rfl
@[go_sem] theorem tb_58 : Try.t58.bytes = 80 := rfl
@[go_sem] theorem sz_58 : szOf Try.prog 58 = some 4 := by rw [szOf, info_58]; rfl
@[go_sem] theorem ag_58 : isAggT Try.prog 58 = some true := by rw [isAggT, Try.underlying58]; rfl
@[go_sem] theorem fd_58_0 : fieldT Try.prog 58 0 = some { name := "Graph", type := 52, offset := 0, embedded := false, tag := "", pkgPath := "", byteOffset := 0 } := by rw [fieldT, Try.underlying58]; rfl
@[go_sem] theorem fd_58_1 : fieldT Try.prog 58 1 = some { name := "Levels", type := 56, offset := 2, embedded := false, tag := "", pkgPath := "", byteOffset := 32 } := by rw [fieldT, Try.underlying58]; rfl
@[go_sem] theorem fd_58_2 : fieldT Try.prog 58 2 = some { name := "Tree", type := 26, offset := 3, embedded := false, tag := "", pkgPath := "", byteOffset := 56 } := by rw [fieldT, Try.underlying58]; rfl
@[go_sem] theorem ze_58 : zeroC Try.prog 58 = some [(.v (.int .i64 0)), .emp, .emp, .emp] := by rw [zeroC, info_58]; rfl
@[go_sem] theorem info_62 : Try.prog.info? 62 = some Try.t62 := info_of Try.types_size (by decide) Try.type62
@[go_sem] theorem tz_62 : Try.t62.size = 3 := rfl
@[go_sem] theorem tb_62 : Try.t62.bytes = 24 := rfl
@[go_sem] theorem sz_62 : szOf Try.prog 62 = some 3 := by rw [szOf, info_62]; rfl
@[go_sem] theorem ag_62 : isAggT Try.prog 62 = some true := by rw [isAggT, Try.underlying62]; rfl
@[go_sem] theorem fd_62_0 : fieldT Try.prog 62 0 = some { name := "Kind", type := 3, offset := 0, embedded := false, tag := "", pkgPath := "", byteOffset := 0 } := by rw [fieldT, Try.underlying62]; rfl
@[go_sem] theorem fd_62_1 : fieldT Try.prog 62 1 = some { name := "Edge", type := 37, offset := 1, embedded := false, tag := "", pkgPath := "", byteOffset := 8 } := by rw [fieldT, Try.underlying62]; rfl
@[go_sem] theorem ze_62 : zeroC Try.prog 62 = some [(.v (.int .i64 0)), (.v (.int .i64 0)), (.v (.int .i64 0))] := by rw [zeroC, info_62]; rfl
@[go_sem] theorem info_74 : Try.prog.info? 74 = some Try.t74 := info_of Try.types_size (by decide) Try.type74
@[go_sem] theorem tz_74 : Try.t74.size = 2 := rfl
@[go_sem] theorem tb_74 : Try.t74.bytes = 48 := rfl
@[go_sem] theorem sz_74 : szOf Try.prog 74 = some 2 := by rw [szOf, info_74]; rfl
@[go_sem] theorem ag_74 : isAggT Try.prog 74 = some true := by rw [isAggT, Try.underlying74]; rfl
@[go_sem] theorem fd_74_0 : fieldT Try.prog 74 0 = some { name := "Parents", type := 56, offset := 0, embedded := false, tag := "", pkgPath := "", byteOffset := 0 } := by rw [fieldT, Try.underlying74]; rfl
@[go_sem] theorem fd_74_1 : fieldT Try.prog 74 1 = some { name := "Weights", type := 56, offset := 1, embedded := false, tag := "", pkgPath := "", byteOffset := 24 } := by rw [fieldT, Try.underlying74]; rfl
@[go_sem] theorem ze_74 : zeroC Try.prog 74 = some [.emp, .emp] := by rw [zeroC, info_74]; rfl
@[go_sem] theorem info_90 : Try.prog.info? 90 = some Try.t90 := info_of Try.types_size (by decide) Try.type90
@[go_sem] theorem tz_90 : Try.t90.size = 1 := rfl
@[go_sem] theorem tb_90 : Try.t90.bytes = 24 := rfl
@[go_sem] theorem sz_90 : szOf Try.prog 90 = some 1 := by rw [szOf, info_90]; rfl
@[go_sem] theorem ag_90 : isAggT Try.prog 90 = some false := by rw [isAggT, Try.underlying90]; rfl
@[go_sem] theorem el_90 : elemT Try.prog 90 = some 171 := by rw [elemT, Try.underlying90]
@[go_sem] theorem ze_90 : zeroC Try.prog 90 = some [.emp] := by rw [zeroC, info_90]; rfl
@[go_sem] theorem info_92 : Try.prog.info? 92 = some Try.t92 := info_of Try.types_size (by decide) Try.type92
@[go_sem] theorem tz_92 : Try.t92.size = 3 := rfl
@[go_sem] theorem tb_92 : Try.t92.bytes = 72 := rfl
@[go_sem] theorem sz_92 : szOf Try.prog 92 = some 3 := by rw [szOf, info_92]; rfl
@[go_sem] theorem ag_92 : isAggT Try.prog 92 = some true := by rw [isAggT, Try.underlying92]; rfl
@[go_sem] theorem fd_92_0 : fieldT Try.prog 92 0 = some { name := "Parents", type := 56, offset := 0, embedded := false, tag := "", pkgPath := "", byteOffset := 0 } := by rw [fieldT, Try.underlying92]; rfl
@[go_sem] theorem fd_92_1 : fieldT Try.prog 92 1 = some { name := "Sizes", type := 56, offset := 1, embedded := false, tag := "", pkgPath := "", byteOffset := 24 } := by rw [fieldT, Try.underlying92]; rfl
@[go_sem] theorem fd_92_2 : fieldT Try.prog 92 2 = some { name := "Steps", type := 90, offset := 2, embedded := false, tag := "", pkgPath := "", byteOffset := 48 } := by rw [fieldT, Try.underlying92]; rfl
@[go_sem] theorem ze_92 : zeroC Try.prog 92 = some [.emp, .emp, .emp] := by rw [zeroC, info_92]; rfl
@[go_sem] theorem info_98 : Try.prog.info? 98 = some Try.t98 := info_of Try.types_size (by decide) Try.type98
@[go_sem] theorem tz_98 : Try.t98.size = 2 := rfl
@[go_sem] theorem tb_98 : Try.t98.bytes = 16 := rfl
@[go_sem] theorem sz_98 : szOf Try.prog 98 = some 2 := by rw [szOf, info_98]; rfl
@[go_sem] theorem ag_98 : isAggT Try.prog 98 = some true := by rw [isAggT, Try.underlying98]; rfl
@[go_sem] theorem fd_98_0 : fieldT Try.prog 98 0 = some { name := "A", type := 3, offset := 0, embedded := false, tag := "", pkgPath := "", byteOffset := 0 } := by rw [fieldT, Try.underlying98]; rfl
@[go_sem] theorem fd_98_1 : fieldT Try.prog 98 1 = some { name := "B", type := 3, offset := 1, embedded := false, tag := "", pkgPath := "", byteOffset := 8 } := by rw [fieldT, Try.underlying98]; rfl
@[go_sem] theorem ze_98 : zeroC Try.prog 98 = some [(.v (.int .i64 0)), (.v (.int .i64 0))] := by rw [zeroC, info_98]; rfl
@[go_sem] theorem fs_98 : flatS Try.prog 98 2 = true := by simp [flatS, Try.underlying98, Try.stoodInHeld98, Try.eqGuardType98, Try.underlying3]
@[go_sem] theorem info_100 : Try.prog.info? 100 = some Try.t100 := info_of Try.types_size (by decide) Try.type100
@[go_sem] theorem tz_100 : Try.t100.size = 3 := rfl
@[go_sem] theorem tb_100 : Try.t100.bytes = 24 := rfl
@[go_sem] theorem sz_100 : szOf Try.prog 100 = some 3 := by rw [szOf, info_100]; rfl
@[go_sem] theorem ag_100 : isAggT Try.prog 100 = some true := by rw [isAggT, Try.underlying100]; rfl
@[go_sem] theorem fd_100_0 : fieldT Try.prog 100 0 = some { name := "Kind", type := 3, offset := 0, embedded := false, tag := "", pkgPath := "", byteOffset := 0 } := by rw [fieldT, Try.underlying100]; rfl
@[go_sem] theorem fd_100_1 : fieldT Try.prog 100 1 = some { name := "Edge", type := 98, offset := 1, embedded := false, tag := "", pkgPath := "", byteOffset := 8 } := by rw [fieldT, Try.underlying100]; rfl
@[go_sem] theorem ze_100 : zeroC Try.prog 100 = some [(.v (.int .i64 0)), (.v (.int .i64 0)), (.v (.int .i64 0))] := by rw [zeroC, info_100]; rfl
@[go_sem] theorem info_102 : Try.prog.info? 102 = some Try.t102 := info_of Try.types_size (by decide) Try.type102
@[go_sem] theorem tz_102 : Try.t102.size = 1 := rfl
@[go_sem] theorem tb_102 : Try.t102.bytes = 8 := rfl
@[go_sem] theorem sz_102 : szOf Try.prog 102 = some 1 := by rw [szOf, info_102]; rfl
@[go_sem] theorem ag_102 : isAggT Try.prog 102 = some false := by rw [isAggT, Try.underlying102]; rfl
@[go_sem] theorem ze_102 : zeroC Try.prog 102 = some [(.v (.pointer none))] := by rw [zeroC, info_102]; rfl
@[go_sem] theorem info_115 : Try.prog.info? 115 = some Try.t115 := info_of Try.types_size (by decide) Try.type115
@[go_sem] theorem tz_115 : Try.t115.size = 1 := rfl
@[go_sem] theorem tb_115 : Try.t115.bytes = 8 := rfl
@[go_sem] theorem sz_115 : szOf Try.prog 115 = some 1 := by rw [szOf, info_115]; rfl
@[go_sem] theorem ag_115 : isAggT Try.prog 115 = some false := by rw [isAggT, Try.underlying115]; rfl
@[go_sem] theorem info_120 : Try.prog.info? 120 = some Try.t120 := info_of Try.types_size (by decide) Try.type120
@[go_sem] theorem tz_120 : Try.t120.size = 1 := rfl
@[go_sem] theorem tb_120 : Try.t120.bytes = 8 := rfl
@[go_sem] theorem sz_120 : szOf Try.prog 120 = some 1 := by rw [szOf, info_120]; rfl
@[go_sem] theorem ag_120 : isAggT Try.prog 120 = some false := by rw [isAggT, Try.underlying120]; rfl
@[go_sem] theorem info_144 : Try.prog.info? 144 = some Try.t144 := info_of Try.types_size (by decide) Try.type144
@[go_sem] theorem tz_144 : Try.t144.size = 2 := rfl
@[go_sem] theorem tb_144 : Try.t144.bytes = 32 := rfl
@[go_sem] theorem sz_144 : szOf Try.prog 144 = some 2 := by rw [szOf, info_144]; rfl
@[go_sem] theorem ag_144 : isAggT Try.prog 144 = some true := by rw [isAggT, Try.underlying144]; rfl
@[go_sem] theorem fd_144_0 : fieldT Try.prog 144 0 = some (fld Try.prog 144 0) := by rw [fld, fieldT, Try.underlying144]; rfl
@[go_sem] theorem fo_144_0 : (fld Try.prog 144 0).offset = 0 := by rw [fld, fieldT, Try.underlying144]; rfl
@[go_sem] theorem ft_144_0 : (fld Try.prog 144 0).type = 22 := by rw [fld, fieldT, Try.underlying144]; rfl
@[go_sem] theorem fd_144_1 : fieldT Try.prog 144 1 = some (fld Try.prog 144 1) := by rw [fld, fieldT, Try.underlying144]; rfl
@[go_sem] theorem fo_144_1 : (fld Try.prog 144 1).offset = 1 := by rw [fld, fieldT, Try.underlying144]; rfl
@[go_sem] theorem ft_144_1 : (fld Try.prog 144 1).type = 3 := by rw [fld, fieldT, Try.underlying144]; rfl
@[go_sem] theorem ze_144 : zeroC Try.prog 144 = some [.emp, (.v (.int .i64 0))] := by rw [zeroC, info_144]; rfl
@[go_sem] theorem info_146 : Try.prog.info? 146 = some Try.t146 := info_of Try.types_size (by decide) Try.type146
@[go_sem] theorem tz_146 : Try.t146.size = 1 := rfl
@[go_sem] theorem tb_146 : Try.t146.bytes = 8 := rfl
@[go_sem] theorem sz_146 : szOf Try.prog 146 = some 1 := by rw [szOf, info_146]; rfl
@[go_sem] theorem ag_146 : isAggT Try.prog 146 = some false := by rw [isAggT, Try.underlying146]; rfl
@[go_sem] theorem info_153 : Try.prog.info? 153 = some Try.t153 := info_of Try.types_size (by decide) Try.type153
@[go_sem] theorem tz_153 : Try.t153.size = 1 := rfl
@[go_sem] theorem tb_153 : Try.t153.bytes = 8 := rfl
@[go_sem] theorem sz_153 : szOf Try.prog 153 = some 1 := by rw [szOf, info_153]; rfl
@[go_sem] theorem ag_153 : isAggT Try.prog 153 = some false := by rw [isAggT, Try.underlying153]; rfl
@[go_sem] theorem ze_153 : zeroC Try.prog 153 = some [(.v (.pointer none))] := by rw [zeroC, info_153]; rfl
@[go_sem] theorem info_171 : Try.prog.info? 171 = some Try.t171 := info_of Try.types_size (by decide) Try.type171
@[go_sem] theorem tz_171 : Try.t171.size = 2 := rfl
@[go_sem] theorem tb_171 : Try.t171.bytes = 16 := rfl
@[go_sem] theorem sz_171 : szOf Try.prog 171 = some 2 := by rw [szOf, info_171]; rfl
@[go_sem] theorem ag_171 : isAggT Try.prog 171 = some true := by rw [isAggT, Try.underlying171]; rfl
@[go_sem] theorem fd_171_0 : fieldT Try.prog 171 0 = some { name := "Child", type := 3, offset := 0, embedded := false, tag := "", pkgPath := "", byteOffset := 0 } := by rw [fieldT, Try.underlying171]; rfl
@[go_sem] theorem fd_171_1 : fieldT Try.prog 171 1 = some { name := "Root", type := 3, offset := 1, embedded := false, tag := "", pkgPath := "", byteOffset := 8 } := by rw [fieldT, Try.underlying171]; rfl
@[go_sem] theorem ze_171 : zeroC Try.prog 171 = some [(.v (.int .i64 0)), (.v (.int .i64 0))] := by rw [zeroC, info_171]; rfl
@[go_sem] theorem fs_171 : flatS Try.prog 171 2 = true := by simp [flatS, Try.underlying171, Try.stoodInHeld171, Try.eqGuardType171, Try.underlying3]
@[go_sem] theorem info_173 : Try.prog.info? 173 = some Try.t173 := info_of Try.types_size (by decide) Try.type173
@[go_sem] theorem tz_173 : Try.t173.size = 1 := rfl
@[go_sem] theorem tb_173 : Try.t173.bytes = 8 := rfl
@[go_sem] theorem sz_173 : szOf Try.prog 173 = some 1 := by rw [szOf, info_173]; rfl
@[go_sem] theorem ag_173 : isAggT Try.prog 173 = some false := by rw [isAggT, Try.underlying173]; rfl
@[go_sem] theorem ze_173 : zeroC Try.prog 173 = some [(.v (.int .u64 0))] := by rw [zeroC, info_173]; rfl
@[go_sem] theorem info_192 : Try.prog.info? 192 = some Try.t192 := info_of Try.types_size (by decide) Try.type192
@[go_sem] theorem tz_192 : Try.t192.size = 1 := rfl
@[go_sem] theorem tb_192 : Try.t192.bytes = 8 := rfl
@[go_sem] theorem sz_192 : szOf Try.prog 192 = some 1 := by rw [szOf, info_192]; rfl
@[go_sem] theorem ag_192 : isAggT Try.prog 192 = some false := by rw [isAggT, Try.underlying192]; rfl
@[go_sem] theorem ze_192 : zeroC Try.prog 192 = some [(.v (.int .i64 0))] := by rw [zeroC, info_192]; rfl
@[go_sem] theorem info_199 : Try.prog.info? 199 = some Try.t199 := info_of Try.types_size (by decide) Try.type199
@[go_sem] theorem tz_199 : Try.t199.size = 1 := rfl
@[go_sem] theorem tb_199 : Try.t199.bytes = 4 := rfl
@[go_sem] theorem sz_199 : szOf Try.prog 199 = some 1 := by rw [szOf, info_199]; rfl
@[go_sem] theorem ag_199 : isAggT Try.prog 199 = some false := by rw [isAggT, Try.underlying199]; rfl
@[go_sem] theorem ze_199 : zeroC Try.prog 199 = some [(.v (.int .u32 0))] := by rw [zeroC, info_199]; rfl
@[go_sem] theorem info_201 : Try.prog.info? 201 = some Try.t201 := info_of Try.types_size (by decide) Try.type201
@[go_sem] theorem tz_201 : Try.t201.size = 1 := rfl
@[go_sem] theorem tb_201 : Try.t201.bytes = 8 := rfl
@[go_sem] theorem sz_201 : szOf Try.prog 201 = some 1 := by rw [szOf, info_201]; rfl
@[go_sem] theorem ag_201 : isAggT Try.prog 201 = some false := by rw [isAggT, Try.underlying201]; rfl
@[go_sem] theorem ze_201 : zeroC Try.prog 201 = some [(.v (.int .u64 0))] := by rw [zeroC, info_201]; rfl
@[go_sem] theorem info_212 : Try.prog.info? 212 = some Try.t212 := info_of Try.types_size (by decide) Try.type212
@[go_sem] theorem tz_212 : Try.t212.size = 1 := rfl
@[go_sem] theorem tb_212 : Try.t212.bytes = 8 := rfl
@[go_sem] theorem sz_212 : szOf Try.prog 212 = some 1 := by rw [szOf, info_212]; rfl
@[go_sem] theorem ag_212 : isAggT Try.prog 212 = some false := by rw [isAggT, Try.underlying212]; rfl
@[go_sem] theorem ze_212 : zeroC Try.prog 212 = some [(.v (.int .u64 0))] := by rw [zeroC, info_212]; rfl
@[go_sem] theorem info_216 : Try.prog.info? 216 = some Try.t216 := info_of Try.types_size (by decide) Try.type216
@[go_sem] theorem tz_216 : Try.t216.size = 1 := rfl
@[go_sem] theorem tb_216 : Try.t216.bytes = 8 := rfl
@[go_sem] theorem sz_216 : szOf Try.prog 216 = some 1 := by rw [szOf, info_216]; rfl
@[go_sem] theorem ag_216 : isAggT Try.prog 216 = some false := by rw [isAggT, Try.underlying216]; rfl
@[go_sem] theorem ze_216 : zeroC Try.prog 216 = some [(.v (.pointer none))] := by rw [zeroC, info_216]; rfl
/-- How calls are taken. -/
def mutL : List Nat := [19, 20, 47, 56, 57, 63, 65, 70, 71, 72, 101, 110, 121, 131, 141, 142, 143, 153, 163, 164, 189, 195, 220, 221]
def ownL : List (Nat × Nat) := [(4, 37), (4, 96), (9, 27), (10, 21), (12, 12), (22, 14), (24, 33), (27, 30), (27, 36), (28, 36), (28, 43), (31, 11), (32, 33), (41, 21), (45, 8), (52, 40), (52, 45), (61, 29), (75, 15), (75, 18), (75, 45), (75, 75), (79, 17), (89, 5), (98, 34), (98, 80), (102, 11), (117, 9), (120, 38), (122, 30), (122, 54), (131, 8), (132, 13), (155, 25), (167, 5)]
end Go.Proofs.Yteknfomddncboaa.X
