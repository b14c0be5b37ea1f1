/- Facts of one program's tables. -/
import Derived.Test.YtagpdfbgimnljaaEval
import Derived.Test.YtagpdfbgimnljaaProg
namespace Go.Proofs.Ytagpdfbgimnljaa.X
open Go Go.Proofs
set_option maxRecDepth 100000
attribute [go_sem] Try.underlying0 Try.underlying1 Try.underlying2 Try.underlying3 Try.underlying4 Try.underlying5 Try.underlying6 Try.underlying7 Try.underlying8 Try.underlying9 Try.underlying10 Try.underlying11 Try.underlying12 Try.underlying13 Try.underlying14 Try.underlying15 Try.underlying16 Try.underlying17 Try.underlying18 Try.underlying19 Try.underlying20 Try.underlying21 Try.underlying22 Try.underlying23 Try.underlying24 Try.underlying25 Try.underlying26 Try.underlying27 Try.underlying28 Try.underlying29 Try.underlying30 Try.underlying31 Try.underlying32 Try.underlying33 Try.underlying34 Try.underlying35 Try.underlying36 Try.underlying37 Try.underlying38 Try.underlying39 Try.underlying40 Try.underlying41 Try.underlying42 Try.underlying43 Try.underlying44 Try.underlying45 Try.underlying46 Try.underlying47 Try.underlying48 Try.underlying49 Try.underlying50 Try.underlying51 Try.underlying52 Try.underlying53 Try.underlying54 Try.underlying55 Try.underlying56 Try.underlying57 Try.underlying58 Try.underlying59 Try.underlying60 Try.underlying61 Try.underlying62 Try.underlying63 Try.underlying64 Try.underlying65 Try.underlying66 Try.underlying67 Try.underlying68 Try.underlying69 Try.underlying70 Try.underlying71 Try.underlying72 Try.underlying73 Try.underlying74 Try.underlying75 Try.underlying76 Try.underlying77 Try.underlying78 Try.underlying79 Try.underlying80 Try.underlying81 Try.underlying82 Try.underlying83 Try.underlying84 Try.underlying85 Try.underlying86 Try.underlying87 Try.underlying88 Try.underlying89 Try.underlying90 Try.underlying91 Try.underlying92 Try.underlying93 Try.underlying94 Try.underlying95 Try.underlying96 Try.underlying97 Try.underlying98 Try.underlying99 Try.underlying100 Try.underlying101 Try.underlying102 Try.underlying103 Try.underlying104 Try.underlying105 Try.underlying106 Try.underlying107 Try.underlying108 Try.underlying109 Try.underlying110 Try.underlying111 Try.underlying112 Try.underlying113 Try.underlying114 Try.underlying115 Try.underlying116 Try.underlying117 Try.underlying118 Try.underlying119 Try.underlying120 Try.underlying121 Try.underlying122 Try.underlying123 Try.underlying124 Try.underlying125 Try.underlying126 Try.underlying127 Try.underlying128 Try.underlying129 Try.underlying130 Try.underlying131 Try.underlying132 Try.underlying133 Try.underlying134 Try.underlying135 Try.underlying136 Try.underlying137 Try.underlying138 Try.underlying139 Try.underlying140 Try.underlying141 Try.underlying142 Try.underlying143 Try.underlying144 Try.underlying145 Try.underlying146 Try.underlying147 Try.underlying148 Try.underlying149 Try.underlying150 Try.underlying151 Try.underlying152 Try.underlying153 Try.underlying154 Try.underlying155 Try.underlying156 Try.underlying157 Try.underlying158 Try.underlying159 Try.underlying160 Try.underlying161 Try.underlying162 Try.underlying163 Try.underlying164 Try.underlying165 Try.underlying166 Try.underlying167 Try.underlying168 Try.underlying169 Try.underlying170 Try.underlying171 Try.underlying172 Try.underlying173 Try.underlying174 Try.underlying175 Try.underlying176 Try.underlying177 Try.underlying178 Try.underlying179 Try.underlying180 Try.underlying181 Try.underlying182 Try.underlying183 Try.underlying184 Try.underlying185 Try.underlying186 Try.underlying187 Try.underlying188 Try.underlying189 Try.underlying190 Try.underlying191 Try.underlying192 Try.underlying193 Try.underlying194 Try.underlying195 Try.underlying196 Try.underlying197 Try.underlying198 Try.underlying199 Try.underlying200 Try.underlying201 Try.underlying202 Try.underlying203 Try.underlying204 Try.underlying205 Try.underlying206 Try.underlying207 Try.underlying208 Try.underlying209 Try.underlying210 Try.underlying211 Try.underlying212 Try.underlying213 Try.underlying214 Try.underlying215 Try.underlying216 Try.underlying217 Try.underlying218 Try.underlying219 Try.underlying220 Try.underlying221 Try.underlying222 Try.underlying223 Try.underlying224 Try.underlying225 Try.underlying226 Try.underlying227 Try.underlying228 Try.underlying229 Try.underlying230 Try.underlying231 Try.underlying232 Try.underlying233 Try.underlying234 Try.underlying235 Try.underlying236 Try.underlying237 Try.underlying238 Try.underlying239 Try.underlying240 Try.underlying241 Try.underlying242 Try.underlying243 Try.underlying244 Try.underlying245 Try.underlying246 Try.underlying247 Try.underlying248 Try.underlying249 Try.underlying250 Try.underlying251 Try.underlying252 Try.underlying253 Try.underlying254 Try.underlying255 Try.underlying256 Try.underlying257 Try.underlying258
theorem info_of {P : Program} {t n : Nat} {i : TypeInfo} (h : P.types.size = n) (hl : t < n) (hi : P.types[t]? = some i) : P.info? t = some i := by
  unfold Tables.info?
  rw [if_pos (by rw [h]; exact hl)]
  exact hi
def zB (n : Nat) : List IV := List.replicate n (.v (.bool false))
def fld (P : Program) (t i : Nat) : Field := (fieldT P t i).getD ⟨ "", 0, 0, false, "", "", 0⟩
@[go_sem] theorem info_3 : Try.prog.info? 3 = some Try.t3 := info_of Try.types_size (by decide) Try.type3
@[go_sem] theorem tz_3 : Try.t3.size = 1 := rfl
@[go_sem] theorem tb_3 : Try.t3.bytes = 8 := rfl
@[go_sem] theorem sz_3 : szOf Try.prog 3 = some 1 := by rw [szOf, info_3]; rfl
@[go_sem] theorem ag_3 : isAggT Try.prog 3 = some false := by rw [isAggT, Try.underlying3]; rfl
@[go_sem] theorem ze_3 : zeroC Try.prog 3 = some [(.v (.int .i64 0))] := by rw [zeroC, info_3]; rfl
@[go_sem] theorem info_4 : Try.prog.info? 4 = some Try.t4 := info_of Try.types_size (by decide) Try.type4
@[go_sem] theorem tz_4 : Try.t4.size = 1 := rfl
@[go_sem] theorem tb_4 : Try.t4.bytes = 1 := rfl
@[go_sem] theorem sz_4 : szOf Try.prog 4 = some 1 := by rw [szOf, info_4]; rfl
@[go_sem] theorem ag_4 : isAggT Try.prog 4 = some false := by rw [isAggT, Try.underlying4]; rfl
@[go_sem] theorem ze_4 : zeroC Try.prog 4 = some [(.v (.bool false))] := by rw [zeroC, info_4]; rfl
@[go_sem] theorem info_5 : Try.prog.info? 5 = some Try.t5 := info_of Try.types_size (by decide) Try.type5
@[go_sem] theorem tz_5 : Try.t5.size = 1 := rfl
@[go_sem] theorem tb_5 : Try.t5.bytes = 1 := rfl
@[go_sem] theorem sz_5 : szOf Try.prog 5 = some 1 := by rw [szOf, info_5]; rfl
@[go_sem] theorem ag_5 : isAggT Try.prog 5 = some false := by rw [isAggT, Try.underlying5]; rfl
@[go_sem] theorem ze_5 : zeroC Try.prog 5 = some [(.v (.int .u8 0))] := by rw [zeroC, info_5]; rfl
@[go_sem] theorem info_9 : Try.prog.info? 9 = some Try.t9 := info_of Try.types_size (by decide) Try.type9
@[go_sem] theorem tz_9 : Try.t9.size = 1 := rfl
@[go_sem] theorem tb_9 : Try.t9.bytes = 16 := rfl
@[go_sem] theorem sz_9 : szOf Try.prog 9 = some 1 := by rw [szOf, info_9]; rfl
@[go_sem] theorem ag_9 : isAggT Try.prog 9 = some false := by rw [isAggT, Try.underlying9]; rfl
@[go_sem] theorem ze_9 : zeroC Try.prog 9 = some [(.v (.string ⟨#[]⟩))] := by rw [zeroC, info_9]; rfl
@[go_sem] theorem info_22 : Try.prog.info? 22 = some Try.t22 := info_of Try.types_size (by decide) Try.type22
@[go_sem] theorem tz_22 : Try.t22.size = 1 := rfl
@[go_sem] theorem tb_22 : Try.t22.bytes = 24 := rfl
@[go_sem] theorem sz_22 : szOf Try.prog 22 = some 1 := by rw [szOf, info_22]; rfl
@[go_sem] theorem ag_22 : isAggT Try.prog 22 = some false := by rw [isAggT, Try.underlying22]; rfl
@[go_sem] theorem el_22 : elemT Try.prog 22 = some 5 := by rw [elemT, Try.underlying22]
@[go_sem] theorem ze_22 : zeroC Try.prog 22 = some [.emp] := by rw [zeroC, info_22]; rfl
@[go_sem] theorem info_23 : Try.prog.info? 23 = some Try.t23 := info_of Try.types_size (by decide) Try.type23
@[go_sem] theorem tz_23 : Try.t23.size = 1 := rfl
@[go_sem] theorem tb_23 : Try.t23.bytes = 24 := rfl
@[go_sem] theorem sz_23 : szOf Try.prog 23 = some 1 := by rw [szOf, info_23]; rfl
@[go_sem] theorem ag_23 : isAggT Try.prog 23 = some false := by rw [isAggT, Try.underlying23]; rfl
@[go_sem] theorem el_23 : elemT Try.prog 23 = some 62 := by rw [elemT, Try.underlying23]
@[go_sem] theorem ze_23 : zeroC Try.prog 23 = some [.emp] := by rw [zeroC, info_23]; rfl
@[go_sem] theorem info_26 : Try.prog.info? 26 = some Try.t26 := info_of Try.types_size (by decide) Try.type26
@[go_sem] theorem tz_26 : Try.t26.size = 1 := rfl
@[go_sem] theorem tb_26 : Try.t26.bytes = 24 := rfl
@[go_sem] theorem sz_26 : szOf Try.prog 26 = some 1 := by rw [szOf, info_26]; rfl
@[go_sem] theorem ag_26 : isAggT Try.prog 26 = some false := by rw [isAggT, Try.underlying26]; rfl
@[go_sem] theorem el_26 : elemT Try.prog 26 = some 4 := by rw [elemT, Try.underlying26]
@[go_sem] theorem ze_26 : zeroC Try.prog 26 = some [.emp] := by rw [zeroC, info_26]; rfl
@[go_sem] theorem info_32 : Try.prog.info? 32 = some Try.t32 := info_of Try.types_size (by decide) Try.type32
@[go_sem] theorem tz_32 : Try.t32.size = 1 := rfl
@[go_sem] theorem tb_32 : Try.t32.bytes = 24 := rfl
@[go_sem] theorem sz_32 : szOf Try.prog 32 = some 1 := by rw [szOf, info_32]; rfl
@[go_sem] theorem ag_32 : isAggT Try.prog 32 = some false := by rw [isAggT, Try.underlying32]; rfl
@[go_sem] theorem el_32 : elemT Try.prog 32 = some 39 := by rw [elemT, Try.underlying32]
@[go_sem] theorem ze_32 : zeroC Try.prog 32 = some [.emp] := by rw [zeroC, info_32]; rfl
@[go_sem] theorem info_37 : Try.prog.info? 37 = some Try.t37 := info_of Try.types_size (by decide) Try.type37
@[go_sem] theorem tz_37 : Try.t37.size = 2 := rfl
@[go_sem] theorem tb_37 : Try.t37.bytes = 16 := rfl
@[go_sem] theorem sz_37 : szOf Try.prog 37 = some 2 := by rw [szOf, info_37]; rfl
@[go_sem] theorem ag_37 : isAggT Try.prog 37 = some true := by rw [isAggT, Try.underlying37]; rfl
@[go_sem] theorem fd_37_0 : fieldT Try.prog 37 0 = some { name := "A", type := 3, offset := 0, embedded := false, tag := "", pkgPath := "", byteOffset := 0 } := by rw [fieldT, Try.underlying37]; rfl
@[go_sem] theorem fd_37_1 : fieldT Try.prog 37 1 = some { name := "B", type := 3, offset := 1, embedded := false, tag := "", pkgPath := "", byteOffset := 8 } := by rw [fieldT, Try.underlying37]; rfl
@[go_sem] theorem ze_37 : zeroC Try.prog 37 = some [(.v (.int .i64 0)), (.v (.int .i64 0))] := by rw [zeroC, info_37]; rfl
@[go_sem] theorem fs_37 : flatS Try.prog 37 2 = true := by simp [flatS, Try.underlying37, Try.stoodInHeld37, Try.eqGuardType37, Try.underlying3]
@[go_sem] theorem info_39 : Try.prog.info? 39 = some Try.t39 := info_of Try.types_size (by decide) Try.type39
@[go_sem] theorem tz_39 : Try.t39.size = 4 := rfl
@[go_sem] theorem tb_39 : Try.t39.bytes = 32 := rfl
@[go_sem] theorem sz_39 : szOf Try.prog 39 = some 4 := by rw [szOf, info_39]; rfl
@[go_sem] theorem ag_39 : isAggT Try.prog 39 = some true := by rw [isAggT, Try.underlying39]; rfl
@[go_sem] theorem fd_39_0 : fieldT Try.prog 39 0 = some { name := "Edge", type := 37, offset := 0, embedded := false, tag := "", pkgPath := "", byteOffset := 0 } := by rw [fieldT, Try.underlying39]; rfl
@[go_sem] theorem fd_39_1 : fieldT Try.prog 39 1 = some { name := "From", type := 3, offset := 2, embedded := false, tag := "", pkgPath := "", byteOffset := 16 } := by rw [fieldT, Try.underlying39]; rfl
@[go_sem] theorem fd_39_2 : fieldT Try.prog 39 2 = some { name := "To", type := 3, offset := 3, embedded := false, tag := "", pkgPath := "", byteOffset := 24 } := by rw [fieldT, Try.underlying39]; rfl
@[go_sem] theorem ze_39 : zeroC Try.prog 39 = some [(.v (.int .i64 0)), (.v (.int .i64 0)), (.v (.int .i64 0)), (.v (.int .i64 0))] := by rw [zeroC, info_39]; rfl
@[go_sem] theorem info_41 : Try.prog.info? 41 = some Try.t41 := info_of Try.types_size (by decide) Try.type41
@[go_sem] theorem tz_41 : Try.t41.size = 1 := rfl
@[go_sem] theorem tb_41 : Try.t41.bytes = 24 := rfl
@[go_sem] theorem sz_41 : szOf Try.prog 41 = some 1 := by rw [szOf, info_41]; rfl
@[go_sem] theorem ag_41 : isAggT Try.prog 41 = some false := by rw [isAggT, Try.underlying41]; rfl
@[go_sem] theorem el_41 : elemT Try.prog 41 = some 126 := by rw [elemT, Try.underlying41]
@[go_sem] theorem ze_41 : zeroC Try.prog 41 = some [.emp] := by rw [zeroC, info_41]; rfl
@[go_sem] theorem info_50 : Try.prog.info? 50 = some Try.t50 := info_of Try.types_size (by decide) Try.type50
@[go_sem] theorem tz_50 : Try.t50.size = 1 := rfl
@[go_sem] theorem tb_50 : Try.t50.bytes = 24 := rfl
@[go_sem] theorem sz_50 : szOf Try.prog 50 = some 1 := by rw [szOf, info_50]; rfl
@[go_sem] theorem ag_50 : isAggT Try.prog 50 = some false := by rw [isAggT, Try.underlying50]; rfl
@[go_sem] theorem el_50 : elemT Try.prog 50 = some 37 := by rw [elemT, Try.underlying50]
@[go_sem] theorem ze_50 : zeroC Try.prog 50 = some [.emp] := by rw [zeroC, info_50]; rfl
@[go_sem] theorem info_52 : Try.prog.info? 52 = some Try.t52 := info_of Try.types_size (by decide) Try.type52
@[go_sem] theorem tz_52 : Try.t52.size = 2 := rfl
@[go_sem] theorem tb_52 : Try.t52.bytes = 32 := rfl
@[go_sem] theorem sz_52 : szOf Try.prog 52 = some 2 := by rw [szOf, info_52]; rfl
@[go_sem] theorem ag_52 : isAggT Try.prog 52 = some true := by rw [isAggT, Try.underlying52]; rfl
@[go_sem] theorem fd_52_0 : fieldT Try.prog 52 0 = some { name := "Nodes", type := 3, offset := 0, embedded := false, tag := "", pkgPath := "", byteOffset := 0 } := by rw [fieldT, Try.underlying52]; rfl
@[go_sem] theorem fd_52_1 : fieldT Try.prog 52 1 = some { name := "Edges", type := 50, offset := 1, embedded := false, tag := "", pkgPath := "", byteOffset := 8 } := by rw [fieldT, Try.underlying52]; rfl
@[go_sem] theorem ze_52 : zeroC Try.prog 52 = some [(.v (.int .i64 0)), .emp] := by rw [zeroC, info_52]; rfl
@[go_sem] theorem info_56 : Try.prog.info? 56 = some Try.t56 := info_of Try.types_size (by decide) Try.type56
@[go_sem] theorem tz_56 : Try.t56.size = 1 := rfl
@[go_sem] theorem tb_56 : Try.t56.bytes = 24 := rfl
@[go_sem] theorem sz_56 : szOf Try.prog 56 = some 1 := by rw [szOf, info_56]; rfl
@[go_sem] theorem ag_56 : isAggT Try.prog 56 = some false := by rw [isAggT, Try.underlying56]; rfl
@[go_sem] theorem el_56 : elemT Try.prog 56 = some 3 := by rw [elemT, Try.underlying56]
@[go_sem] theorem ze_56 : zeroC Try.prog 56 = some [.emp] := by rw [zeroC, info_56]; rfl
@[go_sem] theorem info_58 : Try.prog.info? 58 = some Try.t58 := info_of Try.types_size (by decide) Try.type58
@[go_sem] theorem tz_58 : Try.t58.size = 4 := rfl
@[go_sem] theorem tb_58 : Try.t58.bytes = 80 := rfl
@[go_sem] theorem sz_58 : szOf Try.prog 58 = some 4 := by rw [szOf, info_58]; rfl
@[go_sem] theorem ag_58 : isAggT Try.prog 58 = some true := by rw [isAggT, Try.underlying58]; rfl
@[go_sem] theorem fd_58_0 : fieldT Try.prog 58 0 = some { name := "Graph", type := 52, offset := 0, embedded := false, tag := "", pkgPath := "", byteOffset := 0 } := by rw [fieldT, Try.underlying58]; rfl
@[go_sem] theorem fd_58_1 : fieldT Try.prog 58 1 = some { name := "Levels", type := 56, offset := 2, embedded := false, tag := "", pkgPath := "", byteOffset := 32 } := by rw [fieldT, Try.underlying58]; rfl
@[go_sem] theorem fd_58_2 : fieldT Try.prog 58 2 = some { name := "Tree", type := 26, offset := 3, embedded := false, tag := "", pkgPath := "", byteOffset := 56 } := by rw [fieldT, Try.underlying58]; rfl
@[go_sem] theorem ze_58 : zeroC Try.prog 58 = some [(.v (.int .i64 0)), .emp, .emp, .emp] := by rw [zeroC, info_58]; rfl
@[go_sem] theorem info_62 : Try.prog.info? 62 = some Try.t62 := info_of Try.types_size (by decide) Try.type62
@[go_sem] theorem tz_62 : Try.t62.size = 3 := rfl
@[go_sem] theorem tb_62 : Try.t62.bytes = 24 := rfl
@[go_sem] theorem sz_62 : szOf Try.prog 62 = some 3 := by rw [szOf, info_62]; rfl
@[go_sem] theorem ag_62 : isAggT Try.prog 62 = some true := by rw [isAggT, Try.underlying62]; rfl
@[go_sem] theorem fd_62_0 : fieldT Try.prog 62 0 = some { name := "Kind", type := 3, offset := 0, embedded := false, tag := "", pkgPath := "", byteOffset := 0 } := by rw [fieldT, Try.underlying62]; rfl
@[go_sem] theorem fd_62_1 : fieldT Try.prog 62 1 = some { name := "Edge", type := 37, offset := 1, embedded := false, tag := "", pkgPath := "", byteOffset := 8 } := by rw [fieldT, Try.underlying62]; rfl
@[go_sem] theorem ze_62 : zeroC Try.prog 62 = some [(.v (.int .i64 0)), (.v (.int .i64 0)), (.v (.int .i64 0))] := by rw [zeroC, info_62]; rfl
@[go_sem] theorem info_72 : Try.prog.info? 72 = some Try.t72 := info_of Try.types_size (by decide) Try.type72
@[go_sem] theorem tz_72 : Try.t72.size = 1 := rfl
@[go_sem] theorem tb_72 : Try.t72.bytes = 24 := rfl
@[go_sem] theorem sz_72 : szOf Try.prog 72 = some 1 := by rw [szOf, info_72]; rfl
@[go_sem] theorem ag_72 : isAggT Try.prog 72 = some false := by rw [isAggT, Try.underlying72]; rfl
@[go_sem] theorem el_72 : elemT Try.prog 72 = some 124 := by rw [elemT, Try.underlying72]
@[go_sem] theorem ze_72 : zeroC Try.prog 72 = some [.emp] := by rw [zeroC, info_72]; rfl
@[go_sem] theorem info_74 : Try.prog.info? 74 = some Try.t74 := info_of Try.types_size (by decide) Try.type74
@[go_sem] theorem tz_74 : Try.t74.size = 2 := rfl
@[go_sem] theorem tb_74 : Try.t74.bytes = 32 := rfl
@[go_sem] theorem sz_74 : szOf Try.prog 74 = some 2 := by rw [szOf, info_74]; rfl
@[go_sem] theorem ag_74 : isAggT Try.prog 74 = some true := by rw [isAggT, Try.underlying74]; rfl
@[go_sem] theorem fd_74_0 : fieldT Try.prog 74 0 = some { name := "Nodes", type := 3, offset := 0, embedded := false, tag := "", pkgPath := "", byteOffset := 0 } := by rw [fieldT, Try.underlying74]; rfl
@[go_sem] theorem fd_74_1 : fieldT Try.prog 74 1 = some { name := "Edges", type := 72, offset := 1, embedded := false, tag := "", pkgPath := "", byteOffset := 8 } := by rw [fieldT, Try.underlying74]; rfl
@[go_sem] theorem ze_74 : zeroC Try.prog 74 = some [(.v (.int .i64 0)), .emp] := by rw [zeroC, info_74]; rfl
@[go_sem] theorem info_97 : Try.prog.info? 97 = some Try.t97 := info_of Try.types_size (by decide) Try.type97
@[go_sem] theorem tz_97 : Try.t97.size = 2 := rfl
@[go_sem] theorem tb_97 : Try.t97.bytes = 48 := rfl
@[go_sem] theorem sz_97 : szOf Try.prog 97 = some 2 := by rw [szOf, info_97]; rfl
@[go_sem] theorem ag_97 : isAggT Try.prog 97 = some true := by rw [isAggT, Try.underlying97]; rfl
@[go_sem] theorem fd_97_0 : fieldT Try.prog 97 0 = some { name := "Parents", type := 56, offset := 0, embedded := false, tag := "", pkgPath := "", byteOffset := 0 } := by rw [fieldT, Try.underlying97]; rfl
@[go_sem] theorem fd_97_1 : fieldT Try.prog 97 1 = some { name := "Weights", type := 56, offset := 1, embedded := false, tag := "", pkgPath := "", byteOffset := 24 } := by rw [fieldT, Try.underlying97]; rfl
@[go_sem] theorem ze_97 : zeroC Try.prog 97 = some [.emp, .emp] := by rw [zeroC, info_97]; rfl
@[go_sem] theorem info_116 : Try.prog.info? 116 = some Try.t116 := info_of Try.types_size (by decide) Try.type116
@[go_sem] theorem tz_116 : Try.t116.size = 1 := rfl
@[go_sem] theorem tb_116 : Try.t116.bytes = 24 := rfl
@[go_sem] theorem sz_116 : szOf Try.prog 116 = some 1 := by rw [szOf, info_116]; rfl
@[go_sem] theorem ag_116 : isAggT Try.prog 116 = some false := by rw [isAggT, Try.underlying116]; rfl
@[go_sem] theorem el_116 : elemT Try.prog 116 = some 198 := by rw [elemT, Try.underlying116]
@[go_sem] theorem ze_116 : zeroC Try.prog 116 = some [.emp] := by rw [zeroC, info_116]; rfl
@[go_sem] theorem info_118 : Try.prog.info? 118 = some Try.t118 := info_of Try.types_size (by decide) Try.type118
@[go_sem] theorem tz_118 : Try.t118.size = 3 := rfl
@[go_sem] theorem tb_118 : Try.t118.bytes = 72 := rfl
@[go_sem] theorem sz_118 : szOf Try.prog 118 = some 3 := by rw [szOf, info_118]; rfl
@[go_sem] theorem ag_118 : isAggT Try.prog 118 = some true := by rw [isAggT, Try.underlying118]; rfl
@[go_sem] theorem fd_118_0 : fieldT Try.prog 118 0 = some { name := "Parents", type := 56, offset := 0, embedded := false, tag := "", pkgPath := "", byteOffset := 0 } := by rw [fieldT, Try.underlying118]; rfl
@[go_sem] theorem fd_118_1 : fieldT Try.prog 118 1 = some { name := "Sizes", type := 56, offset := 1, embedded := false, tag := "", pkgPath := "", byteOffset := 24 } := by rw [fieldT, Try.underlying118]; rfl
@[go_sem] theorem fd_118_2 : fieldT Try.prog 118 2 = some { name := "Steps", type := 116, offset := 2, embedded := false, tag := "", pkgPath := "", byteOffset := 48 } := by rw [fieldT, Try.underlying118]; rfl
@[go_sem] theorem ze_118 : zeroC Try.prog 118 = some [.emp, .emp, .emp] := by rw [zeroC, info_118]; rfl
@[go_sem] theorem info_124 : Try.prog.info? 124 = some Try.t124 := info_of Try.types_size (by decide) Try.type124
@[go_sem] theorem tz_124 : Try.t124.size = 2 := rfl
@[go_sem] theorem tb_124 : Try.t124.bytes = 16 := rfl
@[go_sem] theorem sz_124 : szOf Try.prog 124 = some 2 := by rw [szOf, info_124]; rfl
@[go_sem] theorem ag_124 : isAggT Try.prog 124 = some true := by rw [isAggT, Try.underlying124]; rfl
@[go_sem] theorem fd_124_0 : fieldT Try.prog 124 0 = some { name := "A", type := 3, offset := 0, embedded := false, tag := "", pkgPath := "", byteOffset := 0 } := by rw [fieldT, Try.underlying124]; rfl
@[go_sem] theorem fd_124_1 : fieldT Try.prog 124 1 = some { name := "B", type := 3, offset := 1, embedded := false, tag := "", pkgPath := "", byteOffset := 8 } := by rw [fieldT, Try.underlying124]; rfl
@[go_sem] theorem ze_124 : zeroC Try.prog 124 = some [(.v (.int .i64 0)), (.v (.int .i64 0))] := by rw [zeroC, info_124]; rfl
@[go_sem] theorem fs_124 : flatS Try.prog 124 2 = true := by simp [flatS, Try.underlying124, Try.stoodInHeld124, Try.eqGuardType124, Try.underlying3]
@[go_sem] theorem info_126 : Try.prog.info? 126 = some Try.t126 := info_of Try.types_size (by decide) Try.type126
@[go_sem] theorem tz_126 : Try.t126.size = 3 := rfl
@[go_sem] theorem tb_126 : Try.t126.bytes = 24 := rfl
@[go_sem] theorem sz_126 : szOf Try.prog 126 = some 3 := by rw [szOf, info_126]; rfl
@[go_sem] theorem ag_126 : isAggT Try.prog 126 = some true := by rw [isAggT, Try.underlying126]; rfl
@[go_sem] theorem fd_126_0 : fieldT Try.prog 126 0 = some { name := "Kind", type := 3, offset := 0, embedded := false, tag := "", pkgPath := "", byteOffset := 0 } := by rw [fieldT, Try.underlying126]; rfl
@[go_sem] theorem fd_126_1 : fieldT Try.prog 126 1 = some { name := "Edge", type := 124, offset := 1, embedded := false, tag := "", pkgPath := "", byteOffset := 8 } := by rw [fieldT, Try.underlying126]; rfl
@[go_sem] theorem ze_126 : zeroC Try.prog 126 = some [(.v (.int .i64 0)), (.v (.int .i64 0)), (.v (.int .i64 0))] := by rw [zeroC, info_126]; rfl
@[go_sem] theorem info_128 : Try.prog.info? 128 = some Try.t128 := info_of Try.types_size (by decide) Try.type128
@[go_sem] theorem tz_128 : Try.t128.size = 1 := rfl
@[go_sem] theorem tb_128 : Try.t128.bytes = 8 := rfl
@[go_sem] theorem sz_128 : szOf Try.prog 128 = some 1 := by rw [szOf, info_128]; rfl
@[go_sem] theorem ag_128 : isAggT Try.prog 128 = some false := by rw [isAggT, Try.underlying128]; rfl
@[go_sem] theorem ze_128 : zeroC Try.prog 128 = some [(.v (.pointer none))] := by rw [zeroC, info_128]; rfl
@[go_sem] theorem info_140 : Try.prog.info? 140 = some Try.t140 := info_of Try.types_size (by decide) Try.type140
@[go_sem] theorem tz_140 : Try.t140.size = 1 := rfl
@[go_sem] theorem tb_140 : Try.t140.bytes = 8 := rfl
@[go_sem] theorem sz_140 : szOf Try.prog 140 = some 1 := by rw [szOf, info_140]; rfl
@[go_sem] theorem ag_140 : isAggT Try.prog 140 = some false := by rw [isAggT, Try.underlying140]; rfl
@[go_sem] theorem info_145 : Try.prog.info? 145 = some Try.t145 := info_of Try.types_size (by decide) Try.type145
@[go_sem] theorem tz_145 : Try.t145.size = 1 := rfl
@[go_sem] theorem tb_145 : Try.t145.bytes = 8 := rfl
@[go_sem] theorem sz_145 : szOf Try.prog 145 = some 1 := by rw [szOf, info_145]; rfl
@[go_sem] theorem ag_145 : isAggT Try.prog 145 = some false := by rw [isAggT, Try.underlying145]; rfl
@[go_sem] theorem info_163 : Try.prog.info? 163 = some Try.t163 := info_of Try.types_size (by decide) Try.type163
@[go_sem] theorem tz_163 : Try.t163.size = 1 := rfl
@[go_sem] theorem tb_163 : Try.t163.bytes = 8 := rfl
@[go_sem] theorem sz_163 : szOf Try.prog 163 = some 1 := by rw [szOf, info_163]; rfl
@[go_sem] theorem ag_163 : isAggT Try.prog 163 = some false := by rw [isAggT, Try.underlying163]; rfl
@[go_sem] theorem info_175 : Try.prog.info? 175 = some Try.t175 := info_of Try.types_size (by decide) Try.type175
@[go_sem] theorem tz_175 : Try.t175.size = 2 := rfl
@[go_sem] theorem tb_175 : Try.t175.bytes = 32 := rfl
@[go_sem] theorem sz_175 : szOf Try.prog 175 = some 2 := by rw [szOf, info_175]; rfl
@[go_sem] theorem ag_175 : isAggT Try.prog 175 = some true := by rw [isAggT, Try.underlying175]; rfl
@[go_sem] theorem fd_175_0 : fieldT Try.prog 175 0 = some (fld Try.prog 175 0) := by rw [fld, fieldT, Try.underlying175]; rfl
@[go_sem] theorem fo_175_0 : (fld Try.prog 175 0).offset = 0 := by rw [fld, fieldT, Try.underlying175]; rfl
@[go_sem] theorem ft_175_0 : (fld Try.prog 175 0).type = 22 := by rw [fld, fieldT, Try.underlying175]; rfl
@[go_sem] theorem fd_175_1 : fieldT Try.prog 175 1 = some (fld Try.prog 175 1) := by rw [fld, fieldT, Try.underlying175]; rfl
@[go_sem] theorem fo_175_1 : (fld Try.prog 175 1).offset = 1 := by rw [fld, fieldT, Try.underlying175]; rfl
@[go_sem] theorem ft_175_1 : (fld Try.prog 175 1).type = 3 := by rw [fld, fieldT, Try.underlying175]; rfl
@[go_sem] theorem ze_175 : zeroC Try.prog 175 = some [.emp, (.v (.int .i64 0))] := by rw [zeroC, info_175]; rfl
@[go_sem] theorem info_182 : Try.prog.info? 182 = some Try.t182 := info_of Try.types_size (by decide) Try.type182
@[go_sem] theorem tz_182 : Try.t182.size = 1 := rfl
@[go_sem] theorem tb_182 : Try.t182.bytes = 8 := rfl
@[go_sem] theorem sz_182 : szOf Try.prog 182 = some 1 := by rw [szOf, info_182]; rfl
@[go_sem] theorem ag_182 : isAggT Try.prog 182 = some false := by rw [isAggT, Try.underlying182]; rfl
@[go_sem] theorem ze_182 : zeroC Try.prog 182 = some [(.v (.pointer none))] := by rw [zeroC, info_182]; rfl
@[go_sem] theorem info_192 : Try.prog.info? 192 = some Try.t192 := info_of Try.types_size (by decide) Try.type192
@[go_sem] theorem tz_192 : Try.t192.size = 1 := rfl
@[go_sem] theorem tb_192 : Try.t192.bytes = 8 := rfl
@[go_sem] theorem sz_192 : szOf Try.prog 192 = some 1 := by rw [szOf, info_192]; rfl
@[go_sem] theorem ag_192 : isAggT Try.prog 192 = some false := by rw [isAggT, Try.underlying192]; rfl
@[go_sem] theorem ze_192 : zeroC Try.prog 192 = some [(.v (.int .u64 0))] := by rw [zeroC, info_192]; rfl
@[go_sem] theorem info_198 : Try.prog.info? 198 = some Try.t198 := info_of Try.types_size (by decide) Try.type198
@[go_sem] theorem tz_198 : Try.t198.size = 2 := rfl
@[go_sem] theorem tb_198 : Try.t198.bytes = 16 := rfl
@[go_sem] theorem sz_198 : szOf Try.prog 198 = some 2 := by rw [szOf, info_198]; rfl
@[go_sem] theorem ag_198 : isAggT Try.prog 198 = some true := by rw [isAggT, Try.underlying198]; rfl
@[go_sem] theorem fd_198_0 : fieldT Try.prog 198 0 = some { name := "Child", type := 3, offset := 0, embedded := false, tag := "", pkgPath := "", byteOffset := 0 } := by rw [fieldT, Try.underlying198]; rfl
@[go_sem] theorem fd_198_1 : fieldT Try.prog 198 1 = some { name := "Root", type := 3, offset := 1, embedded := false, tag := "", pkgPath := "", byteOffset := 8 } := by rw [fieldT, Try.underlying198]; rfl
@[go_sem] theorem ze_198 : zeroC Try.prog 198 = some [(.v (.int .i64 0)), (.v (.int .i64 0))] := by rw [zeroC, info_198]; rfl
@[go_sem] theorem fs_198 : flatS Try.prog 198 2 = true := by simp [flatS, Try.underlying198, Try.stoodInHeld198, Try.eqGuardType198, Try.underlying3]
@[go_sem] theorem info_205 : Try.prog.info? 205 = some Try.t205 := info_of Try.types_size (by decide) Try.type205
@[go_sem] theorem tz_205 : Try.t205.size = 1 := rfl
@[go_sem] theorem tb_205 : Try.t205.bytes = 8 := rfl
@[go_sem] theorem sz_205 : szOf Try.prog 205 = some 1 := by rw [szOf, info_205]; rfl
@[go_sem] theorem ag_205 : isAggT Try.prog 205 = some false := by rw [isAggT, Try.underlying205]; rfl
@[go_sem] theorem ze_205 : zeroC Try.prog 205 = some [(.v (.int .i64 0))] := by rw [zeroC, info_205]; rfl
@[go_sem] theorem info_212 : Try.prog.info? 212 = some Try.t212 := info_of Try.types_size (by decide) Try.type212
@[go_sem] theorem tz_212 : Try.t212.size = 1 := rfl
@[go_sem] theorem tb_212 : Try.t212.bytes = 4 := rfl
@[go_sem] theorem sz_212 : szOf Try.prog 212 = some 1 := by rw [szOf, info_212]; rfl
@[go_sem] theorem ag_212 : isAggT Try.prog 212 = some false := by rw [isAggT, Try.underlying212]; rfl
@[go_sem] theorem ze_212 : zeroC Try.prog 212 = some [(.v (.int .u32 0))] := by rw [zeroC, info_212]; rfl
@[go_sem] theorem info_214 : Try.prog.info? 214 = some Try.t214 := info_of Try.types_size (by decide) Try.type214
@[go_sem] theorem tz_214 : Try.t214.size = 1 := rfl
@[go_sem] theorem tb_214 : Try.t214.bytes = 8 := rfl
@[go_sem] theorem sz_214 : szOf Try.prog 214 = some 1 := by rw [szOf, info_214]; rfl
@[go_sem] theorem ag_214 : isAggT Try.prog 214 = some false := by rw [isAggT, Try.underlying214]; rfl
@[go_sem] theorem ze_214 : zeroC Try.prog 214 = some [(.v (.int .u64 0))] := by rw [zeroC, info_214]; rfl
@[go_sem] theorem info_225 : Try.prog.info? 225 = some Try.t225 := info_of Try.types_size (by decide) Try.type225
@[go_sem] theorem tz_225 : Try.t225.size = 1 := rfl
@[go_sem] theorem tb_225 : Try.t225.bytes = 8 := rfl
@[go_sem] theorem sz_225 : szOf Try.prog 225 = some 1 := by rw [szOf, info_225]; rfl
@[go_sem] theorem ag_225 : isAggT Try.prog 225 = some false := by rw [isAggT, Try.underlying225]; rfl
@[go_sem] theorem ze_225 : zeroC Try.prog 225 = some [(.v (.int .u64 0))] := by rw [zeroC, info_225]; rfl
@[go_sem] theorem info_229 : Try.prog.info? 229 = some Try.t229 := info_of Try.types_size (by decide) Try.type229
@[go_sem] theorem tz_229 : Try.t229.size = 1 := rfl
@[go_sem] theorem tb_229 : Try.t229.bytes = 8 := rfl
@[go_sem] theorem sz_229 : szOf Try.prog 229 = some 1 := by rw [szOf, info_229]; rfl
@[go_sem] theorem ag_229 : isAggT Try.prog 229 = some false := by rw [isAggT, Try.underlying229]; rfl
@[go_sem] theorem ze_229 : zeroC Try.prog 229 = some [(.v (.pointer none))] := by rw [zeroC, info_229]; rfl
/-- How calls are taken. -/
def mutL : List Nat := [25, 26, 47, 48, 76, 80, 89, 90, 96, 98, 103, 104, 105, 124, 128, 133, 138, 140, 141, 153, 161, 172, 182, 185, 200, 226, 227, 233, 241, 261, 262]
def ownL : List (Nat × Nat) := [(4, 37), (4, 96), (7, 29), (7, 33), (7, 81), (13, 26), (13, 29), (13, 76), (15, 27), (16, 21), (18, 12), (28, 14), (30, 33), (33, 30), (33, 36), (34, 36), (34, 43), (37, 11), (38, 33), (43, 9), (44, 21), (55, 7), (59, 34), (59, 80), (78, 8), (85, 40), (85, 45), (94, 29), (108, 15), (108, 18), (108, 45), (108, 75), (112, 17), (129, 7), (130, 7), (130, 14), (134, 8), (143, 13), (145, 5), (154, 11), (168, 9), (171, 38), (173, 30), (173, 54), (185, 8), (202, 25), (230, 5)]
end Go.Proofs.Ytagpdfbgimnljaa.X
