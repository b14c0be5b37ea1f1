/- Facts of one program's tables. -/
import Derived.Test.YtdjdgnabcecdlaaGreatDoorEval
import Derived.Test.YtdjdgnabcecdlaaGreatDoorProg
namespace Go.Proofs.YtdjdgnabcecdlaaGreatDoor.X
open Go Go.Proofs
set_option maxRecDepth 100000
attribute [go_sem] Tryz.underlying0 Tryz.underlying1 Tryz.underlying2 Tryz.underlying3 Tryz.underlying4 Tryz.underlying5 Tryz.underlying6 Tryz.underlying7 Tryz.underlying8 Tryz.underlying9 Tryz.underlying10 Tryz.underlying11 Tryz.underlying12 Tryz.underlying13 Tryz.underlying14 Tryz.underlying15 Tryz.underlying16 Tryz.underlying17 Tryz.underlying18 Tryz.underlying19 Tryz.underlying20 Tryz.underlying21 Tryz.underlying22 Tryz.underlying23 Tryz.underlying24 Tryz.underlying25 Tryz.underlying26 Tryz.underlying27 Tryz.underlying28 Tryz.underlying29 Tryz.underlying30 Tryz.underlying31 Tryz.underlying32 Tryz.underlying33 Tryz.underlying34 Tryz.underlying35 Tryz.underlying36 Tryz.underlying37 Tryz.underlying38 Tryz.underlying39 Tryz.underlying40 Tryz.underlying41 Tryz.underlying42 Tryz.underlying43 Tryz.underlying44 Tryz.underlying45 Tryz.underlying46 Tryz.underlying47 Tryz.underlying48 Tryz.underlying49 Tryz.underlying50 Tryz.underlying51 Tryz.underlying52 Tryz.underlying53 Tryz.underlying54 Tryz.underlying55 Tryz.underlying56 Tryz.underlying57 Tryz.underlying58 Tryz.underlying59 Tryz.underlying60 Tryz.underlying61 Tryz.underlying62 Tryz.underlying63 Tryz.underlying64 Tryz.underlying65 Tryz.underlying66 Tryz.underlying67 Tryz.underlying68 Tryz.underlying69 Tryz.underlying70 Tryz.underlying71 Tryz.underlying72 Tryz.underlying73 Tryz.underlying74 Tryz.underlying75 Tryz.underlying76 Tryz.underlying77 Tryz.underlying78 Tryz.underlying79 Tryz.underlying80 Tryz.underlying81 Tryz.underlying82 Tryz.underlying83 Tryz.underlying84 Tryz.underlying85 Tryz.underlying86 Tryz.underlying87 Tryz.underlying88 Tryz.underlying89 Tryz.underlying90 Tryz.underlying91 Tryz.underlying92 Tryz.underlying93 Tryz.underlying94 Tryz.underlying95 Tryz.underlying96 Tryz.underlying97 Tryz.underlying98 Tryz.underlying99 Tryz.underlying100 Tryz.underlying101 Tryz.underlying102 Tryz.underlying103 Tryz.underlying104 Tryz.underlying105 Tryz.underlying106 Tryz.underlying107 Tryz.underlying108 Tryz.underlying109 Tryz.underlying110 Tryz.underlying111 Tryz.underlying112 Tryz.underlying113 Tryz.underlying114 Tryz.underlying115 Tryz.underlying116 Tryz.underlying117 Tryz.underlying118 Tryz.underlying119 Tryz.underlying120 Tryz.underlying121 Tryz.underlying122 Tryz.underlying123 Tryz.underlying124 Tryz.underlying125 Tryz.underlying126 Tryz.underlying127 Tryz.underlying128 Tryz.underlying129 Tryz.underlying130 Tryz.underlying131 Tryz.underlying132 Tryz.underlying133 Tryz.underlying134 Tryz.underlying135 Tryz.underlying136 Tryz.underlying137 Tryz.underlying138 Tryz.underlying139 Tryz.underlying140 Tryz.underlying141 Tryz.underlying142 Tryz.underlying143 Tryz.underlying144 Tryz.underlying145 Tryz.underlying146 Tryz.underlying147 Tryz.underlying148 Tryz.underlying149 Tryz.underlying150 Tryz.underlying151 Tryz.underlying152 Tryz.underlying153 Tryz.underlying154 Tryz.underlying155 Tryz.underlying156 Tryz.underlying157 Tryz.underlying158 Tryz.underlying159 Tryz.underlying160 Tryz.underlying161 Tryz.underlying162 Tryz.underlying163 Tryz.underlying164 Tryz.underlying165 Tryz.underlying166 Tryz.underlying167 Tryz.underlying168 Tryz.underlying169 Tryz.underlying170 Tryz.underlying171 Tryz.underlying172 Tryz.underlying173 Tryz.underlying174 Tryz.underlying175 Tryz.underlying176 Tryz.underlying177 Tryz.underlying178 Tryz.underlying179 Tryz.underlying180 Tryz.underlying181 Tryz.underlying182 Tryz.underlying183 Tryz.underlying184 Tryz.underlying185 Tryz.underlying186 Tryz.underlying187 Tryz.underlying188 Tryz.underlying189 Tryz.underlying190 Tryz.underlying191 Tryz.underlying192 Tryz.underlying193 Tryz.underlying194 Tryz.underlying195 Tryz.underlying196 Tryz.underlying197 Tryz.underlying198 Tryz.underlying199 Tryz.underlying200 Tryz.underlying201 Tryz.underlying202 Tryz.underlying203 Tryz.underlying204 Tryz.underlying205 Tryz.underlying206 Tryz.underlying207 Tryz.underlying208 Tryz.underlying209 Tryz.underlying210 Tryz.underlying211 Tryz.underlying212 Tryz.underlying213 Tryz.underlying214 Tryz.underlying215 Tryz.underlying216 Tryz.underlying217 Tryz.underlying218 Tryz.underlying219 Tryz.underlying220 Tryz.underlying221 Tryz.underlying222 Tryz.underlying223 Tryz.underlying224 Tryz.underlying225 Tryz.underlying226 Tryz.underlying227 Tryz.underlying228 Tryz.underlying229 Tryz.underlying230 Tryz.underlying231 Tryz.underlying232 Tryz.underlying233 Tryz.underlying234 Tryz.underlying235 Tryz.underlying236 Tryz.underlying237 Tryz.underlying238 Tryz.underlying239 Tryz.underlying240 Tryz.underlying241 Tryz.underlying242 Tryz.underlying243 Tryz.underlying244 Tryz.underlying245 Tryz.underlying246 Tryz.underlying247 Tryz.underlying248 Tryz.underlying249 Tryz.underlying250 Tryz.underlying251 Tryz.underlying252 Tryz.underlying253 Tryz.underlying254 Tryz.underlying255 Tryz.underlying256 Tryz.underlying257 Tryz.underlying258 Tryz.underlying259 Tryz.underlying260 Tryz.underlying261 Tryz.underlying262 Tryz.underlying263 Tryz.underlying264 Tryz.underlying265 Tryz.underlying266 Tryz.underlying267 Tryz.underlying268 Tryz.underlying269 Tryz.underlying270 Tryz.underlying271 Tryz.underlying272 Tryz.underlying273 Tryz.underlying274
theorem info_of {P : Program} {t n : Nat} {i : TypeInfo} (h : P.types.size = n) (hl : t < n) (hi : P.types[t]? = some i) : P.info? t = some i := by
  unfold Tables.info?
  rw [if_pos (by rw [h]; exact hl)]
  exact hi
def zB (n : Nat) : List IV := List.replicate n (.v (.bool false))
def fld (P : Program) (t i : Nat) : Field := (fieldT P t i).getD ⟨ "", 0, 0, false, "", "", 0⟩
@[go_sem] theorem info_2 : Tryz.prog.info? 2 = some Tryz.t2 := info_of Tryz.types_size (by decide) Tryz.type2
@[go_sem] theorem tz_2 : Tryz.t2.size = 1 := rfl
@[go_sem] theorem tb_2 : Tryz.t2.bytes = 8 := rfl
@[go_sem] theorem sz_2 : szOf Tryz.prog 2 = some 1 := by rw [szOf, info_2]; rfl
@[go_sem] theorem ag_2 : isAggT Tryz.prog 2 = some false := by rw [isAggT, Tryz.underlying2]; rfl
@[go_sem] theorem ze_2 : zeroC Tryz.prog 2 = some [(.v (.int .i64 0))] := by rw [zeroC, info_2]; rfl
@[go_sem] theorem info_3 : Tryz.prog.info? 3 = some Tryz.t3 := info_of Tryz.types_size (by decide) Tryz.type3
@[go_sem] theorem tz_3 : Tryz.t3.size = 1 := rfl
@[go_sem] theorem tb_3 : Tryz.t3.bytes = 8 := rfl
@[go_sem] theorem sz_3 : szOf Tryz.prog 3 = some 1 := by rw [szOf, info_3]; rfl
@[go_sem] theorem ag_3 : isAggT Tryz.prog 3 = some false := by rw [isAggT, Tryz.underlying3]; rfl
@[go_sem] theorem ze_3 : zeroC Tryz.prog 3 = some [(.v (.int .i64 0))] := by rw [zeroC, info_3]; rfl
@[go_sem] theorem info_4 : Tryz.prog.info? 4 = some Tryz.t4 := info_of Tryz.types_size (by decide) Tryz.type4
@[go_sem] theorem tz_4 : Tryz.t4.size = 1 := rfl
@[go_sem] theorem tb_4 : Tryz.t4.bytes = 1 := rfl
@[go_sem] theorem sz_4 : szOf Tryz.prog 4 = some 1 := by rw [szOf, info_4]; rfl
@[go_sem] theorem ag_4 : isAggT Tryz.prog 4 = some false := by rw [isAggT, Tryz.underlying4]; rfl
@[go_sem] theorem ze_4 : zeroC Tryz.prog 4 = some [(.v (.bool false))] := by rw [zeroC, info_4]; rfl
@[go_sem] theorem info_5 : Tryz.prog.info? 5 = some Tryz.t5 := info_of Tryz.types_size (by decide) Tryz.type5
@[go_sem] theorem tz_5 : Tryz.t5.size = 1 := rfl
@[go_sem] theorem tb_5 : Tryz.t5.bytes = 1 := rfl
@[go_sem] theorem sz_5 : szOf Tryz.prog 5 = some 1 := by rw [szOf, info_5]; rfl
@[go_sem] theorem ag_5 : isAggT Tryz.prog 5 = some false := by rw [isAggT, Tryz.underlying5]; rfl
@[go_sem] theorem ze_5 : zeroC Tryz.prog 5 = some [(.v (.int .u8 0))] := by rw [zeroC, info_5]; rfl
@[go_sem] theorem info_9 : Tryz.prog.info? 9 = some Tryz.t9 := info_of Tryz.types_size (by decide) Tryz.type9
@[go_sem] theorem tz_9 : Tryz.t9.size = 1 := rfl
@[go_sem] theorem tb_9 : Tryz.t9.bytes = 16 := rfl
@[go_sem] theorem sz_9 : szOf Tryz.prog 9 = some 1 := by rw [szOf, info_9]; rfl
@[go_sem] theorem ag_9 : isAggT Tryz.prog 9 = some false := by rw [isAggT, Tryz.underlying9]; rfl
@[go_sem] theorem ze_9 : zeroC Tryz.prog 9 = some [(.v (.string ⟨#[]⟩))] := by rw [zeroC, info_9]; rfl
@[go_sem] theorem info_21 : Tryz.prog.info? 21 = some Tryz.t21 := info_of Tryz.types_size (by decide) Tryz.type21
@[go_sem] theorem tz_21 : Tryz.t21.size = 1 := rfl
@[go_sem] theorem tb_21 : Tryz.t21.bytes = 4 := rfl
@[go_sem] theorem sz_21 : szOf Tryz.prog 21 = some 1 := by rw [szOf, info_21]; rfl
@[go_sem] theorem ag_21 : isAggT Tryz.prog 21 = some false := by rw [isAggT, Tryz.underlying21]; rfl
@[go_sem] theorem ze_21 : zeroC Tryz.prog 21 = some [(.v (.int .i32 0))] := by rw [zeroC, info_21]; rfl
@[go_sem] theorem info_22 : Tryz.prog.info? 22 = some Tryz.t22 := info_of Tryz.types_size (by decide) Tryz.type22
@[go_sem] theorem tz_22 : Tryz.t22.size = 1 := rfl
@[go_sem] theorem tb_22 : Tryz.t22.bytes = 24 := rfl
@[go_sem] theorem sz_22 : szOf Tryz.prog 22 = some 1 := by rw [szOf, info_22]; rfl
@[go_sem] theorem ag_22 : isAggT Tryz.prog 22 = some false := by rw [isAggT, Tryz.underlying22]; rfl
@[go_sem] theorem el_22 : elemT Tryz.prog 22 = some 5 := by rw [elemT, Tryz.underlying22]
@[go_sem] theorem ze_22 : zeroC Tryz.prog 22 = some [.emp] := by rw [zeroC, info_22]; rfl
@[go_sem] theorem info_23 : Tryz.prog.info? 23 = some Tryz.t23 := info_of Tryz.types_size (by decide) Tryz.type23
@[go_sem] theorem tz_23 : Tryz.t23.size = 1 := rfl
@[go_sem] theorem tb_23 : Tryz.t23.bytes = 24 := rfl
@[go_sem] theorem sz_23 : szOf Tryz.prog 23 = some 1 := by rw [szOf, info_23]; rfl
@[go_sem] theorem ag_23 : isAggT Tryz.prog 23 = some false := by rw [isAggT, Tryz.underlying23]; rfl
@[go_sem] theorem el_23 : elemT Tryz.prog 23 = some 39 := by rw [elemT, Tryz.underlying23]
@[go_sem] theorem ze_23 : zeroC Tryz.prog 23 = some [.emp] := by rw [zeroC, info_23]; rfl
@[go_sem] theorem info_25 : Tryz.prog.info? 25 = some Tryz.t25 := info_of Tryz.types_size (by decide) Tryz.type25
@[go_sem] theorem tz_25 : Tryz.t25.size = 2 := rfl
@[go_sem] theorem tb_25 : Tryz.t25.bytes = 32 := rfl
@[go_sem] theorem sz_25 : szOf Tryz.prog 25 = some 2 := by rw [szOf, info_25]; rfl
@[go_sem] theorem ag_25 : isAggT Tryz.prog 25 = some true := by rw [isAggT, Tryz.underlying25]; rfl
@[go_sem] theorem fd_25_0 : fieldT Tryz.prog 25 0 = some { name := "Nodes", type := 3, offset := 0, embedded := false, tag := "", pkgPath := "", byteOffset := 0 } := by rw [fieldT, Tryz.underlying25]; rfl
@[go_sem] theorem fd_25_1 : fieldT Tryz.prog 25 1 = some { name := "Edges", type := 23, offset := 1, embedded := false, tag := "", pkgPath := "", byteOffset := 8 } := by rw [fieldT, Tryz.underlying25]; rfl
@[go_sem] theorem ze_25 : zeroC Tryz.prog 25 = some [(.v (.int .i64 0)), .emp] := by rw [zeroC, info_25]; rfl
@[go_sem] theorem info_28 : Tryz.prog.info? 28 = some Tryz.t28 := info_of Tryz.types_size (by decide) Tryz.type28
@[go_sem] theorem tz_28 : Tryz.t28.size = 1 := rfl
@[go_sem] theorem tb_28 : Tryz.t28.bytes = 24 := rfl
@[go_sem] theorem sz_28 : szOf Tryz.prog 28 = some 1 := by rw [szOf, info_28]; rfl
@[go_sem] theorem ag_28 : isAggT Tryz.prog 28 = some false := by rw [isAggT, Tryz.underlying28]; rfl
@[go_sem] theorem el_28 : elemT Tryz.prog 28 = some 33 := by rw [elemT, Tryz.underlying28]
@[go_sem] theorem ze_28 : zeroC Tryz.prog 28 = some [.emp] := by rw [zeroC, info_28]; rfl
@[go_sem] theorem info_33 : Tryz.prog.info? 33 = some Tryz.t33 := info_of Tryz.types_size (by decide) Tryz.type33
@[go_sem] theorem tz_33 : Tryz.t33.size = 1 := rfl
@[go_sem] theorem tb_33 : Tryz.t33.bytes = 24 := rfl
@[go_sem] theorem sz_33 : szOf Tryz.prog 33 = some 1 := by rw [szOf, info_33]; rfl
@[go_sem] theorem ag_33 : isAggT Tryz.prog 33 = some false := by rw [isAggT, Tryz.underlying33]; rfl
@[go_sem] theorem el_33 : elemT Tryz.prog 33 = some 3 := by rw [elemT, Tryz.underlying33]
@[go_sem] theorem ze_33 : zeroC Tryz.prog 33 = some [.emp] := by rw [zeroC, info_33]; rfl
@[go_sem] theorem info_39 : Tryz.prog.info? 39 = some Tryz.t39 := info_of Tryz.types_size (by decide) Tryz.type39
@[go_sem] theorem tz_39 : Tryz.t39.size = 2 := rfl
@[go_sem] theorem tb_39 : Tryz.t39.bytes = 16 := rfl
@[go_sem] theorem sz_39 : szOf Tryz.prog 39 = some 2 := by rw [szOf, info_39]; rfl
@[go_sem] theorem ag_39 : isAggT Tryz.prog 39 = some true := by rw [isAggT, Tryz.underlying39]; rfl
@[go_sem] theorem fd_39_0 : fieldT Tryz.prog 39 0 = some { name := "A", type := 3, offset := 0, embedded := false, tag := "", pkgPath := "", byteOffset := 0 } := by rw [fieldT, Tryz.underlying39]; rfl
@[go_sem] theorem fd_39_1 : fieldT Tryz.prog 39 1 = some { name := "B", type := 3, offset := 1, embedded := false, tag := "", pkgPath := "", byteOffset := 8 } := by rw [fieldT, Tryz.underlying39]; rfl
@[go_sem] theorem ze_39 : zeroC Tryz.prog 39 = some [(.v (.int .i64 0)), (.v (.int .i64 0))] := by rw [zeroC, info_39]; rfl
@[go_sem] theorem fs_39 : flatS Tryz.prog 39 2 = true := by simp [flatS, Tryz.underlying39, Tryz.stoodInHeld39, Tryz.eqGuardType39, Tryz.underlying3]
@[go_sem] theorem info_62 : Tryz.prog.info? 62 = some Tryz.t62 := info_of Tryz.types_size (by decide) Tryz.type62
@[go_sem] theorem tz_62 : Tryz.t62.size = 1 := rfl
@[go_sem] theorem tb_62 : Tryz.t62.bytes = 24 := rfl
@[go_sem] theorem sz_62 : szOf Tryz.prog 62 = some 1 := by rw [szOf, info_62]; rfl
@[go_sem] theorem ag_62 : isAggT Tryz.prog 62 = some false := by rw [isAggT, Tryz.underlying62]; rfl
@[go_sem] theorem el_62 : elemT Tryz.prog 62 = some 23 := by rw [elemT, Tryz.underlying62]
@[go_sem] theorem ze_62 : zeroC Tryz.prog 62 = some [.emp] := by rw [zeroC, info_62]; rfl
@[go_sem] theorem info_65 : Tryz.prog.info? 65 = some Tryz.t65 := info_of Tryz.types_size (by decide) Tryz.type65
@[go_sem] theorem tz_65 : Tryz.t65.size = 1 := rfl
@[go_sem] theorem tb_65 : Tryz.t65.bytes = 8 := rfl
@[go_sem] theorem sz_65 : szOf Tryz.prog 65 = some 1 := by rw [szOf, info_65]; rfl
@[go_sem] theorem ag_65 : isAggT Tryz.prog 65 = some false := by rw [isAggT, Tryz.underlying65]; rfl
@[go_sem] theorem info_66 : Tryz.prog.info? 66 = some Tryz.t66 := info_of Tryz.types_size (by decide) Tryz.type66
@[go_sem] theorem tz_66 : Tryz.t66.size = 16 := rfl
@[go_sem] theorem tb_66 : Tryz.t66.bytes = 16 := rfl
@[go_sem] theorem sz_66 : szOf Tryz.prog 66 = some 16 := by rw [szOf, info_66]; rfl
@[go_sem] theorem ag_66 : isAggT Tryz.prog 66 = some true := by rw [isAggT, Tryz.underlying66]; rfl
@[go_sem] theorem ze_66 : zeroC Tryz.prog 66 = some (zB 16) := by rw [zeroC, info_66]; rfl
@[go_sem] theorem info_68 : Tryz.prog.info? 68 = some Tryz.t68 := info_of Tryz.types_size (by decide) Tryz.type68
@[go_sem] theorem tz_68 : Tryz.t68.size = 256 := rfl
@[go_sem] theorem tb_68 : Tryz.t68.bytes = 256 := rfl
@[go_sem] theorem sz_68 : szOf Tryz.prog 68 = some 256 := by rw [szOf, info_68]; rfl
@[go_sem] theorem ag_68 : isAggT Tryz.prog 68 = some true := by rw [isAggT, Tryz.underlying68]; rfl
@[go_sem] theorem ze_68 : zeroC Tryz.prog 68 = some (zB 256) := by rw [zeroC, info_68]; rfl
@[go_sem] theorem info_76 : Tryz.prog.info? 76 = some Tryz.t76 := info_of Tryz.types_size (by decide) Tryz.type76
@[go_sem] theorem tz_76 : Tryz.t76.size = 2 := rfl
@[go_sem] theorem tb_76 : Tryz.t76.bytes = 48 := rfl
@[go_sem] theorem sz_76 : szOf Tryz.prog 76 = some 2 := by rw [szOf, info_76]; rfl
@[go_sem] theorem ag_76 : isAggT Tryz.prog 76 = some true := by rw [isAggT, Tryz.underlying76]; rfl
@[go_sem] theorem fd_76_0 : fieldT Tryz.prog 76 0 = some (fld Tryz.prog 76 0) := by rw [fld, fieldT, Tryz.underlying76]; rfl
@[go_sem] theorem fo_76_0 : (fld Tryz.prog 76 0).offset = 0 := by rw [fld, fieldT, Tryz.underlying76]; rfl
@[go_sem] theorem ft_76_0 : (fld Tryz.prog 76 0).type = 33 := by rw [fld, fieldT, Tryz.underlying76]; rfl
@[go_sem] theorem fd_76_1 : fieldT Tryz.prog 76 1 = some (fld Tryz.prog 76 1) := by rw [fld, fieldT, Tryz.underlying76]; rfl
@[go_sem] theorem fo_76_1 : (fld Tryz.prog 76 1).offset = 1 := by rw [fld, fieldT, Tryz.underlying76]; rfl
@[go_sem] theorem ft_76_1 : (fld Tryz.prog 76 1).type = 33 := by rw [fld, fieldT, Tryz.underlying76]; rfl
@[go_sem] theorem ze_76 : zeroC Tryz.prog 76 = some [.emp, .emp] := by rw [zeroC, info_76]; rfl
@[go_sem] theorem info_81 : Tryz.prog.info? 81 = some Tryz.t81 := info_of Tryz.types_size (by decide) Tryz.type81
@[go_sem] theorem tz_81 : Tryz.t81.size = 1 := rfl
@[go_sem] theorem tb_81 : Tryz.t81.bytes = 24 := rfl
@[go_sem] theorem sz_81 : szOf Tryz.prog 81 = some 1 := by rw [szOf, info_81]; rfl
@[go_sem] theorem ag_81 : isAggT Tryz.prog 81 = some false := by rw [isAggT, Tryz.underlying81]; rfl
@[go_sem] theorem el_81 : elemT Tryz.prog 81 = some 4 := by rw [elemT, Tryz.underlying81]
@[go_sem] theorem ze_81 : zeroC Tryz.prog 81 = some [.emp] := by rw [zeroC, info_81]; rfl
@[go_sem] theorem info_83 : Tryz.prog.info? 83 = some Tryz.t83 := info_of Tryz.types_size (by decide) Tryz.type83
@[go_sem] theorem tz_83 : Tryz.t83.size = 4 := rfl
@[go_sem] theorem tb_83 : Tryz.t83.bytes = 80 := rfl
@[go_sem] theorem sz_83 : szOf Tryz.prog 83 = some 4 := by rw [szOf, info_83]; rfl
@[go_sem] theorem ag_83 : isAggT Tryz.prog 83 = some true := by rw [isAggT, Tryz.underlying83]; rfl
@[go_sem] theorem fd_83_0 : fieldT Tryz.prog 83 0 = some { name := "Graph", type := 25, offset := 0, embedded := false, tag := "", pkgPath := "", byteOffset := 0 } := by rw [fieldT, Tryz.underlying83]; rfl
@[go_sem] theorem fd_83_1 : fieldT Tryz.prog 83 1 = some { name := "Levels", type := 33, offset := 2, embedded := false, tag := "", pkgPath := "", byteOffset := 32 } := by rw [fieldT, Tryz.underlying83]; rfl
@[go_sem] theorem fd_83_2 : fieldT Tryz.prog 83 2 = some { name := "Tree", type := 81, offset := 3, embedded := false, tag := "", pkgPath := "", byteOffset := 56 } := by rw [fieldT, Tryz.underlying83]; rfl
@[go_sem] theorem ze_83 : zeroC Tryz.prog 83 = some [(.v (.int .i64 0)), .emp, .emp, .emp] := by rw [zeroC, info_83]; rfl
@[go_sem] theorem info_86 : Tryz.prog.info? 86 = some Tryz.t86 := info_of Tryz.types_size (by decide) Tryz.type86
@[go_sem] theorem tz_86 : Tryz.t86.size = 1 := rfl
@[go_sem] theorem tb_86 : Tryz.t86.bytes = 24 := rfl
@[go_sem] theorem sz_86 : szOf Tryz.prog 86 = some 1 := by rw [szOf, info_86]; rfl
@[go_sem] theorem ag_86 : isAggT Tryz.prog 86 = some false := by rw [isAggT, Tryz.underlying86]; rfl
@[go_sem] theorem el_86 : elemT Tryz.prog 86 = some 9 := by rw [elemT, Tryz.underlying86]
@[go_sem] theorem ze_86 : zeroC Tryz.prog 86 = some [.emp] := by rw [zeroC, info_86]; rfl
@[go_sem] theorem info_91 : Tryz.prog.info? 91 = some Tryz.t91 := info_of Tryz.types_size (by decide) Tryz.type91
@[go_sem] theorem tz_91 : Tryz.t91.size = 1 := rfl
@[go_sem] theorem tb_91 : Tryz.t91.bytes = 8 := rfl
@[go_sem] theorem sz_91 : szOf Tryz.prog 91 = some 1 := by rw [szOf, info_91]; rfl
@[go_sem] theorem ag_91 : isAggT Tryz.prog 91 = some false := by rw [isAggT, Tryz.underlying91]; rfl
@[go_sem] theorem info_94 : Tryz.prog.info? 94 = some Tryz.t94 := info_of Tryz.types_size (by decide) Tryz.type94
@[go_sem] theorem tz_94 : Tryz.t94.size = 1 := rfl
@[go_sem] theorem tb_94 : Tryz.t94.bytes = 8 := rfl
@[go_sem] theorem sz_94 : szOf Tryz.prog 94 = some 1 := by rw [szOf, info_94]; rfl
@[go_sem] theorem ag_94 : isAggT Tryz.prog 94 = some false := by rw [isAggT, Tryz.underlying94]; rfl
@[go_sem] theorem info_101 : Tryz.prog.info? 101 = some Tryz.t101 := info_of Tryz.types_size (by decide) Tryz.type101
@[go_sem] theorem tz_101 : Tryz.t101.size = 1 := rfl
@[go_sem] theorem tb_101 : Tryz.t101.bytes = 8 := rfl
@[go_sem] theorem sz_101 : szOf Tryz.prog 101 = some 1 := by rw [szOf, info_101]; rfl
@[go_sem] theorem ag_101 : isAggT Tryz.prog 101 = some false := by rw [isAggT, Tryz.underlying101]; rfl
@[go_sem] theorem ze_101 : zeroC Tryz.prog 101 = some [(.v (.pointer none))] := by rw [zeroC, info_101]; rfl
@[go_sem] theorem info_106 : Tryz.prog.info? 106 = some Tryz.t106 := info_of Tryz.types_size (by decide) Tryz.type106
@[go_sem] theorem tz_106 : Tryz.t106.size = 1 := rfl
@[go_sem] theorem tb_106 : Tryz.t106.bytes = 8 := rfl
@[go_sem] theorem sz_106 : szOf Tryz.prog 106 = some 1 := by rw [szOf, info_106]; rfl
@[go_sem] theorem ag_106 : isAggT Tryz.prog 106 = some false := by rw [isAggT, Tryz.underlying106]; rfl
@[go_sem] theorem info_114 : Tryz.prog.info? 114 = some Tryz.t114 := info_of Tryz.types_size (by decide) Tryz.type114
@[go_sem] theorem tz_114 : Tryz.t114.size = 3 := rfl
@[go_sem] theorem tb_114 : Tryz.t114.bytes = 72 := rfl
@[go_sem] theorem sz_114 : szOf Tryz.prog 114 = some 3 := by rw [szOf, info_114]; rfl
@[go_sem] theorem ag_114 : isAggT Tryz.prog 114 = some true := by rw [isAggT, Tryz.underlying114]; rfl
@[go_sem] theorem fd_114_0 : fieldT Tryz.prog 114 0 = some { name := "Numbers", type := 33, offset := 0, embedded := false, tag := "", pkgPath := "", byteOffset := 0 } := by rw [fieldT, Tryz.underlying114]; rfl
@[go_sem] theorem fd_114_1 : fieldT Tryz.prog 114 1 = some { name := "Parents", type := 33, offset := 1, embedded := false, tag := "", pkgPath := "", byteOffset := 24 } := by rw [fieldT, Tryz.underlying114]; rfl
@[go_sem] theorem fd_114_2 : fieldT Tryz.prog 114 2 = some { name := "Lows", type := 33, offset := 2, embedded := false, tag := "", pkgPath := "", byteOffset := 48 } := by rw [fieldT, Tryz.underlying114]; rfl
@[go_sem] theorem ze_114 : zeroC Tryz.prog 114 = some [.emp, .emp, .emp] := by rw [zeroC, info_114]; rfl
@[go_sem] theorem info_116 : Tryz.prog.info? 116 = some Tryz.t116 := info_of Tryz.types_size (by decide) Tryz.type116
@[go_sem] theorem tz_116 : Tryz.t116.size = 1 := rfl
@[go_sem] theorem tb_116 : Tryz.t116.bytes = 24 := rfl
@[go_sem] theorem sz_116 : szOf Tryz.prog 116 = some 1 := by rw [szOf, info_116]; rfl
@[go_sem] theorem ag_116 : isAggT Tryz.prog 116 = some false := by rw [isAggT, Tryz.underlying116]; rfl
@[go_sem] theorem el_116 : elemT Tryz.prog 116 = some 118 := by rw [elemT, Tryz.underlying116]
@[go_sem] theorem ze_116 : zeroC Tryz.prog 116 = some [.emp] := by rw [zeroC, info_116]; rfl
@[go_sem] theorem info_118 : Tryz.prog.info? 118 = some Tryz.t118 := info_of Tryz.types_size (by decide) Tryz.type118
@[go_sem] theorem tz_118 : Tryz.t118.size = 2 := rfl
@[go_sem] theorem tb_118 : Tryz.t118.bytes = 16 := rfl
@[go_sem] theorem sz_118 : szOf Tryz.prog 118 = some 2 := by rw [szOf, info_118]; rfl
@[go_sem] theorem ag_118 : isAggT Tryz.prog 118 = some true := by rw [isAggT, Tryz.underlying118]; rfl
@[go_sem] theorem ze_118 : zeroC Tryz.prog 118 = some [(.v (.int .i64 0)), (.v (.int .i64 0))] := by rw [zeroC, info_118]; rfl
@[go_sem] theorem info_129 : Tryz.prog.info? 129 = some Tryz.t129 := info_of Tryz.types_size (by decide) Tryz.type129
@[go_sem] theorem tz_129 : Tryz.t129.size = 1 := rfl
@[go_sem] theorem tb_129 : Tryz.t129.bytes = 8 := rfl
@[go_sem] theorem sz_129 : szOf Tryz.prog 129 = some 1 := by rw [szOf, info_129]; rfl
@[go_sem] theorem ag_129 : isAggT Tryz.prog 129 = some false := by rw [isAggT, Tryz.underlying129]; rfl
@[go_sem] theorem ze_129 : zeroC Tryz.prog 129 = some [(.v (.pointer none))] := by rw [zeroC, info_129]; rfl
@[go_sem] theorem info_136 : Tryz.prog.info? 136 = some Tryz.t136 := info_of Tryz.types_size (by decide) Tryz.type136
@[go_sem] theorem tz_136 : Tryz.t136.size = 1 := rfl
@[go_sem] theorem tb_136 : Tryz.t136.bytes = 8 := rfl
@[go_sem] theorem sz_136 : szOf Tryz.prog 136 = some 1 := by rw [szOf, info_136]; rfl
@[go_sem] theorem ag_136 : isAggT Tryz.prog 136 = some false := by rw [isAggT, Tryz.underlying136]; rfl
@[go_sem] theorem ze_136 : zeroC Tryz.prog 136 = some [(.v (.int .u64 0))] := by rw [zeroC, info_136]; rfl
@[go_sem] theorem info_142 : Tryz.prog.info? 142 = some Tryz.t142 := info_of Tryz.types_size (by decide) Tryz.type142
@[go_sem] theorem tz_142 : Tryz.t142.size = 2 := rfl
@[go_sem] theorem tb_142 : Tryz.t142.bytes = 32 := rfl
@[go_sem] theorem sz_142 : szOf Tryz.prog 142 = some 2 := by rw [szOf, info_142]; rfl
@[go_sem] theorem ag_142 : isAggT Tryz.prog 142 = some true := by rw [isAggT, Tryz.underlying142]; rfl
@[go_sem] theorem fd_142_0 : fieldT Tryz.prog 142 0 = some (fld Tryz.prog 142 0) := by rw [fld, fieldT, Tryz.underlying142]; rfl
@[go_sem] theorem fo_142_0 : (fld Tryz.prog 142 0).offset = 0 := by rw [fld, fieldT, Tryz.underlying142]; rfl
@[go_sem] theorem ft_142_0 : (fld Tryz.prog 142 0).type = 22 := by rw [fld, fieldT, Tryz.underlying142]; rfl
@[go_sem] theorem fd_142_1 : fieldT Tryz.prog 142 1 = some (fld Tryz.prog 142 1) := by rw [fld, fieldT, Tryz.underlying142]; rfl
@[go_sem] theorem fo_142_1 : (fld Tryz.prog 142 1).offset = 1 := by rw [fld, fieldT, Tryz.underlying142]; rfl
@[go_sem] theorem ft_142_1 : (fld Tryz.prog 142 1).type = 3 := by rw [fld, fieldT, Tryz.underlying142]; rfl
@[go_sem] theorem ze_142 : zeroC Tryz.prog 142 = some [.emp, (.v (.int .i64 0))] := by rw [zeroC, info_142]; rfl
@[go_sem] theorem info_172 : Tryz.prog.info? 172 = some Tryz.t172 := info_of Tryz.types_size (by decide) Tryz.type172
@[go_sem] theorem tz_172 : Tryz.t172.size = 1 := rfl
@[go_sem] theorem tb_172 : Tryz.t172.bytes = 8 := rfl
@[go_sem] theorem sz_172 : szOf Tryz.prog 172 = some 1 := by rw [szOf, info_172]; rfl
@[go_sem] theorem ag_172 : isAggT Tryz.prog 172 = some false := by rw [isAggT, Tryz.underlying172]; rfl
@[go_sem] theorem ze_172 : zeroC Tryz.prog 172 = some [(.v (.pointer none))] := by rw [zeroC, info_172]; rfl
@[go_sem] theorem info_177 : Tryz.prog.info? 177 = some Tryz.t177 := info_of Tryz.types_size (by decide) Tryz.type177
@[go_sem] theorem tz_177 : Tryz.t177.size = 1 := rfl
@[go_sem] theorem tb_177 : Tryz.t177.bytes = 4 := rfl
@[go_sem] theorem sz_177 : szOf Tryz.prog 177 = some 1 := by rw [szOf, info_177]; rfl
@[go_sem] theorem ag_177 : isAggT Tryz.prog 177 = some false := by rw [isAggT, Tryz.underlying177]; rfl
@[go_sem] theorem ze_177 : zeroC Tryz.prog 177 = some [(.v (.int .u32 0))] := by rw [zeroC, info_177]; rfl
@[go_sem] theorem info_180 : Tryz.prog.info? 180 = some Tryz.t180 := info_of Tryz.types_size (by decide) Tryz.type180
@[go_sem] theorem tz_180 : Tryz.t180.size = 1 := rfl
@[go_sem] theorem tb_180 : Tryz.t180.bytes = 8 := rfl
@[go_sem] theorem sz_180 : szOf Tryz.prog 180 = some 1 := by rw [szOf, info_180]; rfl
@[go_sem] theorem ag_180 : isAggT Tryz.prog 180 = some false := by rw [isAggT, Tryz.underlying180]; rfl
@[go_sem] theorem ze_180 : zeroC Tryz.prog 180 = some [(.v (.int .u64 0))] := by rw [zeroC, info_180]; rfl
@[go_sem] theorem info_192 : Tryz.prog.info? 192 = some Tryz.t192 := info_of Tryz.types_size (by decide) Tryz.type192
@[go_sem] theorem tz_192 : Tryz.t192.size = 1 := rfl
@[go_sem] theorem tb_192 : Tryz.t192.bytes = 16 := rfl
@[go_sem] theorem sz_192 : szOf Tryz.prog 192 = some 1 := by rw [szOf, info_192]; rfl
@[go_sem] theorem ag_192 : isAggT Tryz.prog 192 = some false := by rw [isAggT, Tryz.underlying192]; rfl
@[go_sem] theorem info_202 : Tryz.prog.info? 202 = some Tryz.t202 := info_of Tryz.types_size (by decide) Tryz.type202
@[go_sem] theorem tz_202 : Tryz.t202.size = 24 := rfl
@[go_sem] theorem tb_202 : Tryz.t202.bytes = 24 := rfl
@[go_sem] theorem sz_202 : szOf Tryz.prog 202 = some 24 := by rw [szOf, info_202]; rfl
@[go_sem] theorem ag_202 : isAggT Tryz.prog 202 = some true := by rw [isAggT, Tryz.underlying202]; rfl
@[go_sem] theorem ze_202 : zeroC Tryz.prog 202 = some [(.v (.int .u8 0)), (.v (.int .u8 0)), (.v (.int .u8 0)), (.v (.int .u8 0)), (.v (.int .u8 0)), (.v (.int .u8 0)), (.v (.int .u8 0)), (.v (.int .u8 0)), (.v (.int .u8 0)), (.v (.int .u8 0)), (.v (.int .u8 0)), (.v (.int .u8 0)), (.v (.int .u8 0)), (.v (.int .u8 0)), (.v (.int .u8 0)), (.v (.int .u8 0)), (.v (.int .u8 0)), (.v (.int .u8 0)), (.v (.int .u8 0)), (.v (.int .u8 0)), (.v (.int .u8 0)), (.v (.int .u8 0)), (.v (.int .u8 0)), (.v (.int .u8 0))] := by rw [zeroC, info_202]; rfl
@[go_sem] theorem info_210 : Tryz.prog.info? 210 = some Tryz.t210 := info_of Tryz.types_size (by decide) Tryz.type210
@[go_sem] theorem tz_210 : Tryz.t210.size = 1 := rfl
@[go_sem] theorem tb_210 : Tryz.t210.bytes = 8 := rfl
@[go_sem] theorem sz_210 : szOf Tryz.prog 210 = some 1 := by rw [szOf, info_210]; rfl
@[go_sem] theorem ag_210 : isAggT Tryz.prog 210 = some false := by rw [isAggT, Tryz.underlying210]; rfl
@[go_sem] theorem ze_210 : zeroC Tryz.prog 210 = some [(.v (.int .i64 0))] := by rw [zeroC, info_210]; rfl
@[go_sem] theorem info_224 : Tryz.prog.info? 224 = some Tryz.t224 := info_of Tryz.types_size (by decide) Tryz.type224
@[go_sem] theorem tz_224 : Tryz.t224.size = 20 := rfl
@[go_sem] theorem tb_224 : Tryz.t224.bytes = 160 := rfl
@[go_sem] theorem sz_224 : szOf Tryz.prog 224 = some 20 := by rw [szOf, info_224]; rfl
@[go_sem] theorem ag_224 : isAggT Tryz.prog 224 = some true := by rw [isAggT, Tryz.underlying224]; rfl
@[go_sem] theorem ze_224 : zeroC Tryz.prog 224 = some [(.v (.int .u64 0)), (.v (.int .u64 0)), (.v (.int .u64 0)), (.v (.int .u64 0)), (.v (.int .u64 0)), (.v (.int .u64 0)), (.v (.int .u64 0)), (.v (.int .u64 0)), (.v (.int .u64 0)), (.v (.int .u64 0)), (.v (.int .u64 0)), (.v (.int .u64 0)), (.v (.int .u64 0)), (.v (.int .u64 0)), (.v (.int .u64 0)), (.v (.int .u64 0)), (.v (.int .u64 0)), (.v (.int .u64 0)), (.v (.int .u64 0)), (.v (.int .u64 0))] := by rw [zeroC, info_224]; rfl
@[go_sem] theorem info_225 : Tryz.prog.info? 225 = some Tryz.t225 := info_of Tryz.types_size (by decide) Tryz.type225
@[go_sem] theorem tz_225 : Tryz.t225.size = 65 := rfl
@[go_sem] theorem tb_225 : Tryz.t225.bytes = 65 := rfl
@[go_sem] theorem sz_225 : szOf Tryz.prog 225 = some 65 := by rw [szOf, info_225]; rfl
@[go_sem] theorem ag_225 : isAggT Tryz.prog 225 = some true := by rw [isAggT, Tryz.underlying225]; rfl
@[go_sem] theorem ze_225 : zeroC Tryz.prog 225 = some [(.v (.int .u8 0)), (.v (.int .u8 0)), (.v (.int .u8 0)), (.v (.int .u8 0)), (.v (.int .u8 0)), (.v (.int .u8 0)), (.v (.int .u8 0)), (.v (.int .u8 0)), (.v (.int .u8 0)), (.v (.int .u8 0)), (.v (.int .u8 0)), (.v (.int .u8 0)), (.v (.int .u8 0)), (.v (.int .u8 0)), (.v (.int .u8 0)), (.v (.int .u8 0)), (.v (.int .u8 0)), (.v (.int .u8 0)), (.v (.int .u8 0)), (.v (.int .u8 0)), (.v (.int .u8 0)), (.v (.int .u8 0)), (.v (.int .u8 0)), (.v (.int .u8 0)), (.v (.int .u8 0)), (.v (.int .u8 0)), (.v (.int .u8 0)), (.v (.int .u8 0)), (.v (.int .u8 0)), (.v (.int .u8 0)), (.v (.int .u8 0)), (.v (.int .u8 0)), (.v (.int .u8 0)), (.v (.int .u8 0)), (.v (.int .u8 0)), (.v (.int .u8 0)), (.v (.int .u8 0)), (.v (.int .u8 0)), (.v (.int .u8 0)), (.v (.int .u8 0)), (.v (.int .u8 0)), (.v (.int .u8 0)), (.v (.int .u8 0)), (.v (.int .u8 0)), (.v (.int .u8 0)), (.v (.int .u8 0)), (.v (.int .u8 0)), (.v (.int .u8 0)), (.v (.int .u8 0)), (.v (.int .u8 0)), (.v (.int .u8 0)), (.v (.int .u8 0)), (.v (.int .u8 0)), (.v (.int .u8 0)), (.v (.int .u8 0)), (.v (.int .u8 0)), (.v (.int .u8 0)), (.v (.int .u8 0)), (.v (.int .u8 0)), (.v (.int .u8 0)), (.v (.int .u8 0)), (.v (.int .u8 0)), (.v (.int .u8 0)), (.v (.int .u8 0)), (.v (.int .u8 0))] := by rw [zeroC, info_225]; rfl
@[go_sem] theorem info_226 : Tryz.prog.info? 226 = some Tryz.t226 := info_of Tryz.types_size (by decide) Tryz.type226
@[go_sem] theorem tz_226 : Tryz.t226.size = 1 := rfl
@[go_sem] theorem tb_226 : Tryz.t226.bytes = 8 := rfl
@[go_sem] theorem sz_226 : szOf Tryz.prog 226 = some 1 := by rw [szOf, info_226]; rfl
@[go_sem] theorem ag_226 : isAggT Tryz.prog 226 = some false := by rw [isAggT, Tryz.underlying226]; rfl
@[go_sem] theorem ze_226 : zeroC Tryz.prog 226 = some [(.v (.int .u64 0))] := by rw [zeroC, info_226]; rfl
@[go_sem] theorem info_230 : Tryz.prog.info? 230 = some Tryz.t230 := info_of Tryz.types_size (by decide) Tryz.type230
@[go_sem] theorem tz_230 : Tryz.t230.size = 1 := rfl
@[go_sem] theorem tb_230 : Tryz.t230.bytes = 8 := rfl
@[go_sem] theorem sz_230 : szOf Tryz.prog 230 = some 1 := by rw [szOf, info_230]; rfl
@[go_sem] theorem ag_230 : isAggT Tryz.prog 230 = some false := by rw [isAggT, Tryz.underlying230]; rfl
@[go_sem] theorem ze_230 : zeroC Tryz.prog 230 = some [(.v (.pointer none))] := by rw [zeroC, info_230]; rfl
@[go_sem] theorem info_232 : Tryz.prog.info? 232 = some Tryz.t232 := info_of Tryz.types_size (by decide) Tryz.type232
@[go_sem] theorem tz_232 : Tryz.t232.size = 256 := rfl
@[go_sem] theorem tb_232 : Tryz.t232.bytes = 256 := rfl
@[go_sem] theorem sz_232 : szOf Tryz.prog 232 = some 256 := by rw [szOf, info_232]; rfl
@[go_sem] theorem ag_232 : isAggT Tryz.prog 232 = some true := by rw [isAggT, Tryz.underlying232]; rfl
@[go_sem] theorem ze_232 : zeroC Tryz.prog 232 = some [(.v (.int .u8 0)), (.v (.int .u8 0)), (.v (.int .u8 0)), (.v (.int .u8 0)), (.v (.int .u8 0)), (.v (.int .u8 0)), (.v (.int .u8 0)), (.v (.int .u8 0)), (.v (.int .u8 0)), (.v (.int .u8 0)), (.v (.int .u8 0)), (.v (.int .u8 0)), (.v (.int .u8 0)), (.v (.int .u8 0)), (.v (.int .u8 0)), (.v (.int .u8 0)), (.v (.int .u8 0)), (.v (.int .u8 0)), (.v (.int .u8 0)), (.v (.int .u8 0)), (.v (.int .u8 0)), (.v (.int .u8 0)), (.v (.int .u8 0)), (.v (.int .u8 0)), (.v (.int .u8 0)), (.v (.int .u8 0)), (.v (.int .u8 0)), (.v (.int .u8 0)), (.v (.int .u8 0)), (.v (.int .u8 0)), (.v (.int .u8 0)), (.v (.int .u8 0)), (.v (.int .u8 0)), (.v (.int .u8 0)), (.v (.int .u8 0)), (.v (.int .u8 0)), (.v (.int .u8 0)), (.v (.int .u8 0)), (.v (.int .u8 0)), (.v (.int .u8 0)), (.v (.int .u8 0)), (.v (.int .u8 0)), (.v (.int .u8 0)), (.v (.int .u8 0)), (.v (.int .u8 0)), (.v (.int .u8 0)), (.v (.int .u8 0)), (.v (.int .u8 0)), (.v (.int .u8 0)), (.v (.int .u8 0)), (.v (.int .u8 0)), (.v (.int .u8 0)), (.v (.int .u8 0)), (.v (.int .u8 0)), (.v (.int .u8 0)), (.v (.int .u8 0)), (.v (.int .u8 0)), (.v (.int .u8 0)), (.v (.int .u8 0)), (.v (.int .u8 0)), (.v (.int .u8 0)), (.v (.int .u8 0)), (.v (.int .u8 0)), (.v (.int .u8 0)), (.v (.int .u8 0)), (.v (.int .u8 0)), (.v (.int .u8 0)), (.v (.int .u8 0)), (.v (.int .u8 0)), (.v (.int .u8 0)), (.v (.int .u8 0)), (.v (.int .u8 0)), (.v (.int .u8 0)), (.v (.int .u8 0)), (.v (.int .u8 0)), (.v (.int .u8 0)), (.v (.int .u8 0)), (.v (.int .u8 0)), (.v (.int .u8 0)), (.v (.int .u8 0)), (.v (.int .u8 0)), (.v (.int .u8 0)), (.v (.int .u8 0)), (.v (.int .u8 0)), (.v (.int .u8 0)), (.v (.int .u8 0)), (.v (.int .u8 0)), (.v (.int .u8 0)), (.v (.int .u8 0)), (.v (.int .u8 0)), (.v (.int .u8 0)), (.v (.int .u8 0)), (.v (.int .u8 0)), (.v (.int .u8 0)), (.v (.int .u8 0)), (.v (.int .u8 0)), (.v (.int .u8 0)), (.v (.int .u8 0)), (.v (.int .u8 0)), (.v (.int .u8 0)), (.v (.int .u8 0)), (.v (.int .u8 0)), (.v (.int .u8 0)), (.v (.int .u8 0)), (.v (.int .u8 0)), (.v (.int .u8 0)), (.v (.int .u8 0)), (.v (.int .u8 0)), (.v (.int .u8 0)), (.v (.int .u8 0)), (.v (.int .u8 0)), (.v (.int .u8 0)), (.v (.int .u8 0)), (.v (.int .u8 0)), (.v (.int .u8 0)), (.v (.int .u8 0)), (.v (.int .u8 0)), (.v (.int .u8 0)), (.v (.int .u8 0)), (.v (.int .u8 0)), (.v (.int .u8 0)), (.v (.int .u8 0)), (.v (.int .u8 0)), (.v (.int .u8 0)), (.v (.int .u8 0)), (.v (.int .u8 0)), (.v (.int .u8 0)), (.v (.int .u8 0)), (.v (.int .u8 0)), (.v (.int .u8 0)), (.v (.int .u8 0)), (.v (.int .u8 0)), (.v (.int .u8 0)), (.v (.int .u8 0)), (.v (.int .u8 0)), (.v (.int .u8 0)), (.v (.int .u8 0)), (.v (.int .u8 0)), (.v (.int .u8 0)), (.v (.int .u8 0)), (.v (.int .u8 0)), (.v (.int .u8 0)), (.v (.int .u8 0)), (.v (.int .u8 0)), (.v (.int .u8 0)), (.v (.int .u8 0)), (.v (.int .u8 0)), (.v (.int .u8 0)), (.v (.int .u8 0)), (.v (.int .u8 0)), (.v (.int .u8 0)), (.v (.int .u8 0)), (.v (.int .u8 0)), (.v (.int .u8 0)), (.v (.int .u8 0)), (.v (.int .u8 0)), (.v (.int .u8 0)), (.v (.int .u8 0)), (.v (.int .u8 0)), (.v (.int .u8 0)), (.v (.int .u8 0)), (.v (.int .u8 0)), (.v (.int .u8 0)), (.v (.int .u8 0)), (.v (.int .u8 0)), (.v (.int .u8 0)), (.v (.int .u8 0)), (.v (.int .u8 0)), (.v (.int .u8 0)), (.v (.int .u8 0)), (.v (.int .u8 0)), (.v (.int .u8 0)), (.v (.int .u8 0)), (.v (.int .u8 0)), (.v (.int .u8 0)), (.v (.int .u8 0)), (.v (.int .u8 0)), (.v (.int .u8 0)), (.v (.int .u8 0)), (.v (.int .u8 0)), (.v (.int .u8 0)), (.v (.int .u8 0)), (.v (.int .u8 0)), (.v (.int .u8 0)), (.v (.int .u8 0)), (.v (.int .u8 0)), (.v (.int .u8 0)), (.v (.int .u8 0)), (.v (.int .u8 0)), (.v (.int .u8 0)), (.v (.int .u8 0)), (.v (.int .u8 0)), (.v (.int .u8 0)), (.v (.int .u8 0)), (.v (.int .u8 0)), (.v (.int .u8 0)), (.v (.int .u8 0)), (.v (.int .u8 0)), (.v (.int .u8 0)), (.v (.int .u8 0)), (.v (.int .u8 0)), (.v (.int .u8 0)), (.v (.int .u8 0)), (.v (.int .u8 0)), (.v (.int .u8 0)), (.v (.int .u8 0)), (.v (.int .u8 0)), (.v (.int .u8 0)), (.v (.int .u8 0)), (.v (.int .u8 0)), (.v (.int .u8 0)), (.v (.int .u8 0)), (.v (.int .u8 0)), (.v (.int .u8 0)), (.v (.int .u8 0)), (.v (.int .u8 0)), (.v (.int .u8 0)), (.v (.int .u8 0)), (.v (.int .u8 0)), (.v (.int .u8 0)), (.v (.int .u8 0)), (.v (.int .u8 0)), (.v (.int .u8 0)), (.v (.int .u8 0)), (.v (.int .u8 0)), (.v (.int .u8 0)), (.v (.int .u8 0)), (.v (.int .u8 0)), (.v (.int .u8 0)), (.v (.int .u8 0)), (.v (.int .u8 0)), (.v (.int .u8 0)), (.v (.int .u8 0)), (.v (.int .u8 0)), (.v (.int .u8 0)), (.v (.int .u8 0)), (.v (.int .u8 0)), (.v (.int .u8 0)), (.v (.int .u8 0)), (.v (.int .u8 0)), (.v (.int .u8 0)), (.v (.int .u8 0)), (.v (.int .u8 0)), (.v (.int .u8 0)), (.v (.int .u8 0)), (.v (.int .u8 0)), (.v (.int .u8 0)), (.v (.int .u8 0)), (.v (.int .u8 0)), (.v (.int .u8 0)), (.v (.int .u8 0)), (.v (.int .u8 0)), (.v (.int .u8 0)), (.v (.int .u8 0)), (.v (.int .u8 0)), (.v (.int .u8 0))] := by rw [zeroC, info_232]; rfl
@[go_sem] theorem info_234 : Tryz.prog.info? 234 = some Tryz.t234 := info_of Tryz.types_size (by decide) Tryz.type234
@[go_sem] theorem tz_234 : Tryz.t234.size = 2 := rfl
@[go_sem] theorem tb_234 : Tryz.t234.bytes = 2 := rfl
@[go_sem] theorem sz_234 : szOf Tryz.prog 234 = some 2 := by rw [szOf, info_234]; rfl
@[go_sem] theorem ag_234 : isAggT Tryz.prog 234 = some true := by rw [isAggT, Tryz.underlying234]; rfl
@[go_sem] theorem fd_234_0 : fieldT Tryz.prog 234 0 = some (fld Tryz.prog 234 0) := by rw [fld, fieldT, Tryz.underlying234]; rfl
@[go_sem] theorem fo_234_0 : (fld Tryz.prog 234 0).offset = 0 := by rw [fld, fieldT, Tryz.underlying234]; rfl
@[go_sem] theorem ft_234_0 : (fld Tryz.prog 234 0).type = 5 := by rw [fld, fieldT, Tryz.underlying234]; rfl
@[go_sem] theorem fd_234_1 : fieldT Tryz.prog 234 1 = some (fld Tryz.prog 234 1) := by rw [fld, fieldT, Tryz.underlying234]; rfl
@[go_sem] theorem fo_234_1 : (fld Tryz.prog 234 1).offset = 1 := by rw [fld, fieldT, Tryz.underlying234]; rfl
@[go_sem] theorem ft_234_1 : (fld Tryz.prog 234 1).type = 5 := by rw [fld, fieldT, Tryz.underlying234]; rfl
@[go_sem] theorem ze_234 : zeroC Tryz.prog 234 = some [(.v (.int .u8 0)), (.v (.int .u8 0))] := by rw [zeroC, info_234]; rfl
@[go_sem] theorem fs_234 : flatS Tryz.prog 234 2 = true := by simp [flatS, Tryz.underlying234, Tryz.stoodInHeld234, Tryz.eqGuardType234, Tryz.underlying5]
@[go_sem] theorem info_235 : Tryz.prog.info? 235 = some Tryz.t235 := info_of Tryz.types_size (by decide) Tryz.type235
@[go_sem] theorem tz_235 : Tryz.t235.size = 32 := rfl
@[go_sem] theorem tb_235 : Tryz.t235.bytes = 32 := rfl
@[go_sem] theorem sz_235 : szOf Tryz.prog 235 = some 32 := by rw [szOf, info_235]; rfl
@[go_sem] theorem ag_235 : isAggT Tryz.prog 235 = some true := by rw [isAggT, Tryz.underlying235]; rfl
@[go_sem] theorem ze_235 : zeroC Tryz.prog 235 = some [(.v (.int .u8 0)), (.v (.int .u8 0)), (.v (.int .u8 0)), (.v (.int .u8 0)), (.v (.int .u8 0)), (.v (.int .u8 0)), (.v (.int .u8 0)), (.v (.int .u8 0)), (.v (.int .u8 0)), (.v (.int .u8 0)), (.v (.int .u8 0)), (.v (.int .u8 0)), (.v (.int .u8 0)), (.v (.int .u8 0)), (.v (.int .u8 0)), (.v (.int .u8 0)), (.v (.int .u8 0)), (.v (.int .u8 0)), (.v (.int .u8 0)), (.v (.int .u8 0)), (.v (.int .u8 0)), (.v (.int .u8 0)), (.v (.int .u8 0)), (.v (.int .u8 0)), (.v (.int .u8 0)), (.v (.int .u8 0)), (.v (.int .u8 0)), (.v (.int .u8 0)), (.v (.int .u8 0)), (.v (.int .u8 0)), (.v (.int .u8 0)), (.v (.int .u8 0))] := by rw [zeroC, info_235]; rfl
@[go_sem] theorem info_249 : Tryz.prog.info? 249 = some Tryz.t249 := info_of Tryz.types_size (by decide) Tryz.type249
@[go_sem] theorem tz_249 : Tryz.t249.size = 3 := rfl
@[go_sem] theorem tb_249 : Tryz.t249.bytes = 48 := rfl
@[go_sem] theorem sz_249 : szOf Tryz.prog 249 = some 3 := by rw [szOf, info_249]; rfl
@[go_sem] theorem ag_249 : isAggT Tryz.prog 249 = some true := by rw [isAggT, Tryz.underlying249]; rfl
@[go_sem] theorem fd_249_0 : fieldT Tryz.prog 249 0 = some { name := "Func", type := 9, offset := 0, embedded := false, tag := "", pkgPath := "", byteOffset := 0 } := by rw [fieldT, Tryz.underlying249]; rfl
@[go_sem] theorem fd_249_1 : fieldT Tryz.prog 249 1 = some { name := "Num", type := 9, offset := 1, embedded := false, tag := "", pkgPath := "", byteOffset := 16 } := by rw [fieldT, Tryz.underlying249]; rfl
@[go_sem] theorem fd_249_2 : fieldT Tryz.prog 249 2 = some { name := "Err", type := 192, offset := 2, embedded := false, tag := "", pkgPath := "", byteOffset := 32 } := by rw [fieldT, Tryz.underlying249]; rfl
@[go_sem] theorem info_252 : Tryz.prog.info? 252 = some Tryz.t252 := info_of Tryz.types_size (by decide) Tryz.type252
@[go_sem] theorem tz_252 : Tryz.t252.size = 32 := rfl
@[go_sem] theorem tb_252 : Tryz.t252.bytes = 32 := rfl
@[go_sem] theorem sz_252 : szOf Tryz.prog 252 = some 32 := by rw [szOf, info_252]; rfl
@[go_sem] theorem ag_252 : isAggT Tryz.prog 252 = some true := by rw [isAggT, Tryz.underlying252]; rfl
@[go_sem] theorem ze_252 : zeroC Tryz.prog 252 = some [(.v (.int .u8 0)), (.v (.int .u8 0)), (.v (.int .u8 0)), (.v (.int .u8 0)), (.v (.int .u8 0)), (.v (.int .u8 0)), (.v (.int .u8 0)), (.v (.int .u8 0)), (.v (.int .u8 0)), (.v (.int .u8 0)), (.v (.int .u8 0)), (.v (.int .u8 0)), (.v (.int .u8 0)), (.v (.int .u8 0)), (.v (.int .u8 0)), (.v (.int .u8 0)), (.v (.int .u8 0)), (.v (.int .u8 0)), (.v (.int .u8 0)), (.v (.int .u8 0)), (.v (.int .u8 0)), (.v (.int .u8 0)), (.v (.int .u8 0)), (.v (.int .u8 0)), (.v (.int .u8 0)), (.v (.int .u8 0)), (.v (.int .u8 0)), (.v (.int .u8 0)), (.v (.int .u8 0)), (.v (.int .u8 0)), (.v (.int .u8 0)), (.v (.int .u8 0))] := by rw [zeroC, info_252]; rfl
@[go_sem] theorem info_253 : Tryz.prog.info? 253 = some Tryz.t253 := info_of Tryz.types_size (by decide) Tryz.type253
@[go_sem] theorem tz_253 : Tryz.t253.size = 64 := rfl
@[go_sem] theorem tb_253 : Tryz.t253.bytes = 64 := rfl
@[go_sem] theorem sz_253 : szOf Tryz.prog 253 = some 64 := by rw [szOf, info_253]; rfl
@[go_sem] theorem ag_253 : isAggT Tryz.prog 253 = some true := by rw [isAggT, Tryz.underlying253]; rfl
@[go_sem] theorem ze_253 : zeroC Tryz.prog 253 = some [(.v (.int .u8 0)), (.v (.int .u8 0)), (.v (.int .u8 0)), (.v (.int .u8 0)), (.v (.int .u8 0)), (.v (.int .u8 0)), (.v (.int .u8 0)), (.v (.int .u8 0)), (.v (.int .u8 0)), (.v (.int .u8 0)), (.v (.int .u8 0)), (.v (.int .u8 0)), (.v (.int .u8 0)), (.v (.int .u8 0)), (.v (.int .u8 0)), (.v (.int .u8 0)), (.v (.int .u8 0)), (.v (.int .u8 0)), (.v (.int .u8 0)), (.v (.int .u8 0)), (.v (.int .u8 0)), (.v (.int .u8 0)), (.v (.int .u8 0)), (.v (.int .u8 0)), (.v (.int .u8 0)), (.v (.int .u8 0)), (.v (.int .u8 0)), (.v (.int .u8 0)), (.v (.int .u8 0)), (.v (.int .u8 0)), (.v (.int .u8 0)), (.v (.int .u8 0)), (.v (.int .u8 0)), (.v (.int .u8 0)), (.v (.int .u8 0)), (.v (.int .u8 0)), (.v (.int .u8 0)), (.v (.int .u8 0)), (.v (.int .u8 0)), (.v (.int .u8 0)), (.v (.int .u8 0)), (.v (.int .u8 0)), (.v (.int .u8 0)), (.v (.int .u8 0)), (.v (.int .u8 0)), (.v (.int .u8 0)), (.v (.int .u8 0)), (.v (.int .u8 0)), (.v (.int .u8 0)), (.v (.int .u8 0)), (.v (.int .u8 0)), (.v (.int .u8 0)), (.v (.int .u8 0)), (.v (.int .u8 0)), (.v (.int .u8 0)), (.v (.int .u8 0)), (.v (.int .u8 0)), (.v (.int .u8 0)), (.v (.int .u8 0)), (.v (.int .u8 0)), (.v (.int .u8 0)), (.v (.int .u8 0)), (.v (.int .u8 0)), (.v (.int .u8 0))] := by rw [zeroC, info_253]; rfl
@[go_sem] theorem info_256 : Tryz.prog.info? 256 = some Tryz.t256 := info_of Tryz.types_size (by decide) Tryz.type256
@[go_sem] theorem tz_256 : Tryz.t256.size = 1 := rfl
@[go_sem] theorem tb_256 : Tryz.t256.bytes = 8 := rfl
@[go_sem] theorem sz_256 : szOf Tryz.prog 256 = some 1 := by rw [szOf, info_256]; rfl
@[go_sem] theorem ag_256 : isAggT Tryz.prog 256 = some false := by rw [isAggT, Tryz.underlying256]; rfl
@[go_sem] theorem ze_256 : zeroC Tryz.prog 256 = some [(.v (.pointer none))] := by rw [zeroC, info_256]; rfl
@[go_sem] theorem info_259 : Tryz.prog.info? 259 = some Tryz.t259 := info_of Tryz.types_size (by decide) Tryz.type259
@[go_sem] theorem tz_259 : Tryz.t259.size = 1 := rfl
@[go_sem] theorem tb_259 : Tryz.t259.bytes = 16 := rfl
@[go_sem] theorem sz_259 : szOf Tryz.prog 259 = some 1 := by rw [szOf, info_259]; rfl
@[go_sem] theorem ag_259 : isAggT Tryz.prog 259 = some true := by rw [isAggT, Tryz.underlying259]; rfl
@[go_sem] theorem fd_259_0 : fieldT Tryz.prog 259 0 = some (fld Tryz.prog 259 0) := by rw [fld, fieldT, Tryz.underlying259]; rfl
@[go_sem] theorem fo_259_0 : (fld Tryz.prog 259 0).offset = 0 := by rw [fld, fieldT, Tryz.underlying259]; rfl
@[go_sem] theorem ft_259_0 : (fld Tryz.prog 259 0).type = 9 := by rw [fld, fieldT, Tryz.underlying259]; rfl
@[go_sem] theorem ze_259 : zeroC Tryz.prog 259 = some [(.v (.string ⟨#[]⟩))] := by rw [zeroC, info_259]; rfl
/-- How calls are taken. -/
def mutL : List Nat := [72, 83, 95, 96, 121, 125, 126, 127, 130, 137, 138, 140, 142, 156, 159, 189, 192, 206, 208, 211, 212, 213, 218, 254, 273, 291]
def ownL : List (Nat × Nat) := [(23, 29), (33, 7), (37, 21), (56, 4), (60, 10), (63, 16), (75, 5), (79, 9), (97, 8), (101, 15), (103, 7), (111, 13), (126, 8), (133, 15), (133, 19), (151, 9), (181, 30), (181, 36), (184, 36), (184, 43)]
end Go.Proofs.YtdjdgnabcecdlaaGreatDoor.X
