/- Facts of one program's tables. -/
import Derived.Test.YtmocnnknnbalkaaGreatDoorEval
import Derived.Test.YtmocnnknnbalkaaGreatDoorProg
namespace Go.Proofs.YtmocnnknnbalkaaGreatDoor.X
open Go Go.Proofs
set_option maxRecDepth 100000
attribute [go_sem] Tryz.underlying0 Tryz.underlying1 Tryz.underlying2 Tryz.underlying3 Tryz.underlying4 Tryz.underlying5 Tryz.underlying6 Tryz.underlying7 Tryz.underlying8 Tryz.underlying9 Tryz.underlying10 Tryz.underlying11 Tryz.underlying12 Tryz.underlying13 Tryz.underlying14 Tryz.underlying15 Tryz.underlying16 Tryz.underlying17 Tryz.underlying18 Tryz.underlying19 Tryz.underlying20 Tryz.underlying21 Tryz.underlying22 Tryz.underlying23 Tryz.underlying24 Tryz.underlying25 Tryz.underlying26 Tryz.underlying27 Tryz.underlying28 Tryz.underlying29 Tryz.underlying30 Tryz.underlying31 Tryz.underlying32 Tryz.underlying33 Tryz.underlying34 Tryz.underlying35 Tryz.underlying36 Tryz.underlying37 Tryz.underlying38 Tryz.underlying39 Tryz.underlying40 Tryz.underlying41 Tryz.underlying42 Tryz.underlying43 Tryz.underlying44 Tryz.underlying45 Tryz.underlying46 Tryz.underlying47 Tryz.underlying48 Tryz.underlying49 Tryz.underlying50 Tryz.underlying51 Tryz.underlying52 Tryz.underlying53 Tryz.underlying54 Tryz.underlying55 Tryz.underlying56 Tryz.underlying57 Tryz.underlying58 Tryz.underlying59 Tryz.underlying60 Tryz.underlying61 Tryz.underlying62 Tryz.underlying63 Tryz.underlying64 Tryz.underlying65 Tryz.underlying66 Tryz.underlying67 Tryz.underlying68 Tryz.underlying69 Tryz.underlying70 Tryz.underlying71 Tryz.underlying72 Tryz.underlying73 Tryz.underlying74 Tryz.underlying75 Tryz.underlying76 Tryz.underlying77 Tryz.underlying78 Tryz.underlying79 Tryz.underlying80 Tryz.underlying81 Tryz.underlying82 Tryz.underlying83 Tryz.underlying84 Tryz.underlying85 Tryz.underlying86 Tryz.underlying87 Tryz.underlying88 Tryz.underlying89 Tryz.underlying90 Tryz.underlying91 Tryz.underlying92 Tryz.underlying93 Tryz.underlying94 Tryz.underlying95 Tryz.underlying96 Tryz.underlying97 Tryz.underlying98 Tryz.underlying99 Tryz.underlying100 Tryz.underlying101 Tryz.underlying102 Tryz.underlying103 Tryz.underlying104 Tryz.underlying105 Tryz.underlying106 Tryz.underlying107 Tryz.underlying108 Tryz.underlying109 Tryz.underlying110 Tryz.underlying111 Tryz.underlying112 Tryz.underlying113 Tryz.underlying114 Tryz.underlying115 Tryz.underlying116 Tryz.underlying117 Tryz.underlying118 Tryz.underlying119 Tryz.underlying120 Tryz.underlying121 Tryz.underlying122 Tryz.underlying123 Tryz.underlying124 Tryz.underlying125 Tryz.underlying126 Tryz.underlying127 Tryz.underlying128 Tryz.underlying129 Tryz.underlying130 Tryz.underlying131 Tryz.underlying132 Tryz.underlying133 Tryz.underlying134 Tryz.underlying135 Tryz.underlying136 Tryz.underlying137 Tryz.underlying138 Tryz.underlying139 Tryz.underlying140 Tryz.underlying141 Tryz.underlying142 Tryz.underlying143 Tryz.underlying144 Tryz.underlying145 Tryz.underlying146 Tryz.underlying147 Tryz.underlying148 Tryz.underlying149 Tryz.underlying150 Tryz.underlying151 Tryz.underlying152 Tryz.underlying153 Tryz.underlying154 Tryz.underlying155 Tryz.underlying156 Tryz.underlying157 Tryz.underlying158 Tryz.underlying159 Tryz.underlying160 Tryz.underlying161 Tryz.underlying162 Tryz.underlying163 Tryz.underlying164 Tryz.underlying165 Tryz.underlying166 Tryz.underlying167 Tryz.underlying168 Tryz.underlying169 Tryz.underlying170 Tryz.underlying171 Tryz.underlying172 Tryz.underlying173 Tryz.underlying174 Tryz.underlying175 Tryz.underlying176 Tryz.underlying177 Tryz.underlying178 Tryz.underlying179 Tryz.underlying180 Tryz.underlying181 Tryz.underlying182 Tryz.underlying183 Tryz.underlying184 Tryz.underlying185 Tryz.underlying186 Tryz.underlying187 Tryz.underlying188 Tryz.underlying189 Tryz.underlying190 Tryz.underlying191 Tryz.underlying192 Tryz.underlying193 Tryz.underlying194 Tryz.underlying195 Tryz.underlying196 Tryz.underlying197 Tryz.underlying198 Tryz.underlying199 Tryz.underlying200 Tryz.underlying201 Tryz.underlying202 Tryz.underlying203 Tryz.underlying204 Tryz.underlying205 Tryz.underlying206 Tryz.underlying207 Tryz.underlying208 Tryz.underlying209 Tryz.underlying210 Tryz.underlying211 Tryz.underlying212 Tryz.underlying213 Tryz.underlying214 Tryz.underlying215 Tryz.underlying216 Tryz.underlying217 Tryz.underlying218 Tryz.underlying219 Tryz.underlying220 Tryz.underlying221 Tryz.underlying222 Tryz.underlying223 Tryz.underlying224 Tryz.underlying225 Tryz.underlying226 Tryz.underlying227 Tryz.underlying228 Tryz.underlying229 Tryz.underlying230 Tryz.underlying231 Tryz.underlying232 Tryz.underlying233 Tryz.underlying234 Tryz.underlying235 Tryz.underlying236 Tryz.underlying237 Tryz.underlying238 Tryz.underlying239 Tryz.underlying240 Tryz.underlying241 Tryz.underlying242 Tryz.underlying243 Tryz.underlying244 Tryz.underlying245 Tryz.underlying246 Tryz.underlying247 Tryz.underlying248 Tryz.underlying249
theorem info_of {P : Program} {t n : Nat} {i : TypeInfo} (h : P.types.size = n) (hl : t < n) (hi : P.types[t]? = some i) : P.info? t = some i := by
  unfold Tables.info?
  rw [if_pos (by rw [h]; exact hl)]
  exact hi
def zB (n : Nat) : List IV := List.replicate n (.v (.bool false))
def fld (P : Program) (t i : Nat) : Field := (fieldT P t i).getD ⟨ "", 0, 0, false, "", "", 0⟩
@[go_sem] theorem info_2 : Tryz.prog.info? 2 = some Tryz.t2 := info_of Tryz.types_size (by decide) Tryz.type2
@[go_sem] theorem tz_2 : Tryz.t2.size = 1 := rfl
@[go_sem] theorem tb_2 : Tryz.t2.bytes = 8 := rfl
@[go_sem] theorem sz_2 : szOf Tryz.prog 2 = some 1 := by rw [szOf, info_2]; rfl
@[go_sem] theorem ag_2 : isAggT Tryz.prog 2 = some false := by rw [isAggT, Tryz.underlying2]; rfl
@[go_sem] theorem ze_2 : zeroC Tryz.prog 2 = some [(.v (.int .i64 0))] := by rw [zeroC, info_2]; rfl
@[go_sem] theorem info_3 : Tryz.prog.info? 3 = some Tryz.t3 := info_of Tryz.types_size (by decide) Tryz.type3
@[go_sem] theorem tz_3 : Tryz.t3.size = 1 := rfl
@[go_sem] theorem tb_3 : Tryz.t3.bytes = 8 := rfl
@[go_sem] theorem sz_3 : szOf Tryz.prog 3 = some 1 := by rw [szOf, info_3]; rfl
@[go_sem] theorem ag_3 : isAggT Tryz.prog 3 = some false := by rw [isAggT, Tryz.underlying3]; rfl
@[go_sem] theorem ze_3 : zeroC Tryz.prog 3 = some [(.v (.int .i64 0))] := by rw [zeroC, info_3]; rfl
@[go_sem] theorem info_4 : Tryz.prog.info? 4 = some Tryz.t4 := info_of Tryz.types_size (by decide) Tryz.type4
@[go_sem] theorem tz_4 : Tryz.t4.size = 1 := rfl
@[go_sem] theorem tb_4 : Tryz.t4.bytes = 1 := rfl
@[go_sem] theorem sz_4 : szOf Tryz.prog 4 = some 1 := by rw [szOf, info_4]; rfl
@[go_sem] theorem ag_4 : isAggT Tryz.prog 4 = some false := by rw [isAggT, Tryz.underlying4]; rfl
@[go_sem] theorem ze_4 : zeroC Tryz.prog 4 = some [(.v (.bool false))] := by rw [zeroC, info_4]; rfl
@[go_sem] theorem info_5 : Tryz.prog.info? 5 = some Tryz.t5 := info_of Tryz.types_size (by decide) Tryz.type5
@[go_sem] theorem tz_5 : Tryz.t5.size = 1 := rfl
@[go_sem] theorem tb_5 : Tryz.t5.bytes = 1 := rfl
@[go_sem] theorem sz_5 : szOf Tryz.prog 5 = some 1 := by rw [szOf, info_5]; rfl
@[go_sem] theorem ag_5 : isAggT Tryz.prog 5 = some false := by rw [isAggT, Tryz.underlying5]; rfl
@[go_sem] theorem ze_5 : zeroC Tryz.prog 5 = some [(.v (.int .u8 0))] := by rw [zeroC, info_5]; rfl
@[go_sem] theorem info_9 : Tryz.prog.info? 9 = some Tryz.t9 := info_of Tryz.types_size (by decide) Tryz.type9
@[go_sem] theorem tz_9 : Tryz.t9.size = 1 := rfl
@[go_sem] theorem tb_9 : Tryz.t9.bytes = 16 := rfl
@[go_sem] theorem sz_9 : szOf Tryz.prog 9 = some 1 := by rw [szOf, info_9]; rfl
@[go_sem] theorem ag_9 : isAggT Tryz.prog 9 = some false := by rw [isAggT, Tryz.underlying9]; rfl
@[go_sem] theorem ze_9 : zeroC Tryz.prog 9 = some [(.v (.string ⟨#[]⟩))] := by rw [zeroC, info_9]; rfl
@[go_sem] theorem info_21 : Tryz.prog.info? 21 = some Tryz.t21 := info_of Tryz.types_size (by decide) Tryz.type21
@[go_sem] theorem tz_21 : Tryz.t21.size = 1 := rfl
@[go_sem] theorem tb_21 : Tryz.t21.bytes = 4 := rfl
@[go_sem] theorem sz_21 : szOf Tryz.prog 21 = some 1 := by rw [szOf, info_21]; rfl
@[go_sem] theorem ag_21 : isAggT Tryz.prog 21 = some false := by rw [isAggT, Tryz.underlying21]; rfl
@[go_sem] theorem ze_21 : zeroC Tryz.prog 21 = some [(.v (.int .i32 0))] := by rw [zeroC, info_21]; rfl
@[go_sem] theorem info_22 : Tryz.prog.info? 22 = some Tryz.t22 := info_of Tryz.types_size (by decide) Tryz.type22
@[go_sem] theorem tz_22 : Tryz.t22.size = 1 := rfl
@[go_sem] theorem tb_22 : Tryz.t22.bytes = 24 := rfl
@[go_sem] theorem sz_22 : szOf Tryz.prog 22 = some 1 := by rw [szOf, info_22]; rfl
@[go_sem] theorem ag_22 : isAggT Tryz.prog 22 = some false := by rw [isAggT, Tryz.underlying22]; rfl
@[go_sem] theorem el_22 : elemT Tryz.prog 22 = some 5 := by rw [elemT, Tryz.underlying22]
@[go_sem] theorem ze_22 : zeroC Tryz.prog 22 = some [.emp] := by rw [zeroC, info_22]; rfl
@[go_sem] theorem info_23 : Tryz.prog.info? 23 = some Tryz.t23 := info_of Tryz.types_size (by decide) Tryz.type23
@[go_sem] theorem tz_23 : Tryz.t23.size = 1 := rfl
@[go_sem] theorem tb_23 : Tryz.t23.bytes = 24 := rfl
@[go_sem] theorem sz_23 : szOf Tryz.prog 23 = some 1 := by rw [szOf, info_23]; rfl
@[go_sem] theorem ag_23 : isAggT Tryz.prog 23 = some false := by rw [isAggT, Tryz.underlying23]; rfl
@[go_sem] theorem el_23 : elemT Tryz.prog 23 = some 46 := by rw [elemT, Tryz.underlying23]
@[go_sem] theorem ze_23 : zeroC Tryz.prog 23 = some [.emp] := by rw [zeroC, info_23]; rfl
@[go_sem] theorem info_25 : Tryz.prog.info? 25 = some Tryz.t25 := info_of Tryz.types_size (by decide) Tryz.type25
@[go_sem] theorem tz_25 : Tryz.t25.size = 2 := rfl
@[go_sem] theorem tb_25 : Tryz.t25.bytes = 32 := rfl
@[go_sem] theorem sz_25 : szOf Tryz.prog 25 = some 2 := by rw [szOf, info_25]; rfl
@[go_sem] theorem ag_25 : isAggT Tryz.prog 25 = some true := by rw [isAggT, Tryz.underlying25]; rfl
@[go_sem] theorem fd_25_0 : fieldT Tryz.prog 25 0 = some { name := "Nodes", type := 3, offset := 0, embedded := false, tag := "", pkgPath := "", byteOffset := 0 } := by rw [fieldT, Tryz.underlying25]; rfl
@[go_sem] theorem fd_25_1 : fieldT Tryz.prog 25 1 = some { name := "Edges", type := 23, offset := 1, embedded := false, tag := "", pkgPath := "", byteOffset := 8 } := by rw [fieldT, Tryz.underlying25]; rfl
@[go_sem] theorem ze_25 : zeroC Tryz.prog 25 = some [(.v (.int .i64 0)), .emp] := by rw [zeroC, info_25]; rfl
@[go_sem] theorem info_27 : Tryz.prog.info? 27 = some Tryz.t27 := info_of Tryz.types_size (by decide) Tryz.type27
@[go_sem] theorem tz_27 : Tryz.t27.size = 1 := rfl
@[go_sem] theorem tb_27 : Tryz.t27.bytes = 24 := rfl
@[go_sem] theorem sz_27 : szOf Tryz.prog 27 = some 1 := by rw [szOf, info_27]; rfl
@[go_sem] theorem ag_27 : isAggT Tryz.prog 27 = some false := by rw [isAggT, Tryz.underlying27]; rfl
@[go_sem] theorem el_27 : elemT Tryz.prog 27 = some 32 := by rw [elemT, Tryz.underlying27]
@[go_sem] theorem ze_27 : zeroC Tryz.prog 27 = some [.emp] := by rw [zeroC, info_27]; rfl
@[go_sem] theorem info_32 : Tryz.prog.info? 32 = some Tryz.t32 := info_of Tryz.types_size (by decide) Tryz.type32
@[go_sem] theorem tz_32 : Tryz.t32.size = 1 := rfl
@[go_sem] theorem tb_32 : Tryz.t32.bytes = 24 := rfl
@[go_sem] theorem sz_32 : szOf Tryz.prog 32 = some 1 := by rw [szOf, info_32]; rfl
@[go_sem] theorem ag_32 : isAggT Tryz.prog 32 = some false := by rw [isAggT, Tryz.underlying32]; rfl
@[go_sem] theorem el_32 : elemT Tryz.prog 32 = some 3 := by rw [elemT, Tryz.underlying32]
@[go_sem] theorem ze_32 : zeroC Tryz.prog 32 = some [.emp] := by rw [zeroC, info_32]; rfl
@[go_sem] theorem info_38 : Tryz.prog.info? 38 = some Tryz.t38 := info_of Tryz.types_size (by decide) Tryz.type38
@[go_sem] theorem tz_38 : Tryz.t38.size = 3 := rfl
@[go_sem] theorem tb_38 : Tryz.t38.bytes = 72 := rfl
@[go_sem] theorem sz_38 : szOf Tryz.prog 38 = some 3 := by rw [szOf, info_38]; rfl
@[go_sem] theorem ag_38 : isAggT Tryz.prog 38 = some true := by rw [isAggT, Tryz.underlying38]; rfl
@[go_sem] theorem fd_38_0 : fieldT Tryz.prog 38 0 = some { name := "Numbers", type := 32, offset := 0, embedded := false, tag := "", pkgPath := "", byteOffset := 0 } := by rw [fieldT, Tryz.underlying38]; rfl
@[go_sem] theorem fd_38_1 : fieldT Tryz.prog 38 1 = some { name := "Parents", type := 32, offset := 1, embedded := false, tag := "", pkgPath := "", byteOffset := 24 } := by rw [fieldT, Tryz.underlying38]; rfl
@[go_sem] theorem fd_38_2 : fieldT Tryz.prog 38 2 = some { name := "Lows", type := 32, offset := 2, embedded := false, tag := "", pkgPath := "", byteOffset := 48 } := by rw [fieldT, Tryz.underlying38]; rfl
@[go_sem] theorem ze_38 : zeroC Tryz.prog 38 = some [.emp, .emp, .emp] := by rw [zeroC, info_38]; rfl
@[go_sem] theorem info_40 : Tryz.prog.info? 40 = some Tryz.t40 := info_of Tryz.types_size (by decide) Tryz.type40
@[go_sem] theorem tz_40 : Tryz.t40.size = 1 := rfl
@[go_sem] theorem tb_40 : Tryz.t40.bytes = 24 := rfl
@[go_sem] theorem sz_40 : szOf Tryz.prog 40 = some 1 := by rw [szOf, info_40]; rfl
@[go_sem] theorem ag_40 : isAggT Tryz.prog 40 = some false := by rw [isAggT, Tryz.underlying40]; rfl
@[go_sem] theorem el_40 : elemT Tryz.prog 40 = some 4 := by rw [elemT, Tryz.underlying40]
@[go_sem] theorem ze_40 : zeroC Tryz.prog 40 = some [.emp] := by rw [zeroC, info_40]; rfl
@[go_sem] theorem info_41 : Tryz.prog.info? 41 = some Tryz.t41 := info_of Tryz.types_size (by decide) Tryz.type41
@[go_sem] theorem tz_41 : Tryz.t41.size = 1 := rfl
@[go_sem] theorem tb_41 : Tryz.t41.bytes = 24 := rfl
@[go_sem] theorem sz_41 : szOf Tryz.prog 41 = some 1 := by rw [szOf, info_41]; rfl
@[go_sem] theorem ag_41 : isAggT Tryz.prog 41 = some false := by rw [isAggT, Tryz.underlying41]; rfl
@[go_sem] theorem el_41 : elemT Tryz.prog 41 = some 43 := by rw [elemT, Tryz.underlying41]
@[go_sem] theorem ze_41 : zeroC Tryz.prog 41 = some [.emp] := by rw [zeroC, info_41]; rfl
@[go_sem] theorem info_43 : Tryz.prog.info? 43 = some Tryz.t43 := info_of Tryz.types_size (by decide) Tryz.type43
@[go_sem] theorem tz_43 : Tryz.t43.size = 2 := rfl
@[go_sem] theorem tb_43 : Tryz.t43.bytes = 16 := rfl
@[go_sem] theorem sz_43 : szOf Tryz.prog 43 = some 2 := by rw [szOf, info_43]; rfl
@[go_sem] theorem ag_43 : isAggT Tryz.prog 43 = some true := by rw [isAggT, Tryz.underlying43]; rfl
@[go_sem] theorem ze_43 : zeroC Tryz.prog 43 = some [(.v (.int .i64 0)), (.v (.int .i64 0))] := by rw [zeroC, info_43]; rfl
@[go_sem] theorem info_46 : Tryz.prog.info? 46 = some Tryz.t46 := info_of Tryz.types_size (by decide) Tryz.type46
@[go_sem] theorem tz_46 : Tryz.t46.size = 2 := rfl
@[go_sem] theorem tb_46 : Tryz.t46.bytes = 16 := rfl
@[go_sem] theorem sz_46 : szOf Tryz.prog 46 = some 2 := by rw [szOf, info_46]; rfl
@[go_sem] theorem ag_46 : isAggT Tryz.prog 46 = some true := by rw [isAggT, Tryz.underlying46]; rfl
@[go_sem] theorem fd_46_0 : fieldT Tryz.prog 46 0 = some { name := "A", type := 3, offset := 0, embedded := false, tag := "", pkgPath := "", byteOffset := 0 } := by rw [fieldT, Tryz.underlying46]; rfl
@[go_sem] theorem fd_46_1 : fieldT Tryz.prog 46 1 = some { name := "B", type := 3, offset := 1, embedded := false, tag := "", pkgPath := "", byteOffset := 8 } := by rw [fieldT, Tryz.underlying46]; rfl
@[go_sem] theorem ze_46 : zeroC Tryz.prog 46 = some [(.v (.int .i64 0)), (.v (.int .i64 0))] := by rw [zeroC, info_46]; rfl
@[go_sem] theorem fs_46 : flatS Tryz.prog 46 2 = true := by simp [flatS, Tryz.underlying46, Tryz.stoodInHeld46, Tryz.eqGuardType46, Tryz.underlying3]
@[go_sem] theorem info_47 : Tryz.prog.info? 47 = some Tryz.t47 := info_of Tryz.types_size (by decide) Tryz.type47
@[go_sem] theorem tz_47 : Tryz.t47.size = 1 := rfl
@[go_sem] theorem tb_47 : Tryz.t47.bytes = 8 := rfl
@[go_sem] theorem sz_47 : szOf Tryz.prog 47 = some 1 := by rw [szOf, info_47]; rfl
@[go_sem] theorem ag_47 : isAggT Tryz.prog 47 = some false := by rw [isAggT, Tryz.underlying47]; rfl
@[go_sem] theorem info_50 : Tryz.prog.info? 50 = some Tryz.t50 := info_of Tryz.types_size (by decide) Tryz.type50
@[go_sem] theorem tz_50 : Tryz.t50.size = 4 := rfl
@[go_sem] theorem tb_50 : Tryz.t50.bytes = 80 := rfl
@[go_sem] theorem sz_50 : szOf Tryz.prog 50 = some 4 := by rw [szOf, info_50]; rfl
@[go_sem] theorem ag_50 : isAggT Tryz.prog 50 = some true := by rw [isAggT, Tryz.underlying50]; rfl
@[go_sem] theorem fd_50_0 : fieldT Tryz.prog 50 0 = some { name := "Graph", type := 25, offset := 0, embedded := false, tag := "", pkgPath := "", byteOffset := 0 } := by rw [fieldT, Tryz.underlying50]; rfl
@[go_sem] theorem fd_50_1 : fieldT Tryz.prog 50 1 = some { name := "Levels", type := 32, offset := 2, embedded := false, tag := "", pkgPath := "", byteOffset := 32 } := by rw [fieldT, Tryz.underlying50]; rfl
@[go_sem] theorem fd_50_2 : fieldT Tryz.prog 50 2 = some { name := "Tree", type := 40, offset := 3, embedded := false, tag := "", pkgPath := "", byteOffset := 56 } := by rw [fieldT, Tryz.underlying50]; rfl
@[go_sem] theorem ze_50 : zeroC Tryz.prog 50 = some [(.v (.int .i64 0)), .emp, .emp, .emp] := by rw [zeroC, info_50]; rfl
@[go_sem] theorem info_53 : Tryz.prog.info? 53 = some Tryz.t53 := info_of Tryz.types_size (by decide) Tryz.type53
@[go_sem] theorem tz_53 : Tryz.t53.size = 1 := rfl
@[go_sem] theorem tb_53 : Tryz.t53.bytes = 24 := rfl
@[go_sem] theorem sz_53 : szOf Tryz.prog 53 = some 1 := by rw [szOf, info_53]; rfl
@[go_sem] theorem ag_53 : isAggT Tryz.prog 53 = some false := by rw [isAggT, Tryz.underlying53]; rfl
@[go_sem] theorem el_53 : elemT Tryz.prog 53 = some 9 := by rw [elemT, Tryz.underlying53]
@[go_sem] theorem ze_53 : zeroC Tryz.prog 53 = some [.emp] := by rw [zeroC, info_53]; rfl
@[go_sem] theorem info_57 : Tryz.prog.info? 57 = some Tryz.t57 := info_of Tryz.types_size (by decide) Tryz.type57
@[go_sem] theorem tz_57 : Tryz.t57.size = 1 := rfl
@[go_sem] theorem tb_57 : Tryz.t57.bytes = 8 := rfl
@[go_sem] theorem sz_57 : szOf Tryz.prog 57 = some 1 := by rw [szOf, info_57]; rfl
@[go_sem] theorem ag_57 : isAggT Tryz.prog 57 = some false := by rw [isAggT, Tryz.underlying57]; rfl
@[go_sem] theorem ze_57 : zeroC Tryz.prog 57 = some [(.v (.pointer none))] := by rw [zeroC, info_57]; rfl
@[go_sem] theorem info_70 : Tryz.prog.info? 70 = some Tryz.t70 := info_of Tryz.types_size (by decide) Tryz.type70
@[go_sem] theorem tz_70 : Tryz.t70.size = 1 := rfl
@[go_sem] theorem tb_70 : Tryz.t70.bytes = 8 := rfl
@[go_sem] theorem sz_70 : szOf Tryz.prog 70 = some 1 := by rw [szOf, info_70]; rfl
@[go_sem] theorem ag_70 : isAggT Tryz.prog 70 = some false := by rw [isAggT, Tryz.underlying70]; rfl
@[go_sem] theorem info_72 : Tryz.prog.info? 72 = some Tryz.t72 := info_of Tryz.types_size (by decide) Tryz.type72
@[go_sem] theorem tz_72 : Tryz.t72.size = 1 := rfl
@[go_sem] theorem tb_72 : Tryz.t72.bytes = 8 := rfl
@[go_sem] theorem sz_72 : szOf Tryz.prog 72 = some 1 := by rw [szOf, info_72]; rfl
@[go_sem] theorem ag_72 : isAggT Tryz.prog 72 = some false := by rw [isAggT, Tryz.underlying72]; rfl
@[go_sem] theorem ze_72 : zeroC Tryz.prog 72 = some [(.v (.pointer none))] := by rw [zeroC, info_72]; rfl
@[go_sem] theorem info_79 : Tryz.prog.info? 79 = some Tryz.t79 := info_of Tryz.types_size (by decide) Tryz.type79
@[go_sem] theorem tz_79 : Tryz.t79.size = 2 := rfl
@[go_sem] theorem tb_79 : Tryz.t79.bytes = 32 := rfl
@[go_sem] theorem sz_79 : szOf Tryz.prog 79 = some 2 := by rw [szOf, info_79]; rfl
@[go_sem] theorem ag_79 : isAggT Tryz.prog 79 = some true := by rw [isAggT, Tryz.underlying79]; rfl
@[go_sem] theorem fd_79_0 : fieldT Tryz.prog 79 0 = some (fld Tryz.prog 79 0) := by rw [fld, fieldT, Tryz.underlying79]; rfl
@[go_sem] theorem fo_79_0 : (fld Tryz.prog 79 0).offset = 0 := by rw [fld, fieldT, Tryz.underlying79]; rfl
@[go_sem] theorem ft_79_0 : (fld Tryz.prog 79 0).type = 22 := by rw [fld, fieldT, Tryz.underlying79]; rfl
@[go_sem] theorem fd_79_1 : fieldT Tryz.prog 79 1 = some (fld Tryz.prog 79 1) := by rw [fld, fieldT, Tryz.underlying79]; rfl
@[go_sem] theorem fo_79_1 : (fld Tryz.prog 79 1).offset = 1 := by rw [fld, fieldT, Tryz.underlying79]; rfl
@[go_sem] theorem ft_79_1 : (fld Tryz.prog 79 1).type = 3 := by rw [fld, fieldT, Tryz.underlying79]; rfl
@[go_sem] theorem ze_79 : zeroC Tryz.prog 79 = some [.emp, (.v (.int .i64 0))] := by rw [zeroC, info_79]; rfl
@[go_sem] theorem info_86 : Tryz.prog.info? 86 = some Tryz.t86 := info_of Tryz.types_size (by decide) Tryz.type86
@[go_sem] theorem tz_86 : Tryz.t86.size = 1 := rfl
@[go_sem] theorem tb_86 : Tryz.t86.bytes = 8 := rfl
@[go_sem] theorem sz_86 : szOf Tryz.prog 86 = some 1 := by rw [szOf, info_86]; rfl
@[go_sem] theorem ag_86 : isAggT Tryz.prog 86 = some false := by rw [isAggT, Tryz.underlying86]; rfl
@[go_sem] theorem ze_86 : zeroC Tryz.prog 86 = some [(.v (.pointer none))] := by rw [zeroC, info_86]; rfl
@[go_sem] theorem info_91 : Tryz.prog.info? 91 = some Tryz.t91 := info_of Tryz.types_size (by decide) Tryz.type91
@[go_sem] theorem tz_91 : Tryz.t91.size = 1 := rfl
@[go_sem] theorem tb_91 : Tryz.t91.bytes = 8 := rfl
@[go_sem] theorem sz_91 : szOf Tryz.prog 91 = some 1 := by rw [szOf, info_91]; rfl
@[go_sem] theorem ag_91 : isAggT Tryz.prog 91 = some false := by rw [isAggT, Tryz.underlying91]; rfl
@[go_sem] theorem info_95 : Tryz.prog.info? 95 = some Tryz.t95 := info_of Tryz.types_size (by decide) Tryz.type95
@[go_sem] theorem tz_95 : Tryz.t95.size = 1 := rfl
@[go_sem] theorem tb_95 : Tryz.t95.bytes = 8 := rfl
@[go_sem] theorem sz_95 : szOf Tryz.prog 95 = some 1 := by rw [szOf, info_95]; rfl
@[go_sem] theorem ag_95 : isAggT Tryz.prog 95 = some false := by rw [isAggT, Tryz.underlying95]; rfl
@[go_sem] theorem info_99 : Tryz.prog.info? 99 = some Tryz.t99 := info_of Tryz.types_size (by decide) Tryz.type99
@[go_sem] theorem tz_99 : Tryz.t99.size = 1 := rfl
@[go_sem] theorem tb_99 : Tryz.t99.bytes = 24 := rfl
@[go_sem] theorem sz_99 : szOf Tryz.prog 99 = some 1 := by rw [szOf, info_99]; rfl
@[go_sem] theorem ag_99 : isAggT Tryz.prog 99 = some false := by rw [isAggT, Tryz.underlying99]; rfl
@[go_sem] theorem el_99 : elemT Tryz.prog 99 = some 23 := by rw [elemT, Tryz.underlying99]
@[go_sem] theorem ze_99 : zeroC Tryz.prog 99 = some [.emp] := by rw [zeroC, info_99]; rfl
@[go_sem] theorem info_124 : Tryz.prog.info? 124 = some Tryz.t124 := info_of Tryz.types_size (by decide) Tryz.type124
@[go_sem] theorem tz_124 : Tryz.t124.size = 1 := rfl
@[go_sem] theorem tb_124 : Tryz.t124.bytes = 8 := rfl
@[go_sem] theorem sz_124 : szOf Tryz.prog 124 = some 1 := by rw [szOf, info_124]; rfl
@[go_sem] theorem ag_124 : isAggT Tryz.prog 124 = some false := by rw [isAggT, Tryz.underlying124]; rfl
@[go_sem] theorem ze_124 : zeroC Tryz.prog 124 = some [(.v (.int .u64 0))] := by rw [zeroC, info_124]; rfl
@[go_sem] theorem info_136 : Tryz.prog.info? 136 = some Tryz.t136 := info_of Tryz.types_size (by decide) Tryz.type136
@[go_sem] theorem tz_136 : Tryz.t136.size = 16 := rfl
@[go_sem] theorem tb_136 : Tryz.t136.bytes = 16 := rfl
@[go_sem] theorem sz_136 : szOf Tryz.prog 136 = some 16 := by rw [szOf, info_136]; rfl
@[go_sem] theorem ag_136 : isAggT Tryz.prog 136 = some true := by rw [isAggT, Tryz.underlying136]; rfl
@[go_sem] theorem ze_136 : zeroC Tryz.prog 136 = some (zB 16) := by rw [zeroC, info_136]; rfl
@[go_sem] theorem info_138 : Tryz.prog.info? 138 = some Tryz.t138 := info_of Tryz.types_size (by decide) Tryz.type138
@[go_sem] theorem tz_138 : Tryz.t138.size = 256 := rfl
@[go_sem] theorem tb_138 : Tryz.t138.bytes = 256 := rfl
@[go_sem] theorem sz_138 : szOf Tryz.prog 138 = some 256 := by rw [szOf, info_138]; rfl
@[go_sem] theorem ag_138 : isAggT Tryz.prog 138 = some true := by rw [isAggT, Tryz.underlying138]; rfl
@[go_sem] theorem ze_138 : zeroC Tryz.prog 138 = some (zB 256) := by rw [zeroC, info_138]; rfl
@[go_sem] theorem info_143 : Tryz.prog.info? 143 = some Tryz.t143 := info_of Tryz.types_size (by decide) Tryz.type143
@[go_sem] theorem tz_143 : Tryz.t143.size = 1 := rfl
@[go_sem] theorem tb_143 : Tryz.t143.bytes = 16 := rfl
@[go_sem] theorem sz_143 : szOf Tryz.prog 143 = some 1 := by rw [szOf, info_143]; rfl
@[go_sem] theorem ag_143 : isAggT Tryz.prog 143 = some false := by rw [isAggT, Tryz.underlying143]; rfl
@[go_sem] theorem info_161 : Tryz.prog.info? 161 = some Tryz.t161 := info_of Tryz.types_size (by decide) Tryz.type161
@[go_sem] theorem tz_161 : Tryz.t161.size = 24 := rfl
@[go_sem] theorem tb_161 : Tryz.t161.bytes = 24 := rfl
@[go_sem] theorem sz_161 : szOf Tryz.prog 161 = some 24 := by rw [szOf, info_161]; rfl
@[go_sem] theorem ag_161 : isAggT Tryz.prog 161 = some true := by rw [isAggT, Tryz.underlying161]; rfl
@[go_sem] theorem ze_161 : zeroC Tryz.prog 161 = some [(.v (.int .u8 0)), (.v (.int .u8 0)), (.v (.int .u8 0)), (.v (.int .u8 0)), (.v (.int .u8 0)), (.v (.int .u8 0)), (.v (.int .u8 0)), (.v (.int .u8 0)), (.v (.int .u8 0)), (.v (.int .u8 0)), (.v (.int .u8 0)), (.v (.int .u8 0)), (.v (.int .u8 0)), (.v (.int .u8 0)), (.v (.int .u8 0)), (.v (.int .u8 0)), (.v (.int .u8 0)), (.v (.int .u8 0)), (.v (.int .u8 0)), (.v (.int .u8 0)), (.v (.int .u8 0)), (.v (.int .u8 0)), (.v (.int .u8 0)), (.v (.int .u8 0))] := by rw [zeroC, info_161]; rfl
@[go_sem] theorem info_162 : Tryz.prog.info? 162 = some Tryz.t162 := info_of Tryz.types_size (by decide) Tryz.type162
@[go_sem] theorem tz_162 : Tryz.t162.size = 1 := rfl
@[go_sem] theorem tb_162 : Tryz.t162.bytes = 8 := rfl
@[go_sem] theorem sz_162 : szOf Tryz.prog 162 = some 1 := by rw [szOf, info_162]; rfl
@[go_sem] theorem ag_162 : isAggT Tryz.prog 162 = some false := by rw [isAggT, Tryz.underlying162]; rfl
@[go_sem] theorem ze_162 : zeroC Tryz.prog 162 = some [(.v (.int .u64 0))] := by rw [zeroC, info_162]; rfl
@[go_sem] theorem info_168 : Tryz.prog.info? 168 = some Tryz.t168 := info_of Tryz.types_size (by decide) Tryz.type168
@[go_sem] theorem tz_168 : Tryz.t168.size = 1 := rfl
@[go_sem] theorem tb_168 : Tryz.t168.bytes = 8 := rfl
@[go_sem] theorem sz_168 : szOf Tryz.prog 168 = some 1 := by rw [szOf, info_168]; rfl
@[go_sem] theorem ag_168 : isAggT Tryz.prog 168 = some false := by rw [isAggT, Tryz.underlying168]; rfl
@[go_sem] theorem ze_168 : zeroC Tryz.prog 168 = some [(.v (.int .i64 0))] := by rw [zeroC, info_168]; rfl
@[go_sem] theorem info_175 : Tryz.prog.info? 175 = some Tryz.t175 := info_of Tryz.types_size (by decide) Tryz.type175
@[go_sem] theorem tz_175 : Tryz.t175.size = 1 := rfl
@[go_sem] theorem tb_175 : Tryz.t175.bytes = 4 := rfl
@[go_sem] theorem sz_175 : szOf Tryz.prog 175 = some 1 := by rw [szOf, info_175]; rfl
@[go_sem] theorem ag_175 : isAggT Tryz.prog 175 = some false := by rw [isAggT, Tryz.underlying175]; rfl
@[go_sem] theorem ze_175 : zeroC Tryz.prog 175 = some [(.v (.int .u32 0))] := by rw [zeroC, info_175]; rfl
@[go_sem] theorem info_189 : Tryz.prog.info? 189 = some Tryz.t189 := info_of Tryz.types_size (by decide) Tryz.type189
@[go_sem] theorem tz_189 : Tryz.t189.size = 20 := rfl
@[go_sem] theorem tb_189 : Tryz.t189.bytes = 160 := rfl
@[go_sem] theorem sz_189 : szOf Tryz.prog 189 = some 20 := by rw [szOf, info_189]; rfl
@[go_sem] theorem ag_189 : isAggT Tryz.prog 189 = some true := by rw [isAggT, Tryz.underlying189]; rfl
@[go_sem] theorem ze_189 : zeroC Tryz.prog 189 = some [(.v (.int .u64 0)), (.v (.int .u64 0)), (.v (.int .u64 0)), (.v (.int .u64 0)), (.v (.int .u64 0)), (.v (.int .u64 0)), (.v (.int .u64 0)), (.v (.int .u64 0)), (.v (.int .u64 0)), (.v (.int .u64 0)), (.v (.int .u64 0)), (.v (.int .u64 0)), (.v (.int .u64 0)), (.v (.int .u64 0)), (.v (.int .u64 0)), (.v (.int .u64 0)), (.v (.int .u64 0)), (.v (.int .u64 0)), (.v (.int .u64 0)), (.v (.int .u64 0))] := by rw [zeroC, info_189]; rfl
@[go_sem] theorem info_190 : Tryz.prog.info? 190 = some Tryz.t190 := info_of Tryz.types_size (by decide) Tryz.type190
@[go_sem] theorem tz_190 : Tryz.t190.size = 65 := rfl
@[go_sem] theorem tb_190 : Tryz.t190.bytes = 65 := rfl
@[go_sem] theorem sz_190 : szOf Tryz.prog 190 = some 65 := by rw [szOf, info_190]; rfl
@[go_sem] theorem ag_190 : isAggT Tryz.prog 190 = some true := by rw [isAggT, Tryz.underlying190]; rfl
@[go_sem] theorem ze_190 : zeroC Tryz.prog 190 = some [(.v (.int .u8 0)), (.v (.int .u8 0)), (.v (.int .u8 0)), (.v (.int .u8 0)), (.v (.int .u8 0)), (.v (.int .u8 0)), (.v (.int .u8 0)), (.v (.int .u8 0)), (.v (.int .u8 0)), (.v (.int .u8 0)), (.v (.int .u8 0)), (.v (.int .u8 0)), (.v (.int .u8 0)), (.v (.int .u8 0)), (.v (.int .u8 0)), (.v (.int .u8 0)), (.v (.int .u8 0)), (.v (.int .u8 0)), (.v (.int .u8 0)), (.v (.int .u8 0)), (.v (.int .u8 0)), (.v (.int .u8 0)), (.v (.int .u8 0)), (.v (.int .u8 0)), (.v (.int .u8 0)), (.v (.int .u8 0)), (.v (.int .u8 0)), (.v (.int .u8 0)), (.v (.int .u8 0)), (.v (.int .u8 0)), (.v (.int .u8 0)), (.v (.int .u8 0)), (.v (.int .u8 0)), (.v (.int .u8 0)), (.v (.int .u8 0)), (.v (.int .u8 0)), (.v (.int .u8 0)), (.v (.int .u8 0)), (.v (.int .u8 0)), (.v (.int .u8 0)), (.v (.int .u8 0)), (.v (.int .u8 0)), (.v (.int .u8 0)), (.v (.int .u8 0)), (.v (.int .u8 0)), (.v (.int .u8 0)), (.v (.int .u8 0)), (.v (.int .u8 0)), (.v (.int .u8 0)), (.v (.int .u8 0)), (.v (.int .u8 0)), (.v (.int .u8 0)), (.v (.int .u8 0)), (.v (.int .u8 0)), (.v (.int .u8 0)), (.v (.int .u8 0)), (.v (.int .u8 0)), (.v (.int .u8 0)), (.v (.int .u8 0)), (.v (.int .u8 0)), (.v (.int .u8 0)), (.v (.int .u8 0)), (.v (.int .u8 0)), (.v (.int .u8 0)), (.v (.int .u8 0))] := by rw [zeroC, info_190]; rfl
@[go_sem] theorem info_191 : Tryz.prog.info? 191 = some Tryz.t191 := info_of Tryz.types_size (by decide) Tryz.type191
@[go_sem] theorem tz_191 : Tryz.t191.size = 1 := rfl
@[go_sem] theorem tb_191 : Tryz.t191.bytes = 8 := rfl
@[go_sem] theorem sz_191 : szOf Tryz.prog 191 = some 1 := by rw [szOf, info_191]; rfl
@[go_sem] theorem ag_191 : isAggT Tryz.prog 191 = some false := by rw [isAggT, Tryz.underlying191]; rfl
@[go_sem] theorem ze_191 : zeroC Tryz.prog 191 = some [(.v (.int .u64 0))] := by rw [zeroC, info_191]; rfl
@[go_sem] theorem info_195 : Tryz.prog.info? 195 = some Tryz.t195 := info_of Tryz.types_size (by decide) Tryz.type195
@[go_sem] theorem tz_195 : Tryz.t195.size = 1 := rfl
@[go_sem] theorem tb_195 : Tryz.t195.bytes = 8 := rfl
@[go_sem] theorem sz_195 : szOf Tryz.prog 195 = some 1 := by rw [szOf, info_195]; rfl
@[go_sem] theorem ag_195 : isAggT Tryz.prog 195 = some false := by rw [isAggT, Tryz.underlying195]; rfl
@[go_sem] theorem ze_195 : zeroC Tryz.prog 195 = some [(.v (.pointer none))] := by rw [zeroC, info_195]; rfl
@[go_sem] theorem info_197 : Tryz.prog.info? 197 = some Tryz.t197 := info_of Tryz.types_size (by decide) Tryz.type197
@[go_sem] theorem tz_197 : Tryz.t197.size = 256 := rfl
@[go_sem] theorem tb_197 : Tryz.t197.bytes = 256 := rfl
@[go_sem] theorem sz_197 : szOf Tryz.prog 197 = some 256 := by rw [szOf, info_197]; rfl
@[go_sem] theorem ag_197 : isAggT Tryz.prog 197 = some true := by rw [isAggT, Tryz.underlying197]; rfl
@[go_sem] theorem ze_197 : zeroC Tryz.prog 197 = some [(.v (.int .u8 0)), (.v (.int .u8 0)), (.v (.int .u8 0)), (.v (.int .u8 0)), (.v (.int .u8 0)), (.v (.int .u8 0)), (.v (.int .u8 0)), (.v (.int .u8 0)), (.v (.int .u8 0)), (.v (.int .u8 0)), (.v (.int .u8 0)), (.v (.int .u8 0)), (.v (.int .u8 0)), (.v (.int .u8 0)), (.v (.int .u8 0)), (.v (.int .u8 0)), (.v (.int .u8 0)), (.v (.int .u8 0)), (.v (.int .u8 0)), (.v (.int .u8 0)), (.v (.int .u8 0)), (.v (.int .u8 0)), (.v (.int .u8 0)), (.v (.int .u8 0)), (.v (.int .u8 0)), (.v (.int .u8 0)), (.v (.int .u8 0)), (.v (.int .u8 0)), (.v (.int .u8 0)), (.v (.int .u8 0)), (.v (.int .u8 0)), (.v (.int .u8 0)), (.v (.int .u8 0)), (.v (.int .u8 0)), (.v (.int .u8 0)), (.v (.int .u8 0)), (.v (.int .u8 0)), (.v (.int .u8 0)), (.v (.int .u8 0)), (.v (.int .u8 0)), (.v (.int .u8 0)), (.v (.int .u8 0)), (.v (.int .u8 0)), (.v (.int .u8 0)), (.v (.int .u8 0)), (.v (.int .u8 0)), (.v (.int .u8 0)), (.v (.int .u8 0)), (.v (.int .u8 0)), (.v (.int .u8 0)), (.v (.int .u8 0)), (.v (.int .u8 0)), (.v (.int .u8 0)), (.v (.int .u8 0)), (.v (.int .u8 0)), (.v (.int .u8 0)), (.v (.int .u8 0)), (.v (.int .u8 0)), (.v (.int .u8 0)), (.v (.int .u8 0)), (.v (.int .u8 0)), (.v (.int .u8 0)), (.v (.int .u8 0)), (.v (.int .u8 0)), (.v (.int .u8 0)), (.v (.int .u8 0)), (.v (.int .u8 0)), (.v (.int .u8 0)), (.v (.int .u8 0)), (.v (.int .u8 0)), (.v (.int .u8 0)), (.v (.int .u8 0)), (.v (.int .u8 0)), (.v (.int .u8 0)), (.v (.int .u8 0)), (.v (.int .u8 0)), (.v (.int .u8 0)), (.v (.int .u8 0)), (.v (.int .u8 0)), (.v (.int .u8 0)), (.v (.int .u8 0)), (.v (.int .u8 0)), (.v (.int .u8 0)), (.v (.int .u8 0)), (.v (.int .u8 0)), (.v (.int .u8 0)), (.v (.int .u8 0)), (.v (.int .u8 0)), (.v (.int .u8 0)), (.v (.int .u8 0)), (.v (.int .u8 0)), (.v (.int .u8 0)), (.v (.int .u8 0)), (.v (.int .u8 0)), (.v (.int .u8 0)), (.v (.int .u8 0)), (.v (.int .u8 0)), (.v (.int .u8 0)), (.v (.int .u8 0)), (.v (.int .u8 0)), (.v (.int .u8 0)), (.v (.int .u8 0)), (.v (.int .u8 0)), (.v (.int .u8 0)), (.v (.int .u8 0)), (.v (.int .u8 0)), (.v (.int .u8 0)), (.v (.int .u8 0)), (.v (.int .u8 0)), (.v (.int .u8 0)), (.v (.int .u8 0)), (.v (.int .u8 0)), (.v (.int .u8 0)), (.v (.int .u8 0)), (.v (.int .u8 0)), (.v (.int .u8 0)), (.v (.int .u8 0)), (.v (.int .u8 0)), (.v (.int .u8 0)), (.v (.int .u8 0)), (.v (.int .u8 0)), (.v (.int .u8 0)), (.v (.int .u8 0)), (.v (.int .u8 0)), (.v (.int .u8 0)), (.v (.int .u8 0)), (.v (.int .u8 0)), (.v (.int .u8 0)), (.v (.int .u8 0)), (.v (.int .u8 0)), (.v (.int .u8 0)), (.v (.int .u8 0)), (.v (.int .u8 0)), (.v (.int .u8 0)), (.v (.int .u8 0)), (.v (.int .u8 0)), (.v (.int .u8 0)), (.v (.int .u8 0)), (.v (.int .u8 0)), (.v (.int .u8 0)), (.v (.int .u8 0)), (.v (.int .u8 0)), (.v (.int .u8 0)), (.v (.int .u8 0)), (.v (.int .u8 0)), (.v (.int .u8 0)), (.v (.int .u8 0)), (.v (.int .u8 0)), (.v (.int .u8 0)), (.v (.int .u8 0)), (.v (.int .u8 0)), (.v (.int .u8 0)), (.v (.int .u8 0)), (.v (.int .u8 0)), (.v (.int .u8 0)), (.v (.int .u8 0)), (.v (.int .u8 0)), (.v (.int .u8 0)), (.v (.int .u8 0)), (.v (.int .u8 0)), (.v (.int .u8 0)), (.v (.int .u8 0)), (.v (.int .u8 0)), (.v (.int .u8 0)), (.v (.int .u8 0)), (.v (.int .u8 0)), (.v (.int .u8 0)), (.v (.int .u8 0)), (.v (.int .u8 0)), (.v (.int .u8 0)), (.v (.int .u8 0)), (.v (.int .u8 0)), (.v (.int .u8 0)), (.v (.int .u8 0)), (.v (.int .u8 0)), (.v (.int .u8 0)), (.v (.int .u8 0)), (.v (.int .u8 0)), (.v (.int .u8 0)), (.v (.int .u8 0)), (.v (.int .u8 0)), (.v (.int .u8 0)), (.v (.int .u8 0)), (.v (.int .u8 0)), (.v (.int .u8 0)), (.v (.int .u8 0)), (.v (.int .u8 0)), (.v (.int .u8 0)), (.v (.int .u8 0)), (.v (.int .u8 0)), (.v (.int .u8 0)), (.v (.int .u8 0)), (.v (.int .u8 0)), (.v (.int .u8 0)), (.v (.int .u8 0)), (.v (.int .u8 0)), (.v (.int .u8 0)), (.v (.int .u8 0)), (.v (.int .u8 0)), (.v (.int .u8 0)), (.v (.int .u8 0)), (.v (.int .u8 0)), (.v (.int .u8 0)), (.v (.int .u8 0)), (.v (.int .u8 0)), (.v (.int .u8 0)), (.v (.int .u8 0)), (.v (.int .u8 0)), (.v (.int .u8 0)), (.v (.int .u8 0)), (.v (.int .u8 0)), (.v (.int .u8 0)), (.v (.int .u8 0)), (.v (.int .u8 0)), (.v (.int .u8 0)), (.v (.int .u8 0)), (.v (.int .u8 0)), (.v (.int .u8 0)), (.v (.int .u8 0)), (.v (.int .u8 0)), (.v (.int .u8 0)), (.v (.int .u8 0)), (.v (.int .u8 0)), (.v (.int .u8 0)), (.v (.int .u8 0)), (.v (.int .u8 0)), (.v (.int .u8 0)), (.v (.int .u8 0)), (.v (.int .u8 0)), (.v (.int .u8 0)), (.v (.int .u8 0)), (.v (.int .u8 0)), (.v (.int .u8 0)), (.v (.int .u8 0)), (.v (.int .u8 0)), (.v (.int .u8 0)), (.v (.int .u8 0)), (.v (.int .u8 0)), (.v (.int .u8 0)), (.v (.int .u8 0)), (.v (.int .u8 0)), (.v (.int .u8 0)), (.v (.int .u8 0)), (.v (.int .u8 0)), (.v (.int .u8 0)), (.v (.int .u8 0)), (.v (.int .u8 0)), (.v (.int .u8 0)), (.v (.int .u8 0)), (.v (.int .u8 0)), (.v (.int .u8 0)), (.v (.int .u8 0)), (.v (.int .u8 0)), (.v (.int .u8 0)), (.v (.int .u8 0)), (.v (.int .u8 0))] := by rw [zeroC, info_197]; rfl
@[go_sem] theorem info_199 : Tryz.prog.info? 199 = some Tryz.t199 := info_of Tryz.types_size (by decide) Tryz.type199
@[go_sem] theorem tz_199 : Tryz.t199.size = 2 := rfl
@[go_sem] theorem tb_199 : Tryz.t199.bytes = 2 := rfl
@[go_sem] theorem sz_199 : szOf Tryz.prog 199 = some 2 := by rw [szOf, info_199]; rfl
@[go_sem] theorem ag_199 : isAggT Tryz.prog 199 = some true := by rw [isAggT, Tryz.underlying199]; rfl
@[go_sem] theorem fd_199_0 : fieldT Tryz.prog 199 0 = some (fld Tryz.prog 199 0) := by rw [fld, fieldT, Tryz.underlying199]; rfl
@[go_sem] theorem fo_199_0 : (fld Tryz.prog 199 0).offset = 0 := by rw [fld, fieldT, Tryz.underlying199]; rfl
@[go_sem] theorem ft_199_0 : (fld Tryz.prog 199 0).type = 5 := by rw [fld, fieldT, Tryz.underlying199]; rfl
@[go_sem] theorem fd_199_1 : fieldT Tryz.prog 199 1 = some (fld Tryz.prog 199 1) := by rw [fld, fieldT, Tryz.underlying199]; rfl
@[go_sem] theorem fo_199_1 : (fld Tryz.prog 199 1).offset = 1 := by rw [fld, fieldT, Tryz.underlying199]; rfl
@[go_sem] theorem ft_199_1 : (fld Tryz.prog 199 1).type = 5 := by rw [fld, fieldT, Tryz.underlying199]; rfl
@[go_sem] theorem ze_199 : zeroC Tryz.prog 199 = some [(.v (.int .u8 0)), (.v (.int .u8 0))] := by rw [zeroC, info_199]; rfl
@[go_sem] theorem fs_199 : flatS Tryz.prog 199 2 = true := by simp [flatS, Tryz.underlying199, Tryz.stoodInHeld199, Tryz.eqGuardType199, Tryz.underlying5]
@[go_sem] theorem info_200 : Tryz.prog.info? 200 = some Tryz.t200 := info_of Tryz.types_size (by decide) Tryz.type200
@[go_sem] theorem tz_200 : Tryz.t200.size = 32 := rfl
@[go_sem] theorem tb_200 : Tryz.t200.bytes = 32 := rfl
@[go_sem] theorem sz_200 : szOf Tryz.prog 200 = some 32 := by rw [szOf, info_200]; rfl
@[go_sem] theorem ag_200 : isAggT Tryz.prog 200 = some true := by rw [isAggT, Tryz.underlying200]; rfl
@[go_sem] theorem ze_200 : zeroC Tryz.prog 200 = some [(.v (.int .u8 0)), (.v (.int .u8 0)), (.v (.int .u8 0)), (.v (.int .u8 0)), (.v (.int .u8 0)), (.v (.int .u8 0)), (.v (.int .u8 0)), (.v (.int .u8 0)), (.v (.int .u8 0)), (.v (.int .u8 0)), (.v (.int .u8 0)), (.v (.int .u8 0)), (.v (.int .u8 0)), (.v (.int .u8 0)), (.v (.int .u8 0)), (.v (.int .u8 0)), (.v (.int .u8 0)), (.v (.int .u8 0)), (.v (.int .u8 0)), (.v (.int .u8 0)), (.v (.int .u8 0)), (.v (.int .u8 0)), (.v (.int .u8 0)), (.v (.int .u8 0)), (.v (.int .u8 0)), (.v (.int .u8 0)), (.v (.int .u8 0)), (.v (.int .u8 0)), (.v (.int .u8 0)), (.v (.int .u8 0)), (.v (.int .u8 0)), (.v (.int .u8 0))] := by rw [zeroC, info_200]; rfl
@[go_sem] theorem info_220 : Tryz.prog.info? 220 = some Tryz.t220 := info_of Tryz.types_size (by decide) Tryz.type220
@[go_sem] theorem tz_220 : Tryz.t220.size = 3 := rfl
@[go_sem] theorem tb_220 : Tryz.t220.bytes = 48 := rfl
@[go_sem] theorem sz_220 : szOf Tryz.prog 220 = some 3 := by rw [szOf, info_220]; rfl
@[go_sem] theorem ag_220 : isAggT Tryz.prog 220 = some true := by rw [isAggT, Tryz.underlying220]; rfl
@[go_sem] theorem fd_220_0 : fieldT Tryz.prog 220 0 = some { name := "Func", type := 9, offset := 0, embedded := false, tag := "", pkgPath := "", byteOffset := 0 } := by rw [fieldT, Tryz.underlying220]; rfl
@[go_sem] theorem fd_220_1 : fieldT Tryz.prog 220 1 = some { name := "Num", type := 9, offset := 1, embedded := false, tag := "", pkgPath := "", byteOffset := 16 } := by rw [fieldT, Tryz.underlying220]; rfl
@[go_sem] theorem fd_220_2 : fieldT Tryz.prog 220 2 = some { name := "Err", type := 143, offset := 2, embedded := false, tag := "", pkgPath := "", byteOffset := 32 } := by rw [fieldT, Tryz.underlying220]; rfl
@[go_sem] theorem info_226 : Tryz.prog.info? 226 = some Tryz.t226 := info_of Tryz.types_size (by decide) Tryz.type226
@[go_sem] theorem tz_226 : Tryz.t226.size = 32 := rfl
@[go_sem] theorem tb_226 : Tryz.t226.bytes = 32 := rfl
@[go_sem] theorem sz_226 : szOf Tryz.prog 226 = some 32 := by rw [szOf, info_226]; rfl
@[go_sem] theorem ag_226 : isAggT Tryz.prog 226 = some true := by rw [isAggT, Tryz.underlying226]; rfl
@[go_sem] theorem ze_226 : zeroC Tryz.prog 226 = some [(.v (.int .u8 0)), (.v (.int .u8 0)), (.v (.int .u8 0)), (.v (.int .u8 0)), (.v (.int .u8 0)), (.v (.int .u8 0)), (.v (.int .u8 0)), (.v (.int .u8 0)), (.v (.int .u8 0)), (.v (.int .u8 0)), (.v (.int .u8 0)), (.v (.int .u8 0)), (.v (.int .u8 0)), (.v (.int .u8 0)), (.v (.int .u8 0)), (.v (.int .u8 0)), (.v (.int .u8 0)), (.v (.int .u8 0)), (.v (.int .u8 0)), (.v (.int .u8 0)), (.v (.int .u8 0)), (.v (.int .u8 0)), (.v (.int .u8 0)), (.v (.int .u8 0)), (.v (.int .u8 0)), (.v (.int .u8 0)), (.v (.int .u8 0)), (.v (.int .u8 0)), (.v (.int .u8 0)), (.v (.int .u8 0)), (.v (.int .u8 0)), (.v (.int .u8 0))] := by rw [zeroC, info_226]; rfl
@[go_sem] theorem info_227 : Tryz.prog.info? 227 = some Tryz.t227 := info_of Tryz.types_size (by decide) Tryz.type227
@[go_sem] theorem tz_227 : Tryz.t227.size = 64 := rfl
@[go_sem] theorem tb_227 : Tryz.t227.bytes = 64 := rfl
@[go_sem] theorem sz_227 : szOf Tryz.prog 227 = some 64 := by rw [szOf, info_227]; rfl
@[go_sem] theorem ag_227 : isAggT Tryz.prog 227 = some true := by rw [isAggT, Tryz.underlying227]; rfl
@[go_sem] theorem ze_227 : zeroC Tryz.prog 227 = some [(.v (.int .u8 0)), (.v (.int .u8 0)), (.v (.int .u8 0)), (.v (.int .u8 0)), (.v (.int .u8 0)), (.v (.int .u8 0)), (.v (.int .u8 0)), (.v (.int .u8 0)), (.v (.int .u8 0)), (.v (.int .u8 0)), (.v (.int .u8 0)), (.v (.int .u8 0)), (.v (.int .u8 0)), (.v (.int .u8 0)), (.v (.int .u8 0)), (.v (.int .u8 0)), (.v (.int .u8 0)), (.v (.int .u8 0)), (.v (.int .u8 0)), (.v (.int .u8 0)), (.v (.int .u8 0)), (.v (.int .u8 0)), (.v (.int .u8 0)), (.v (.int .u8 0)), (.v (.int .u8 0)), (.v (.int .u8 0)), (.v (.int .u8 0)), (.v (.int .u8 0)), (.v (.int .u8 0)), (.v (.int .u8 0)), (.v (.int .u8 0)), (.v (.int .u8 0)), (.v (.int .u8 0)), (.v (.int .u8 0)), (.v (.int .u8 0)), (.v (.int .u8 0)), (.v (.int .u8 0)), (.v (.int .u8 0)), (.v (.int .u8 0)), (.v (.int .u8 0)), (.v (.int .u8 0)), (.v (.int .u8 0)), (.v (.int .u8 0)), (.v (.int .u8 0)), (.v (.int .u8 0)), (.v (.int .u8 0)), (.v (.int .u8 0)), (.v (.int .u8 0)), (.v (.int .u8 0)), (.v (.int .u8 0)), (.v (.int .u8 0)), (.v (.int .u8 0)), (.v (.int .u8 0)), (.v (.int .u8 0)), (.v (.int .u8 0)), (.v (.int .u8 0)), (.v (.int .u8 0)), (.v (.int .u8 0)), (.v (.int .u8 0)), (.v (.int .u8 0)), (.v (.int .u8 0)), (.v (.int .u8 0)), (.v (.int .u8 0)), (.v (.int .u8 0))] := by rw [zeroC, info_227]; rfl
@[go_sem] theorem info_230 : Tryz.prog.info? 230 = some Tryz.t230 := info_of Tryz.types_size (by decide) Tryz.type230
@[go_sem] theorem tz_230 : Tryz.t230.size = 1 := rfl
@[go_sem] theorem tb_230 : Tryz.t230.bytes = 8 := rfl
@[go_sem] theorem sz_230 : szOf Tryz.prog 230 = some 1 := by rw [szOf, info_230]; rfl
@[go_sem] theorem ag_230 : isAggT Tryz.prog 230 = some false := by rw [isAggT, Tryz.underlying230]; rfl
@[go_sem] theorem ze_230 : zeroC Tryz.prog 230 = some [(.v (.pointer none))] := by rw [zeroC, info_230]; rfl
@[go_sem] theorem info_233 : Tryz.prog.info? 233 = some Tryz.t233 := info_of Tryz.types_size (by decide) Tryz.type233
@[go_sem] theorem tz_233 : Tryz.t233.size = 1 := rfl
@[go_sem] theorem tb_233 : Tryz.t233.bytes = 16 := rfl
@[go_sem] theorem sz_233 : szOf Tryz.prog 233 = some 1 := by rw [szOf, info_233]; rfl
@[go_sem] theorem ag_233 : isAggT Tryz.prog 233 = some true := by rw [isAggT, Tryz.underlying233]; rfl
@[go_sem] theorem fd_233_0 : fieldT Tryz.prog 233 0 = some (fld Tryz.prog 233 0) := by rw [fld, fieldT, Tryz.underlying233]; rfl
@[go_sem] theorem fo_233_0 : (fld Tryz.prog 233 0).offset = 0 := by rw [fld, fieldT, Tryz.underlying233]; rfl
@[go_sem] theorem ft_233_0 : (fld Tryz.prog 233 0).type = 9 := by rw [fld, fieldT, Tryz.underlying233]; rfl
@[go_sem] theorem ze_233 : zeroC Tryz.prog 233 = some [(.v (.string ⟨#[]⟩))] := by rw [zeroC, info_233]; rfl
/-- How calls are taken. -/
def mutL : List Nat := [23, 27, 28, 29, 42, 43, 45, 48, 49, 53, 54, 57, 108, 110, 117, 118, 119, 161, 170, 177, 201, 206, 222]
def ownL : List (Nat × Nat) := [(13, 5), (27, 8), (37, 9), (75, 30), (75, 36), (77, 21), (81, 36), (81, 43), (97, 7), (106, 29), (121, 13), (126, 16)]
end Go.Proofs.YtmocnnknnbalkaaGreatDoor.X
