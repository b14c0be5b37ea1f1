/- Facts of one program's tables. -/
import Derived.Test.YtjffaedlmplcnaaEval
import Derived.Test.YtjffaedlmplcnaaProg
namespace Go.Proofs.Ytjffaedlmplcnaa.X
open Go Go.Proofs
set_option maxRecDepth 100000
attribute [go_sem] Try.underlying0 Try.underlying1 Try.underlying2 Try.underlying3 Try.underlying4 Try.underlying5 Try.underlying6 Try.underlying7 Try.underlying8 Try.underlying9 Try.underlying10 Try.underlying11 Try.underlying12 Try.underlying13 Try.underlying14 Try.underlying15 Try.underlying16 Try.underlying17 Try.underlying18 Try.underlying19 Try.underlying20 Try.underlying21 Try.underlying22 Try.underlying23 Try.underlying24 Try.underlying25 Try.underlying26 Try.underlying27 Try.underlying28 Try.underlying29 Try.underlying30 Try.underlying31 Try.underlying32 Try.underlying33 Try.underlying34 Try.underlying35 Try.underlying36 Try.underlying37 Try.underlying38 Try.underlying39 Try.underlying40 Try.underlying41 Try.underlying42 Try.underlying43 Try.underlying44 Try.underlying45 Try.underlying46 Try.underlying47 Try.underlying48 Try.underlying49 Try.underlying50 Try.underlying51 Try.underlying52 Try.underlying53 Try.underlying54 Try.underlying55 Try.underlying56 Try.underlying57 Try.underlying58 Try.underlying59 Try.underlying60 Try.underlying61 Try.underlying62 Try.underlying63 Try.underlying64 Try.underlying65 Try.underlying66 Try.underlying67 Try.underlying68 Try.underlying69 Try.underlying70 Try.underlying71 Try.underlying72 Try.underlying73 Try.underlying74 Try.underlying75 Try.underlying76 Try.underlying77 Try.underlying78 Try.underlying79 Try.underlying80 Try.underlying81 Try.underlying82 Try.underlying83 Try.underlying84 Try.underlying85 Try.underlying86 Try.underlying87 Try.underlying88 Try.underlying89 Try.underlying90 Try.underlying91 Try.underlying92 Try.underlying93 Try.underlying94 Try.underlying95 Try.underlying96 Try.underlying97 Try.underlying98 Try.underlying99 Try.underlying100 Try.underlying101 Try.underlying102 Try.underlying103 Try.underlying104 Try.underlying105 Try.underlying106 Try.underlying107 Try.underlying108 Try.underlying109 Try.underlying110 Try.underlying111 Try.underlying112 Try.underlying113 Try.underlying114 Try.underlying115 Try.underlying116 Try.underlying117 Try.underlying118 Try.underlying119 Try.underlying120 Try.underlying121 Try.underlying122 Try.underlying123 Try.underlying124 Try.underlying125 Try.underlying126 Try.underlying127 Try.underlying128 Try.underlying129 Try.underlying130 Try.underlying131 Try.underlying132 Try.underlying133 Try.underlying134 Try.underlying135 Try.underlying136 Try.underlying137 Try.underlying138 Try.underlying139 Try.underlying140 Try.underlying141 Try.underlying142 Try.underlying143 Try.underlying144 Try.underlying145 Try.underlying146 Try.underlying147 Try.underlying148 Try.underlying149 Try.underlying150 Try.underlying151 Try.underlying152 Try.underlying153 Try.underlying154 Try.underlying155 Try.underlying156 Try.underlying157 Try.underlying158 Try.underlying159 Try.underlying160 Try.underlying161 Try.underlying162 Try.underlying163 Try.underlying164 Try.underlying165 Try.underlying166 Try.underlying167 Try.underlying168 Try.underlying169 Try.underlying170 Try.underlying171 Try.underlying172 Try.underlying173 Try.underlying174 Try.underlying175 Try.underlying176 Try.underlying177 Try.underlying178 Try.underlying179 Try.underlying180 Try.underlying181 Try.underlying182 Try.underlying183 Try.underlying184 Try.underlying185 Try.underlying186 Try.underlying187 Try.underlying188 Try.underlying189 Try.underlying190 Try.underlying191 Try.underlying192 Try.underlying193 Try.underlying194 Try.underlying195 Try.underlying196 Try.underlying197 Try.underlying198 Try.underlying199 Try.underlying200 Try.underlying201 Try.underlying202 Try.underlying203 Try.underlying204 Try.underlying205 Try.underlying206 Try.underlying207 Try.underlying208 Try.underlying209 Try.underlying210 Try.underlying211 Try.underlying212 Try.underlying213 Try.underlying214 Try.underlying215 Try.underlying216 Try.underlying217 Try.underlying218 Try.underlying219 Try.underlying220 Try.underlying221 Try.underlying222 Try.underlying223 Try.underlying224 Try.underlying225 Try.underlying226 Try.underlying227 Try.underlying228 Try.underlying229 Try.underlying230 Try.underlying231 Try.underlying232 Try.underlying233 Try.underlying234 Try.underlying235 Try.underlying236 Try.underlying237
theorem info_of {P : Program} {t n : Nat} {i : TypeInfo} (h : P.types.size = n) (hl : t < n) (hi : P.types[t]? = some i) : P.info? t = some i := by
  unfold Tables.info?
  rw [if_pos (by rw [h]; exact hl)]
  exact hi
def zB (n : Nat) : List IV := List.replicate n (.v (.bool false))
def fld (P : Program) (t i : Nat) : Field := (fieldT P t i).getD ⟨ "", 0, 0, false, "", "", 0⟩
@[go_sem] theorem info_3 : Try.prog.info? 3 = some Try.t3 := info_of Try.types_size (by decide) Try.type3
@[go_sem] theorem tz_3 : Try.t3.size = 1 := rfl
@[go_sem] theorem tb_3 : Try.t3.bytes = 8 := rfl
@[go_sem] theorem sz_3 : szOf Try.prog 3 = some 1 := by rw [szOf, info_3]; rfl
@[go_sem] theorem ag_3 : isAggT Try.prog 3 = some false := by rw [isAggT, Try.underlying3]; rfl
@[go_sem] theorem ze_3 : zeroC Try.prog 3 = some [(.v (.int .i64 0))] := by rw [zeroC, info_3]; rfl
@[go_sem] theorem info_4 : Try.prog.info? 4 = some Try.t4 := info_of Try.types_size (by decide) Try.type4
@[go_sem] theorem tz_4 : Try.t4.size = 1 := rfl
@[go_sem] theorem tb_4 : Try.t4.bytes = 1 := rfl
@[go_sem] theorem sz_4 : szOf Try.prog 4 = some 1 := by rw [szOf, info_4]; rfl
@[go_sem] theorem ag_4 : isAggT Try.prog 4 = some false := by rw [isAggT, Try.underlying4]; rfl
@[go_sem] theorem ze_4 : zeroC Try.prog 4 = some [(.v (.bool false))] := by rw [zeroC, info_4]; rfl
@[go_sem] theorem info_5 : Try.prog.info? 5 = some Try.t5 := info_of Try.types_size (by decide) Try.type5
@[go_sem] theorem tz_5 : Try.t5.size = 1 := rfl
@[go_sem] theorem tb_5 : Try.t5.bytes = 1 := rfl
@[go_sem] theorem sz_5 : szOf Try.prog 5 = some 1 := by rw [szOf, info_5]; rfl
@[go_sem] theorem ag_5 : isAggT Try.prog 5 = some false := by rw [isAggT, Try.underlying5]; rfl
@[go_sem] theorem ze_5 : zeroC Try.prog 5 = some [(.v (.int .u8 0))] := by rw [zeroC, info_5]; rfl
@[go_sem] theorem info_9 : Try.prog.info? 9 = some Try.t9 := info_of Try.types_size (by decide) Try.type9
@[go_sem] theorem tz_9 : Try.t9.size = 1 := rfl
@[go_sem] theorem tb_9 : Try.t9.bytes = 16 := rfl
@[go_sem] theorem sz_9 : szOf Try.prog 9 = some 1 := by rw [szOf, info_9]; rfl
@[go_sem] theorem ag_9 : isAggT Try.prog 9 = some false := by rw [isAggT, Try.underlying9]; rfl
@[go_sem] theorem ze_9 : zeroC Try.prog 9 = some [(.v (.string ⟨#[]⟩))] := by rw [zeroC, info_9]; rfl
@[go_sem] theorem info_22 : Try.prog.info? 22 = some Try.t22 := info_of Try.types_size (by decide) Try.type22
@[go_sem] theorem tz_22 : Try.t22.size = 1 := rfl
@[go_sem] theorem tb_22 : Try.t22.bytes = 24 := rfl
@[go_sem] theorem sz_22 : szOf Try.prog 22 = some 1 := by rw [szOf, info_22]; rfl
@[go_sem] theorem ag_22 : isAggT Try.prog 22 = some false := by rw [isAggT, Try.underlying22]; rfl
@[go_sem] theorem el_22 : elemT Try.prog 22 = some 5 := by rw [elemT, Try.underlying22]
@[go_sem] theorem ze_22 : zeroC Try.prog 22 = some [.emp] := by rw [zeroC, info_22]; rfl
@[go_sem] theorem info_23 : Try.prog.info? 23 = some Try.t23 := info_of Try.types_size (by decide) Try.type23
@[go_sem] theorem tz_23 : Try.t23.size = 1 := rfl
@[go_sem] theorem tb_23 : Try.t23.bytes = 24 := rfl
@[go_sem] theorem sz_23 : szOf Try.prog 23 = some 1 := by rw [szOf, info_23]; rfl
@[go_sem] theorem ag_23 : isAggT Try.prog 23 = some false := by rw [isAggT, Try.underlying23]; rfl
@[go_sem] theorem el_23 : elemT Try.prog 23 = some 31 := by rw [elemT, Try.underlying23]
@[go_sem] theorem ze_23 : zeroC Try.prog 23 = some [.emp] := by rw [zeroC, info_23]; rfl
@[go_sem] theorem info_25 : Try.prog.info? 25 = some Try.t25 := info_of Try.types_size (by decide) Try.type25
@[go_sem] theorem tz_25 : Try.t25.size = 2 := rfl
@[go_sem] theorem tb_25 : Try.t25.bytes = 32 := rfl
@[go_sem] theorem sz_25 : szOf Try.prog 25 = some 2 := by rw [szOf, info_25]; rfl
@[go_sem] theorem ag_25 : isAggT Try.prog 25 = some true := by rw [isAggT, Try.underlying25]; rfl
@[go_sem] theorem fd_25_0 : fieldT Try.prog 25 0 = some { name := "Nodes", type := 3, offset := 0, embedded := false, tag := "", pkgPath := "", byteOffset := 0 } := by rw [fieldT, Try.underlying25]; rfl
@[go_sem] theorem fd_25_1 : fieldT Try.prog 25 1 = some { name := "Edges", type := 23, offset := 1, embedded := false, tag := "", pkgPath := "", byteOffset := 8 } := by rw [fieldT, Try.underlying25]; rfl
@[go_sem] theorem ze_25 : zeroC Try.prog 25 = some [(.v (.int .i64 0)), .emp] := by rw [zeroC, info_25]; rfl
@[go_sem] theorem info_26 : Try.prog.info? 26 = some Try.t26 := info_of Try.types_size (by decide) Try.type26
@[go_sem] theorem tz_26 : Try.t26.size = 1 := rfl
@[go_sem] theorem tb_26 : Try.t26.bytes = 24 := rfl
@[go_sem] theorem sz_26 : szOf Try.prog 26 = some 1 := by rw [szOf, info_26]; rfl
@[go_sem] theorem ag_26 : isAggT Try.prog 26 = some false := by rw [isAggT, Try.underlying26]; rfl
@[go_sem] theorem el_26 : elemT Try.prog 26 = some 3 := by rw [elemT, Try.underlying26]
@[go_sem] theorem ze_26 : zeroC Try.prog 26 = some [.emp] := by rw [zeroC, info_26]; rfl
@[go_sem] theorem info_27 : Try.prog.info? 27 = some Try.t27 := info_of Try.types_size (by decide) Try.type27
@[go_sem] theorem tz_27 : Try.t27.size = 1 := rfl
@[go_sem] theorem tb_27 : Try.t27.bytes = 24 := rfl
@[go_sem] theorem sz_27 : szOf Try.prog 27 = some 1 := by rw [szOf, info_27]; rfl
@[go_sem] theorem ag_27 : isAggT Try.prog 27 = some false := by rw [isAggT, Try.underlying27]; rfl
@[go_sem] theorem el_27 : elemT Try.prog 27 = some 4 := by rw [elemT, Try.underlying27]
@[go_sem] theorem ze_27 : zeroC Try.prog 27 = some [.emp] := by rw [zeroC, info_27]; rfl
@[go_sem] theorem info_29 : Try.prog.info? 29 = some Try.t29 := info_of Try.types_size (by decide) Try.type29
@[go_sem] theorem tz_29 : Try.t29.size = 4 := rfl
@[go_sem] theorem tb_29 : Try.t29.bytes = 80 := rfl
@[go_sem] theorem sz_29 : szOf Try.prog 29 = some 4 := by rw [szOf, info_29]; rfl
@[go_sem] theorem ag_29 : isAggT Try.prog 29 = some true := by rw [isAggT, Try.underlying29]; rfl
@[go_sem] theorem fd_29_0 : fieldT Try.prog 29 0 = some { name := "Graph", type := 25, offset := 0, embedded := false, tag := "", pkgPath := "", byteOffset := 0 } := by rw [fieldT, Try.underlying29]; rfl
@[go_sem] theorem fd_29_1 : fieldT Try.prog 29 1 = some { name := "Levels", type := 26, offset := 2, embedded := false, tag := "", pkgPath := "", byteOffset := 32 } := by rw [fieldT, Try.underlying29]; rfl
@[go_sem] theorem fd_29_2 : fieldT Try.prog 29 2 = some { name := "Tree", type := 27, offset := 3, embedded := false, tag := "", pkgPath := "", byteOffset := 56 } := by rw [fieldT, Try.underlying29]; rfl
@[go_sem] theorem ze_29 : zeroC Try.prog 29 = some [(.v (.int .i64 0)), .emp, .emp, .emp] := by rw [zeroC, info_29]; rfl
@[go_sem] theorem info_31 : Try.prog.info? 31 = some Try.t31 := info_of Try.types_size (by decide) Try.type31
@[go_sem] theorem tz_31 : Try.t31.size = 2 := rfl
@[go_sem] theorem tb_31 : Try.t31.bytes = 16 := rfl
@[go_sem] theorem sz_31 : szOf Try.prog 31 = some 2 := by rw [szOf, info_31]; rfl
@[go_sem] theorem ag_31 : isAggT Try.prog 31 = some true := by rw [isAggT, Try.underlying31]; rfl
@[go_sem] theorem fd_31_0 : fieldT Try.prog 31 0 = some { name := "A", type := 3, offset := 0, embedded := false, tag := "", pkgPath := "", byteOffset := 0 } := by rw [fieldT, Try.underlying31]; rfl
@[go_sem] theorem fd_31_1 : fieldT Try.prog 31 1 = some { name := "B", type := 3, offset := 1, embedded := false, tag := "", pkgPath := "", byteOffset := 8 } := by rw [fieldT, Try.underlying31]; rfl
@[go_sem] theorem ze_31 : zeroC Try.prog 31 = some [(.v (.int .i64 0)), (.v (.int .i64 0))] := by rw [zeroC, info_31]; rfl
@[go_sem] theorem fs_31 : flatS Try.prog 31 2 = true := by simp [flatS, Try.underlying31, Try.stoodInHeld31, Try.eqGuardType31, Try.underlying3]
@[go_sem] theorem info_43 : Try.prog.info? 43 = some Try.t43 := info_of Try.types_size (by decide) Try.type43
@[go_sem] theorem tz_43 : Try.t43.size = 1 := rfl
@[go_sem] theorem tb_43 : Try.t43.bytes = 24 := rfl
@[go_sem] theorem sz_43 : szOf Try.prog 43 = some 1 := by rw [szOf, info_43]; rfl
@[go_sem] theorem ag_43 : isAggT Try.prog 43 = some false := by rw [isAggT, Try.underlying43]; rfl
@[go_sem] theorem el_43 : elemT Try.prog 43 = some 116 := by rw [elemT, Try.underlying43]
@[go_sem] theorem ze_43 : zeroC Try.prog 43 = some [.emp] := by rw [zeroC, info_43]; rfl
@[go_sem] theorem info_51 : Try.prog.info? 51 = some Try.t51 := info_of Try.types_size (by decide) Try.type51
@[go_sem] theorem tz_51 : Try.t51.size = 1 := rfl
@[go_sem] theorem tb_51 : Try.t51.bytes = 24 := rfl
@[go_sem] theorem sz_51 : szOf Try.prog 51 = some 1 := by rw [szOf, info_51]; rfl
@[go_sem] theorem ag_51 : isAggT Try.prog 51 = some false := by rw [isAggT, Try.underlying51]; rfl
@[go_sem] theorem el_51 : elemT Try.prog 51 = some 56 := by rw [elemT, Try.underlying51]
@[go_sem] theorem ze_51 : zeroC Try.prog 51 = some [.emp] := by rw [zeroC, info_51]; rfl
@[go_sem] theorem info_56 : Try.prog.info? 56 = some Try.t56 := info_of Try.types_size (by decide) Try.type56
@[go_sem] theorem tz_56 : Try.t56.size = 4 := rfl
@[go_sem] theorem tb_56 : Try.t56.bytes = 32 := rfl
@[go_sem] theorem sz_56 : szOf Try.prog 56 = some 4 := by rw [szOf, info_56]; rfl
@[go_sem] theorem ag_56 : isAggT Try.prog 56 = some true := by rw [isAggT, Try.underlying56]; rfl
@[go_sem] theorem fd_56_0 : fieldT Try.prog 56 0 = some { name := "Edge", type := 31, offset := 0, embedded := false, tag := "", pkgPath := "", byteOffset := 0 } := by rw [fieldT, Try.underlying56]; rfl
@[go_sem] theorem fd_56_1 : fieldT Try.prog 56 1 = some { name := "From", type := 3, offset := 2, embedded := false, tag := "", pkgPath := "", byteOffset := 16 } := by rw [fieldT, Try.underlying56]; rfl
@[go_sem] theorem fd_56_2 : fieldT Try.prog 56 2 = some { name := "To", type := 3, offset := 3, embedded := false, tag := "", pkgPath := "", byteOffset := 24 } := by rw [fieldT, Try.underlying56]; rfl
@[go_sem] theorem ze_56 : zeroC Try.prog 56 = some [(.v (.int .i64 0)), (.v (.int .i64 0)), (.v (.int .i64 0)), (.v (.int .i64 0))] := by rw [zeroC, info_56]; rfl
@[go_sem] theorem info_57 : Try.prog.info? 57 = some Try.t57 := info_of Try.types_size (by decide) Try.type57
@[go_sem] theorem tz_57 : Try.t57.size = 1 := rfl
@[go_sem] theorem tb_57 : Try.t57.bytes = 24 := rfl
@[go_sem] theorem sz_57 : szOf Try.prog 57 = some 1 := by rw [szOf, info_57]; rfl
@[go_sem] theorem ag_57 : isAggT Try.prog 57 = some false := by rw [isAggT, Try.underlying57]; rfl
@[go_sem] theorem el_57 : elemT Try.prog 57 = some 121 := by rw [elemT, Try.underlying57]
@[go_sem] theorem ze_57 : zeroC Try.prog 57 = some [.emp] := by rw [zeroC, info_57]; rfl
@[go_sem] theorem info_64 : Try.prog.info? 64 = some Try.t64 := info_of Try.types_size (by decide) Try.type64
@[go_sem] theorem tz_64 : Try.t64.size = 1 := rfl
@[go_sem] theorem tb_64 : Try.t64.bytes = 24 := rfl
@[go_sem] theorem sz_64 : szOf Try.prog 64 = some 1 := by rw [szOf, info_64]; rfl
@[go_sem] theorem ag_64 : isAggT Try.prog 64 = some false := by rw [isAggT, Try.underlying64]; rfl
@[go_sem] theorem el_64 : elemT Try.prog 64 = some 119 := by rw [elemT, Try.underlying64]
@[go_sem] theorem ze_64 : zeroC Try.prog 64 = some [.emp] := by rw [zeroC, info_64]; rfl
@[go_sem] theorem info_66 : Try.prog.info? 66 = some Try.t66 := info_of Try.types_size (by decide) Try.type66
@[go_sem] theorem tz_66 : Try.t66.size = 2 := rfl
@[go_sem] theorem tb_66 : Try.t66.bytes = 32 := rfl
@[go_sem] theorem sz_66 : szOf Try.prog 66 = some 2 := by rw [szOf, info_66]; rfl
@[go_sem] theorem ag_66 : isAggT Try.prog 66 = some true := by rw [isAggT, Try.underlying66]; rfl
@[go_sem] theorem fd_66_0 : fieldT Try.prog 66 0 = some { name := "Nodes", type := 3, offset := 0, embedded := false, tag := "", pkgPath := "", byteOffset := 0 } := by rw [fieldT, Try.underlying66]; rfl
@[go_sem] theorem fd_66_1 : fieldT Try.prog 66 1 = some { name := "Edges", type := 64, offset := 1, embedded := false, tag := "", pkgPath := "", byteOffset := 8 } := by rw [fieldT, Try.underlying66]; rfl
@[go_sem] theorem ze_66 : zeroC Try.prog 66 = some [(.v (.int .i64 0)), .emp] := by rw [zeroC, info_66]; rfl
@[go_sem] theorem info_68 : Try.prog.info? 68 = some Try.t68 := info_of Try.types_size (by decide) Try.type68
@[go_sem] theorem tz_68 : Try.t68.size = 1 := rfl
@[go_sem] theorem tb_68 : Try.t68.bytes = 24 := rfl
@[go_sem] theorem sz_68 : szOf Try.prog 68 = some 1 := by rw [szOf, info_68]; rfl
@[go_sem] theorem ag_68 : isAggT Try.prog 68 = some false := by rw [isAggT, Try.underlying68]; rfl
@[go_sem] theorem el_68 : elemT Try.prog 68 = some 26 := by rw [elemT, Try.underlying68]
@[go_sem] theorem ze_68 : zeroC Try.prog 68 = some [.emp] := by rw [zeroC, info_68]; rfl
@[go_sem] theorem info_77 : Try.prog.info? 77 = some Try.t77 := info_of Try.types_size (by decide) Try.type77
@[go_sem] theorem tz_77 : Try.t77.size = 1 := rfl
@[go_sem] theorem tb_77 : Try.t77.bytes = 8 := rfl
@[go_sem] theorem sz_77 : szOf Try.prog 77 = some 1 := by rw [szOf, info_77]; rfl
@[go_sem] theorem ag_77 : isAggT Try.prog 77 = some false := by rw [isAggT, Try.underlying77]; rfl
@[go_sem] theorem ze_77 : zeroC Try.prog 77 = some [(.v (.pointer none))] := by rw [zeroC, info_77]; rfl
@[go_sem] theorem info_88 : Try.prog.info? 88 = some Try.t88 := info_of Try.types_size (by decide) Try.type88
@[go_sem] theorem tz_88 : Try.t88.size = 1 := rfl
@[go_sem] theorem tb_88 : Try.t88.bytes = 8 := rfl
@[go_sem] theorem sz_88 : szOf Try.prog 88 = some 1 := by rw [szOf, info_88]; rfl
@[go_sem] theorem ag_88 : isAggT Try.prog 88 = some false := by rw [isAggT, Try.underlying88]; rfl
@[go_sem] theorem info_92 : Try.prog.info? 92 = some Try.t92 := info_of Try.types_size (by decide) Try.type92
@[go_sem] theorem tz_92 : Try.t92.size = 1 := rfl
@[go_sem] theorem tb_92 : Try.t92.bytes = 8 := rfl
@[go_sem] theorem sz_92 : szOf Try.prog 92 = some 1 := by rw [szOf, info_92]; rfl
@[go_sem] theorem ag_92 : isAggT Try.prog 92 = some false := by rw [isAggT, Try.underlying92]; rfl
@[go_sem] theorem info_98 : Try.prog.info? 98 = some Try.t98 := info_of Try.types_size (by decide) Try.type98
@[go_sem] theorem tz_98 : Try.t98.size = 1 := rfl
@[go_sem] theorem tb_98 : Try.t98.bytes = 8 := rfl
@[go_sem] theorem sz_98 : szOf Try.prog 98 = some 1 := by rw [szOf, info_98]; rfl
@[go_sem] theorem ag_98 : isAggT Try.prog 98 = some false := by rw [isAggT, Try.underlying98]; rfl
@[go_sem] theorem info_109 : Try.prog.info? 109 = some Try.t109 := info_of Try.types_size (by decide) Try.type109
@[go_sem] theorem tz_109 : Try.t109.size = 1 := rfl
@[go_sem] theorem tb_109 : Try.t109.bytes = 24 := rfl
@[go_sem] theorem sz_109 : szOf Try.prog 109 = some 1 := by rw [szOf, info_109]; rfl
@[go_sem] theorem ag_109 : isAggT Try.prog 109 = some false := by rw [isAggT, Try.underlying109]; rfl
@[go_sem] theorem el_109 : elemT Try.prog 109 = some 183 := by rw [elemT, Try.underlying109]
@[go_sem] theorem ze_109 : zeroC Try.prog 109 = some [.emp] := by rw [zeroC, info_109]; rfl
@[go_sem] theorem info_111 : Try.prog.info? 111 = some Try.t111 := info_of Try.types_size (by decide) Try.type111
@[go_sem] theorem tz_111 : Try.t111.size = 3 := rfl
@[go_sem] theorem tb_111 : Try.t111.bytes = 72 := rfl
@[go_sem] theorem sz_111 : szOf Try.prog 111 = some 3 := by rw [szOf, info_111]; rfl
@[go_sem] theorem ag_111 : isAggT Try.prog 111 = some true := by rw [isAggT, Try.underlying111]; rfl
@[go_sem] theorem fd_111_0 : fieldT Try.prog 111 0 = some { name := "Parents", type := 26, offset := 0, embedded := false, tag := "", pkgPath := "", byteOffset := 0 } := by rw [fieldT, Try.underlying111]; rfl
@[go_sem] theorem fd_111_1 : fieldT Try.prog 111 1 = some { name := "Sizes", type := 26, offset := 1, embedded := false, tag := "", pkgPath := "", byteOffset := 24 } := by rw [fieldT, Try.underlying111]; rfl
@[go_sem] theorem fd_111_2 : fieldT Try.prog 111 2 = some { name := "Steps", type := 109, offset := 2, embedded := false, tag := "", pkgPath := "", byteOffset := 48 } := by rw [fieldT, Try.underlying111]; rfl
@[go_sem] theorem ze_111 : zeroC Try.prog 111 = some [.emp, .emp, .emp] := by rw [zeroC, info_111]; rfl
@[go_sem] theorem info_116 : Try.prog.info? 116 = some Try.t116 := info_of Try.types_size (by decide) Try.type116
@[go_sem] theorem tz_116 : Try.t116.size = 3 := rfl
@[go_sem] theorem tb_116 : Try.t116.bytes = 24 := rfl
@[go_sem] theorem sz_116 : szOf Try.prog 116 = some 3 := by rw [szOf, info_116]; rfl
@[go_sem] theorem ag_116 : isAggT Try.prog 116 = some true := by rw [isAggT, Try.underlying116]; rfl
@[go_sem] theorem fd_116_0 : fieldT Try.prog 116 0 = some { name := "Kind", type := 3, offset := 0, embedded := false, tag := "", pkgPath := "", byteOffset := 0 } := by rw [fieldT, Try.underlying116]; rfl
@[go_sem] theorem fd_116_1 : fieldT Try.prog 116 1 = some { name := "Edge", type := 31, offset := 1, embedded := false, tag := "", pkgPath := "", byteOffset := 8 } := by rw [fieldT, Try.underlying116]; rfl
@[go_sem] theorem ze_116 : zeroC Try.prog 116 = some [(.v (.int .i64 0)), (.v (.int .i64 0)), (.v (.int .i64 0))] := by rw [zeroC, info_116]; rfl
@[go_sem] theorem info_119 : Try.prog.info? 119 = some Try.t119 := info_of Try.types_size (by decide) Try.type119
@[go_sem] theorem tz_119 : Try.t119.size = 2 := rfl
@[go_sem] theorem tb_119 : Try.t119.bytes = 16 := rfl
@[go_sem] theorem sz_119 : szOf Try.prog 119 = some 2 := by rw [szOf, info_119]; rfl
@[go_sem] theorem ag_119 : isAggT Try.prog 119 = some true := by rw [isAggT, Try.underlying119]; rfl
@[go_sem] theorem fd_119_0 : fieldT Try.prog 119 0 = some { name := "A", type := 3, offset := 0, embedded := false, tag := "", pkgPath := "", byteOffset := 0 } := by rw [fieldT, Try.underlying119]; rfl
@[go_sem] theorem fd_119_1 : fieldT Try.prog 119 1 = some { name := "B", type := 3, offset := 1, embedded := false, tag := "", pkgPath := "", byteOffset := 8 } := by rw [fieldT, Try.underlying119]; rfl
@[go_sem] theorem ze_119 : zeroC Try.prog 119 = some [(.v (.int .i64 0)), (.v (.int .i64 0))] := by rw [zeroC, info_119]; rfl
@[go_sem] theorem fs_119 : flatS Try.prog 119 2 = true := by simp [flatS, Try.underlying119, Try.stoodInHeld119, Try.eqGuardType119, Try.underlying3]
@[go_sem] theorem info_121 : Try.prog.info? 121 = some Try.t121 := info_of Try.types_size (by decide) Try.type121
@[go_sem] theorem tz_121 : Try.t121.size = 3 := rfl
@[go_sem] theorem tb_121 : Try.t121.bytes = 24 := rfl
@[go_sem] theorem sz_121 : szOf Try.prog 121 = some 3 := by rw [szOf, info_121]; rfl
@[go_sem] theorem ag_121 : isAggT Try.prog 121 = some true := by rw [isAggT, Try.underlying121]; rfl
@[go_sem] theorem fd_121_0 : fieldT Try.prog 121 0 = some { name := "Kind", type := 3, offset := 0, embedded := false, tag := "", pkgPath := "", byteOffset := 0 } := by rw [fieldT, Try.underlying121]; rfl
@[go_sem] theorem fd_121_1 : fieldT Try.prog 121 1 = some { name := "Edge", type := 119, offset := 1, embedded := false, tag := "", pkgPath := "", byteOffset := 8 } := by rw [fieldT, Try.underlying121]; rfl
@[go_sem] theorem ze_121 : zeroC Try.prog 121 = some [(.v (.int .i64 0)), (.v (.int .i64 0)), (.v (.int .i64 0))] := by rw [zeroC, info_121]; rfl
@[go_sem] theorem info_125 : Try.prog.info? 125 = some Try.t125 := info_of Try.types_size (by decide) Try.type125
@[go_sem] theorem tz_125 : Try.t125.size = 2 := rfl
@[go_sem] theorem tb_125 : Try.t125.bytes = 48 := rfl
@[go_sem] theorem sz_125 : szOf Try.prog 125 = some 2 := by rw [szOf, info_125]; rfl
@[go_sem] theorem ag_125 : isAggT Try.prog 125 = some true := by rw [isAggT, Try.underlying125]; rfl
@[go_sem] theorem fd_125_0 : fieldT Try.prog 125 0 = some (fld Try.prog 125 0) := by rw [fld, fieldT, Try.underlying125]; rfl
@[go_sem] theorem fo_125_0 : (fld Try.prog 125 0).offset = 0 := by rw [fld, fieldT, Try.underlying125]; rfl
@[go_sem] theorem ft_125_0 : (fld Try.prog 125 0).type = 26 := by rw [fld, fieldT, Try.underlying125]; rfl
@[go_sem] theorem fd_125_1 : fieldT Try.prog 125 1 = some (fld Try.prog 125 1) := by rw [fld, fieldT, Try.underlying125]; rfl
@[go_sem] theorem fo_125_1 : (fld Try.prog 125 1).offset = 1 := by rw [fld, fieldT, Try.underlying125]; rfl
@[go_sem] theorem ft_125_1 : (fld Try.prog 125 1).type = 26 := by rw [fld, fieldT, Try.underlying125]; rfl
@[go_sem] theorem ze_125 : zeroC Try.prog 125 = some [.emp, .emp] := by rw [zeroC, info_125]; rfl
@[go_sem] theorem info_131 : Try.prog.info? 131 = some Try.t131 := info_of Try.types_size (by decide) Try.type131
@[go_sem] theorem tz_131 : Try.t131.size = 16 := rfl
@[go_sem] theorem tb_131 : Try.t131.bytes = 16 := rfl
@[go_sem] theorem sz_131 : szOf Try.prog 131 = some 16 := by rw [szOf, info_131]; rfl
@[go_sem] theorem ag_131 : isAggT Try.prog 131 = some true := by rw [isAggT, Try.underlying131]; rfl
@[go_sem] theorem ze_131 : zeroC Try.prog 131 = some (zB 16) := by rw [zeroC, info_131]; rfl
@[go_sem] theorem info_133 : Try.prog.info? 133 = some Try.t133 := info_of Try.types_size (by decide) Try.type133
@[go_sem] theorem tz_133 : Try.t133.size = 256 := rfl
@[go_sem] theorem tb_133 : Try.t133.bytes = 256 := rfl
@[go_sem] theorem sz_133 : szOf Try.prog 133 = some 256 := by rw [szOf, info_133]; rfl
@[go_sem] theorem ag_133 : isAggT Try.prog 133 = some true := by rw [isAggT, Try.underlying133]; rfl
@[go_sem] theorem ze_133 : zeroC Try.prog 133 = some (zB 256) := by rw [zeroC, info_133]; rfl
@[go_sem] theorem info_146 : Try.prog.info? 146 = some Try.t146 := info_of Try.types_size (by decide) Try.type146
@[go_sem] theorem tz_146 : Try.t146.size = 2 := rfl
@[go_sem] theorem tb_146 : Try.t146.bytes = 32 := rfl
@[go_sem] theorem sz_146 : szOf Try.prog 146 = some 2 := by rw [szOf, info_146]; rfl
@[go_sem] theorem ag_146 : isAggT Try.prog 146 = some true := by rw [isAggT, Try.underlying146]; rfl
@[go_sem] theorem fd_146_0 : fieldT Try.prog 146 0 = some (fld Try.prog 146 0) := by rw [fld, fieldT, Try.underlying146]; rfl
@[go_sem] theorem fo_146_0 : (fld Try.prog 146 0).offset = 0 := by rw [fld, fieldT, Try.underlying146]; rfl
@[go_sem] theorem ft_146_0 : (fld Try.prog 146 0).type = 22 := by rw [fld, fieldT, Try.underlying146]; rfl
@[go_sem] theorem fd_146_1 : fieldT Try.prog 146 1 = some (fld Try.prog 146 1) := by rw [fld, fieldT, Try.underlying146]; rfl
@[go_sem] theorem fo_146_1 : (fld Try.prog 146 1).offset = 1 := by rw [fld, fieldT, Try.underlying146]; rfl
@[go_sem] theorem ft_146_1 : (fld Try.prog 146 1).type = 3 := by rw [fld, fieldT, Try.underlying146]; rfl
@[go_sem] theorem ze_146 : zeroC Try.prog 146 = some [.emp, (.v (.int .i64 0))] := by rw [zeroC, info_146]; rfl
@[go_sem] theorem info_148 : Try.prog.info? 148 = some Try.t148 := info_of Try.types_size (by decide) Try.type148
@[go_sem] theorem tz_148 : Try.t148.size = 1 := rfl
@[go_sem] theorem tb_148 : Try.t148.bytes = 8 := rfl
@[go_sem] theorem sz_148 : szOf Try.prog 148 = some 1 := by rw [szOf, info_148]; rfl
@[go_sem] theorem ag_148 : isAggT Try.prog 148 = some false := by rw [isAggT, Try.underlying148]; rfl
@[go_sem] theorem info_160 : Try.prog.info? 160 = some Try.t160 := info_of Try.types_size (by decide) Try.type160
@[go_sem] theorem tz_160 : Try.t160.size = 1 := rfl
@[go_sem] theorem tb_160 : Try.t160.bytes = 8 := rfl
@[go_sem] theorem sz_160 : szOf Try.prog 160 = some 1 := by rw [szOf, info_160]; rfl
@[go_sem] theorem ag_160 : isAggT Try.prog 160 = some false := by rw [isAggT, Try.underlying160]; rfl
@[go_sem] theorem ze_160 : zeroC Try.prog 160 = some [(.v (.pointer none))] := by rw [zeroC, info_160]; rfl
@[go_sem] theorem info_176 : Try.prog.info? 176 = some Try.t176 := info_of Try.types_size (by decide) Try.type176
@[go_sem] theorem tz_176 : Try.t176.size = 1 := rfl
@[go_sem] theorem tb_176 : Try.t176.bytes = 8 := rfl
@[go_sem] theorem sz_176 : szOf Try.prog 176 = some 1 := by rw [szOf, info_176]; rfl
@[go_sem] theorem ag_176 : isAggT Try.prog 176 = some false := by rw [isAggT, Try.underlying176]; rfl
@[go_sem] theorem ze_176 : zeroC Try.prog 176 = some [(.v (.int .u64 0))] := by rw [zeroC, info_176]; rfl
@[go_sem] theorem info_183 : Try.prog.info? 183 = some Try.t183 := info_of Try.types_size (by decide) Try.type183
@[go_sem] theorem tz_183 : Try.t183.size = 2 := rfl
@[go_sem] theorem tb_183 : Try.t183.bytes = 16 := rfl
@[go_sem] theorem sz_183 : szOf Try.prog 183 = some 2 := by rw [szOf, info_183]; rfl
@[go_sem] theorem ag_183 : isAggT Try.prog 183 = some true := by rw [isAggT, Try.underlying183]; rfl
@[go_sem] theorem fd_183_0 : fieldT Try.prog 183 0 = some { name := "Child", type := 3, offset := 0, embedded := false, tag := "", pkgPath := "", byteOffset := 0 } := by rw [fieldT, Try.underlying183]; rfl
@[go_sem] theorem fd_183_1 : fieldT Try.prog 183 1 = some { name := "Root", type := 3, offset := 1, embedded := false, tag := "", pkgPath := "", byteOffset := 8 } := by rw [fieldT, Try.underlying183]; rfl
@[go_sem] theorem ze_183 : zeroC Try.prog 183 = some [(.v (.int .i64 0)), (.v (.int .i64 0))] := by rw [zeroC, info_183]; rfl
@[go_sem] theorem fs_183 : flatS Try.prog 183 2 = true := by simp [flatS, Try.underlying183, Try.stoodInHeld183, Try.eqGuardType183, Try.underlying3]
@[go_sem] theorem info_193 : Try.prog.info? 193 = some Try.t193 := info_of Try.types_size (by decide) Try.type193
@[go_sem] theorem tz_193 : Try.t193.size = 1 := rfl
@[go_sem] theorem tb_193 : Try.t193.bytes = 4 := rfl
@[go_sem] theorem sz_193 : szOf Try.prog 193 = some 1 := by rw [szOf, info_193]; rfl
@[go_sem] theorem ag_193 : isAggT Try.prog 193 = some false := by rw [isAggT, Try.underlying193]; rfl
@[go_sem] theorem ze_193 : zeroC Try.prog 193 = some [(.v (.int .u32 0))] := by rw [zeroC, info_193]; rfl
@[go_sem] theorem info_196 : Try.prog.info? 196 = some Try.t196 := info_of Try.types_size (by decide) Try.type196
@[go_sem] theorem tz_196 : Try.t196.size = 1 := rfl
@[go_sem] theorem tb_196 : Try.t196.bytes = 8 := rfl
@[go_sem] theorem sz_196 : szOf Try.prog 196 = some 1 := by rw [szOf, info_196]; rfl
@[go_sem] theorem ag_196 : isAggT Try.prog 196 = some false := by rw [isAggT, Try.underlying196]; rfl
@[go_sem] theorem ze_196 : zeroC Try.prog 196 = some [(.v (.int .u64 0))] := by rw [zeroC, info_196]; rfl
@[go_sem] theorem info_204 : Try.prog.info? 204 = some Try.t204 := info_of Try.types_size (by decide) Try.type204
@[go_sem] theorem tz_204 : Try.t204.size = 1 := rfl
@[go_sem] theorem tb_204 : Try.t204.bytes = 8 := rfl
@[go_sem] theorem sz_204 : szOf Try.prog 204 = some 1 := by rw [szOf, info_204]; rfl
@[go_sem] theorem ag_204 : isAggT Try.prog 204 = some false := by rw [isAggT, Try.underlying204]; rfl
@[go_sem] theorem ze_204 : zeroC Try.prog 204 = some [(.v (.int .i64 0))] := by rw [zeroC, info_204]; rfl
@[go_sem] theorem info_212 : Try.prog.info? 212 = some Try.t212 := info_of Try.types_size (by decide) Try.type212
@[go_sem] theorem tz_212 : Try.t212.size = 1 := rfl
@[go_sem] theorem tb_212 : Try.t212.bytes = 8 := rfl
@[go_sem] theorem sz_212 : szOf Try.prog 212 = some 1 := by rw [szOf, info_212]; rfl
@[go_sem] theorem ag_212 : isAggT Try.prog 212 = some false := by rw [isAggT, Try.underlying212]; rfl
@[go_sem] theorem ze_212 : zeroC Try.prog 212 = some [(.v (.int .u64 0))] := by rw [zeroC, info_212]; rfl
@[go_sem] theorem info_216 : Try.prog.info? 216 = some Try.t216 := info_of Try.types_size (by decide) Try.type216
@[go_sem] theorem tz_216 : Try.t216.size = 1 := rfl
@[go_sem] theorem tb_216 : Try.t216.bytes = 8 := rfl
@[go_sem] theorem sz_216 : szOf Try.prog 216 = some 1 := by rw [szOf, info_216]; rfl
@[go_sem] theorem ag_216 : isAggT Try.prog 216 = some false := by rw [isAggT, Try.underlying216]; rfl
@[go_sem] theorem ze_216 : zeroC Try.prog 216 = some [(.v (.pointer none))] := by rw [zeroC, info_216]; rfl
/-- How calls are taken. -/
def mutL : List Nat := [26, 27, 35, 36, 40, 44, 46, 56, 57, 58, 71, 92, 93, 96, 98, 101, 121, 135, 146, 153, 159, 167, 181, 200, 202]
def ownL : List (Nat × Nat) := [(5, 33), (5, 37), (5, 96), (6, 32), (6, 37), (6, 86), (7, 11), (8, 30), (8, 36), (9, 33), (11, 36), (11, 43), (16, 27), (17, 21), (19, 12), (31, 9), (38, 15), (38, 18), (38, 45), (38, 75), (42, 29), (51, 17), (69, 8), (76, 40), (76, 45), (87, 16), (95, 38), (97, 30), (97, 54), (117, 9), (123, 11), (130, 15), (130, 19), (137, 25), (155, 5)]
end Go.Proofs.Ytjffaedlmplcnaa.X
