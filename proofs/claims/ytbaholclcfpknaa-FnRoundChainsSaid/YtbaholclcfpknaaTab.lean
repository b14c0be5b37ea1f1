/- Facts of one program's tables. -/
import Derived.Test.YtbaholclcfpknaaEval
import Derived.Test.YtbaholclcfpknaaProg
namespace Go.Proofs.Ytbaholclcfpknaa.X
open Go Go.Proofs
set_option maxRecDepth 100000

attribute [go_sem] Try.underlying0 Try.underlying1 Try.underlying2 Try.underlying3 Try.underlying4 Try.underlying5 Try.underlying6 Try.underlying7 Try.underlying8 Try.underlying9 Try.underlying10 Try.underlying11 Try.underlying12 Try.underlying13 Try.underlying14 Try.underlying15 Try.underlying16 Try.underlying17 Try.underlying18 Try.underlying19 Try.underlying20 Try.underlying21 Try.underlying22 Try.underlying23 Try.underlying24 Try.underlying25 Try.underlying26 Try.underlying27 Try.underlying28 Try.underlying29 Try.underlying30 Try.underlying31 Try.underlying32 Try.underlying33 Try.underlying34 Try.underlying35 Try.underlying36 Try.underlying37 Try.underlying38 Try.underlying39 Try.underlying40 Try.underlying41 Try.underlying42 Try.underlying43 Try.underlying44 Try.underlying45 Try.underlying46 Try.underlying47 Try.underlying48 Try.underlying49 Try.underlying50 Try.underlying51 Try.underlying52 Try.underlying53 Try.underlying54 Try.underlying55 Try.underlying56 Try.underlying57 Try.underlying58 Try.underlying59 Try.underlying60 Try.underlying61 Try.underlying62 Try.underlying63 Try.underlying64 Try.underlying65 Try.underlying66 Try.underlying67 Try.underlying68 Try.underlying69 Try.underlying70 Try.underlying71 Try.underlying72 Try.underlying73 Try.underlying74 Try.underlying75 Try.underlying76 Try.underlying77 Try.underlying78 Try.underlying79 Try.underlying80 Try.underlying81 Try.underlying82 Try.underlying83 Try.underlying84 Try.underlying85 Try.underlying86 Try.underlying87 Try.underlying88 Try.underlying89 Try.underlying90 Try.underlying91 Try.underlying92 Try.underlying93 Try.underlying94 Try.underlying95 Try.underlying96 Try.underlying97 Try.underlying98 Try.underlying99 Try.underlying100 Try.underlying101 Try.underlying102 Try.underlying103 Try.underlying104 Try.underlying105 Try.underlying106 Try.underlying107 Try.underlying108 Try.underlying109 Try.underlying110 Try.underlying111 Try.underlying112 Try.underlying113 Try.underlying114 Try.underlying115 Try.underlying116 Try.underlying117 Try.underlying118 Try.underlying119 Try.underlying120 Try.underlying121 Try.underlying122 Try.underlying123 Try.underlying124 Try.underlying125 Try.underlying126 Try.underlying127 Try.underlying128 Try.underlying129 Try.underlying130 Try.underlying131 Try.underlying132 Try.underlying133 Try.underlying134 Try.underlying135 Try.underlying136 Try.underlying137 Try.underlying138 Try.underlying139 Try.underlying140 Try.underlying141 Try.underlying142 Try.underlying143 Try.underlying144 Try.underlying145 Try.underlying146 Try.underlying147 Try.underlying148 Try.underlying149 Try.underlying150 Try.underlying151 Try.underlying152 Try.underlying153 Try.underlying154 Try.underlying155 Try.underlying156 Try.underlying157 Try.underlying158 Try.underlying159 Try.underlying160 Try.underlying161 Try.underlying162 Try.underlying163 Try.underlying164 Try.underlying165 Try.underlying166 Try.underlying167 Try.underlying168 Try.underlying169 Try.underlying170 Try.underlying171 Try.underlying172 Try.underlying173 Try.underlying174 Try.underlying175 Try.underlying176 Try.underlying177 Try.underlying178 Try.underlying179 Try.underlying180 Try.underlying181 Try.underlying182 Try.underlying183 Try.underlying184 Try.underlying185 Try.underlying186 Try.underlying187 Try.underlying188 Try.underlying189 Try.underlying190 Try.underlying191 Try.underlying192 Try.underlying193 Try.underlying194 Try.underlying195 Try.underlying196 Try.underlying197 Try.underlying198 Try.underlying199 Try.underlying200 Try.underlying201 Try.underlying202 Try.underlying203 Try.underlying204 Try.underlying205 Try.underlying206 Try.underlying207 Try.underlying208 Try.underlying209 Try.underlying210 Try.underlying211 Try.underlying212 Try.underlying213 Try.underlying214 Try.underlying215 Try.underlying216 Try.underlying217 Try.underlying218 Try.underlying219 Try.underlying220

theorem info_of {P : Program} {t n : Nat} {i : TypeInfo} (h : P.types.size = n) (hl : t < n) (hi : P.types[t]? = some i) : P.info? t = some i := by
  unfold Tables.info?
  rw [if_pos (by rw [h]; exact hl)]
  exact hi
def zB (n : Nat) : List IV := List.replicate n (.v (.bool false))
def fld (P : Program) (t i : Nat) : Field := (fieldT P t i).getD ⟨ "", 0, 0, false, "", "", 0⟩

@[go_sem] theorem info_3 : Try.prog.info? 3 = some Try.t3 := info_of Try.types_size (by decide) Try.type3
@[go_sem] theorem tz_3 : Try.t3.size = 1 := rfl
@[go_sem] theorem tb_3 : Try.t3.bytes = 8 := rfl
@[go_sem] theorem sz_3 : szOf Try.prog 3 = some 1 := by rw [szOf, info_3]; rfl
@[go_sem] theorem ag_3 : isAggT Try.prog 3 = some false := by rw [isAggT, Try.underlying3]; rfl
@[go_sem] theorem ze_3 : zeroC Try.prog 3 = some [(.v (.int .i64 0))] := by rw [zeroC, info_3]; rfl
@[go_sem] theorem info_4 : Try.prog.info? 4 = some Try.t4 := info_of Try.types_size (by decide) Try.type4
@[go_sem] theorem tz_4 : Try.t4.size = 1 := rfl
@[go_sem] theorem tb_4 : Try.t4.bytes = 1 := rfl
@[go_sem] theorem sz_4 : szOf Try.prog 4 = some 1 := by rw [szOf, info_4]; rfl
@[go_sem] theorem ag_4 : isAggT Try.prog 4 = some false := by rw [isAggT, Try.underlying4]; rfl
@[go_sem] theorem ze_4 : zeroC Try.prog 4 = some [(.v (.bool false))] := by rw [zeroC, info_4]; rfl
@[go_sem] theorem info_5 : Try.prog.info? 5 = some Try.t5 := info_of Try.types_size (by decide) Try.type5
@[go_sem] theorem tz_5 : Try.t5.size = 1 := rfl
@[go_sem] theorem tb_5 : Try.t5.bytes = 1 := rfl
@[go_sem] theorem sz_5 : szOf Try.prog 5 = some 1 := by rw [szOf, info_5]; rfl
@[go_sem] theorem ag_5 : isAggT Try.prog 5 = some false := by rw [isAggT, Try.underlying5]; rfl
@[go_sem] theorem ze_5 : zeroC Try.prog 5 = some [(.v (.int .u8 0))] := by rw [zeroC, info_5]; rfl
@[go_sem] theorem info_9 : Try.prog.info? 9 = some Try.t9 := info_of Try.types_size (by decide) Try.type9
@[go_sem] theorem tz_9 : Try.t9.size = 1 := rfl
@[go_sem] theorem tb_9 : Try.t9.bytes = 16 := rfl
@[go_sem] theorem sz_9 : szOf Try.prog 9 = some 1 := by rw [szOf, info_9]; rfl
@[go_sem] theorem ag_9 : isAggT Try.prog 9 = some false := by rw [isAggT, Try.underlying9]; rfl
@[go_sem] theorem ze_9 : zeroC Try.prog 9 = some [(.v (.string ⟨#[]⟩))] := by rw [zeroC, info_9]; rfl
@[go_sem] theorem info_22 : Try.prog.info? 22 = some Try.t22 := info_of Try.types_size (by decide) Try.type22
@[go_sem] theorem tz_22 : Try.t22.size = 1 := rfl
@[go_sem] theorem tb_22 : Try.t22.bytes = 24 := rfl
@[go_sem] theorem sz_22 : szOf Try.prog 22 = some 1 := by rw [szOf, info_22]; rfl
@[go_sem] theorem ag_22 : isAggT Try.prog 22 = some false := by rw [isAggT, Try.underlying22]; rfl
@[go_sem] theorem el_22 : elemT Try.prog 22 = some 5 := by rw [elemT, Try.underlying22]
@[go_sem] theorem ze_22 : zeroC Try.prog 22 = some [.emp] := by rw [zeroC, info_22]; rfl
@[go_sem] theorem info_23 : Try.prog.info? 23 = some Try.t23 := info_of Try.types_size (by decide) Try.type23
@[go_sem] theorem tz_23 : Try.t23.size = 1 := rfl
@[go_sem] theorem tb_23 : Try.t23.bytes = 24 := rfl
@[go_sem] theorem sz_23 : szOf Try.prog 23 = some 1 := by rw [szOf, info_23]; rfl
@[go_sem] theorem ag_23 : isAggT Try.prog 23 = some false := by rw [isAggT, Try.underlying23]; rfl
@[go_sem] theorem el_23 : elemT Try.prog 23 = some 44 := by rw [elemT, Try.underlying23]
@[go_sem] theorem ze_23 : zeroC Try.prog 23 = some [.emp] := by rw [zeroC, info_23]; rfl
@[go_sem] theorem info_25 : Try.prog.info? 25 = some Try.t25 := info_of Try.types_size (by decide) Try.type25
@[go_sem] theorem tz_25 : Try.t25.size = 2 := rfl
@[go_sem] theorem tb_25 : Try.t25.bytes = 32 := rfl
@[go_sem] theorem sz_25 : szOf Try.prog 25 = some 2 := by rw [szOf, info_25]; rfl
@[go_sem] theorem ag_25 : isAggT Try.prog 25 = some true := by rw [isAggT, Try.underlying25]; rfl
@[go_sem] theorem fd_25_0 : fieldT Try.prog 25 0 = some { name := "Nodes", type := 3, offset := 0, embedded := false, tag := "", pkgPath := "", byteOffset := 0 } := by rw [fieldT, Try.underlying25]; rfl
@[go_sem] theorem fd_25_1 : fieldT Try.prog 25 1 = some { name := "Edges", type := 23, offset := 1, embedded := false, tag := "", pkgPath := "", byteOffset := 8 } := by rw [fieldT, Try.underlying25]; rfl
@[go_sem] theorem ze_25 : zeroC Try.prog 25 = some [(.v (.int .i64 0)), .emp] := by rw [zeroC, info_25]; rfl
@[go_sem] theorem info_30 : Try.prog.info? 30 = some Try.t30 := info_of Try.types_size (by decide) Try.type30
@[go_sem] theorem tz_30 : Try.t30.size = 1 := rfl
@[go_sem] theorem tb_30 : Try.t30.bytes = 24 := rfl
@[go_sem] theorem sz_30 : szOf Try.prog 30 = some 1 := by rw [szOf, info_30]; rfl
@[go_sem] theorem ag_30 : isAggT Try.prog 30 = some false := by rw [isAggT, Try.underlying30]; rfl
@[go_sem] theorem el_30 : elemT Try.prog 30 = some 3 := by rw [elemT, Try.underlying30]
@[go_sem] theorem ze_30 : zeroC Try.prog 30 = some [.emp] := by rw [zeroC, info_30]; rfl
@[go_sem] theorem info_44 : Try.prog.info? 44 = some Try.t44 := info_of Try.types_size (by decide) Try.type44
@[go_sem] theorem tz_44 : Try.t44.size = 2 := rfl
@[go_sem] theorem tb_44 : Try.t44.bytes = 16 := rfl
@[go_sem] theorem sz_44 : szOf Try.prog 44 = some 2 := by rw [szOf, info_44]; rfl
@[go_sem] theorem ag_44 : isAggT Try.prog 44 = some true := by rw [isAggT, Try.underlying44]; rfl
@[go_sem] theorem fd_44_0 : fieldT Try.prog 44 0 = some { name := "A", type := 3, offset := 0, embedded := false, tag := "", pkgPath := "", byteOffset := 0 } := by rw [fieldT, Try.underlying44]; rfl
@[go_sem] theorem fd_44_1 : fieldT Try.prog 44 1 = some { name := "B", type := 3, offset := 1, embedded := false, tag := "", pkgPath := "", byteOffset := 8 } := by rw [fieldT, Try.underlying44]; rfl
@[go_sem] theorem ze_44 : zeroC Try.prog 44 = some [(.v (.int .i64 0)), (.v (.int .i64 0))] := by rw [zeroC, info_44]; rfl
@[go_sem] theorem fs_44 : flatS Try.prog 44 2 = true := by simp [flatS, Try.underlying44, Try.stoodInHeld44, Try.eqGuardType44, Try.underlying3]
@[go_sem] theorem info_51 : Try.prog.info? 51 = some Try.t51 := info_of Try.types_size (by decide) Try.type51
@[go_sem] theorem tz_51 : Try.t51.size = 1 := rfl
@[go_sem] theorem tb_51 : Try.t51.bytes = 24 := rfl
@[go_sem] theorem sz_51 : szOf Try.prog 51 = some 1 := by rw [szOf, info_51]; rfl
@[go_sem] theorem ag_51 : isAggT Try.prog 51 = some false := by rw [isAggT, Try.underlying51]; rfl
@[go_sem] theorem el_51 : elemT Try.prog 51 = some 23 := by rw [elemT, Try.underlying51]
@[go_sem] theorem ze_51 : zeroC Try.prog 51 = some [.emp] := by rw [zeroC, info_51]; rfl
@[go_sem] theorem info_55 : Try.prog.info? 55 = some Try.t55 := info_of Try.types_size (by decide) Try.type55
@[go_sem] theorem tz_55 : Try.t55.size = 1 := rfl
@[go_sem] theorem tb_55 : Try.t55.bytes = 24 := rfl
@[go_sem] theorem sz_55 : szOf Try.prog 55 = some 1 := by rw [szOf, info_55]; rfl
@[go_sem] theorem ag_55 : isAggT Try.prog 55 = some false := by rw [isAggT, Try.underlying55]; rfl
@[go_sem] theorem el_55 : elemT Try.prog 55 = some 30 := by rw [elemT, Try.underlying55]
@[go_sem] theorem ze_55 : zeroC Try.prog 55 = some [.emp] := by rw [zeroC, info_55]; rfl
@[go_sem] theorem info_63 : Try.prog.info? 63 = some Try.t63 := info_of Try.types_size (by decide) Try.type63
@[go_sem] theorem tz_63 : Try.t63.size = 1 := rfl
@[go_sem] theorem tb_63 : Try.t63.bytes = 24 := rfl
@[go_sem] theorem sz_63 : szOf Try.prog 63 = some 1 := by rw [szOf, info_63]; rfl
@[go_sem] theorem ag_63 : isAggT Try.prog 63 = some false := by rw [isAggT, Try.underlying63]; rfl
@[go_sem] theorem el_63 : elemT Try.prog 63 = some 157 := by rw [elemT, Try.underlying63]
@[go_sem] theorem ze_63 : zeroC Try.prog 63 = some [.emp] := by rw [zeroC, info_63]; rfl
@[go_sem] theorem info_65 : Try.prog.info? 65 = some Try.t65 := info_of Try.types_size (by decide) Try.type65
@[go_sem] theorem tz_65 : Try.t65.size = 2 := rfl
@[go_sem] theorem tb_65 : Try.t65.bytes = 32 := rfl
@[go_sem] theorem sz_65 : szOf Try.prog 65 = some 2 := by rw [szOf, info_65]; rfl
@[go_sem] theorem ag_65 : isAggT Try.prog 65 = some true := by rw [isAggT, Try.underlying65]; rfl
@[go_sem] theorem fd_65_0 : fieldT Try.prog 65 0 = some { name := "Nodes", type := 3, offset := 0, embedded := false, tag := "", pkgPath := "", byteOffset := 0 } := by rw [fieldT, Try.underlying65]; rfl
@[go_sem] theorem fd_65_1 : fieldT Try.prog 65 1 = some { name := "Edges", type := 63, offset := 1, embedded := false, tag := "", pkgPath := "", byteOffset := 8 } := by rw [fieldT, Try.underlying65]; rfl
@[go_sem] theorem ze_65 : zeroC Try.prog 65 = some [(.v (.int .i64 0)), .emp] := by rw [zeroC, info_65]; rfl
@[go_sem] theorem info_76 : Try.prog.info? 76 = some Try.t76 := info_of Try.types_size (by decide) Try.type76
@[go_sem] theorem tz_76 : Try.t76.size = 1 := rfl
@[go_sem] theorem tb_76 : Try.t76.bytes = 8 := rfl
@[go_sem] theorem sz_76 : szOf Try.prog 76 = some 1 := by rw [szOf, info_76]; rfl
@[go_sem] theorem ag_76 : isAggT Try.prog 76 = some false := by rw [isAggT, Try.underlying76]; rfl
@[go_sem] theorem info_78 : Try.prog.info? 78 = some Try.t78 := info_of Try.types_size (by decide) Try.type78
@[go_sem] theorem tz_78 : Try.t78.size = 1 := rfl
@[go_sem] theorem tb_78 : Try.t78.bytes = 8 := rfl
@[go_sem] theorem sz_78 : szOf Try.prog 78 = some 1 := by rw [szOf, info_78]; rfl
@[go_sem] theorem ag_78 : isAggT Try.prog 78 = some false := by rw [isAggT, Try.underlying78]; rfl
@[go_sem] theorem info_82 : Try.prog.info? 82 = some Try.t82 := info_of Try.types_size (by decide) Try.type82
@[go_sem] theorem tz_82 : Try.t82.size = 1 := rfl
@[go_sem] theorem tb_82 : Try.t82.bytes = 8 := rfl
@[go_sem] theorem sz_82 : szOf Try.prog 82 = some 1 := by rw [szOf, info_82]; rfl
@[go_sem] theorem ag_82 : isAggT Try.prog 82 = some false := by rw [isAggT, Try.underlying82]; rfl
@[go_sem] theorem info_83 : Try.prog.info? 83 = some Try.t83 := info_of Try.types_size (by decide) Try.type83
@[go_sem] theorem tz_83 : Try.t83.size = 1 := rfl
@[go_sem] theorem tb_83 : Try.t83.bytes = 8 := rfl
@[go_sem] theorem sz_83 : szOf Try.prog 83 = some 1 := by rw [szOf, info_83]; rfl
@[go_sem] theorem ag_83 : isAggT Try.prog 83 = some false := by rw [isAggT, Try.underlying83]; rfl
@[go_sem] theorem info_87 : Try.prog.info? 87 = some Try.t87 := info_of Try.types_size (by decide) Try.type87
@[go_sem] theorem tz_87 : Try.t87.size = 16 := rfl
@[go_sem] theorem tb_87 : Try.t87.bytes = 16 := rfl
@[go_sem] theorem sz_87 : szOf Try.prog 87 = some 16 := by rw [szOf, info_87]; rfl
@[go_sem] theorem ag_87 : isAggT Try.prog 87 = some true := by rw [isAggT, Try.underlying87]; rfl
@[go_sem] theorem ze_87 : zeroC Try.prog 87 = some (zB 16) := by rw [zeroC, info_87]; rfl
@[go_sem] theorem info_89 : Try.prog.info? 89 = some Try.t89 := info_of Try.types_size (by decide) Try.type89
@[go_sem] theorem tz_89 : Try.t89.size = 256 := rfl
@[go_sem] theorem tb_89 : Try.t89.bytes = 256 := rfl
@[go_sem] theorem sz_89 : szOf Try.prog 89 = some 256 := by rw [szOf, info_89]; rfl
@[go_sem] theorem ag_89 : isAggT Try.prog 89 = some true := by rw [isAggT, Try.underlying89]; rfl
@[go_sem] theorem ze_89 : zeroC Try.prog 89 = some (zB 256) := by rw [zeroC, info_89]; rfl
@[go_sem] theorem info_101 : Try.prog.info? 101 = some Try.t101 := info_of Try.types_size (by decide) Try.type101
@[go_sem] theorem tz_101 : Try.t101.size = 1 := rfl
@[go_sem] theorem tb_101 : Try.t101.bytes = 8 := rfl
@[go_sem] theorem sz_101 : szOf Try.prog 101 = some 1 := by rw [szOf, info_101]; rfl
@[go_sem] theorem ag_101 : isAggT Try.prog 101 = some false := by rw [isAggT, Try.underlying101]; rfl
@[go_sem] theorem ze_101 : zeroC Try.prog 101 = some [(.v (.pointer none))] := by rw [zeroC, info_101]; rfl
@[go_sem] theorem info_104 : Try.prog.info? 104 = some Try.t104 := info_of Try.types_size (by decide) Try.type104
@[go_sem] theorem tz_104 : Try.t104.size = 3 := rfl
@[go_sem] theorem tb_104 : Try.t104.bytes = 72 := rfl
@[go_sem] theorem sz_104 : szOf Try.prog 104 = some 3 := by rw [szOf, info_104]; rfl
@[go_sem] theorem ag_104 : isAggT Try.prog 104 = some true := by rw [isAggT, Try.underlying104]; rfl
@[go_sem] theorem fd_104_0 : fieldT Try.prog 104 0 = some { name := "Numbers", type := 30, offset := 0, embedded := false, tag := "", pkgPath := "", byteOffset := 0 } := by rw [fieldT, Try.underlying104]; rfl
@[go_sem] theorem fd_104_1 : fieldT Try.prog 104 1 = some { name := "Parents", type := 30, offset := 1, embedded := false, tag := "", pkgPath := "", byteOffset := 24 } := by rw [fieldT, Try.underlying104]; rfl
@[go_sem] theorem fd_104_2 : fieldT Try.prog 104 2 = some { name := "Lows", type := 30, offset := 2, embedded := false, tag := "", pkgPath := "", byteOffset := 48 } := by rw [fieldT, Try.underlying104]; rfl
@[go_sem] theorem ze_104 : zeroC Try.prog 104 = some [.emp, .emp, .emp] := by rw [zeroC, info_104]; rfl
@[go_sem] theorem info_106 : Try.prog.info? 106 = some Try.t106 := info_of Try.types_size (by decide) Try.type106
@[go_sem] theorem tz_106 : Try.t106.size = 1 := rfl
@[go_sem] theorem tb_106 : Try.t106.bytes = 24 := rfl
@[go_sem] theorem sz_106 : szOf Try.prog 106 = some 1 := by rw [szOf, info_106]; rfl
@[go_sem] theorem ag_106 : isAggT Try.prog 106 = some false := by rw [isAggT, Try.underlying106]; rfl
@[go_sem] theorem el_106 : elemT Try.prog 106 = some 4 := by rw [elemT, Try.underlying106]
@[go_sem] theorem ze_106 : zeroC Try.prog 106 = some [.emp] := by rw [zeroC, info_106]; rfl
@[go_sem] theorem info_107 : Try.prog.info? 107 = some Try.t107 := info_of Try.types_size (by decide) Try.type107
@[go_sem] theorem tz_107 : Try.t107.size = 1 := rfl
@[go_sem] theorem tb_107 : Try.t107.bytes = 24 := rfl
@[go_sem] theorem sz_107 : szOf Try.prog 107 = some 1 := by rw [szOf, info_107]; rfl
@[go_sem] theorem ag_107 : isAggT Try.prog 107 = some false := by rw [isAggT, Try.underlying107]; rfl
@[go_sem] theorem el_107 : elemT Try.prog 107 = some 109 := by rw [elemT, Try.underlying107]
@[go_sem] theorem ze_107 : zeroC Try.prog 107 = some [.emp] := by rw [zeroC, info_107]; rfl
@[go_sem] theorem info_109 : Try.prog.info? 109 = some Try.t109 := info_of Try.types_size (by decide) Try.type109
@[go_sem] theorem tz_109 : Try.t109.size = 2 := rfl
@[go_sem] theorem tb_109 : Try.t109.bytes = 16 := rfl
@[go_sem] theorem sz_109 : szOf Try.prog 109 = some 2 := by rw [szOf, info_109]; rfl
@[go_sem] theorem ag_109 : isAggT Try.prog 109 = some true := by rw [isAggT, Try.underlying109]; rfl
@[go_sem] theorem ze_109 : zeroC Try.prog 109 = some [(.v (.int .i64 0)), (.v (.int .i64 0))] := by rw [zeroC, info_109]; rfl
@[go_sem] theorem info_115 : Try.prog.info? 115 = some Try.t115 := info_of Try.types_size (by decide) Try.type115
@[go_sem] theorem tz_115 : Try.t115.size = 2 := rfl
@[go_sem] theorem tb_115 : Try.t115.bytes = 48 := rfl
@[go_sem] theorem sz_115 : szOf Try.prog 115 = some 2 := by rw [szOf, info_115]; rfl
@[go_sem] theorem ag_115 : isAggT Try.prog 115 = some true := by rw [isAggT, Try.underlying115]; rfl
@[go_sem] theorem fd_115_0 : fieldT Try.prog 115 0 = some (fld Try.prog 115 0) := by rw [fld, fieldT, Try.underlying115]; rfl
@[go_sem] theorem fo_115_0 : (fld Try.prog 115 0).offset = 0 := by rw [fld, fieldT, Try.underlying115]; rfl
@[go_sem] theorem ft_115_0 : (fld Try.prog 115 0).type = 30 := by rw [fld, fieldT, Try.underlying115]; rfl
@[go_sem] theorem fd_115_1 : fieldT Try.prog 115 1 = some (fld Try.prog 115 1) := by rw [fld, fieldT, Try.underlying115]; rfl
@[go_sem] theorem fo_115_1 : (fld Try.prog 115 1).offset = 1 := by rw [fld, fieldT, Try.underlying115]; rfl
@[go_sem] theorem ft_115_1 : (fld Try.prog 115 1).type = 30 := by rw [fld, fieldT, Try.underlying115]; rfl
@[go_sem] theorem ze_115 : zeroC Try.prog 115 = some [.emp, .emp] := by rw [zeroC, info_115]; rfl
@[go_sem] theorem info_132 : Try.prog.info? 132 = some Try.t132 := info_of Try.types_size (by decide) Try.type132
@[go_sem] theorem tz_132 : Try.t132.size = 1 := rfl
@[go_sem] theorem tb_132 : Try.t132.bytes = 8 := rfl
@[go_sem] theorem sz_132 : szOf Try.prog 132 = some 1 := by rw [szOf, info_132]; rfl
@[go_sem] theorem ag_132 : isAggT Try.prog 132 = some false := by rw [isAggT, Try.underlying132]; rfl
@[go_sem] theorem ze_132 : zeroC Try.prog 132 = some [(.v (.int .u64 0))] := by rw [zeroC, info_132]; rfl
@[go_sem] theorem info_147 : Try.prog.info? 147 = some Try.t147 := info_of Try.types_size (by decide) Try.type147
@[go_sem] theorem tz_147 : Try.t147.size = 2 := rfl
@[go_sem] theorem tb_147 : Try.t147.bytes = 32 := rfl
@[go_sem] theorem sz_147 : szOf Try.prog 147 = some 2 := by rw [szOf, info_147]; rfl
@[go_sem] theorem ag_147 : isAggT Try.prog 147 = some true := by rw [isAggT, Try.underlying147]; rfl
@[go_sem] theorem fd_147_0 : fieldT Try.prog 147 0 = some (fld Try.prog 147 0) := by rw [fld, fieldT, Try.underlying147]; rfl
@[go_sem] theorem fo_147_0 : (fld Try.prog 147 0).offset = 0 := by rw [fld, fieldT, Try.underlying147]; rfl
@[go_sem] theorem ft_147_0 : (fld Try.prog 147 0).type = 22 := by rw [fld, fieldT, Try.underlying147]; rfl
@[go_sem] theorem fd_147_1 : fieldT Try.prog 147 1 = some (fld Try.prog 147 1) := by rw [fld, fieldT, Try.underlying147]; rfl
@[go_sem] theorem fo_147_1 : (fld Try.prog 147 1).offset = 1 := by rw [fld, fieldT, Try.underlying147]; rfl
@[go_sem] theorem ft_147_1 : (fld Try.prog 147 1).type = 3 := by rw [fld, fieldT, Try.underlying147]; rfl
@[go_sem] theorem ze_147 : zeroC Try.prog 147 = some [.emp, (.v (.int .i64 0))] := by rw [zeroC, info_147]; rfl
@[go_sem] theorem info_157 : Try.prog.info? 157 = some Try.t157 := info_of Try.types_size (by decide) Try.type157
@[go_sem] theorem tz_157 : Try.t157.size = 2 := rfl
@[go_sem] theorem tb_157 : Try.t157.bytes = 16 := rfl
@[go_sem] theorem sz_157 : szOf Try.prog 157 = some 2 := by rw [szOf, info_157]; rfl
@[go_sem] theorem ag_157 : isAggT Try.prog 157 = some true := by rw [isAggT, Try.underlying157]; rfl
@[go_sem] theorem fd_157_0 : fieldT Try.prog 157 0 = some { name := "A", type := 3, offset := 0, embedded := false, tag := "", pkgPath := "", byteOffset := 0 } := by rw [fieldT, Try.underlying157]; rfl
@[go_sem] theorem fd_157_1 : fieldT Try.prog 157 1 = some { name := "B", type := 3, offset := 1, embedded := false, tag := "", pkgPath := "", byteOffset := 8 } := by rw [fieldT, Try.underlying157]; rfl
@[go_sem] theorem ze_157 : zeroC Try.prog 157 = some [(.v (.int .i64 0)), (.v (.int .i64 0))] := by rw [zeroC, info_157]; rfl
@[go_sem] theorem fs_157 : flatS Try.prog 157 2 = true := by simp [flatS, Try.underlying157, Try.stoodInHeld157, Try.eqGuardType157, Try.underlying3]
@[go_sem] theorem info_160 : Try.prog.info? 160 = some Try.t160 := info_of Try.types_size (by decide) Try.type160
@[go_sem] theorem tz_160 : Try.t160.size = 1 := rfl
@[go_sem] theorem tb_160 : Try.t160.bytes = 8 := rfl
@[go_sem] theorem sz_160 : szOf Try.prog 160 = some 1 := by rw [szOf, info_160]; rfl
@[go_sem] theorem ag_160 : isAggT Try.prog 160 = some false := by rw [isAggT, Try.underlying160]; rfl
@[go_sem] theorem ze_160 : zeroC Try.prog 160 = some [(.v (.int .i64 0))] := by rw [zeroC, info_160]; rfl
@[go_sem] theorem info_167 : Try.prog.info? 167 = some Try.t167 := info_of Try.types_size (by decide) Try.type167
@[go_sem] theorem tz_167 : Try.t167.size = 1 := rfl
@[go_sem] theorem tb_167 : Try.t167.bytes = 4 := rfl
@[go_sem] theorem sz_167 : szOf Try.prog 167 = some 1 := by rw [szOf, info_167]; rfl
@[go_sem] theorem ag_167 : isAggT Try.prog 167 = some false := by rw [isAggT, Try.underlying167]; rfl
@[go_sem] theorem ze_167 : zeroC Try.prog 167 = some [(.v (.int .u32 0))] := by rw [zeroC, info_167]; rfl
@[go_sem] theorem info_169 : Try.prog.info? 169 = some Try.t169 := info_of Try.types_size (by decide) Try.type169
@[go_sem] theorem tz_169 : Try.t169.size = 1 := rfl
@[go_sem] theorem tb_169 : Try.t169.bytes = 8 := rfl
@[go_sem] theorem sz_169 : szOf Try.prog 169 = some 1 := by rw [szOf, info_169]; rfl
@[go_sem] theorem ag_169 : isAggT Try.prog 169 = some false := by rw [isAggT, Try.underlying169]; rfl
@[go_sem] theorem ze_169 : zeroC Try.prog 169 = some [(.v (.int .u64 0))] := by rw [zeroC, info_169]; rfl
@[go_sem] theorem info_176 : Try.prog.info? 176 = some Try.t176 := info_of Try.types_size (by decide) Try.type176
@[go_sem] theorem tz_176 : Try.t176.size = 1 := rfl
@[go_sem] theorem tb_176 : Try.t176.bytes = 8 := rfl
@[go_sem] theorem sz_176 : szOf Try.prog 176 = some 1 := by rw [szOf, info_176]; rfl
@[go_sem] theorem ag_176 : isAggT Try.prog 176 = some false := by rw [isAggT, Try.underlying176]; rfl
@[go_sem] theorem ze_176 : zeroC Try.prog 176 = some [(.v (.pointer none))] := by rw [zeroC, info_176]; rfl
@[go_sem] theorem info_180 : Try.prog.info? 180 = some Try.t180 := info_of Try.types_size (by decide) Try.type180
@[go_sem] theorem tz_180 : Try.t180.size = 1 := rfl
@[go_sem] theorem tb_180 : Try.t180.bytes = 8 := rfl
@[go_sem] theorem sz_180 : szOf Try.prog 180 = some 1 := by rw [szOf, info_180]; rfl
@[go_sem] theorem ag_180 : isAggT Try.prog 180 = some false := by rw [isAggT, Try.underlying180]; rfl
@[go_sem] theorem ze_180 : zeroC Try.prog 180 = some [(.v (.int .u64 0))] := by rw [zeroC, info_180]; rfl
@[go_sem] theorem info_184 : Try.prog.info? 184 = some Try.t184 := info_of Try.types_size (by decide) Try.type184
@[go_sem] theorem tz_184 : Try.t184.size = 1 := rfl
@[go_sem] theorem tb_184 : Try.t184.bytes = 8 := rfl
@[go_sem] theorem sz_184 : szOf Try.prog 184 = some 1 := by rw [szOf, info_184]; rfl
@[go_sem] theorem ag_184 : isAggT Try.prog 184 = some false := by rw [isAggT, Try.underlying184]; rfl
@[go_sem] theorem ze_184 : zeroC Try.prog 184 = some [(.v (.pointer none))] := by rw [zeroC, info_184]; rfl

/-- How calls are taken. -/
def mutL : List Nat := [58, 59, 65, 93, 103, 121, 122, 124, 125, 136, 137, 141, 145, 147, 148, 149, 158, 167, 170, 194, 207, 208, 231]
def ownL : List (Nat × Nat) := [(12, 32), (12, 37), (12, 86), (22, 19), (32, 4), (37, 4), (45, 29), (47, 21), (54, 9), (61, 5), (63, 7), (75, 6), (77, 24), (82, 10), (100, 9), (106, 13), (108, 10), (116, 16), (124, 8), (126, 9), (164, 15), (164, 19)]
end Go.Proofs.Ytbaholclcfpknaa.X
