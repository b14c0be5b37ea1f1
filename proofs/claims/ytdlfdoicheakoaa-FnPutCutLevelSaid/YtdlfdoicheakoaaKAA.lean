/- What functions answer, and the plain laws behind it. -/
import Derived.Test.YtdlfdoicheakoaaEval
import Derived.Test.YtdlfdoicheakoaaProg
import Derived.Lib.Atoi
import Derived.Lib.Bytealg
/- Facts of one program's tables. -/
namespace Go.Proofs.Ytdlfdoicheakoaa.X
open Go Go.Proofs
set_option maxRecDepth 100000
attribute [go_sem] Try.underlying0 Try.underlying1 Try.underlying2 Try.underlying3 Try.underlying4 Try.underlying5 Try.underlying6 Try.underlying7 Try.underlying8 Try.underlying9 Try.underlying10 Try.underlying11 Try.underlying12 Try.underlying13 Try.underlying14 Try.underlying15 Try.underlying16 Try.underlying17 Try.underlying18 Try.underlying19 Try.underlying20 Try.underlying21 Try.underlying22 Try.underlying23 Try.underlying24 Try.underlying25 Try.underlying26 Try.underlying27 Try.underlying28 Try.underlying29 Try.underlying30 Try.underlying31 Try.underlying32 Try.underlying33 Try.underlying34 Try.underlying35 Try.underlying36 Try.underlying37 Try.underlying38 Try.underlying39 Try.underlying40 Try.underlying41 Try.underlying42 Try.underlying43 Try.underlying44 Try.underlying45 Try.underlying46 Try.underlying47 Try.underlying48 Try.underlying49 Try.underlying50 Try.underlying51 Try.underlying52 Try.underlying53 Try.underlying54 Try.underlying55 Try.underlying56 Try.underlying57 Try.underlying58 Try.underlying59 Try.underlying60 Try.underlying61 Try.underlying62 Try.underlying63 Try.underlying64 Try.underlying65 Try.underlying66 Try.underlying67 Try.underlying68 Try.underlying69 Try.underlying70 Try.underlying71 Try.underlying72 Try.underlying73 Try.underlying74 Try.underlying75 Try.underlying76 Try.underlying77 Try.underlying78 Try.underlying79 Try.underlying80 Try.underlying81 Try.underlying82 Try.underlying83 Try.underlying84 Try.underlying85 Try.underlying86 Try.underlying87 Try.underlying88 Try.underlying89 Try.underlying90 Try.underlying91 Try.underlying92 Try.underlying93 Try.underlying94 Try.underlying95 Try.underlying96 Try.underlying97 Try.underlying98 Try.underlying99 Try.underlying100 Try.underlying101 Try.underlying102 Try.underlying103 Try.underlying104 Try.underlying105 Try.underlying106 Try.underlying107 Try.underlying108 Try.underlying109 Try.underlying110 Try.underlying111 Try.underlying112 Try.underlying113 Try.underlying114 Try.underlying115 Try.underlying116 Try.underlying117 Try.underlying118 Try.underlying119 Try.underlying120 Try.underlying121 Try.underlying122 Try.underlying123 Try.underlying124 Try.underlying125 Try.underlying126 Try.underlying127 Try.underlying128 Try.underlying129 Try.underlying130 Try.underlying131 Try.underlying132 Try.underlying133 Try.underlying134 Try.underlying135 Try.underlying136 Try.underlying137 Try.underlying138 Try.underlying139 Try.underlying140 Try.underlying141 Try.underlying142 Try.underlying143 Try.underlying144 Try.underlying145 Try.underlying146 Try.underlying147 Try.underlying148 Try.underlying149 Try.underlying150 Try.underlying151 Try.underlying152 Try.underlying153 Try.underlying154 Try.underlying155 Try.underlying156 Try.underlying157 Try.underlying158 Try.underlying159 Try.underlying160 Try.underlying161 Try.underlying162 Try.underlying163 Try.underlying164 Try.underlying165 Try.underlying166 Try.underlying167 Try.underlying168 Try.underlying169 Try.underlying170 Try.underlying171 Try.underlying172 Try.underlying173 Try.underlying174 Try.underlying175 Try.underlying176 Try.underlying177 Try.underlying178 Try.underlying179 Try.underlying180 Try.underlying181 Try.underlying182 Try.underlying183 Try.underlying184 Try.underlying185 Try.underlying186 Try.underlying187 Try.underlying188 Try.underlying189 Try.underlying190 Try.underlying191 Try.underlying192
theorem info_of {P : Program} {t n : Nat} {i : TypeInfo} (h : P.types.size = n) (hl : t < n) (hi : P.types[t]? = some i) : P.info? t = some i := by
  unfold Tables.info?
  rw [if_pos (by rw [h]; exact hl)]
  exact hi
def zB (n : Nat) : List IV := List.replicate n (.v (.bool false))
def fld (P : Program) (t i : Nat) : Field := (fieldT P t i).getD ⟨ "", 0, 0, false, "", "", 0⟩
@[go_sem] theorem info_3 : Try.prog.info? 3 = some Try.t3 := info_of Try.types_size (by decide) Try.type3
@[go_sem] theorem tz_3 : Try.t3.size = 1 := rfl
@[go_sem] theorem tb_3 : Try.t3.bytes = 8 := rfl
@[go_sem] theorem sz_3 : szOf Try.prog 3 = some 1 := by rw [szOf, info_3]; rfl
@[go_sem] theorem ag_3 : isAggT Try.prog 3 = some false := by rw [isAggT, Try.underlying3]; rfl
@[go_sem] theorem ze_3 : zeroC Try.prog 3 = some [(.v (.int .i64 0))] := by rw [zeroC, info_3]; rfl
@[go_sem] theorem info_4 : Try.prog.info? 4 = some Try.t4 := info_of Try.types_size (by decide) Try.type4
@[go_sem] theorem tz_4 : Try.t4.size = 1 := rfl
@[go_sem] theorem tb_4 : Try.t4.bytes = 1 := rfl
@[go_sem] theorem sz_4 : szOf Try.prog 4 = some 1 := by rw [szOf, info_4]; rfl
@[go_sem] theorem ag_4 : isAggT Try.prog 4 = some false := by rw [isAggT, Try.underlying4]; rfl
@[go_sem] theorem ze_4 : zeroC Try.prog 4 = some [(.v (.bool false))] := by rw [zeroC, info_4]; rfl
@[go_sem] theorem info_5 : Try.prog.info? 5 = some Try.t5 := info_of Try.types_size (by decide) Try.type5
@[go_sem] theorem tz_5 : Try.t5.size = 1 := rfl
@[go_sem] theorem tb_5 : Try.t5.bytes = 1 := rfl
@[go_sem] theorem sz_5 : szOf Try.prog 5 = some 1 := by rw [szOf, info_5]; rfl
@[go_sem] theorem ag_5 : isAggT Try.prog 5 = some false := by rw [isAggT, Try.underlying5]; rfl
@[go_sem] theorem ze_5 : zeroC Try.prog 5 = some [(.v (.int .u8 0))] := by rw [zeroC, info_5]; rfl
@[go_sem] theorem info_9 : Try.prog.info? 9 = some Try.t9 := info_of Try.types_size (by decide) Try.type9
@[go_sem] theorem tz_9 : Try.t9.size = 1 := rfl
@[go_sem] theorem tb_9 : Try.t9.bytes = 16 := rfl
@[go_sem] theorem sz_9 : szOf Try.prog 9 = some 1 := by rw [szOf, info_9]; rfl
@[go_sem] theorem ag_9 : isAggT Try.prog 9 = some false := by rw [isAggT, Try.underlying9]; rfl
@[go_sem] theorem ze_9 : zeroC Try.prog 9 = some [(.v (.string ⟨#[]⟩))] := by rw [zeroC, info_9]; rfl
@[go_sem] theorem info_22 : Try.prog.info? 22 = some Try.t22 := info_of Try.types_size (by decide) Try.type22
@[go_sem] theorem tz_22 : Try.t22.size = 1 := rfl
@[go_sem] theorem tb_22 : Try.t22.bytes = 24 := rfl
@[go_sem] theorem sz_22 : szOf Try.prog 22 = some 1 := by rw [szOf, info_22]; rfl
@[go_sem] theorem ag_22 : isAggT Try.prog 22 = some false := by rw [isAggT, Try.underlying22]; rfl
@[go_sem] theorem el_22 : elemT Try.prog 22 = some 5 := by rw [elemT, Try.underlying22]
@[go_sem] theorem ze_22 : zeroC Try.prog 22 = some [.emp] := by rw [zeroC, info_22]; rfl
@[go_sem] theorem info_23 : Try.prog.info? 23 = some Try.t23 := info_of Try.types_size (by decide) Try.type23
@[go_sem] theorem tz_23 : Try.t23.size = 1 := rfl
@[go_sem] theorem tb_23 : Try.t23.bytes = 24 := rfl
@[go_sem] theorem sz_23 : szOf Try.prog 23 = some 1 := by rw [szOf, info_23]; rfl
@[go_sem] theorem ag_23 : isAggT Try.prog 23 = some false := by rw [isAggT, Try.underlying23]; rfl
@[go_sem] theorem el_23 : elemT Try.prog 23 = some 31 := by rw [elemT, Try.underlying23]
@[go_sem] theorem ze_23 : zeroC Try.prog 23 = some [.emp] := by rw [zeroC, info_23]; rfl
@[go_sem] theorem info_25 : Try.prog.info? 25 = some Try.t25 := info_of Try.types_size (by decide) Try.type25
@[go_sem] theorem tz_25 : Try.t25.size = 2 := rfl
@[go_sem] theorem tb_25 : Try.t25.bytes = 32 := rfl
@[go_sem] theorem sz_25 : szOf Try.prog 25 = some 2 := by rw [szOf, info_25]; rfl
@[go_sem] theorem ag_25 : isAggT Try.prog 25 = some true := by rw [isAggT, Try.underlying25]; rfl
@[go_sem] theorem fd_25_0 : fieldT Try.prog 25 0 = some { name := "Nodes", type := 3, offset := 0, embedded := false, tag := "", pkgPath := "", byteOffset := 0 } := by rw [fieldT, Try.underlying25]; rfl
@[go_sem] theorem fd_25_1 : fieldT Try.prog 25 1 = some { name := "Edges", type := 23, offset := 1, embedded := false, tag := "", pkgPath := "", byteOffset := 8 } := by rw [fieldT, Try.underlying25]; rfl
@[go_sem] theorem ze_25 : zeroC Try.prog 25 = some [(.v (.int .i64 0)), .emp] := by rw [zeroC, info_25]; rfl
@[go_sem] theorem info_26 : Try.prog.info? 26 = some Try.t26 := info_of Try.types_size (by decide) Try.type26
@[go_sem] theorem tz_26 : Try.t26.size = 1 := rfl
@[go_sem] theorem tb_26 : Try.t26.bytes = 24 := rfl
@[go_sem] theorem sz_26 : szOf Try.prog 26 = some 1 := by rw [szOf, info_26]; rfl
@[go_sem] theorem ag_26 : isAggT Try.prog 26 = some false := by rw [isAggT, Try.underlying26]; rfl
@[go_sem] theorem el_26 : elemT Try.prog 26 = some 3 := by rw [elemT, Try.underlying26]
@[go_sem] theorem ze_26 : zeroC Try.prog 26 = some [.emp] := by rw [zeroC, info_26]; rfl
@[go_sem] theorem info_27 : Try.prog.info? 27 = some Try.t27 := info_of Try.types_size (by decide) Try.type27
@[go_sem] theorem tz_27 : Try.t27.size = 1 := rfl
@[go_sem] theorem tb_27 : Try.t27.bytes = 24 := rfl
@[go_sem] theorem sz_27 : szOf Try.prog 27 = some 1 := by rw [szOf, info_27]; rfl
@[go_sem] theorem ag_27 : isAggT Try.prog 27 = some false := by rw [isAggT, Try.underlying27]; rfl
@[go_sem] theorem el_27 : elemT Try.prog 27 = some 4 := by rw [elemT, Try.underlying27]
@[go_sem] theorem ze_27 : zeroC Try.prog 27 = some [.emp] := by rw [zeroC, info_27]; rfl
@[go_sem] theorem info_29 : Try.prog.info? 29 = some Try.t29 := info_of Try.types_size (by decide) Try.type29
@[go_sem] theorem tz_29 : Try.t29.size = 4 := rfl
@[go_sem] theorem tb_29 : Try.t29.bytes = 80 := rfl
@[go_sem] theorem sz_29 : szOf Try.prog 29 = some 4 := by rw [szOf, info_29]; rfl
@[go_sem] theorem ag_29 : isAggT Try.prog 29 = some true := by rw [isAggT, Try.underlying29]; rfl
@[go_sem] theorem fd_29_0 : fieldT Try.prog 29 0 = some { name := "Graph", type := 25, offset := 0, embedded := false, tag := "", pkgPath := "", byteOffset := 0 } := by rw [fieldT, Try.underlying29]; rfl
@[go_sem] theorem fd_29_1 : fieldT Try.prog 29 1 = some { name := "Levels", type := 26, offset := 2, embedded := false, tag := "", pkgPath := "", byteOffset := 32 } := by rw [fieldT, Try.underlying29]; rfl
@[go_sem] theorem fd_29_2 : fieldT Try.prog 29 2 = some { name := "Tree", type := 27, offset := 3, embedded := false, tag := "", pkgPath := "", byteOffset := 56 } := by rw [fieldT, Try.underlying29]; rfl
@[go_sem] theorem ze_29 : zeroC Try.prog 29 = some [(.v (.int .i64 0)), .emp, .emp, .emp] := by rw [zeroC, info_29]; rfl
@[go_sem] theorem info_31 : Try.prog.info? 31 = some Try.t31 := info_of Try.types_size (by decide) Try.type31
@[go_sem] theorem tz_31 : Try.t31.size = 2 := rfl
@[go_sem] theorem tb_31 : Try.t31.bytes = 16 := rfl
@[go_sem] theorem sz_31 : szOf Try.prog 31 = some 2 := by rw [szOf, info_31]; rfl
@[go_sem] theorem ag_31 : isAggT Try.prog 31 = some true := by rw [isAggT, Try.underlying31]; rfl
@[go_sem] theorem fd_31_0 : fieldT Try.prog 31 0 = some { name := "A", type := 3, offset := 0, embedded := false, tag := "", pkgPath := "", byteOffset := 0 } := by rw [fieldT, Try.underlying31]; rfl
@[go_sem] theorem fd_31_1 : fieldT Try.prog 31 1 = some { name := "B", type := 3, offset := 1, embedded := false, tag := "", pkgPath := "", byteOffset := 8 } := by rw [fieldT, Try.underlying31]; rfl
@[go_sem] theorem ze_31 : zeroC Try.prog 31 = some [(.v (.int .i64 0)), (.v (.int .i64 0))] := by rw [zeroC, info_31]; rfl
@[go_sem] theorem fs_31 : flatS Try.prog 31 2 = true := by simp [flatS, Try.underlying31, Try.stoodInHeld31, Try.eqGuardType31, Try.underlying3]
@[go_sem] theorem info_43 : Try.prog.info? 43 = some Try.t43 := info_of Try.types_size (by decide) Try.type43
@[go_sem] theorem tz_43 : Try.t43.size = 1 := rfl
@[go_sem] theorem tb_43 : Try.t43.bytes = 24 := rfl
@[go_sem] theorem sz_43 : szOf Try.prog 43 = some 1 := by rw [szOf, info_43]; rfl
@[go_sem] theorem ag_43 : isAggT Try.prog 43 = some false := by rw [isAggT, Try.underlying43]; rfl
@[go_sem] theorem el_43 : elemT Try.prog 43 = some 127 := by rw [elemT, Try.underlying43]
@[go_sem] theorem ze_43 : zeroC Try.prog 43 = some [.emp] := by rw [zeroC, info_43]; rfl
@[go_sem] theorem info_45 : Try.prog.info? 45 = some Try.t45 := info_of Try.types_size (by decide) Try.type45
@[go_sem] theorem tz_45 : Try.t45.size = 2 := rfl
@[go_sem] theorem tb_45 : Try.t45.bytes = 32 := rfl
@[go_sem] theorem sz_45 : szOf Try.prog 45 = some 2 := by rw [szOf, info_45]; rfl
@[go_sem] theorem ag_45 : isAggT Try.prog 45 = some true := by rw [isAggT, Try.underlying45]; rfl
@[go_sem] theorem fd_45_0 : fieldT Try.prog 45 0 = some { name := "Nodes", type := 3, offset := 0, embedded := false, tag := "", pkgPath := "", byteOffset := 0 } := by rw [fieldT, Try.underlying45]; rfl
@[go_sem] theorem fd_45_1 : fieldT Try.prog 45 1 = some { name := "Edges", type := 43, offset := 1, embedded := false, tag := "", pkgPath := "", byteOffset := 8 } := by rw [fieldT, Try.underlying45]; rfl
@[go_sem] theorem ze_45 : zeroC Try.prog 45 = some [(.v (.int .i64 0)), .emp] := by rw [zeroC, info_45]; rfl
@[go_sem] theorem info_47 : Try.prog.info? 47 = some Try.t47 := info_of Try.types_size (by decide) Try.type47
@[go_sem] theorem tz_47 : Try.t47.size = 1 := rfl
@[go_sem] theorem tb_47 : Try.t47.bytes = 24 := rfl
@[go_sem] theorem sz_47 : szOf Try.prog 47 = some 1 := by rw [szOf, info_47]; rfl
@[go_sem] theorem ag_47 : isAggT Try.prog 47 = some false := by rw [isAggT, Try.underlying47]; rfl
@[go_sem] theorem el_47 : elemT Try.prog 47 = some 26 := by rw [elemT, Try.underlying47]
@[go_sem] theorem ze_47 : zeroC Try.prog 47 = some [.emp] := by rw [zeroC, info_47]; rfl
@[go_sem] theorem info_56 : Try.prog.info? 56 = some Try.t56 := info_of Try.types_size (by decide) Try.type56
@[go_sem] theorem tz_56 : Try.t56.size = 1 := rfl
@[go_sem] theorem tb_56 : Try.t56.bytes = 8 := rfl
@[go_sem] theorem sz_56 : szOf Try.prog 56 = some 1 := by rw [szOf, info_56]; rfl
@[go_sem] theorem ag_56 : isAggT Try.prog 56 = some false := by rw [isAggT, Try.underlying56]; rfl
@[go_sem] theorem ze_56 : zeroC Try.prog 56 = some [(.v (.pointer none))] := by rw [zeroC, info_56]; rfl
@[go_sem] theorem info_67 : Try.prog.info? 67 = some Try.t67 := info_of Try.types_size (by decide) Try.type67
@[go_sem] theorem tz_67 : Try.t67.size = 1 := rfl
@[go_sem] theorem tb_67 : Try.t67.bytes = 8 := rfl
@[go_sem] theorem sz_67 : szOf Try.prog 67 = some 1 := by rw [szOf, info_67]; rfl
@[go_sem] theorem ag_67 : isAggT Try.prog 67 = some false := by rw [isAggT, Try.underlying67]; rfl
@[go_sem] theorem info_71 : Try.prog.info? 71 = some Try.t71 := info_of Try.types_size (by decide) Try.type71
@[go_sem] theorem tz_71 : Try.t71.size = 1 := rfl
@[go_sem] theorem tb_71 : Try.t71.bytes = 8 := rfl
@[go_sem] theorem sz_71 : szOf Try.prog 71 = some 1 := by rw [szOf, info_71]; rfl
@[go_sem] theorem ag_71 : isAggT Try.prog 71 = some false := by rw [isAggT, Try.underlying71]; rfl
@[go_sem] theorem info_77 : Try.prog.info? 77 = some Try.t77 := info_of Try.types_size (by decide) Try.type77
@[go_sem] theorem tz_77 : Try.t77.size = 1 := rfl
@[go_sem] theorem tb_77 : Try.t77.bytes = 8 := rfl
@[go_sem] theorem sz_77 : szOf Try.prog 77 = some 1 := by rw [szOf, info_77]; rfl
@[go_sem] theorem ag_77 : isAggT Try.prog 77 = some false := by rw [isAggT, Try.underlying77]; rfl
@[go_sem] theorem info_86 : Try.prog.info? 86 = some Try.t86 := info_of Try.types_size (by decide) Try.type86
@[go_sem] theorem tz_86 : Try.t86.size = 2 := rfl
@[go_sem] theorem tb_86 : Try.t86.bytes = 48 := rfl
@[go_sem] theorem sz_86 : szOf Try.prog 86 = some 2 := by rw [szOf, info_86]; rfl
@[go_sem] theorem ag_86 : isAggT Try.prog 86 = some true := by rw [isAggT, Try.underlying86]; rfl
@[go_sem] theorem fd_86_0 : fieldT Try.prog 86 0 = some (fld Try.prog 86 0) := by rw [fld, fieldT, Try.underlying86]; rfl
@[go_sem] theorem fo_86_0 : (fld Try.prog 86 0).offset = 0 := by rw [fld, fieldT, Try.underlying86]; rfl
@[go_sem] theorem ft_86_0 : (fld Try.prog 86 0).type = 26 := by rw [fld, fieldT, Try.underlying86]; rfl
@[go_sem] theorem fd_86_1 : fieldT Try.prog 86 1 = some (fld Try.prog 86 1) := by rw [fld, fieldT, Try.underlying86]; rfl
@[go_sem] theorem fo_86_1 : (fld Try.prog 86 1).offset = 1 := by rw [fld, fieldT, Try.underlying86]; rfl
@[go_sem] theorem ft_86_1 : (fld Try.prog 86 1).type = 26 := by rw [fld, fieldT, Try.underlying86]; rfl
@[go_sem] theorem ze_86 : zeroC Try.prog 86 = some [.emp, .emp] := by rw [zeroC, info_86]; rfl
@[go_sem] theorem info_92 : Try.prog.info? 92 = some Try.t92 := info_of Try.types_size (by decide) Try.type92
@[go_sem] theorem tz_92 : Try.t92.size = 16 := rfl
@[go_sem] theorem tb_92 : Try.t92.bytes = 16 := rfl
@[go_sem] theorem sz_92 : szOf Try.prog 92 = some 16 := by rw [szOf, info_92]; rfl
@[go_sem] theorem ag_92 : isAggT Try.prog 92 = some true := by rw [isAggT, Try.underlying92]; rfl
@[go_sem] theorem ze_92 : zeroC Try.prog 92 = some (zB 16) := by rw [zeroC, info_92]; rfl
@[go_sem] theorem info_94 : Try.prog.info? 94 = some Try.t94 := info_of Try.types_size (by decide) Try.type94
@[go_sem] theorem tz_94 : Try.t94.size = 256 := rfl
@[go_sem] theorem tb_94 : Try.t94.bytes = 256 := rfl
@[go_sem] theorem sz_94 : szOf Try.prog 94 = some 256 := by rw [szOf, info_94]; rfl
@[go_sem] theorem ag_94 : isAggT Try.prog 94 = some true := by rw [isAggT, Try.underlying94]; rfl
@[go_sem] theorem ze_94 : zeroC Try.prog 94 = some (zB 256) := by rw [zeroC, info_94]; rfl
@[go_sem] theorem info_107 : Try.prog.info? 107 = some Try.t107 := info_of Try.types_size (by decide) Try.type107
@[go_sem] theorem tz_107 : Try.t107.size = 2 := rfl
@[go_sem] theorem tb_107 : Try.t107.bytes = 32 := rfl
@[go_sem] theorem sz_107 : szOf Try.prog 107 = some 2 := by rw [szOf, info_107]; rfl
@[go_sem] theorem ag_107 : isAggT Try.prog 107 = some true := by rw [isAggT, Try.underlying107]; rfl
@[go_sem] theorem fd_107_0 : fieldT Try.prog 107 0 = some (fld Try.prog 107 0) := by rw [fld, fieldT, Try.underlying107]; rfl
@[go_sem] theorem fo_107_0 : (fld Try.prog 107 0).offset = 0 := by rw [fld, fieldT, Try.underlying107]; rfl
@[go_sem] theorem ft_107_0 : (fld Try.prog 107 0).type = 22 := by rw [fld, fieldT, Try.underlying107]; rfl
@[go_sem] theorem fd_107_1 : fieldT Try.prog 107 1 = some (fld Try.prog 107 1) := by rw [fld, fieldT, Try.underlying107]; rfl
@[go_sem] theorem fo_107_1 : (fld Try.prog 107 1).offset = 1 := by rw [fld, fieldT, Try.underlying107]; rfl
@[go_sem] theorem ft_107_1 : (fld Try.prog 107 1).type = 3 := by rw [fld, fieldT, Try.underlying107]; rfl
@[go_sem] theorem ze_107 : zeroC Try.prog 107 = some [.emp, (.v (.int .i64 0))] := by rw [zeroC, info_107]; rfl
@[go_sem] theorem info_109 : Try.prog.info? 109 = some Try.t109 := info_of Try.types_size (by decide) Try.type109
@[go_sem] theorem tz_109 : Try.t109.size = 1 := rfl
@[go_sem] theorem tb_109 : Try.t109.bytes = 8 := rfl
@[go_sem] theorem sz_109 : szOf Try.prog 109 = some 1 := by rw [szOf, info_109]; rfl
@[go_sem] theorem ag_109 : isAggT Try.prog 109 = some false := by rw [isAggT, Try.underlying109]; rfl
@[go_sem] theorem info_122 : Try.prog.info? 122 = some Try.t122 := info_of Try.types_size (by decide) Try.type122
@[go_sem] theorem tz_122 : Try.t122.size = 1 := rfl
@[go_sem] theorem tb_122 : Try.t122.bytes = 8 := rfl
@[go_sem] theorem sz_122 : szOf Try.prog 122 = some 1 := by rw [szOf, info_122]; rfl
@[go_sem] theorem ag_122 : isAggT Try.prog 122 = some false := by rw [isAggT, Try.underlying122]; rfl
@[go_sem] theorem ze_122 : zeroC Try.prog 122 = some [(.v (.pointer none))] := by rw [zeroC, info_122]; rfl
@[go_sem] theorem info_127 : Try.prog.info? 127 = some Try.t127 := info_of Try.types_size (by decide) Try.type127
@[go_sem] theorem tz_127 : Try.t127.size = 2 := rfl
@[go_sem] theorem tb_127 : Try.t127.bytes = 16 := rfl
@[go_sem] theorem sz_127 : szOf Try.prog 127 = some 2 := by rw [szOf, info_127]; rfl
@[go_sem] theorem ag_127 : isAggT Try.prog 127 = some true := by rw [isAggT, Try.underlying127]; rfl
@[go_sem] theorem fd_127_0 : fieldT Try.prog 127 0 = some { name := "A", type := 3, offset := 0, embedded := false, tag := "", pkgPath := "", byteOffset := 0 } := by rw [fieldT, Try.underlying127]; rfl
@[go_sem] theorem fd_127_1 : fieldT Try.prog 127 1 = some { name := "B", type := 3, offset := 1, embedded := false, tag := "", pkgPath := "", byteOffset := 8 } := by rw [fieldT, Try.underlying127]; rfl
@[go_sem] theorem ze_127 : zeroC Try.prog 127 = some [(.v (.int .i64 0)), (.v (.int .i64 0))] := by rw [zeroC, info_127]; rfl
@[go_sem] theorem fs_127 : flatS Try.prog 127 2 = true := by simp [flatS, Try.underlying127, Try.stoodInHeld127, Try.eqGuardType127, Try.underlying3]
@[go_sem] theorem info_135 : Try.prog.info? 135 = some Try.t135 := info_of Try.types_size (by decide) Try.type135
@[go_sem] theorem tz_135 : Try.t135.size = 1 := rfl
@[go_sem] theorem tb_135 : Try.t135.bytes = 8 := rfl
@[go_sem] theorem sz_135 : szOf Try.prog 135 = some 1 := by rw [szOf, info_135]; rfl
@[go_sem] theorem ag_135 : isAggT Try.prog 135 = some false := by rw [isAggT, Try.underlying135]; rfl
@[go_sem] theorem ze_135 : zeroC Try.prog 135 = some [(.v (.int .u64 0))] := by rw [zeroC, info_135]; rfl
@[go_sem] theorem info_148 : Try.prog.info? 148 = some Try.t148 := info_of Try.types_size (by decide) Try.type148
@[go_sem] theorem tz_148 : Try.t148.size = 1 := rfl
@[go_sem] theorem tb_148 : Try.t148.bytes = 4 := rfl
@[go_sem] theorem sz_148 : szOf Try.prog 148 = some 1 := by rw [szOf, info_148]; rfl
@[go_sem] theorem ag_148 : isAggT Try.prog 148 = some false := by rw [isAggT, Try.underlying148]; rfl
@[go_sem] theorem ze_148 : zeroC Try.prog 148 = some [(.v (.int .u32 0))] := by rw [zeroC, info_148]; rfl
@[go_sem] theorem info_151 : Try.prog.info? 151 = some Try.t151 := info_of Try.types_size (by decide) Try.type151
@[go_sem] theorem tz_151 : Try.t151.size = 1 := rfl
@[go_sem] theorem tb_151 : Try.t151.bytes = 8 := rfl
@[go_sem] theorem sz_151 : szOf Try.prog 151 = some 1 := by rw [szOf, info_151]; rfl
@[go_sem] theorem ag_151 : isAggT Try.prog 151 = some false := by rw [isAggT, Try.underlying151]; rfl
@[go_sem] theorem ze_151 : zeroC Try.prog 151 = some [(.v (.int .u64 0))] := by rw [zeroC, info_151]; rfl
@[go_sem] theorem info_159 : Try.prog.info? 159 = some Try.t159 := info_of Try.types_size (by decide) Try.type159
@[go_sem] theorem tz_159 : Try.t159.size = 1 := rfl
@[go_sem] theorem tb_159 : Try.t159.bytes = 8 := rfl
@[go_sem] theorem sz_159 : szOf Try.prog 159 = some 1 := by rw [szOf, info_159]; rfl
@[go_sem] theorem ag_159 : isAggT Try.prog 159 = some false := by rw [isAggT, Try.underlying159]; rfl
@[go_sem] theorem ze_159 : zeroC Try.prog 159 = some [(.v (.int .i64 0))] := by rw [zeroC, info_159]; rfl
@[go_sem] theorem info_167 : Try.prog.info? 167 = some Try.t167 := info_of Try.types_size (by decide) Try.type167
@[go_sem] theorem tz_167 : Try.t167.size = 1 := rfl
@[go_sem] theorem tb_167 : Try.t167.bytes = 8 := rfl
@[go_sem] theorem sz_167 : szOf Try.prog 167 = some 1 := by rw [szOf, info_167]; rfl
@[go_sem] theorem ag_167 : isAggT Try.prog 167 = some false := by rw [isAggT, Try.underlying167]; rfl
@[go_sem] theorem ze_167 : zeroC Try.prog 167 = some [(.v (.int .u64 0))] := by rw [zeroC, info_167]; rfl
@[go_sem] theorem info_171 : Try.prog.info? 171 = some Try.t171 := info_of Try.types_size (by decide) Try.type171
@[go_sem] theorem tz_171 : Try.t171.size = 1 := rfl
@[go_sem] theorem tb_171 : Try.t171.bytes = 8 := rfl
@[go_sem] theorem sz_171 : szOf Try.prog 171 = some 1 := by rw [szOf, info_171]; rfl
@[go_sem] theorem ag_171 : isAggT Try.prog 171 = some false := by rw [isAggT, Try.underlying171]; rfl
@[go_sem] theorem ze_171 : zeroC Try.prog 171 = some [(.v (.pointer none))] := by rw [zeroC, info_171]; rfl
/-- How calls are taken. -/
def mutL : List Nat := [19, 20, 24, 28, 30, 40, 41, 42, 66, 67, 70, 72, 75, 103, 115, 118, 124, 132, 146, 165, 166]
def ownL : List (Nat × Nat) := [(4, 32), (4, 37), (4, 86), (5, 11), (6, 30), (6, 36), (7, 33), (9, 36), (9, 43), (15, 9), (22, 15), (22, 18), (22, 45), (22, 75), (26, 29), (35, 17), (61, 16), (69, 38), (71, 30), (71, 54), (91, 9), (97, 15), (97, 19), (106, 25), (120, 5)]
end Go.Proofs.Ytdlfdoicheakoaa.X

/- Functions of Go's library that are taken as a whole: definitions alone. -/
namespace Go.Proofs.Ytdlfdoicheakoaa.X
open Go
def keyOf : List IV → Int
  | [.v (.int _ n)] => n
  | _ => 0
def sortE (xs : List (List IV)) : List (List IV) := xs.mergeSort fun a b => decide (keyOf a ≤ keyOf b)
def isI64 : List IV → Bool
  | [.v (.int .i64 _)] => true
  | _ => false
/-- Of an empty slice the clone is empty: whether it is nil is not told. -/
def cloneP : List PV → List Arr → Option (PV × List Arr × List Arr)
  | [.i (.lst [])], [] => some (.i .emp, [], [])
  | [.i .emp], [] => some (.i .emp, [], [])
  | _, _ => none
def sortP : List PV → List Arr → Option (PV × List Arr × List Arr)
  | [.ref 1000 0 0 n], [.arr 0 1 xs] => if n = xs.length ∧ n ≤ 4000000 ∧ xs.all isI64 = true then some (.tup [], [.arr 0 1 (sortE xs)], []) else none
  | [.i .emp], [] => some (.tup [], [], [])
  | _, _ => none
def mulP : List PV → List Arr → Option (PV × List Arr × List Arr)
  | [.i (.v (.int .u64 a)), .i (.v (.int .u64 b))], [] =>
    if 0 ≤ a ∧ a < 18446744073709551616 ∧ 0 ≤ b ∧ b < 18446744073709551616 then some (.tup [.i (.v (.int .u64 (a * b / 18446744073709551616))), .i (.v (.int .u64 (a * b % 18446744073709551616)))], [], []) else none
  | _, _ => none
/-- An element goes in, not at the end. -/
def insP (k : Nat) : List PV → List Arr → Option (PV × List Arr × List Arr)
  | [.ref 1000 0 0 n, .i (.v (.int .i64 i)), .ref 1001 0 0 1], [.arr 0 k1 xs, .arr 0 k2 [x]] =>
    if (k1 = k ∧ k2 = k ∧ n = xs.length ∧ 0 ≤ i ∧ i < n ∧ n ≤ 1000000) ∧ x.length = k then some (.ref 1000 1 0 (n + 1), [.arr 1 k (xs.take i.toNat ++ x :: xs.drop i.toNat), .arr 0 k [x]], []) else none
  | _, _ => none
def keyE : List IV → Int × Int
  | [.v (.int _ a), .v (.int _ b)] => (a, b)
  | _ => (0, 0)
def isEd : List IV → Bool
  | [.v (.int .i64 _), .v (.int .i64 _)] => true
  | _ => false
/-- The first pair is not behind the second one. -/
def leE (a b : Int × Int) : Bool := decide (a.1 < b.1 ∨ (a.1 = b.1 ∧ a.2 ≤ b.2))
def sortF (xs : List (List IV)) : List (List IV) := xs.mergeSort fun a b => leE (keyE a) (keyE b)
def sortFP (c : FuncId) : List PV → List Arr → Option (PV × List Arr × List Arr)
  | [.ref 1000 0 0 n, .fn f [] []], [.arr 0 2 xs] => if f = c ∧ n = xs.length ∧ n ≤ 4000000 ∧ xs.all isEd = true then some (.tup [], [.arr 0 2 (sortF xs)], []) else none
  | [.i .emp, .fn f [] []], [] => if f = c then some (.tup [], [], []) else none
  | _, _ => none
/-- A string of bytes. -/
abbrev S (l : List UInt8) : PV := .i (.v (.string ⟨l.toArray⟩))
/-- A number below a hundred, in digits. -/
def dec2 (n : Nat) : List UInt8 := if n < 10 then [UInt8.ofNat (48 + n)] else [UInt8.ofNat (48 + n / 10), UInt8.ofNat (48 + n % 10)]
def itoaP : List PV → List Arr → Option (PV × List Arr × List Arr)
  | [.i (.v (.int .i64 n))], [] => if 0 ≤ n ∧ n < 100 then some (S (dec2 n.toNat), [], []) else none
  | _, _ => none
def atoiP : List PV → List Arr → Option (PV × List Arr × List Arr)
  | [.i (.v (.string s))], [] => if s.size ≤ 18 then (Lib.atoi s.data.toList).map fun n => (.tup [I n, .i (.v .nilIface)], [], []) else none
  | _, _ => none
/-- The place of a byte; how often a byte is there. -/
def idxP : List PV → List Arr → Option (PV × List Arr × List Arr)
  | [.i (.v (.string s)), .i (.v (.int .u8 c))], [] => some (I (Lib.indexByte s.data.toList c.toNat.toUInt8), [], [])
  | _, _ => none
def cntP : List PV → List Arr → Option (PV × List Arr × List Arr)
  | [.i (.v (.string s)), .i (.v (.string ⟨⟨[c]⟩⟩))], [] => some (I (Lib.countByte s.data.toList c), [], [])
  | _, _ => none
end Go.Proofs.Ytdlfdoicheakoaa.X
