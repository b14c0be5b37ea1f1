/- Facts of one program's tables. -/
import Derived.Test.YtlahjdgcgfgifaaEval
import Derived.Test.YtlahjdgcgfgifaaProg
namespace Go.Proofs.Ytlahjdgcgfgifaa.X
open Go Go.Proofs
set_option maxRecDepth 100000

attribute [go_sem] Try.underlying0 Try.underlying1 Try.underlying2 Try.underlying3 Try.underlying4 Try.underlying5 Try.underlying6 Try.underlying7 Try.underlying8 Try.underlying9 Try.underlying10 Try.underlying11 Try.underlying12 Try.underlying13 Try.underlying14 Try.underlying15 Try.underlying16 Try.underlying17 Try.underlying18 Try.underlying19 Try.underlying20 Try.underlying21 Try.underlying22 Try.underlying23 Try.underlying24 Try.underlying25 Try.underlying26 Try.underlying27 Try.underlying28 Try.underlying29 Try.underlying30 Try.underlying31 Try.underlying32 Try.underlying33 Try.underlying34 Try.underlying35 Try.underlying36 Try.underlying37 Try.underlying38 Try.underlying39 Try.underlying40 Try.underlying41 Try.underlying42 Try.underlying43 Try.underlying44 Try.underlying45 Try.underlying46 Try.underlying47 Try.underlying48 Try.underlying49 Try.underlying50 Try.underlying51 Try.underlying52 Try.underlying53 Try.underlying54 Try.underlying55 Try.underlying56 Try.underlying57 Try.underlying58 Try.underlying59 Try.underlying60 Try.underlying61 Try.underlying62 Try.underlying63 Try.underlying64 Try.underlying65 Try.underlying66 Try.underlying67 Try.underlying68 Try.underlying69 Try.underlying70 Try.underlying71 Try.underlying72 Try.underlying73 Try.underlying74 Try.underlying75 Try.underlying76 Try.underlying77 Try.underlying78 Try.underlying79 Try.underlying80 Try.underlying81 Try.underlying82 Try.underlying83 Try.underlying84 Try.underlying85 Try.underlying86 Try.underlying87 Try.underlying88 Try.underlying89 Try.underlying90 Try.underlying91 Try.underlying92 Try.underlying93 Try.underlying94 Try.underlying95 Try.underlying96 Try.underlying97 Try.underlying98 Try.underlying99 Try.underlying100 Try.underlying101 Try.underlying102 Try.underlying103 Try.underlying104 Try.underlying105 Try.underlying106 Try.underlying107 Try.underlying108 Try.underlying109 Try.underlying110 Try.underlying111 Try.underlying112 Try.underlying113 Try.underlying114 Try.underlying115 Try.underlying116 Try.underlying117 Try.underlying118 Try.underlying119 Try.underlying120 Try.underlying121 Try.underlying122 Try.underlying123 Try.underlying124 Try.underlying125 Try.underlying126 Try.underlying127 Try.underlying128 Try.underlying129 Try.underlying130 Try.underlying131 Try.underlying132 Try.underlying133 Try.underlying134 Try.underlying135 Try.underlying136 Try.underlying137 Try.underlying138 Try.underlying139 Try.underlying140 Try.underlying141 Try.underlying142 Try.underlying143 Try.underlying144 Try.underlying145 Try.underlying146 Try.underlying147 Try.underlying148 Try.underlying149 Try.underlying150 Try.underlying151 Try.underlying152 Try.underlying153 Try.underlying154 Try.underlying155 Try.underlying156 Try.underlying157 Try.underlying158 Try.underlying159 Try.underlying160 Try.underlying161 Try.underlying162 Try.underlying163 Try.underlying164 Try.underlying165 Try.underlying166 Try.underlying167 Try.underlying168 Try.underlying169 Try.underlying170 Try.underlying171 Try.underlying172 Try.underlying173 Try.underlying174 Try.underlying175 Try.underlying176 Try.underlying177 Try.underlying178 Try.underlying179 Try.underlying180 Try.underlying181 Try.underlying182 Try.underlying183 Try.underlying184 Try.underlying185

theorem info_of {P : Program} {t n : Nat} {i : TypeInfo} (h : P.types.size = n) (hl : t < n) (hi : P.types[t]? = some i) : P.info? t = some i := by
  unfold Tables.info?
  rw [if_pos (by rw [h]; exact hl)]
  exact hi
def zB (n : Nat) : List IV := List.replicate n (.v (.bool false))
def fld (P : Program) (t i : Nat) : Field := (fieldT P t i).getD ⟨ "", 0, 0, false, "", "", 0⟩

@[go_sem] theorem info_3 : Try.prog.info? 3 = some Try.t3 := info_of Try.types_size (by decide) Try.type3
@[go_sem] theorem tz_3 : Try.t3.size = 1 := rfl
@[go_sem] theorem tb_3 : Try.t3.bytes = 8 := rfl
@[go_sem] theorem sz_3 : szOf Try.prog 3 = some 1 := by rw [szOf, info_3]; rfl
@[go_sem] theorem ag_3 : isAggT Try.prog 3 = some false := by rw [isAggT, Try.underlying3]; rfl
@[go_sem] theorem ze_3 : zeroC Try.prog 3 = some [(.v (.int .i64 0))] := by rw [zeroC, info_3]; rfl
@[go_sem] theorem info_4 : Try.prog.info? 4 = some Try.t4 := info_of Try.types_size (by decide) Try.type4
@[go_sem] theorem tz_4 : Try.t4.size = 1 := rfl
@[go_sem] theorem tb_4 : Try.t4.bytes = 1 := rfl
@[go_sem] theorem sz_4 : szOf Try.prog 4 = some 1 := by rw [szOf, info_4]; rfl
@[go_sem] theorem ag_4 : isAggT Try.prog 4 = some false := by rw [isAggT, Try.underlying4]; rfl
@[go_sem] theorem ze_4 : zeroC Try.prog 4 = some [(.v (.bool false))] := by rw [zeroC, info_4]; rfl
@[go_sem] theorem info_5 : Try.prog.info? 5 = some Try.t5 := info_of Try.types_size (by decide) Try.type5
@[go_sem] theorem tz_5 : Try.t5.size = 1 := rfl
@[go_sem] theorem tb_5 : Try.t5.bytes = 1 := rfl
@[go_sem] theorem sz_5 : szOf Try.prog 5 = some 1 := by rw [szOf, info_5]; rfl
@[go_sem] theorem ag_5 : isAggT Try.prog 5 = some false := by rw [isAggT, Try.underlying5]; rfl
@[go_sem] theorem ze_5 : zeroC Try.prog 5 = some [(.v (.int .u8 0))] := by rw [zeroC, info_5]; rfl
@[go_sem] theorem info_9 : Try.prog.info? 9 = some Try.t9 := info_of Try.types_size (by decide) Try.type9
@[go_sem] theorem tz_9 : Try.t9.size = 1 := rfl
@[go_sem] theorem tb_9 : Try.t9.bytes = 16 := rfl
@[go_sem] theorem sz_9 : szOf Try.prog 9 = some 1 := by rw [szOf, info_9]; rfl
@[go_sem] theorem ag_9 : isAggT Try.prog 9 = some false := by rw [isAggT, Try.underlying9]; rfl
@[go_sem] theorem ze_9 : zeroC Try.prog 9 = some [(.v (.string ⟨#[]⟩))] := by rw [zeroC, info_9]; rfl
@[go_sem] theorem info_22 : Try.prog.info? 22 = some Try.t22 := info_of Try.types_size (by decide) Try.type22
@[go_sem] theorem tz_22 : Try.t22.size = 1 := rfl
@[go_sem] theorem tb_22 : Try.t22.bytes = 24 := rfl
@[go_sem] theorem sz_22 : szOf Try.prog 22 = some 1 := by rw [szOf, info_22]; rfl
@[go_sem] theorem ag_22 : isAggT Try.prog 22 = some false := by rw [isAggT, Try.underlying22]; rfl
@[go_sem] theorem el_22 : elemT Try.prog 22 = some 5 := by rw [elemT, Try.underlying22]
@[go_sem] theorem ze_22 : zeroC Try.prog 22 = some [.emp] := by rw [zeroC, info_22]; rfl
@[go_sem] theorem info_23 : Try.prog.info? 23 = some Try.t23 := info_of Try.types_size (by decide) Try.type23
@[go_sem] theorem tz_23 : Try.t23.size = 1 := rfl
@[go_sem] theorem tb_23 : Try.t23.bytes = 24 := rfl
@[go_sem] theorem sz_23 : szOf Try.prog 23 = some 1 := by rw [szOf, info_23]; rfl
@[go_sem] theorem ag_23 : isAggT Try.prog 23 = some false := by rw [isAggT, Try.underlying23]; rfl
@[go_sem] theorem el_23 : elemT Try.prog 23 = some 37 := by rw [elemT, Try.underlying23]
@[go_sem] theorem ze_23 : zeroC Try.prog 23 = some [.emp] := by rw [zeroC, info_23]; rfl
@[go_sem] theorem info_25 : Try.prog.info? 25 = some Try.t25 := info_of Try.types_size (by decide) Try.type25
@[go_sem] theorem tz_25 : Try.t25.size = 2 := rfl
@[go_sem] theorem tb_25 : Try.t25.bytes = 32 := rfl
@[go_sem] theorem sz_25 : szOf Try.prog 25 = some 2 := by rw [szOf, info_25]; rfl
@[go_sem] theorem ag_25 : isAggT Try.prog 25 = some true := by rw [isAggT, Try.underlying25]; rfl
@[go_sem] theorem fd_25_0 : fieldT Try.prog 25 0 = some { name := "Nodes", type := 3, offset := 0, embedded := false, tag := "", pkgPath := "", byteOffset := 0 } := by rw [fieldT, Try.underlying25]; rfl
@[go_sem] theorem fd_25_1 : fieldT Try.prog 25 1 = some { name := "Edges", type := 23, offset := 1, embedded := false, tag := "", pkgPath := "", byteOffset := 8 } := by rw [fieldT, Try.underlying25]; rfl
@[go_sem] theorem ze_25 : zeroC Try.prog 25 = some [(.v (.int .i64 0)), .emp] := by rw [zeroC, info_25]; rfl
@[go_sem] theorem info_30 : Try.prog.info? 30 = some Try.t30 := info_of Try.types_size (by decide) Try.type30
@[go_sem] theorem tz_30 : Try.t30.size = 1 := rfl
@[go_sem] theorem tb_30 : Try.t30.bytes = 24 := rfl
@[go_sem] theorem sz_30 : szOf Try.prog 30 = some 1 := by rw [szOf, info_30]; rfl
@[go_sem] theorem ag_30 : isAggT Try.prog 30 = some false := by rw [isAggT, Try.underlying30]; rfl
@[go_sem] theorem el_30 : elemT Try.prog 30 = some 3 := by rw [elemT, Try.underlying30]
@[go_sem] theorem ze_30 : zeroC Try.prog 30 = some [.emp] := by rw [zeroC, info_30]; rfl
@[go_sem] theorem info_37 : Try.prog.info? 37 = some Try.t37 := info_of Try.types_size (by decide) Try.type37
@[go_sem] theorem tz_37 : Try.t37.size = 2 := rfl
@[go_sem] theorem tb_37 : Try.t37.bytes = 16 := rfl
@[go_sem] theorem sz_37 : szOf Try.prog 37 = some 2 := by rw [szOf, info_37]; rfl
@[go_sem] theorem ag_37 : isAggT Try.prog 37 = some true := by rw [isAggT, Try.underlying37]; rfl
@[go_sem] theorem fd_37_0 : fieldT Try.prog 37 0 = some { name := "A", type := 3, offset := 0, embedded := false, tag := "", pkgPath := "", byteOffset := 0 } := by rw [fieldT, Try.underlying37]; rfl
@[go_sem] theorem fd_37_1 : fieldT Try.prog 37 1 = some { name := "B", type := 3, offset := 1, embedded := false, tag := "", pkgPath := "", byteOffset := 8 } := by rw [fieldT, Try.underlying37]; rfl
@[go_sem] theorem ze_37 : zeroC Try.prog 37 = some [(.v (.int .i64 0)), (.v (.int .i64 0))] := by rw [zeroC, info_37]; rfl
@[go_sem] theorem fs_37 : flatS Try.prog 37 2 = true := by simp [flatS, Try.underlying37, Try.stoodInHeld37, Try.eqGuardType37, Try.underlying3]
@[go_sem] theorem info_54 : Try.prog.info? 54 = some Try.t54 := info_of Try.types_size (by decide) Try.type54
@[go_sem] theorem tz_54 : Try.t54.size = 1 := rfl
@[go_sem] theorem tb_54 : Try.t54.bytes = 24 := rfl
@[go_sem] theorem sz_54 : szOf Try.prog 54 = some 1 := by rw [szOf, info_54]; rfl
@[go_sem] theorem ag_54 : isAggT Try.prog 54 = some false := by rw [isAggT, Try.underlying54]; rfl
@[go_sem] theorem el_54 : elemT Try.prog 54 = some 57 := by rw [elemT, Try.underlying54]
@[go_sem] theorem ze_54 : zeroC Try.prog 54 = some [.emp] := by rw [zeroC, info_54]; rfl
@[go_sem] theorem info_56 : Try.prog.info? 56 = some Try.t56 := info_of Try.types_size (by decide) Try.type56
@[go_sem] theorem tz_56 : Try.t56.size = 2 := rfl
@[go_sem] theorem tb_56 : Try.t56.bytes = 32 := rfl
@[go_sem] theorem sz_56 : szOf Try.prog 56 = some 2 := by rw [szOf, info_56]; rfl
@[go_sem] theorem ag_56 : isAggT Try.prog 56 = some true := by rw [isAggT, Try.underlying56]; rfl
@[go_sem] theorem fd_56_0 : fieldT Try.prog 56 0 = some { name := "Nodes", type := 3, offset := 0, embedded := false, tag := "", pkgPath := "", byteOffset := 0 } := by rw [fieldT, Try.underlying56]; rfl
@[go_sem] theorem fd_56_1 : fieldT Try.prog 56 1 = some { name := "Edges", type := 54, offset := 1, embedded := false, tag := "", pkgPath := "", byteOffset := 8 } := by rw [fieldT, Try.underlying56]; rfl
@[go_sem] theorem ze_56 : zeroC Try.prog 56 = some [(.v (.int .i64 0)), .emp] := by rw [zeroC, info_56]; rfl
@[go_sem] theorem info_57 : Try.prog.info? 57 = some Try.t57 := info_of Try.types_size (by decide) Try.type57
@[go_sem] theorem tz_57 : Try.t57.size = 2 := rfl
@[go_sem] theorem tb_57 : Try.t57.bytes = 16 := rfl
@[go_sem] theorem sz_57 : szOf Try.prog 57 = some 2 := by rw [szOf, info_57]; rfl
@[go_sem] theorem ag_57 : isAggT Try.prog 57 = some true := by rw [isAggT, Try.underlying57]; rfl
@[go_sem] theorem fd_57_0 : fieldT Try.prog 57 0 = some { name := "A", type := 3, offset := 0, embedded := false, tag := "", pkgPath := "", byteOffset := 0 } := by rw [fieldT, Try.underlying57]; rfl
@[go_sem] theorem fd_57_1 : fieldT Try.prog 57 1 = some { name := "B", type := 3, offset := 1, embedded := false, tag := "", pkgPath := "", byteOffset := 8 } := by rw [fieldT, Try.underlying57]; rfl
@[go_sem] theorem ze_57 : zeroC Try.prog 57 = some [(.v (.int .i64 0)), (.v (.int .i64 0))] := by rw [zeroC, info_57]; rfl
@[go_sem] theorem fs_57 : flatS Try.prog 57 2 = true := by simp [flatS, Try.underlying57, Try.stoodInHeld57, Try.eqGuardType57, Try.underlying3]
@[go_sem] theorem info_67 : Try.prog.info? 67 = some Try.t67 := info_of Try.types_size (by decide) Try.type67
@[go_sem] theorem tz_67 : Try.t67.size = 1 := rfl
@[go_sem] theorem tb_67 : Try.t67.bytes = 24 := rfl
@[go_sem] theorem sz_67 : szOf Try.prog 67 = some 1 := by rw [szOf, info_67]; rfl
@[go_sem] theorem ag_67 : isAggT Try.prog 67 = some false := by rw [isAggT, Try.underlying67]; rfl
@[go_sem] theorem el_67 : elemT Try.prog 67 = some 30 := by rw [elemT, Try.underlying67]
@[go_sem] theorem ze_67 : zeroC Try.prog 67 = some [.emp] := by rw [zeroC, info_67]; rfl
@[go_sem] theorem info_71 : Try.prog.info? 71 = some Try.t71 := info_of Try.types_size (by decide) Try.type71
@[go_sem] theorem tz_71 : Try.t71.size = 1 := rfl
@[go_sem] theorem tb_71 : Try.t71.bytes = 8 := rfl
@[go_sem] theorem sz_71 : szOf Try.prog 71 = some 1 := by rw [szOf, info_71]; rfl
@[go_sem] theorem ag_71 : isAggT Try.prog 71 = some false := by rw [isAggT, Try.underlying71]; rfl
@[go_sem] theorem info_73 : Try.prog.info? 73 = some Try.t73 := info_of Try.types_size (by decide) Try.type73
@[go_sem] theorem tz_73 : Try.t73.size = 1 := rfl
@[go_sem] theorem tb_73 : Try.t73.bytes = 8 := rfl
@[go_sem] theorem sz_73 : szOf Try.prog 73 = some 1 := by rw [szOf, info_73]; rfl
@[go_sem] theorem ag_73 : isAggT Try.prog 73 = some false := by rw [isAggT, Try.underlying73]; rfl
@[go_sem] theorem info_77 : Try.prog.info? 77 = some Try.t77 := info_of Try.types_size (by decide) Try.type77
@[go_sem] theorem tz_77 : Try.t77.size = 1 := rfl
@[go_sem] theorem tb_77 : Try.t77.bytes = 8 := rfl
@[go_sem] theorem sz_77 : szOf Try.prog 77 = some 1 := by rw [szOf, info_77]; rfl
@[go_sem] theorem ag_77 : isAggT Try.prog 77 = some false := by rw [isAggT, Try.underlying77]; rfl
@[go_sem] theorem info_90 : Try.prog.info? 90 = some Try.t90 := info_of Try.types_size (by decide) Try.type90
@[go_sem] theorem tz_90 : Try.t90.size = 1 := rfl
@[go_sem] theorem tb_90 : Try.t90.bytes = 8 := rfl
@[go_sem] theorem sz_90 : szOf Try.prog 90 = some 1 := by rw [szOf, info_90]; rfl
@[go_sem] theorem ag_90 : isAggT Try.prog 90 = some false := by rw [isAggT, Try.underlying90]; rfl
@[go_sem] theorem ze_90 : zeroC Try.prog 90 = some [(.v (.pointer none))] := by rw [zeroC, info_90]; rfl
@[go_sem] theorem info_99 : Try.prog.info? 99 = some Try.t99 := info_of Try.types_size (by decide) Try.type99
@[go_sem] theorem tz_99 : Try.t99.size = 3 := rfl
@[go_sem] theorem tb_99 : Try.t99.bytes = 72 := rfl
@[go_sem] theorem sz_99 : szOf Try.prog 99 = some 3 := by rw [szOf, info_99]; rfl
@[go_sem] theorem ag_99 : isAggT Try.prog 99 = some true := by rw [isAggT, Try.underlying99]; rfl
@[go_sem] theorem fd_99_0 : fieldT Try.prog 99 0 = some { name := "Numbers", type := 30, offset := 0, embedded := false, tag := "", pkgPath := "", byteOffset := 0 } := by rw [fieldT, Try.underlying99]; rfl
@[go_sem] theorem fd_99_1 : fieldT Try.prog 99 1 = some { name := "Parents", type := 30, offset := 1, embedded := false, tag := "", pkgPath := "", byteOffset := 24 } := by rw [fieldT, Try.underlying99]; rfl
@[go_sem] theorem fd_99_2 : fieldT Try.prog 99 2 = some { name := "Lows", type := 30, offset := 2, embedded := false, tag := "", pkgPath := "", byteOffset := 48 } := by rw [fieldT, Try.underlying99]; rfl
@[go_sem] theorem ze_99 : zeroC Try.prog 99 = some [.emp, .emp, .emp] := by rw [zeroC, info_99]; rfl
@[go_sem] theorem info_101 : Try.prog.info? 101 = some Try.t101 := info_of Try.types_size (by decide) Try.type101
@[go_sem] theorem tz_101 : Try.t101.size = 1 := rfl
@[go_sem] theorem tb_101 : Try.t101.bytes = 24 := rfl
@[go_sem] theorem sz_101 : szOf Try.prog 101 = some 1 := by rw [szOf, info_101]; rfl
@[go_sem] theorem ag_101 : isAggT Try.prog 101 = some false := by rw [isAggT, Try.underlying101]; rfl
@[go_sem] theorem el_101 : elemT Try.prog 101 = some 4 := by rw [elemT, Try.underlying101]
@[go_sem] theorem ze_101 : zeroC Try.prog 101 = some [.emp] := by rw [zeroC, info_101]; rfl
@[go_sem] theorem info_102 : Try.prog.info? 102 = some Try.t102 := info_of Try.types_size (by decide) Try.type102
@[go_sem] theorem tz_102 : Try.t102.size = 1 := rfl
@[go_sem] theorem tb_102 : Try.t102.bytes = 24 := rfl
@[go_sem] theorem sz_102 : szOf Try.prog 102 = some 1 := by rw [szOf, info_102]; rfl
@[go_sem] theorem ag_102 : isAggT Try.prog 102 = some false := by rw [isAggT, Try.underlying102]; rfl
@[go_sem] theorem el_102 : elemT Try.prog 102 = some 104 := by rw [elemT, Try.underlying102]
@[go_sem] theorem ze_102 : zeroC Try.prog 102 = some [.emp] := by rw [zeroC, info_102]; rfl
@[go_sem] theorem info_104 : Try.prog.info? 104 = some Try.t104 := info_of Try.types_size (by decide) Try.type104
@[go_sem] theorem tz_104 : Try.t104.size = 2 := rfl
@[go_sem] theorem tb_104 : Try.t104.bytes = 16 := rfl
@[go_sem] theorem sz_104 : szOf Try.prog 104 = some 2 := by rw [szOf, info_104]; rfl
@[go_sem] theorem ag_104 : isAggT Try.prog 104 = some true := by rw [isAggT, Try.underlying104]; rfl
@[go_sem] theorem ze_104 : zeroC Try.prog 104 = some [(.v (.int .i64 0)), (.v (.int .i64 0))] := by rw [zeroC, info_104]; rfl
@[go_sem] theorem info_110 : Try.prog.info? 110 = some Try.t110 := info_of Try.types_size (by decide) Try.type110
@[go_sem] theorem tz_110 : Try.t110.size = 1 := rfl
@[go_sem] theorem tb_110 : Try.t110.bytes = 8 := rfl
@[go_sem] theorem sz_110 : szOf Try.prog 110 = some 1 := by rw [szOf, info_110]; rfl
@[go_sem] theorem ag_110 : isAggT Try.prog 110 = some false := by rw [isAggT, Try.underlying110]; rfl
@[go_sem] theorem ze_110 : zeroC Try.prog 110 = some [(.v (.int .u64 0))] := by rw [zeroC, info_110]; rfl
@[go_sem] theorem info_122 : Try.prog.info? 122 = some Try.t122 := info_of Try.types_size (by decide) Try.type122
@[go_sem] theorem tz_122 : Try.t122.size = 2 := rfl
@[go_sem] theorem tb_122 : Try.t122.bytes = 32 := rfl
@[go_sem] theorem sz_122 : szOf Try.prog 122 = some 2 := by rw [szOf, info_122]; rfl
@[go_sem] theorem ag_122 : isAggT Try.prog 122 = some true := by rw [isAggT, Try.underlying122]; rfl
@[go_sem] theorem fd_122_0 : fieldT Try.prog 122 0 = some (fld Try.prog 122 0) := by rw [fld, fieldT, Try.underlying122]; rfl
@[go_sem] theorem fo_122_0 : (fld Try.prog 122 0).offset = 0 := by rw [fld, fieldT, Try.underlying122]; rfl
@[go_sem] theorem ft_122_0 : (fld Try.prog 122 0).type = 22 := by rw [fld, fieldT, Try.underlying122]; rfl
@[go_sem] theorem fd_122_1 : fieldT Try.prog 122 1 = some (fld Try.prog 122 1) := by rw [fld, fieldT, Try.underlying122]; rfl
@[go_sem] theorem fo_122_1 : (fld Try.prog 122 1).offset = 1 := by rw [fld, fieldT, Try.underlying122]; rfl
@[go_sem] theorem ft_122_1 : (fld Try.prog 122 1).type = 3 := by rw [fld, fieldT, Try.underlying122]; rfl
@[go_sem] theorem ze_122 : zeroC Try.prog 122 = some [.emp, (.v (.int .i64 0))] := by rw [zeroC, info_122]; rfl
@[go_sem] theorem info_127 : Try.prog.info? 127 = some Try.t127 := info_of Try.types_size (by decide) Try.type127
@[go_sem] theorem tz_127 : Try.t127.size = 1 := rfl
@[go_sem] theorem tb_127 : Try.t127.bytes = 8 := rfl
@[go_sem] theorem sz_127 : szOf Try.prog 127 = some 1 := by rw [szOf, info_127]; rfl
@[go_sem] theorem ag_127 : isAggT Try.prog 127 = some false := by rw [isAggT, Try.underlying127]; rfl
@[go_sem] theorem ze_127 : zeroC Try.prog 127 = some [(.v (.int .i64 0))] := by rw [zeroC, info_127]; rfl
@[go_sem] theorem info_134 : Try.prog.info? 134 = some Try.t134 := info_of Try.types_size (by decide) Try.type134
@[go_sem] theorem tz_134 : Try.t134.size = 1 := rfl
@[go_sem] theorem tb_134 : Try.t134.bytes = 4 := rfl
@[go_sem] theorem sz_134 : szOf Try.prog 134 = some 1 := by rw [szOf, info_134]; rfl
@[go_sem] theorem ag_134 : isAggT Try.prog 134 = some false := by rw [isAggT, Try.underlying134]; rfl
@[go_sem] theorem ze_134 : zeroC Try.prog 134 = some [(.v (.int .u32 0))] := by rw [zeroC, info_134]; rfl
@[go_sem] theorem info_136 : Try.prog.info? 136 = some Try.t136 := info_of Try.types_size (by decide) Try.type136
@[go_sem] theorem tz_136 : Try.t136.size = 1 := rfl
@[go_sem] theorem tb_136 : Try.t136.bytes = 8 := rfl
@[go_sem] theorem sz_136 : szOf Try.prog 136 = some 1 := by rw [szOf, info_136]; rfl
@[go_sem] theorem ag_136 : isAggT Try.prog 136 = some false := by rw [isAggT, Try.underlying136]; rfl
@[go_sem] theorem ze_136 : zeroC Try.prog 136 = some [(.v (.int .u64 0))] := by rw [zeroC, info_136]; rfl
@[go_sem] theorem info_144 : Try.prog.info? 144 = some Try.t144 := info_of Try.types_size (by decide) Try.type144
@[go_sem] theorem tz_144 : Try.t144.size = 1 := rfl
@[go_sem] theorem tb_144 : Try.t144.bytes = 8 := rfl
@[go_sem] theorem sz_144 : szOf Try.prog 144 = some 1 := by rw [szOf, info_144]; rfl
@[go_sem] theorem ag_144 : isAggT Try.prog 144 = some false := by rw [isAggT, Try.underlying144]; rfl
@[go_sem] theorem ze_144 : zeroC Try.prog 144 = some [(.v (.pointer none))] := by rw [zeroC, info_144]; rfl
@[go_sem] theorem info_146 : Try.prog.info? 146 = some Try.t146 := info_of Try.types_size (by decide) Try.type146
@[go_sem] theorem tz_146 : Try.t146.size = 1 := rfl
@[go_sem] theorem tb_146 : Try.t146.bytes = 8 := rfl
@[go_sem] theorem sz_146 : szOf Try.prog 146 = some 1 := by rw [szOf, info_146]; rfl
@[go_sem] theorem ag_146 : isAggT Try.prog 146 = some false := by rw [isAggT, Try.underlying146]; rfl
@[go_sem] theorem ze_146 : zeroC Try.prog 146 = some [(.v (.int .u64 0))] := by rw [zeroC, info_146]; rfl
@[go_sem] theorem info_150 : Try.prog.info? 150 = some Try.t150 := info_of Try.types_size (by decide) Try.type150
@[go_sem] theorem tz_150 : Try.t150.size = 1 := rfl
@[go_sem] theorem tb_150 : Try.t150.bytes = 8 := rfl
@[go_sem] theorem sz_150 : szOf Try.prog 150 = some 1 := by rw [szOf, info_150]; rfl
@[go_sem] theorem ag_150 : isAggT Try.prog 150 = some false := by rw [isAggT, Try.underlying150]; rfl
@[go_sem] theorem ze_150 : zeroC Try.prog 150 = some [(.v (.pointer none))] := by rw [zeroC, info_150]; rfl

/-- How calls are taken. -/
def mutL : List Nat := [53, 54, 72, 106, 109, 112, 119, 120, 130, 134, 144, 146, 169, 183, 184, 205]
def ownL : List (Nat × Nat) := [(9, 23), (9, 30), (9, 35), (9, 49), (9, 81), (9, 84), (32, 21), (49, 9), (56, 13), (61, 29), (68, 5), (70, 7), (88, 15), (93, 13), (107, 9), (119, 8), (121, 9), (133, 8)]
end Go.Proofs.Ytlahjdgcgfgifaa.X
