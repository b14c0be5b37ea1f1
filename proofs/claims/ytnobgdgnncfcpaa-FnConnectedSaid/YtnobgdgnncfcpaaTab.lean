/- Facts of one program's tables. -/
import Derived.Test.YtnobgdgnncfcpaaEval
import Derived.Test.YtnobgdgnncfcpaaProg
namespace Go.Proofs.Ytnobgdgnncfcpaa.X
open Go Go.Proofs

attribute [go_sem] Try.underlying0 Try.underlying1 Try.underlying2 Try.underlying3 Try.underlying4 Try.underlying5 Try.underlying6 Try.underlying7 Try.underlying8 Try.underlying9 Try.underlying10 Try.underlying11 Try.underlying12 Try.underlying13 Try.underlying14 Try.underlying15 Try.underlying16 Try.underlying17 Try.underlying18 Try.underlying19 Try.underlying20 Try.underlying21 Try.underlying22 Try.underlying23 Try.underlying24 Try.underlying25 Try.underlying26 Try.underlying27 Try.underlying28 Try.underlying29 Try.underlying30 Try.underlying31 Try.underlying32 Try.underlying33 Try.underlying34 Try.underlying35 Try.underlying36 Try.underlying37 Try.underlying38 Try.underlying39 Try.underlying40 Try.underlying41 Try.underlying42 Try.underlying43 Try.underlying44 Try.underlying45 Try.underlying46 Try.underlying47 Try.underlying48 Try.underlying49 Try.underlying50 Try.underlying51 Try.underlying52 Try.underlying53 Try.underlying54 Try.underlying55 Try.underlying56 Try.underlying57 Try.underlying58 Try.underlying59 Try.underlying60 Try.underlying61 Try.underlying62 Try.underlying63 Try.underlying64 Try.underlying65 Try.underlying66 Try.underlying67 Try.underlying68 Try.underlying69 Try.underlying70 Try.underlying71 Try.underlying72 Try.underlying73 Try.underlying74 Try.underlying75 Try.underlying76 Try.underlying77 Try.underlying78 Try.underlying79 Try.underlying80 Try.underlying81 Try.underlying82 Try.underlying83 Try.underlying84 Try.underlying85 Try.underlying86 Try.underlying87 Try.underlying88 Try.underlying89 Try.underlying90 Try.underlying91 Try.underlying92 Try.underlying93 Try.underlying94 Try.underlying95 Try.underlying96 Try.underlying97 Try.underlying98 Try.underlying99 Try.underlying100 Try.underlying101 Try.underlying102 Try.underlying103 Try.underlying104 Try.underlying105 Try.underlying106 Try.underlying107 Try.underlying108 Try.underlying109 Try.underlying110 Try.underlying111 Try.underlying112 Try.underlying113 Try.underlying114 Try.underlying115 Try.underlying116 Try.underlying117 Try.underlying118 Try.underlying119 Try.underlying120 Try.underlying121 Try.underlying122 Try.underlying123 Try.underlying124 Try.underlying125 Try.underlying126 Try.underlying127 Try.underlying128 Try.underlying129 Try.underlying130 Try.underlying131 Try.underlying132 Try.underlying133 Try.underlying134 Try.underlying135 Try.underlying136 Try.underlying137 Try.underlying138 Try.underlying139 Try.underlying140 Try.underlying141 Try.underlying142 Try.underlying143 Try.underlying144 Try.underlying145 Try.underlying146 Try.underlying147 Try.underlying148 Try.underlying149 Try.underlying150 Try.underlying151 Try.underlying152 Try.underlying153 Try.underlying154 Try.underlying155 Try.underlying156 Try.underlying157 Try.underlying158 Try.underlying159 Try.underlying160 Try.underlying161 Try.underlying162 Try.underlying163 Try.underlying164 Try.underlying165 Try.underlying166 Try.underlying167 Try.underlying168 Try.underlying169 Try.underlying170 Try.underlying171 Try.underlying172 Try.underlying173 Try.underlying174 Try.underlying175 Try.underlying176 Try.underlying177 Try.underlying178 Try.underlying179 Try.underlying180 Try.underlying181 Try.underlying182 Try.underlying183 Try.underlying184 Try.underlying185 Try.underlying186 Try.underlying187 Try.underlying188 Try.underlying189 Try.underlying190 Try.underlying191 Try.underlying192 Try.underlying193 Try.underlying194 Try.underlying195 Try.underlying196 Try.underlying197 Try.underlying198 Try.underlying199 Try.underlying200 Try.underlying201 Try.underlying202 Try.underlying203 Try.underlying204 Try.underlying205 Try.underlying206 Try.underlying207 Try.underlying208

theorem info_of {P : Program} {t n : Nat} {i : TypeInfo} (h : P.types.size = n) (hl : t < n) (hi : P.types[t]? = some i) : P.info? t = some i := by
  unfold Tables.info?
  rw [if_pos (by rw [h]; exact hl)]
  exact hi
def fld (P : Program) (t i : Nat) : Field := (fieldT P t i).getD ⟨ "", 0, 0, false, "", "", 0⟩

@[go_sem] theorem info_3 : Try.prog.info? 3 = some Try.t3 := info_of Try.types_size (by decide) Try.type3
@[go_sem] theorem tz_3 : Try.t3.size = 1 := rfl
@[go_sem] theorem tb_3 : Try.t3.bytes = 8 := rfl
@[go_sem] theorem sz_3 : szOf Try.prog 3 = some 1 := by rw [szOf, info_3]; rfl
@[go_sem] theorem ag_3 : isAggT Try.prog 3 = some false := by rw [isAggT, Try.underlying3]; rfl
@[go_sem] theorem ze_3 : zeroC Try.prog 3 = some [(.v (.int .i64 0))] := by rw [zeroC, info_3]; rfl
@[go_sem] theorem info_4 : Try.prog.info? 4 = some Try.t4 := info_of Try.types_size (by decide) Try.type4
@[go_sem] theorem tz_4 : Try.t4.size = 1 := rfl
@[go_sem] theorem tb_4 : Try.t4.bytes = 1 := rfl
@[go_sem] theorem sz_4 : szOf Try.prog 4 = some 1 := by rw [szOf, info_4]; rfl
@[go_sem] theorem ag_4 : isAggT Try.prog 4 = some false := by rw [isAggT, Try.underlying4]; rfl
@[go_sem] theorem ze_4 : zeroC Try.prog 4 = some [(.v (.bool false))] := by rw [zeroC, info_4]; rfl
@[go_sem] theorem info_5 : Try.prog.info? 5 = some Try.t5 := info_of Try.types_size (by decide) Try.type5
@[go_sem] theorem tz_5 : Try.t5.size = 1 := rfl
@[go_sem] theorem tb_5 : Try.t5.bytes = 1 := rfl
@[go_sem] theorem sz_5 : szOf Try.prog 5 = some 1 := by rw [szOf, info_5]; rfl
@[go_sem] theorem ag_5 : isAggT Try.prog 5 = some false := by rw [isAggT, Try.underlying5]; rfl
@[go_sem] theorem ze_5 : zeroC Try.prog 5 = some [(.v (.int .u8 0))] := by rw [zeroC, info_5]; rfl
@[go_sem] theorem info_9 : Try.prog.info? 9 = some Try.t9 := info_of Try.types_size (by decide) Try.type9
@[go_sem] theorem tz_9 : Try.t9.size = 1 := rfl
@[go_sem] theorem tb_9 : Try.t9.bytes = 16 := rfl
@[go_sem] theorem sz_9 : szOf Try.prog 9 = some 1 := by rw [szOf, info_9]; rfl
@[go_sem] theorem ag_9 : isAggT Try.prog 9 = some false := by rw [isAggT, Try.underlying9]; rfl
@[go_sem] theorem ze_9 : zeroC Try.prog 9 = some [(.v (.string ⟨#[]⟩))] := by rw [zeroC, info_9]; rfl
@[go_sem] theorem info_22 : Try.prog.info? 22 = some Try.t22 := info_of Try.types_size (by decide) Try.type22
@[go_sem] theorem tz_22 : Try.t22.size = 1 := rfl
@[go_sem] theorem tb_22 : Try.t22.bytes = 24 := rfl
@[go_sem] theorem sz_22 : szOf Try.prog 22 = some 1 := by rw [szOf, info_22]; rfl
@[go_sem] theorem ag_22 : isAggT Try.prog 22 = some false := by rw [isAggT, Try.underlying22]; rfl
@[go_sem] theorem el_22 : elemT Try.prog 22 = some 5 := by rw [elemT, Try.underlying22]
@[go_sem] theorem ze_22 : zeroC Try.prog 22 = some [.emp] := by rw [zeroC, info_22]; rfl
@[go_sem] theorem info_23 : Try.prog.info? 23 = some Try.t23 := info_of Try.types_size (by decide) Try.type23
@[go_sem] theorem tz_23 : Try.t23.size = 1 := rfl
@[go_sem] theorem tb_23 : Try.t23.bytes = 24 := rfl
@[go_sem] theorem sz_23 : szOf Try.prog 23 = some 1 := by rw [szOf, info_23]; rfl
@[go_sem] theorem ag_23 : isAggT Try.prog 23 = some false := by rw [isAggT, Try.underlying23]; rfl
@[go_sem] theorem el_23 : elemT Try.prog 23 = some 99 := by rw [elemT, Try.underlying23]
@[go_sem] theorem ze_23 : zeroC Try.prog 23 = some [.emp] := by rw [zeroC, info_23]; rfl
@[go_sem] theorem info_26 : Try.prog.info? 26 = some Try.t26 := info_of Try.types_size (by decide) Try.type26
@[go_sem] theorem tz_26 : Try.t26.size = 1 := rfl
@[go_sem] theorem tb_26 : Try.t26.bytes = 24 := rfl
@[go_sem] theorem sz_26 : szOf Try.prog 26 = some 1 := by rw [szOf, info_26]; rfl
@[go_sem] theorem ag_26 : isAggT Try.prog 26 = some false := by rw [isAggT, Try.underlying26]; rfl
@[go_sem] theorem el_26 : elemT Try.prog 26 = some 4 := by rw [elemT, Try.underlying26]
@[go_sem] theorem ze_26 : zeroC Try.prog 26 = some [.emp] := by rw [zeroC, info_26]; rfl
@[go_sem] theorem info_32 : Try.prog.info? 32 = some Try.t32 := info_of Try.types_size (by decide) Try.type32
@[go_sem] theorem tz_32 : Try.t32.size = 1 := rfl
@[go_sem] theorem tb_32 : Try.t32.bytes = 24 := rfl
@[go_sem] theorem sz_32 : szOf Try.prog 32 = some 1 := by rw [szOf, info_32]; rfl
@[go_sem] theorem ag_32 : isAggT Try.prog 32 = some false := by rw [isAggT, Try.underlying32]; rfl
@[go_sem] theorem el_32 : elemT Try.prog 32 = some 39 := by rw [elemT, Try.underlying32]
@[go_sem] theorem ze_32 : zeroC Try.prog 32 = some [.emp] := by rw [zeroC, info_32]; rfl
@[go_sem] theorem info_37 : Try.prog.info? 37 = some Try.t37 := info_of Try.types_size (by decide) Try.type37
@[go_sem] theorem tz_37 : Try.t37.size = 2 := rfl
@[go_sem] theorem tb_37 : Try.t37.bytes = 16 := rfl
@[go_sem] theorem sz_37 : szOf Try.prog 37 = some 2 := by rw [szOf, info_37]; rfl
@[go_sem] theorem ag_37 : isAggT Try.prog 37 = some true := by rw [isAggT, Try.underlying37]; rfl
@[go_sem] theorem fd_37_0 : fieldT Try.prog 37 0 = some { name := "A", type := 3, offset := 0, embedded := false, tag := "", pkgPath := "", byteOffset := 0 } := by rw [fieldT, Try.underlying37]; rfl
@[go_sem] theorem fd_37_1 : fieldT Try.prog 37 1 = some { name := "B", type := 3, offset := 1, embedded := false, tag := "", pkgPath := "", byteOffset := 8 } := by rw [fieldT, Try.underlying37]; rfl
@[go_sem] theorem ze_37 : zeroC Try.prog 37 = some [(.v (.int .i64 0)), (.v (.int .i64 0))] := by rw [zeroC, info_37]; rfl
@[go_sem] theorem fs_37 : flatS Try.prog 37 2 = true := by simp [flatS, Try.underlying37, Try.stoodInHeld37, Try.eqGuardType37, Try.underlying3]
@[go_sem] theorem info_39 : Try.prog.info? 39 = some Try.t39 := info_of Try.types_size (by decide) Try.type39
@[go_sem] theorem tz_39 : Try.t39.size = 4 := rfl
@[go_sem] theorem tb_39 : Try.t39.bytes = 32 := rfl
@[go_sem] theorem sz_39 : szOf Try.prog 39 = some 4 := by rw [szOf, info_39]; rfl
@[go_sem] theorem ag_39 : isAggT Try.prog 39 = some true := by rw [isAggT, Try.underlying39]; rfl
@[go_sem] theorem fd_39_0 : fieldT Try.prog 39 0 = some { name := "Edge", type := 37, offset := 0, embedded := false, tag := "", pkgPath := "", byteOffset := 0 } := by rw [fieldT, Try.underlying39]; rfl
@[go_sem] theorem fd_39_1 : fieldT Try.prog 39 1 = some { name := "From", type := 3, offset := 2, embedded := false, tag := "", pkgPath := "", byteOffset := 16 } := by rw [fieldT, Try.underlying39]; rfl
@[go_sem] theorem fd_39_2 : fieldT Try.prog 39 2 = some { name := "To", type := 3, offset := 3, embedded := false, tag := "", pkgPath := "", byteOffset := 24 } := by rw [fieldT, Try.underlying39]; rfl
@[go_sem] theorem ze_39 : zeroC Try.prog 39 = some [(.v (.int .i64 0)), (.v (.int .i64 0)), (.v (.int .i64 0)), (.v (.int .i64 0))] := by rw [zeroC, info_39]; rfl
@[go_sem] theorem info_41 : Try.prog.info? 41 = some Try.t41 := info_of Try.types_size (by decide) Try.type41
@[go_sem] theorem tz_41 : Try.t41.size = 1 := rfl
@[go_sem] theorem tb_41 : Try.t41.bytes = 24 := rfl
@[go_sem] theorem sz_41 : szOf Try.prog 41 = some 1 := by rw [szOf, info_41]; rfl
@[go_sem] theorem ag_41 : isAggT Try.prog 41 = some false := by rw [isAggT, Try.underlying41]; rfl
@[go_sem] theorem el_41 : elemT Try.prog 41 = some 37 := by rw [elemT, Try.underlying41]
@[go_sem] theorem ze_41 : zeroC Try.prog 41 = some [.emp] := by rw [zeroC, info_41]; rfl
@[go_sem] theorem info_43 : Try.prog.info? 43 = some Try.t43 := info_of Try.types_size (by decide) Try.type43
@[go_sem] theorem tz_43 : Try.t43.size = 2 := rfl
@[go_sem] theorem tb_43 : Try.t43.bytes = 32 := rfl
@[go_sem] theorem sz_43 : szOf Try.prog 43 = some 2 := by rw [szOf, info_43]; rfl
@[go_sem] theorem ag_43 : isAggT Try.prog 43 = some true := by rw [isAggT, Try.underlying43]; rfl
@[go_sem] theorem fd_43_0 : fieldT Try.prog 43 0 = some { name := "Nodes", type := 3, offset := 0, embedded := false, tag := "", pkgPath := "", byteOffset := 0 } := by rw [fieldT, Try.underlying43]; rfl
@[go_sem] theorem fd_43_1 : fieldT Try.prog 43 1 = some { name := "Edges", type := 41, offset := 1, embedded := false, tag := "", pkgPath := "", byteOffset := 8 } := by rw [fieldT, Try.underlying43]; rfl
@[go_sem] theorem ze_43 : zeroC Try.prog 43 = some [(.v (.int .i64 0)), .emp] := by rw [zeroC, info_43]; rfl
@[go_sem] theorem info_49 : Try.prog.info? 49 = some Try.t49 := info_of Try.types_size (by decide) Try.type49
@[go_sem] theorem tz_49 : Try.t49.size = 1 := rfl
@[go_sem] theorem tb_49 : Try.t49.bytes = 24 := rfl
@[go_sem] theorem sz_49 : szOf Try.prog 49 = some 1 := by rw [szOf, info_49]; rfl
@[go_sem] theorem ag_49 : isAggT Try.prog 49 = some false := by rw [isAggT, Try.underlying49]; rfl
@[go_sem] theorem el_49 : elemT Try.prog 49 = some 3 := by rw [elemT, Try.underlying49]
@[go_sem] theorem ze_49 : zeroC Try.prog 49 = some [.emp] := by rw [zeroC, info_49]; rfl
@[go_sem] theorem info_55 : Try.prog.info? 55 = some Try.t55 := info_of Try.types_size (by decide) Try.type55
@[go_sem] theorem tz_55 : Try.t55.size = 3 := rfl
@[go_sem] theorem tb_55 : Try.t55.bytes = 72 := rfl
@[go_sem] theorem sz_55 : szOf Try.prog 55 = some 3 := by rw [szOf, info_55]; rfl
@[go_sem] theorem ag_55 : isAggT Try.prog 55 = some true := by rw [isAggT, Try.underlying55]; rfl
@[go_sem] theorem fd_55_0 : fieldT Try.prog 55 0 = some { name := "Numbers", type := 49, offset := 0, embedded := false, tag := "", pkgPath := "", byteOffset := 0 } := by rw [fieldT, Try.underlying55]; rfl
@[go_sem] theorem fd_55_1 : fieldT Try.prog 55 1 = some { name := "Parents", type := 49, offset := 1, embedded := false, tag := "", pkgPath := "", byteOffset := 24 } := by rw [fieldT, Try.underlying55]; rfl
@[go_sem] theorem fd_55_2 : fieldT Try.prog 55 2 = some { name := "Lows", type := 49, offset := 2, embedded := false, tag := "", pkgPath := "", byteOffset := 48 } := by rw [fieldT, Try.underlying55]; rfl
@[go_sem] theorem ze_55 : zeroC Try.prog 55 = some [.emp, .emp, .emp] := by rw [zeroC, info_55]; rfl
@[go_sem] theorem info_59 : Try.prog.info? 59 = some Try.t59 := info_of Try.types_size (by decide) Try.type59
@[go_sem] theorem tz_59 : Try.t59.size = 1 := rfl
@[go_sem] theorem tb_59 : Try.t59.bytes = 24 := rfl
@[go_sem] theorem sz_59 : szOf Try.prog 59 = some 1 := by rw [szOf, info_59]; rfl
@[go_sem] theorem ag_59 : isAggT Try.prog 59 = some false := by rw [isAggT, Try.underlying59]; rfl
@[go_sem] theorem el_59 : elemT Try.prog 59 = some 113 := by rw [elemT, Try.underlying59]
@[go_sem] theorem ze_59 : zeroC Try.prog 59 = some [.emp] := by rw [zeroC, info_59]; rfl
@[go_sem] theorem info_61 : Try.prog.info? 61 = some Try.t61 := info_of Try.types_size (by decide) Try.type61
@[go_sem] theorem tz_61 : Try.t61.size = 2 := rfl
@[go_sem] theorem tb_61 : Try.t61.bytes = 32 := rfl
@[go_sem] theorem sz_61 : szOf Try.prog 61 = some 2 := by rw [szOf, info_61]; rfl
@[go_sem] theorem ag_61 : isAggT Try.prog 61 = some true := by rw [isAggT, Try.underlying61]; rfl
@[go_sem] theorem fd_61_0 : fieldT Try.prog 61 0 = some { name := "Nodes", type := 3, offset := 0, embedded := false, tag := "", pkgPath := "", byteOffset := 0 } := by rw [fieldT, Try.underlying61]; rfl
@[go_sem] theorem fd_61_1 : fieldT Try.prog 61 1 = some { name := "Edges", type := 59, offset := 1, embedded := false, tag := "", pkgPath := "", byteOffset := 8 } := by rw [fieldT, Try.underlying61]; rfl
@[go_sem] theorem ze_61 : zeroC Try.prog 61 = some [(.v (.int .i64 0)), .emp] := by rw [zeroC, info_61]; rfl
@[go_sem] theorem info_66 : Try.prog.info? 66 = some Try.t66 := info_of Try.types_size (by decide) Try.type66
@[go_sem] theorem tz_66 : Try.t66.size = 1 := rfl
@[go_sem] theorem tb_66 : Try.t66.bytes = 24 := rfl
@[go_sem] theorem sz_66 : szOf Try.prog 66 = some 1 := by rw [szOf, info_66]; rfl
@[go_sem] theorem ag_66 : isAggT Try.prog 66 = some false := by rw [isAggT, Try.underlying66]; rfl
@[go_sem] theorem el_66 : elemT Try.prog 66 = some 115 := by rw [elemT, Try.underlying66]
@[go_sem] theorem ze_66 : zeroC Try.prog 66 = some [.emp] := by rw [zeroC, info_66]; rfl
@[go_sem] theorem info_92 : Try.prog.info? 92 = some Try.t92 := info_of Try.types_size (by decide) Try.type92
@[go_sem] theorem tz_92 : Try.t92.size = 1 := rfl
@[go_sem] theorem tb_92 : Try.t92.bytes = 24 := rfl
@[go_sem] theorem sz_92 : szOf Try.prog 92 = some 1 := by rw [szOf, info_92]; rfl
@[go_sem] theorem ag_92 : isAggT Try.prog 92 = some false := by rw [isAggT, Try.underlying92]; rfl
@[go_sem] theorem el_92 : elemT Try.prog 92 = some 152 := by rw [elemT, Try.underlying92]
@[go_sem] theorem ze_92 : zeroC Try.prog 92 = some [.emp] := by rw [zeroC, info_92]; rfl
@[go_sem] theorem info_94 : Try.prog.info? 94 = some Try.t94 := info_of Try.types_size (by decide) Try.type94
@[go_sem] theorem tz_94 : Try.t94.size = 3 := rfl
@[go_sem] theorem tb_94 : Try.t94.bytes = 72 := rfl
@[go_sem] theorem sz_94 : szOf Try.prog 94 = some 3 := by rw [szOf, info_94]; rfl
@[go_sem] theorem ag_94 : isAggT Try.prog 94 = some true := by rw [isAggT, Try.underlying94]; rfl
@[go_sem] theorem fd_94_0 : fieldT Try.prog 94 0 = some { name := "Parents", type := 49, offset := 0, embedded := false, tag := "", pkgPath := "", byteOffset := 0 } := by rw [fieldT, Try.underlying94]; rfl
@[go_sem] theorem fd_94_1 : fieldT Try.prog 94 1 = some { name := "Sizes", type := 49, offset := 1, embedded := false, tag := "", pkgPath := "", byteOffset := 24 } := by rw [fieldT, Try.underlying94]; rfl
@[go_sem] theorem fd_94_2 : fieldT Try.prog 94 2 = some { name := "Steps", type := 92, offset := 2, embedded := false, tag := "", pkgPath := "", byteOffset := 48 } := by rw [fieldT, Try.underlying94]; rfl
@[go_sem] theorem ze_94 : zeroC Try.prog 94 = some [.emp, .emp, .emp] := by rw [zeroC, info_94]; rfl
@[go_sem] theorem info_99 : Try.prog.info? 99 = some Try.t99 := info_of Try.types_size (by decide) Try.type99
@[go_sem] theorem tz_99 : Try.t99.size = 3 := rfl
@[go_sem] theorem tb_99 : Try.t99.bytes = 24 := rfl
@[go_sem] theorem sz_99 : szOf Try.prog 99 = some 3 := by rw [szOf, info_99]; rfl
@[go_sem] theorem ag_99 : isAggT Try.prog 99 = some true := by rw [isAggT, Try.underlying99]; rfl
@[go_sem] theorem fd_99_0 : fieldT Try.prog 99 0 = some { name := "Kind", type := 3, offset := 0, embedded := false, tag := "", pkgPath := "", byteOffset := 0 } := by rw [fieldT, Try.underlying99]; rfl
@[go_sem] theorem fd_99_1 : fieldT Try.prog 99 1 = some { name := "Edge", type := 37, offset := 1, embedded := false, tag := "", pkgPath := "", byteOffset := 8 } := by rw [fieldT, Try.underlying99]; rfl
@[go_sem] theorem ze_99 : zeroC Try.prog 99 = some [(.v (.int .i64 0)), (.v (.int .i64 0)), (.v (.int .i64 0))] := by rw [zeroC, info_99]; rfl
@[go_sem] theorem info_101 : Try.prog.info? 101 = some Try.t101 := info_of Try.types_size (by decide) Try.type101
@[go_sem] theorem tz_101 : Try.t101.size = 1 := rfl
@[go_sem] theorem tb_101 : Try.t101.bytes = 8 := rfl
@[go_sem] theorem sz_101 : szOf Try.prog 101 = some 1 := by rw [szOf, info_101]; rfl
@[go_sem] theorem ag_101 : isAggT Try.prog 101 = some false := by rw [isAggT, Try.underlying101]; rfl
@[go_sem] theorem info_106 : Try.prog.info? 106 = some Try.t106 := info_of Try.types_size (by decide) Try.type106
@[go_sem] theorem tz_106 : Try.t106.size = 1 := rfl
@[go_sem] theorem tb_106 : Try.t106.bytes = 8 := rfl
@[go_sem] theorem sz_106 : szOf Try.prog 106 = some 1 := by rw [szOf, info_106]; rfl
@[go_sem] theorem ag_106 : isAggT Try.prog 106 = some false := by rw [isAggT, Try.underlying106]; rfl
@[go_sem] theorem info_107 : Try.prog.info? 107 = some Try.t107 := info_of Try.types_size (by decide) Try.type107
@[go_sem] theorem tz_107 : Try.t107.size = 1 := rfl
@[go_sem] theorem tb_107 : Try.t107.bytes = 8 := rfl
@[go_sem] theorem sz_107 : szOf Try.prog 107 = some 1 := by rw [szOf, info_107]; rfl
@[go_sem] theorem ag_107 : isAggT Try.prog 107 = some false := by rw [isAggT, Try.underlying107]; rfl
@[go_sem] theorem info_113 : Try.prog.info? 113 = some Try.t113 := info_of Try.types_size (by decide) Try.type113
@[go_sem] theorem tz_113 : Try.t113.size = 2 := rfl
@[go_sem] theorem tb_113 : Try.t113.bytes = 16 := rfl
@[go_sem] theorem sz_113 : szOf Try.prog 113 = some 2 := by rw [szOf, info_113]; rfl
@[go_sem] theorem ag_113 : isAggT Try.prog 113 = some true := by rw [isAggT, Try.underlying113]; rfl
@[go_sem] theorem fd_113_0 : fieldT Try.prog 113 0 = some { name := "A", type := 3, offset := 0, embedded := false, tag := "", pkgPath := "", byteOffset := 0 } := by rw [fieldT, Try.underlying113]; rfl
@[go_sem] theorem fd_113_1 : fieldT Try.prog 113 1 = some { name := "B", type := 3, offset := 1, embedded := false, tag := "", pkgPath := "", byteOffset := 8 } := by rw [fieldT, Try.underlying113]; rfl
@[go_sem] theorem ze_113 : zeroC Try.prog 113 = some [(.v (.int .i64 0)), (.v (.int .i64 0))] := by rw [zeroC, info_113]; rfl
@[go_sem] theorem fs_113 : flatS Try.prog 113 2 = true := by simp [flatS, Try.underlying113, Try.stoodInHeld113, Try.eqGuardType113, Try.underlying3]
@[go_sem] theorem info_115 : Try.prog.info? 115 = some Try.t115 := info_of Try.types_size (by decide) Try.type115
@[go_sem] theorem tz_115 : Try.t115.size = 3 := rfl
@[go_sem] theorem tb_115 : Try.t115.bytes = 24 := rfl
@[go_sem] theorem sz_115 : szOf Try.prog 115 = some 3 := by rw [szOf, info_115]; rfl
@[go_sem] theorem ag_115 : isAggT Try.prog 115 = some true := by rw [isAggT, Try.underlying115]; rfl
@[go_sem] theorem fd_115_0 : fieldT Try.prog 115 0 = some { name := "Kind", type := 3, offset := 0, embedded := false, tag := "", pkgPath := "", byteOffset := 0 } := by rw [fieldT, Try.underlying115]; rfl
@[go_sem] theorem fd_115_1 : fieldT Try.prog 115 1 = some { name := "Edge", type := 113, offset := 1, embedded := false, tag := "", pkgPath := "", byteOffset := 8 } := by rw [fieldT, Try.underlying115]; rfl
@[go_sem] theorem ze_115 : zeroC Try.prog 115 = some [(.v (.int .i64 0)), (.v (.int .i64 0)), (.v (.int .i64 0))] := by rw [zeroC, info_115]; rfl
@[go_sem] theorem info_122 : Try.prog.info? 122 = some Try.t122 := info_of Try.types_size (by decide) Try.type122
@[go_sem] theorem tz_122 : Try.t122.size = 1 := rfl
@[go_sem] theorem tb_122 : Try.t122.bytes = 8 := rfl
@[go_sem] theorem sz_122 : szOf Try.prog 122 = some 1 := by rw [szOf, info_122]; rfl
@[go_sem] theorem ag_122 : isAggT Try.prog 122 = some false := by rw [isAggT, Try.underlying122]; rfl
@[go_sem] theorem ze_122 : zeroC Try.prog 122 = some [(.v (.pointer none))] := by rw [zeroC, info_122]; rfl
@[go_sem] theorem info_146 : Try.prog.info? 146 = some Try.t146 := info_of Try.types_size (by decide) Try.type146
@[go_sem] theorem tz_146 : Try.t146.size = 2 := rfl
@[go_sem] theorem tb_146 : Try.t146.bytes = 32 := rfl
@[go_sem] theorem sz_146 : szOf Try.prog 146 = some 2 := by rw [szOf, info_146]; rfl
@[go_sem] theorem ag_146 : isAggT Try.prog 146 = some true := by rw [isAggT, Try.underlying146]; rfl
@[go_sem] theorem fd_146_0 : fieldT Try.prog 146 0 = some (fld Try.prog 146 0) := by rw [fld, fieldT, Try.underlying146]; rfl
@[go_sem] theorem fo_146_0 : (fld Try.prog 146 0).offset = 0 := by rw [fld, fieldT, Try.underlying146]; rfl
@[go_sem] theorem ft_146_0 : (fld Try.prog 146 0).type = 22 := by rw [fld, fieldT, Try.underlying146]; rfl
@[go_sem] theorem fd_146_1 : fieldT Try.prog 146 1 = some (fld Try.prog 146 1) := by rw [fld, fieldT, Try.underlying146]; rfl
@[go_sem] theorem fo_146_1 : (fld Try.prog 146 1).offset = 1 := by rw [fld, fieldT, Try.underlying146]; rfl
@[go_sem] theorem ft_146_1 : (fld Try.prog 146 1).type = 3 := by rw [fld, fieldT, Try.underlying146]; rfl
@[go_sem] theorem ze_146 : zeroC Try.prog 146 = some [.emp, (.v (.int .i64 0))] := by rw [zeroC, info_146]; rfl
@[go_sem] theorem info_152 : Try.prog.info? 152 = some Try.t152 := info_of Try.types_size (by decide) Try.type152
@[go_sem] theorem tz_152 : Try.t152.size = 2 := rfl
@[go_sem] theorem tb_152 : Try.t152.bytes = 16 := rfl
@[go_sem] theorem sz_152 : szOf Try.prog 152 = some 2 := by rw [szOf, info_152]; rfl
@[go_sem] theorem ag_152 : isAggT Try.prog 152 = some true := by rw [isAggT, Try.underlying152]; rfl
@[go_sem] theorem fd_152_0 : fieldT Try.prog 152 0 = some { name := "Child", type := 3, offset := 0, embedded := false, tag := "", pkgPath := "", byteOffset := 0 } := by rw [fieldT, Try.underlying152]; rfl
@[go_sem] theorem fd_152_1 : fieldT Try.prog 152 1 = some { name := "Root", type := 3, offset := 1, embedded := false, tag := "", pkgPath := "", byteOffset := 8 } := by rw [fieldT, Try.underlying152]; rfl
@[go_sem] theorem ze_152 : zeroC Try.prog 152 = some [(.v (.int .i64 0)), (.v (.int .i64 0))] := by rw [zeroC, info_152]; rfl
@[go_sem] theorem fs_152 : flatS Try.prog 152 2 = true := by simp [flatS, Try.underlying152, Try.stoodInHeld152, Try.eqGuardType152, Try.underlying3]
@[go_sem] theorem info_161 : Try.prog.info? 161 = some Try.t161 := info_of Try.types_size (by decide) Try.type161
@[go_sem] theorem tz_161 : Try.t161.size = 1 := rfl
@[go_sem] theorem tb_161 : Try.t161.bytes = 8 := rfl
@[go_sem] theorem sz_161 : szOf Try.prog 161 = some 1 := by rw [szOf, info_161]; rfl
@[go_sem] theorem ag_161 : isAggT Try.prog 161 = some false := by rw [isAggT, Try.underlying161]; rfl
@[go_sem] theorem ze_161 : zeroC Try.prog 161 = some [(.v (.int .u64 0))] := by rw [zeroC, info_161]; rfl
@[go_sem] theorem info_162 : Try.prog.info? 162 = some Try.t162 := info_of Try.types_size (by decide) Try.type162
@[go_sem] theorem tz_162 : Try.t162.size = 1 := rfl
@[go_sem] theorem tb_162 : Try.t162.bytes = 8 := rfl
@[go_sem] theorem sz_162 : szOf Try.prog 162 = some 1 := by rw [szOf, info_162]; rfl
@[go_sem] theorem ag_162 : isAggT Try.prog 162 = some false := by rw [isAggT, Try.underlying162]; rfl
@[go_sem] theorem ze_162 : zeroC Try.prog 162 = some [(.v (.pointer none))] := by rw [zeroC, info_162]; rfl
@[go_sem] theorem info_169 : Try.prog.info? 169 = some Try.t169 := info_of Try.types_size (by decide) Try.type169
@[go_sem] theorem tz_169 : Try.t169.size = 1 := rfl
@[go_sem] theorem tb_169 : Try.t169.bytes = 8 := rfl
@[go_sem] theorem sz_169 : szOf Try.prog 169 = some 1 := by rw [szOf, info_169]; rfl
@[go_sem] theorem ag_169 : isAggT Try.prog 169 = some false := by rw [isAggT, Try.underlying169]; rfl
@[go_sem] theorem ze_169 : zeroC Try.prog 169 = some [(.v (.int .i64 0))] := by rw [zeroC, info_169]; rfl
@[go_sem] theorem info_176 : Try.prog.info? 176 = some Try.t176 := info_of Try.types_size (by decide) Try.type176
@[go_sem] theorem tz_176 : Try.t176.size = 1 := rfl
@[go_sem] theorem tb_176 : Try.t176.bytes = 4 := rfl
@[go_sem] theorem sz_176 : szOf Try.prog 176 = some 1 := by rw [szOf, info_176]; rfl
@[go_sem] theorem ag_176 : isAggT Try.prog 176 = some false := by rw [isAggT, Try.underlying176]; rfl
@[go_sem] theorem ze_176 : zeroC Try.prog 176 = some [(.v (.int .u32 0))] := by rw [zeroC, info_176]; rfl
@[go_sem] theorem info_178 : Try.prog.info? 178 = some Try.t178 := info_of Try.types_size (by decide) Try.type178
@[go_sem] theorem tz_178 : Try.t178.size = 1 := rfl
@[go_sem] theorem tb_178 : Try.t178.bytes = 8 := rfl
@[go_sem] theorem sz_178 : szOf Try.prog 178 = some 1 := by rw [szOf, info_178]; rfl
@[go_sem] theorem ag_178 : isAggT Try.prog 178 = some false := by rw [isAggT, Try.underlying178]; rfl
@[go_sem] theorem ze_178 : zeroC Try.prog 178 = some [(.v (.int .u64 0))] := by rw [zeroC, info_178]; rfl
@[go_sem] theorem info_183 : Try.prog.info? 183 = some Try.t183 := info_of Try.types_size (by decide) Try.type183
@[go_sem] theorem tz_183 : Try.t183.size = 1 := rfl
@[go_sem] theorem tb_183 : Try.t183.bytes = 8 := rfl
@[go_sem] theorem sz_183 : szOf Try.prog 183 = some 1 := by rw [szOf, info_183]; rfl
@[go_sem] theorem ag_183 : isAggT Try.prog 183 = some false := by rw [isAggT, Try.underlying183]; rfl
@[go_sem] theorem ze_183 : zeroC Try.prog 183 = some [(.v (.int .u64 0))] := by rw [zeroC, info_183]; rfl
@[go_sem] theorem info_187 : Try.prog.info? 187 = some Try.t187 := info_of Try.types_size (by decide) Try.type187
@[go_sem] theorem tz_187 : Try.t187.size = 1 := rfl
@[go_sem] theorem tb_187 : Try.t187.bytes = 8 := rfl
@[go_sem] theorem sz_187 : szOf Try.prog 187 = some 1 := by rw [szOf, info_187]; rfl
@[go_sem] theorem ag_187 : isAggT Try.prog 187 = some false := by rw [isAggT, Try.underlying187]; rfl
@[go_sem] theorem ze_187 : zeroC Try.prog 187 = some [(.v (.pointer none))] := by rw [zeroC, info_187]; rfl

/-- How calls are taken. -/
def mutL : List Nat := [66, 103, 104, 105, 110, 111, 115, 119, 120, 139, 142, 168, 171, 189]
def ownL : List (Nat × Nat) := [(64, 8), (72, 8), (81, 5), (96, 15), (99, 13), (107, 11), (109, 29), (111, 8), (112, 9)]
end Go.Proofs.Ytnobgdgnncfcpaa.X
