/- Facts of one program's tables. -/
import Derived.Test.YtflmjjfoeabnoaaEval
import Derived.Test.YtflmjjfoeabnoaaProg
namespace Go.Proofs.Ytflmjjfoeabnoaa.X
open Go Go.Proofs
set_option maxRecDepth 100000

attribute [go_sem] Try.underlying0 Try.underlying1 Try.underlying2 Try.underlying3 Try.underlying4 Try.underlying5 Try.underlying6 Try.underlying7 Try.underlying8 Try.underlying9 Try.underlying10 Try.underlying11 Try.underlying12 Try.underlying13 Try.underlying14 Try.underlying15 Try.underlying16 Try.underlying17 Try.underlying18 Try.underlying19 Try.underlying20 Try.underlying21 Try.underlying22 Try.underlying23 Try.underlying24 Try.underlying25 Try.underlying26 Try.underlying27 Try.underlying28 Try.underlying29 Try.underlying30 Try.underlying31 Try.underlying32 Try.underlying33 Try.underlying34 Try.underlying35 Try.underlying36 Try.underlying37 Try.underlying38 Try.underlying39 Try.underlying40 Try.underlying41 Try.underlying42 Try.underlying43 Try.underlying44 Try.underlying45 Try.underlying46 Try.underlying47 Try.underlying48 Try.underlying49 Try.underlying50 Try.underlying51 Try.underlying52 Try.underlying53 Try.underlying54 Try.underlying55 Try.underlying56 Try.underlying57 Try.underlying58 Try.underlying59 Try.underlying60 Try.underlying61 Try.underlying62 Try.underlying63 Try.underlying64 Try.underlying65 Try.underlying66 Try.underlying67 Try.underlying68 Try.underlying69 Try.underlying70 Try.underlying71 Try.underlying72 Try.underlying73 Try.underlying74 Try.underlying75 Try.underlying76 Try.underlying77 Try.underlying78 Try.underlying79 Try.underlying80 Try.underlying81 Try.underlying82 Try.underlying83 Try.underlying84 Try.underlying85 Try.underlying86 Try.underlying87 Try.underlying88 Try.underlying89 Try.underlying90 Try.underlying91 Try.underlying92 Try.underlying93 Try.underlying94 Try.underlying95 Try.underlying96 Try.underlying97 Try.underlying98 Try.underlying99 Try.underlying100 Try.underlying101 Try.underlying102 Try.underlying103 Try.underlying104 Try.underlying105 Try.underlying106 Try.underlying107 Try.underlying108 Try.underlying109 Try.underlying110 Try.underlying111 Try.underlying112 Try.underlying113 Try.underlying114 Try.underlying115 Try.underlying116 Try.underlying117 Try.underlying118 Try.underlying119 Try.underlying120 Try.underlying121 Try.underlying122 Try.underlying123 Try.underlying124 Try.underlying125 Try.underlying126 Try.underlying127 Try.underlying128 Try.underlying129 Try.underlying130 Try.underlying131 Try.underlying132 Try.underlying133 Try.underlying134 Try.underlying135 Try.underlying136 Try.underlying137 Try.underlying138 Try.underlying139 Try.underlying140 Try.underlying141 Try.underlying142 Try.underlying143 Try.underlying144 Try.underlying145 Try.underlying146 Try.underlying147 Try.underlying148 Try.underlying149 Try.underlying150 Try.underlying151 Try.underlying152 Try.underlying153 Try.underlying154 Try.underlying155 Try.underlying156 Try.underlying157 Try.underlying158 Try.underlying159 Try.underlying160 Try.underlying161 Try.underlying162 Try.underlying163 Try.underlying164 Try.underlying165 Try.underlying166 Try.underlying167 Try.underlying168 Try.underlying169 Try.underlying170 Try.underlying171 Try.underlying172 Try.underlying173 Try.underlying174 Try.underlying175 Try.underlying176 Try.underlying177 Try.underlying178 Try.underlying179 Try.underlying180 Try.underlying181 Try.underlying182 Try.underlying183 Try.underlying184 Try.underlying185 Try.underlying186 Try.underlying187 Try.underlying188 Try.underlying189 Try.underlying190

theorem info_of {P : Program} {t n : Nat} {i : TypeInfo} (h : P.types.size = n) (hl : t < n) (hi : P.types[t]? = some i) : P.info? t = some i := by
  unfold Tables.info?
  rw [if_pos (by rw [h]; exact hl)]
  exact hi
def zB (n : Nat) : List IV := List.replicate n (.v (.bool false))
def fld (P : Program) (t i : Nat) : Field := (fieldT P t i).getD ⟨ "", 0, 0, false, "", "", 0⟩

@[go_sem] theorem info_3 : Try.prog.info? 3 = some Try.t3 := info_of Try.types_size (by decide) Try.type3
@[go_sem] theorem tz_3 : Try.t3.size = 1 := rfl
@[go_sem] theorem tb_3 : Try.t3.bytes = 8 := rfl
@[go_sem] theorem sz_3 : szOf Try.prog 3 = some 1 := by rw [szOf, info_3]; rfl
@[go_sem] theorem ag_3 : isAggT Try.prog 3 = some false := by rw [isAggT, Try.underlying3]; rfl
@[go_sem] theorem ze_3 : zeroC Try.prog 3 = some [(.v (.int .i64 0))] := by rw [zeroC, info_3]; rfl
@[go_sem] theorem info_4 : Try.prog.info? 4 = some Try.t4 := info_of Try.types_size (by decide) Try.type4
@[go_sem] theorem tz_4 : Try.t4.size = 1 := rfl
@[go_sem] theorem tb_4 : Try.t4.bytes = 1 := rfl
@[go_sem] theorem sz_4 : szOf Try.prog 4 = some 1 := by rw [szOf, info_4]; rfl
@[go_sem] theorem ag_4 : isAggT Try.prog 4 = some false := by rw [isAggT, Try.underlying4]; rfl
@[go_sem] theorem ze_4 : zeroC Try.prog 4 = some [(.v (.bool false))] := by rw [zeroC, info_4]; rfl
@[go_sem] theorem info_5 : Try.prog.info? 5 = some Try.t5 := info_of Try.types_size (by decide) Try.type5
@[go_sem] theorem tz_5 : Try.t5.size = 1 := rfl
@[go_sem] theorem tb_5 : Try.t5.bytes = 1 := rfl
@[go_sem] theorem sz_5 : szOf Try.prog 5 = some 1 := by rw [szOf, info_5]; rfl
@[go_sem] theorem ag_5 : isAggT Try.prog 5 = some false := by rw [isAggT, Try.underlying5]; rfl
@[go_sem] theorem ze_5 : zeroC Try.prog 5 = some [(.v (.int .u8 0))] := by rw [zeroC, info_5]; rfl
@[go_sem] theorem info_9 : Try.prog.info? 9 = some Try.t9 := info_of Try.types_size (by decide) Try.type9
@[go_sem] theorem tz_9 : Try.t9.size = 1 := rfl
@[go_sem] theorem tb_9 : Try.t9.bytes = 16 := rfl
@[go_sem] theorem sz_9 : szOf Try.prog 9 = some 1 := by rw [szOf, info_9]; rfl
@[go_sem] theorem ag_9 : isAggT Try.prog 9 = some false := by rw [isAggT, Try.underlying9]; rfl
@[go_sem] theorem ze_9 : zeroC Try.prog 9 = some [(.v (.string ⟨#[]⟩))] := by rw [zeroC, info_9]; rfl
@[go_sem] theorem info_22 : Try.prog.info? 22 = some Try.t22 := info_of Try.types_size (by decide) Try.type22
@[go_sem] theorem tz_22 : Try.t22.size = 1 := rfl
@[go_sem] theorem tb_22 : Try.t22.bytes = 24 := rfl
@[go_sem] theorem sz_22 : szOf Try.prog 22 = some 1 := by rw [szOf, info_22]; rfl
@[go_sem] theorem ag_22 : isAggT Try.prog 22 = some false := by rw [isAggT, Try.underlying22]; rfl
@[go_sem] theorem el_22 : elemT Try.prog 22 = some 5 := by rw [elemT, Try.underlying22]
@[go_sem] theorem ze_22 : zeroC Try.prog 22 = some [.emp] := by rw [zeroC, info_22]; rfl
@[go_sem] theorem info_23 : Try.prog.info? 23 = some Try.t23 := info_of Try.types_size (by decide) Try.type23
@[go_sem] theorem tz_23 : Try.t23.size = 1 := rfl
@[go_sem] theorem tb_23 : Try.t23.bytes = 24 := rfl
@[go_sem] theorem sz_23 : szOf Try.prog 23 = some 1 := by rw [szOf, info_23]; rfl
@[go_sem] theorem ag_23 : isAggT Try.prog 23 = some false := by rw [isAggT, Try.underlying23]; rfl
@[go_sem] theorem el_23 : elemT Try.prog 23 = some 46 := by rw [elemT, Try.underlying23]
@[go_sem] theorem ze_23 : zeroC Try.prog 23 = some [.emp] := by rw [zeroC, info_23]; rfl
@[go_sem] theorem info_25 : Try.prog.info? 25 = some Try.t25 := info_of Try.types_size (by decide) Try.type25
@[go_sem] theorem tz_25 : Try.t25.size = 2 := rfl
@[go_sem] theorem tb_25 : Try.t25.bytes = 32 := rfl
@[go_sem] theorem sz_25 : szOf Try.prog 25 = some 2 := by rw [szOf, info_25]; rfl
@[go_sem] theorem ag_25 : isAggT Try.prog 25 = some true := by rw [isAggT, Try.underlying25]; rfl
@[go_sem] theorem fd_25_0 : fieldT Try.prog 25 0 = some { name := "Nodes", type := 3, offset := 0, embedded := false, tag := "", pkgPath := "", byteOffset := 0 } := by rw [fieldT, Try.underlying25]; rfl
@[go_sem] theorem fd_25_1 : fieldT Try.prog 25 1 = some { name := "Edges", type := 23, offset := 1, embedded := false, tag := "", pkgPath := "", byteOffset := 8 } := by rw [fieldT, Try.underlying25]; rfl
@[go_sem] theorem ze_25 : zeroC Try.prog 25 = some [(.v (.int .i64 0)), .emp] := by rw [zeroC, info_25]; rfl
@[go_sem] theorem info_26 : Try.prog.info? 26 = some Try.t26 := info_of Try.types_size (by decide) Try.type26
@[go_sem] theorem tz_26 : Try.t26.size = 1 := rfl
@[go_sem] theorem tb_26 : Try.t26.bytes = 24 := rfl
@[go_sem] theorem sz_26 : szOf Try.prog 26 = some 1 := by rw [szOf, info_26]; rfl
@[go_sem] theorem ag_26 : isAggT Try.prog 26 = some false := by rw [isAggT, Try.underlying26]; rfl
@[go_sem] theorem el_26 : elemT Try.prog 26 = some 3 := by rw [elemT, Try.underlying26]
@[go_sem] theorem ze_26 : zeroC Try.prog 26 = some [.emp] := by rw [zeroC, info_26]; rfl
@[go_sem] theorem info_46 : Try.prog.info? 46 = some Try.t46 := info_of Try.types_size (by decide) Try.type46
@[go_sem] theorem tz_46 : Try.t46.size = 2 := rfl
@[go_sem] theorem tb_46 : Try.t46.bytes = 16 := rfl
@[go_sem] theorem sz_46 : szOf Try.prog 46 = some 2 := by rw [szOf, info_46]; rfl
@[go_sem] theorem ag_46 : isAggT Try.prog 46 = some true := by rw [isAggT, Try.underlying46]; rfl
@[go_sem] theorem fd_46_0 : fieldT Try.prog 46 0 = some { name := "A", type := 3, offset := 0, embedded := false, tag := "", pkgPath := "", byteOffset := 0 } := by rw [fieldT, Try.underlying46]; rfl
@[go_sem] theorem fd_46_1 : fieldT Try.prog 46 1 = some { name := "B", type := 3, offset := 1, embedded := false, tag := "", pkgPath := "", byteOffset := 8 } := by rw [fieldT, Try.underlying46]; rfl
@[go_sem] theorem ze_46 : zeroC Try.prog 46 = some [(.v (.int .i64 0)), (.v (.int .i64 0))] := by rw [zeroC, info_46]; rfl
@[go_sem] theorem fs_46 : flatS Try.prog 46 2 = true := by simp [flatS, Try.underlying46, Try.stoodInHeld46, Try.eqGuardType46, Try.underlying3]
@[go_sem] theorem info_49 : Try.prog.info? 49 = some Try.t49 := info_of Try.types_size (by decide) Try.type49
@[go_sem] theorem tz_49 : Try.t49.size = 1 := rfl
@[go_sem] theorem tb_49 : Try.t49.bytes = 24 := rfl
@[go_sem] theorem sz_49 : szOf Try.prog 49 = some 1 := by rw [szOf, info_49]; rfl
@[go_sem] theorem ag_49 : isAggT Try.prog 49 = some false := by rw [isAggT, Try.underlying49]; rfl
@[go_sem] theorem el_49 : elemT Try.prog 49 = some 26 := by rw [elemT, Try.underlying49]
@[go_sem] theorem ze_49 : zeroC Try.prog 49 = some [.emp] := by rw [zeroC, info_49]; rfl
@[go_sem] theorem info_57 : Try.prog.info? 57 = some Try.t57 := info_of Try.types_size (by decide) Try.type57
@[go_sem] theorem tz_57 : Try.t57.size = 1 := rfl
@[go_sem] theorem tb_57 : Try.t57.bytes = 24 := rfl
@[go_sem] theorem sz_57 : szOf Try.prog 57 = some 1 := by rw [szOf, info_57]; rfl
@[go_sem] theorem ag_57 : isAggT Try.prog 57 = some false := by rw [isAggT, Try.underlying57]; rfl
@[go_sem] theorem el_57 : elemT Try.prog 57 = some 133 := by rw [elemT, Try.underlying57]
@[go_sem] theorem ze_57 : zeroC Try.prog 57 = some [.emp] := by rw [zeroC, info_57]; rfl
@[go_sem] theorem info_59 : Try.prog.info? 59 = some Try.t59 := info_of Try.types_size (by decide) Try.type59
@[go_sem] theorem tz_59 : Try.t59.size = 2 := rfl
@[go_sem] theorem tb_59 : Try.t59.bytes = 32 := rfl
@[go_sem] theorem sz_59 : szOf Try.prog 59 = some 2 := by rw [szOf, info_59]; rfl
@[go_sem] theorem ag_59 : isAggT Try.prog 59 = some true := by rw [isAggT, Try.underlying59]; rfl
@[go_sem] theorem fd_59_0 : fieldT Try.prog 59 0 = some { name := "Nodes", type := 3, offset := 0, embedded := false, tag := "", pkgPath := "", byteOffset := 0 } := by rw [fieldT, Try.underlying59]; rfl
@[go_sem] theorem fd_59_1 : fieldT Try.prog 59 1 = some { name := "Edges", type := 57, offset := 1, embedded := false, tag := "", pkgPath := "", byteOffset := 8 } := by rw [fieldT, Try.underlying59]; rfl
@[go_sem] theorem ze_59 : zeroC Try.prog 59 = some [(.v (.int .i64 0)), .emp] := by rw [zeroC, info_59]; rfl
@[go_sem] theorem info_71 : Try.prog.info? 71 = some Try.t71 := info_of Try.types_size (by decide) Try.type71
@[go_sem] theorem tz_71 : Try.t71.size = 1 := rfl
@[go_sem] theorem tb_71 : Try.t71.bytes = 8 := rfl
@[go_sem] theorem sz_71 : szOf Try.prog 71 = some 1 := by rw [szOf, info_71]; rfl
@[go_sem] theorem ag_71 : isAggT Try.prog 71 = some false := by rw [isAggT, Try.underlying71]; rfl
@[go_sem] theorem ze_71 : zeroC Try.prog 71 = some [(.v (.pointer none))] := by rw [zeroC, info_71]; rfl
@[go_sem] theorem info_77 : Try.prog.info? 77 = some Try.t77 := info_of Try.types_size (by decide) Try.type77
@[go_sem] theorem tz_77 : Try.t77.size = 1 := rfl
@[go_sem] theorem tb_77 : Try.t77.bytes = 24 := rfl
@[go_sem] theorem sz_77 : szOf Try.prog 77 = some 1 := by rw [szOf, info_77]; rfl
@[go_sem] theorem ag_77 : isAggT Try.prog 77 = some false := by rw [isAggT, Try.underlying77]; rfl
@[go_sem] theorem el_77 : elemT Try.prog 77 = some 4 := by rw [elemT, Try.underlying77]
@[go_sem] theorem ze_77 : zeroC Try.prog 77 = some [.emp] := by rw [zeroC, info_77]; rfl
@[go_sem] theorem info_79 : Try.prog.info? 79 = some Try.t79 := info_of Try.types_size (by decide) Try.type79
@[go_sem] theorem tz_79 : Try.t79.size = 1 := rfl
@[go_sem] theorem tb_79 : Try.t79.bytes = 8 := rfl
@[go_sem] theorem sz_79 : szOf Try.prog 79 = some 1 := by rw [szOf, info_79]; rfl
@[go_sem] theorem ag_79 : isAggT Try.prog 79 = some false := by rw [isAggT, Try.underlying79]; rfl
@[go_sem] theorem info_80 : Try.prog.info? 80 = some Try.t80 := info_of Try.types_size (by decide) Try.type80
@[go_sem] theorem tz_80 : Try.t80.size = 1 := rfl
@[go_sem] theorem tb_80 : Try.t80.bytes = 8 := rfl
@[go_sem] theorem sz_80 : szOf Try.prog 80 = some 1 := by rw [szOf, info_80]; rfl
@[go_sem] theorem ag_80 : isAggT Try.prog 80 = some false := by rw [isAggT, Try.underlying80]; rfl
@[go_sem] theorem info_81 : Try.prog.info? 81 = some Try.t81 := info_of Try.types_size (by decide) Try.type81
@[go_sem] theorem tz_81 : Try.t81.size = 16 := rfl
@[go_sem] theorem tb_81 : Try.t81.bytes = 16 := rfl
@[go_sem] theorem sz_81 : szOf Try.prog 81 = some 16 := by rw [szOf, info_81]; rfl
@[go_sem] theorem ag_81 : isAggT Try.prog 81 = some true := by rw [isAggT, Try.underlying81]; rfl
@[go_sem] theorem ze_81 : zeroC Try.prog 81 = some (zB 16) := by rw [zeroC, info_81]; rfl
@[go_sem] theorem info_83 : Try.prog.info? 83 = some Try.t83 := info_of Try.types_size (by decide) Try.type83
@[go_sem] theorem tz_83 : Try.t83.size = 256 := rfl
@[go_sem] theorem tb_83 : Try.t83.bytes = 256 := rfl
@[go_sem] theorem sz_83 : szOf Try.prog 83 = some 256 := by rw [szOf, info_83]; rfl
@[go_sem] theorem ag_83 : isAggT Try.prog 83 = some true := by rw [isAggT, Try.underlying83]; rfl
@[go_sem] theorem ze_83 : zeroC Try.prog 83 = some (zB 256) := by rw [zeroC, info_83]; rfl
@[go_sem] theorem info_87 : Try.prog.info? 87 = some Try.t87 := info_of Try.types_size (by decide) Try.type87
@[go_sem] theorem tz_87 : Try.t87.size = 2 := rfl
@[go_sem] theorem tb_87 : Try.t87.bytes = 48 := rfl
@[go_sem] theorem sz_87 : szOf Try.prog 87 = some 2 := by rw [szOf, info_87]; rfl
@[go_sem] theorem ag_87 : isAggT Try.prog 87 = some true := by rw [isAggT, Try.underlying87]; rfl
@[go_sem] theorem fd_87_0 : fieldT Try.prog 87 0 = some (fld Try.prog 87 0) := by rw [fld, fieldT, Try.underlying87]; rfl
@[go_sem] theorem fo_87_0 : (fld Try.prog 87 0).offset = 0 := by rw [fld, fieldT, Try.underlying87]; rfl
@[go_sem] theorem ft_87_0 : (fld Try.prog 87 0).type = 26 := by rw [fld, fieldT, Try.underlying87]; rfl
@[go_sem] theorem fd_87_1 : fieldT Try.prog 87 1 = some (fld Try.prog 87 1) := by rw [fld, fieldT, Try.underlying87]; rfl
@[go_sem] theorem fo_87_1 : (fld Try.prog 87 1).offset = 1 := by rw [fld, fieldT, Try.underlying87]; rfl
@[go_sem] theorem ft_87_1 : (fld Try.prog 87 1).type = 26 := by rw [fld, fieldT, Try.underlying87]; rfl
@[go_sem] theorem ze_87 : zeroC Try.prog 87 = some [.emp, .emp] := by rw [zeroC, info_87]; rfl
@[go_sem] theorem info_105 : Try.prog.info? 105 = some Try.t105 := info_of Try.types_size (by decide) Try.type105
@[go_sem] theorem tz_105 : Try.t105.size = 1 := rfl
@[go_sem] theorem tb_105 : Try.t105.bytes = 8 := rfl
@[go_sem] theorem sz_105 : szOf Try.prog 105 = some 1 := by rw [szOf, info_105]; rfl
@[go_sem] theorem ag_105 : isAggT Try.prog 105 = some false := by rw [isAggT, Try.underlying105]; rfl
@[go_sem] theorem info_112 : Try.prog.info? 112 = some Try.t112 := info_of Try.types_size (by decide) Try.type112
@[go_sem] theorem tz_112 : Try.t112.size = 1 := rfl
@[go_sem] theorem tb_112 : Try.t112.bytes = 24 := rfl
@[go_sem] theorem sz_112 : szOf Try.prog 112 = some 1 := by rw [szOf, info_112]; rfl
@[go_sem] theorem ag_112 : isAggT Try.prog 112 = some false := by rw [isAggT, Try.underlying112]; rfl
@[go_sem] theorem el_112 : elemT Try.prog 112 = some 23 := by rw [elemT, Try.underlying112]
@[go_sem] theorem ze_112 : zeroC Try.prog 112 = some [.emp] := by rw [zeroC, info_112]; rfl
@[go_sem] theorem info_119 : Try.prog.info? 119 = some Try.t119 := info_of Try.types_size (by decide) Try.type119
@[go_sem] theorem tz_119 : Try.t119.size = 2 := rfl
@[go_sem] theorem tb_119 : Try.t119.bytes = 32 := rfl
@[go_sem] theorem sz_119 : szOf Try.prog 119 = some 2 := by rw [szOf, info_119]; rfl
@[go_sem] theorem ag_119 : isAggT Try.prog 119 = some true := by rw [isAggT, Try.underlying119]; rfl
@[go_sem] theorem fd_119_0 : fieldT Try.prog 119 0 = some (fld Try.prog 119 0) := by rw [fld, fieldT, Try.underlying119]; rfl
@[go_sem] theorem fo_119_0 : (fld Try.prog 119 0).offset = 0 := by rw [fld, fieldT, Try.underlying119]; rfl
@[go_sem] theorem ft_119_0 : (fld Try.prog 119 0).type = 22 := by rw [fld, fieldT, Try.underlying119]; rfl
@[go_sem] theorem fd_119_1 : fieldT Try.prog 119 1 = some (fld Try.prog 119 1) := by rw [fld, fieldT, Try.underlying119]; rfl
@[go_sem] theorem fo_119_1 : (fld Try.prog 119 1).offset = 1 := by rw [fld, fieldT, Try.underlying119]; rfl
@[go_sem] theorem ft_119_1 : (fld Try.prog 119 1).type = 3 := by rw [fld, fieldT, Try.underlying119]; rfl
@[go_sem] theorem ze_119 : zeroC Try.prog 119 = some [.emp, (.v (.int .i64 0))] := by rw [zeroC, info_119]; rfl
@[go_sem] theorem info_127 : Try.prog.info? 127 = some Try.t127 := info_of Try.types_size (by decide) Try.type127
@[go_sem] theorem tz_127 : Try.t127.size = 1 := rfl
@[go_sem] theorem tb_127 : Try.t127.bytes = 8 := rfl
@[go_sem] theorem sz_127 : szOf Try.prog 127 = some 1 := by rw [szOf, info_127]; rfl
@[go_sem] theorem ag_127 : isAggT Try.prog 127 = some false := by rw [isAggT, Try.underlying127]; rfl
@[go_sem] theorem ze_127 : zeroC Try.prog 127 = some [(.v (.int .u64 0))] := by rw [zeroC, info_127]; rfl
@[go_sem] theorem info_133 : Try.prog.info? 133 = some Try.t133 := info_of Try.types_size (by decide) Try.type133
@[go_sem] theorem tz_133 : Try.t133.size = 2 := rfl
@[go_sem] theorem tb_133 : Try.t133.bytes = 16 := rfl
@[go_sem] theorem sz_133 : szOf Try.prog 133 = some 2 := by rw [szOf, info_133]; rfl
@[go_sem] theorem ag_133 : isAggT Try.prog 133 = some true := by rw [isAggT, Try.underlying133]; rfl
@[go_sem] theorem fd_133_0 : fieldT Try.prog 133 0 = some { name := "A", type := 3, offset := 0, embedded := false, tag := "", pkgPath := "", byteOffset := 0 } := by rw [fieldT, Try.underlying133]; rfl
@[go_sem] theorem fd_133_1 : fieldT Try.prog 133 1 = some { name := "B", type := 3, offset := 1, embedded := false, tag := "", pkgPath := "", byteOffset := 8 } := by rw [fieldT, Try.underlying133]; rfl
@[go_sem] theorem ze_133 : zeroC Try.prog 133 = some [(.v (.int .i64 0)), (.v (.int .i64 0))] := by rw [zeroC, info_133]; rfl
@[go_sem] theorem fs_133 : flatS Try.prog 133 2 = true := by simp [flatS, Try.underlying133, Try.stoodInHeld133, Try.eqGuardType133, Try.underlying3]
@[go_sem] theorem info_142 : Try.prog.info? 142 = some Try.t142 := info_of Try.types_size (by decide) Try.type142
@[go_sem] theorem tz_142 : Try.t142.size = 1 := rfl
@[go_sem] theorem tb_142 : Try.t142.bytes = 8 := rfl
@[go_sem] theorem sz_142 : szOf Try.prog 142 = some 1 := by rw [szOf, info_142]; rfl
@[go_sem] theorem ag_142 : isAggT Try.prog 142 = some false := by rw [isAggT, Try.underlying142]; rfl
@[go_sem] theorem ze_142 : zeroC Try.prog 142 = some [(.v (.int .i64 0))] := by rw [zeroC, info_142]; rfl
@[go_sem] theorem info_149 : Try.prog.info? 149 = some Try.t149 := info_of Try.types_size (by decide) Try.type149
@[go_sem] theorem tz_149 : Try.t149.size = 1 := rfl
@[go_sem] theorem tb_149 : Try.t149.bytes = 4 := rfl
@[go_sem] theorem sz_149 : szOf Try.prog 149 = some 1 := by rw [szOf, info_149]; rfl
@[go_sem] theorem ag_149 : isAggT Try.prog 149 = some false := by rw [isAggT, Try.underlying149]; rfl
@[go_sem] theorem ze_149 : zeroC Try.prog 149 = some [(.v (.int .u32 0))] := by rw [zeroC, info_149]; rfl
@[go_sem] theorem info_151 : Try.prog.info? 151 = some Try.t151 := info_of Try.types_size (by decide) Try.type151
@[go_sem] theorem tz_151 : Try.t151.size = 1 := rfl
@[go_sem] theorem tb_151 : Try.t151.bytes = 8 := rfl
@[go_sem] theorem sz_151 : szOf Try.prog 151 = some 1 := by rw [szOf, info_151]; rfl
@[go_sem] theorem ag_151 : isAggT Try.prog 151 = some false := by rw [isAggT, Try.underlying151]; rfl
@[go_sem] theorem ze_151 : zeroC Try.prog 151 = some [(.v (.int .u64 0))] := by rw [zeroC, info_151]; rfl
@[go_sem] theorem info_162 : Try.prog.info? 162 = some Try.t162 := info_of Try.types_size (by decide) Try.type162
@[go_sem] theorem tz_162 : Try.t162.size = 1 := rfl
@[go_sem] theorem tb_162 : Try.t162.bytes = 8 := rfl
@[go_sem] theorem sz_162 : szOf Try.prog 162 = some 1 := by rw [szOf, info_162]; rfl
@[go_sem] theorem ag_162 : isAggT Try.prog 162 = some false := by rw [isAggT, Try.underlying162]; rfl
@[go_sem] theorem ze_162 : zeroC Try.prog 162 = some [(.v (.int .u64 0))] := by rw [zeroC, info_162]; rfl
@[go_sem] theorem info_166 : Try.prog.info? 166 = some Try.t166 := info_of Try.types_size (by decide) Try.type166
@[go_sem] theorem tz_166 : Try.t166.size = 1 := rfl
@[go_sem] theorem tb_166 : Try.t166.bytes = 8 := rfl
@[go_sem] theorem sz_166 : szOf Try.prog 166 = some 1 := by rw [szOf, info_166]; rfl
@[go_sem] theorem ag_166 : isAggT Try.prog 166 = some false := by rw [isAggT, Try.underlying166]; rfl
@[go_sem] theorem ze_166 : zeroC Try.prog 166 = some [(.v (.pointer none))] := by rw [zeroC, info_166]; rfl

/-- How calls are taken. -/
def mutL : List Nat := [49, 50, 53, 61, 62, 63, 64, 85, 97, 102, 106, 128, 142, 143, 173, 176, 197]
def ownL : List (Nat × Nat) := [(11, 20), (11, 27), (11, 32), (11, 45), (12, 25), (12, 32), (12, 37), (12, 51), (12, 83), (12, 86), (13, 25), (13, 32), (13, 37), (13, 51), (13, 83), (13, 86), (15, 9), (26, 5), (31, 28), (44, 29), (46, 9), (64, 8), (65, 7), (71, 10), (76, 15), (83, 16), (103, 6), (113, 9), (117, 15), (117, 19), (118, 8)]
end Go.Proofs.Ytflmjjfoeabnoaa.X
