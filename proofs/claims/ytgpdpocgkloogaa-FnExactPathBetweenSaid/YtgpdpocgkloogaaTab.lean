/- Facts of one program's tables. -/
import Derived.Test.YtgpdpocgkloogaaEval
import Derived.Test.YtgpdpocgkloogaaProg
namespace Go.Proofs.Ytgpdpocgkloogaa.X
open Go Go.Proofs
set_option maxRecDepth 100000

attribute [go_sem] Try.underlying0 Try.underlying1 Try.underlying2 Try.underlying3 Try.underlying4 Try.underlying5 Try.underlying6 Try.underlying7 Try.underlying8 Try.underlying9 Try.underlying10 Try.underlying11 Try.underlying12 Try.underlying13 Try.underlying14 Try.underlying15 Try.underlying16 Try.underlying17 Try.underlying18 Try.underlying19 Try.underlying20 Try.underlying21 Try.underlying22 Try.underlying23 Try.underlying24 Try.underlying25 Try.underlying26 Try.underlying27 Try.underlying28 Try.underlying29 Try.underlying30 Try.underlying31 Try.underlying32 Try.underlying33 Try.underlying34 Try.underlying35 Try.underlying36 Try.underlying37 Try.underlying38 Try.underlying39 Try.underlying40 Try.underlying41 Try.underlying42 Try.underlying43 Try.underlying44 Try.underlying45 Try.underlying46 Try.underlying47 Try.underlying48 Try.underlying49 Try.underlying50 Try.underlying51 Try.underlying52 Try.underlying53 Try.underlying54 Try.underlying55 Try.underlying56 Try.underlying57 Try.underlying58 Try.underlying59 Try.underlying60 Try.underlying61 Try.underlying62 Try.underlying63 Try.underlying64 Try.underlying65 Try.underlying66 Try.underlying67 Try.underlying68 Try.underlying69 Try.underlying70 Try.underlying71 Try.underlying72 Try.underlying73 Try.underlying74 Try.underlying75 Try.underlying76 Try.underlying77 Try.underlying78 Try.underlying79 Try.underlying80 Try.underlying81 Try.underlying82 Try.underlying83 Try.underlying84 Try.underlying85 Try.underlying86 Try.underlying87 Try.underlying88 Try.underlying89 Try.underlying90 Try.underlying91 Try.underlying92 Try.underlying93 Try.underlying94 Try.underlying95 Try.underlying96 Try.underlying97 Try.underlying98 Try.underlying99 Try.underlying100 Try.underlying101 Try.underlying102 Try.underlying103 Try.underlying104 Try.underlying105 Try.underlying106 Try.underlying107 Try.underlying108 Try.underlying109 Try.underlying110 Try.underlying111 Try.underlying112 Try.underlying113 Try.underlying114 Try.underlying115 Try.underlying116 Try.underlying117 Try.underlying118 Try.underlying119 Try.underlying120 Try.underlying121 Try.underlying122 Try.underlying123 Try.underlying124 Try.underlying125 Try.underlying126 Try.underlying127 Try.underlying128 Try.underlying129 Try.underlying130 Try.underlying131 Try.underlying132 Try.underlying133 Try.underlying134 Try.underlying135 Try.underlying136 Try.underlying137 Try.underlying138 Try.underlying139 Try.underlying140 Try.underlying141 Try.underlying142 Try.underlying143 Try.underlying144 Try.underlying145 Try.underlying146 Try.underlying147 Try.underlying148 Try.underlying149 Try.underlying150 Try.underlying151 Try.underlying152 Try.underlying153 Try.underlying154 Try.underlying155 Try.underlying156 Try.underlying157 Try.underlying158 Try.underlying159 Try.underlying160 Try.underlying161 Try.underlying162 Try.underlying163 Try.underlying164 Try.underlying165 Try.underlying166 Try.underlying167 Try.underlying168 Try.underlying169 Try.underlying170

theorem info_of {P : Program} {t n : Nat} {i : TypeInfo} (h : P.types.size = n) (hl : t < n) (hi : P.types[t]? = some i) : P.info? t = some i := by
  unfold Tables.info?
  rw [if_pos (by rw [h]; exact hl)]
  exact hi
def zB (n : Nat) : List IV := List.replicate n (.v (.bool false))
def fld (P : Program) (t i : Nat) : Field := (fieldT P t i).getD ⟨ "", 0, 0, false, "", "", 0⟩

@[go_sem] theorem info_3 : Try.prog.info? 3 = some Try.t3 := info_of Try.types_size (by decide) Try.type3
@[go_sem] theorem tz_3 : Try.t3.size = 1 := rfl
@[go_sem] theorem tb_3 : Try.t3.bytes = 8 := rfl
@[go_sem] theorem sz_3 : szOf Try.prog 3 = some 1 := by rw [szOf, info_3]; rfl
@[go_sem] theorem ag_3 : isAggT Try.prog 3 = some false := by rw [isAggT, Try.underlying3]; rfl
@[go_sem] theorem ze_3 : zeroC Try.prog 3 = some [(.v (.int .i64 0))] := by rw [zeroC, info_3]; rfl
@[go_sem] theorem info_4 : Try.prog.info? 4 = some Try.t4 := info_of Try.types_size (by decide) Try.type4
@[go_sem] theorem tz_4 : Try.t4.size = 1 := rfl
@[go_sem] theorem tb_4 : Try.t4.bytes = 1 := rfl
@[go_sem] theorem sz_4 : szOf Try.prog 4 = some 1 := by rw [szOf, info_4]; rfl
@[go_sem] theorem ag_4 : isAggT Try.prog 4 = some false := by rw [isAggT, Try.underlying4]; rfl
@[go_sem] theorem ze_4 : zeroC Try.prog 4 = some [(.v (.bool false))] := by rw [zeroC, info_4]; rfl
@[go_sem] theorem info_5 : Try.prog.info? 5 = some Try.t5 := info_of Try.types_size (by decide) Try.type5
@[go_sem] theorem tz_5 : Try.t5.size = 1 := rfl
@[go_sem] theorem tb_5 : Try.t5.bytes = 1 := rfl
@[go_sem] theorem sz_5 : szOf Try.prog 5 = some 1 := by rw [szOf, info_5]; rfl
@[go_sem] theorem ag_5 : isAggT Try.prog 5 = some false := by rw [isAggT, Try.underlying5]; rfl
@[go_sem] theorem ze_5 : zeroC Try.prog 5 = some [(.v (.int .u8 0))] := by rw [zeroC, info_5]; rfl
@[go_sem] theorem info_9 : Try.prog.info? 9 = some Try.t9 := info_of Try.types_size (by decide) Try.type9
@[go_sem] theorem tz_9 : Try.t9.size = 1 := rfl
@[go_sem] theorem tb_9 : Try.t9.bytes = 16 := rfl
@[go_sem] theorem sz_9 : szOf Try.prog 9 = some 1 := by rw [szOf, info_9]; rfl
@[go_sem] theorem ag_9 : isAggT Try.prog 9 = some false := by rw [isAggT, Try.underlying9]; rfl
@[go_sem] theorem ze_9 : zeroC Try.prog 9 = some [(.v (.string ⟨#[]⟩))] := by rw [zeroC, info_9]; rfl
@[go_sem] theorem info_22 : Try.prog.info? 22 = some Try.t22 := info_of Try.types_size (by decide) Try.type22
@[go_sem] theorem tz_22 : Try.t22.size = 1 := rfl
@[go_sem] theorem tb_22 : Try.t22.bytes = 24 := rfl
@[go_sem] theorem sz_22 : szOf Try.prog 22 = some 1 := by rw [szOf, info_22]; rfl
@[go_sem] theorem ag_22 : isAggT Try.prog 22 = some false := by rw [isAggT, Try.underlying22]; rfl
@[go_sem] theorem el_22 : elemT Try.prog 22 = some 41 := by rw [elemT, Try.underlying22]
@[go_sem] theorem ze_22 : zeroC Try.prog 22 = some [.emp] := by rw [zeroC, info_22]; rfl
@[go_sem] theorem info_24 : Try.prog.info? 24 = some Try.t24 := info_of Try.types_size (by decide) Try.type24
@[go_sem] theorem tz_24 : Try.t24.size = 2 := rfl
@[go_sem] theorem tb_24 : Try.t24.bytes = 32 := rfl
@[go_sem] theorem sz_24 : szOf Try.prog 24 = some 2 := by rw [szOf, info_24]; rfl
@[go_sem] theorem ag_24 : isAggT Try.prog 24 = some true := by rw [isAggT, Try.underlying24]; rfl
@[go_sem] theorem fd_24_0 : fieldT Try.prog 24 0 = some { name := "Nodes", type := 3, offset := 0, embedded := false, tag := "", pkgPath := "", byteOffset := 0 } := by rw [fieldT, Try.underlying24]; rfl
@[go_sem] theorem fd_24_1 : fieldT Try.prog 24 1 = some { name := "Edges", type := 22, offset := 1, embedded := false, tag := "", pkgPath := "", byteOffset := 8 } := by rw [fieldT, Try.underlying24]; rfl
@[go_sem] theorem ze_24 : zeroC Try.prog 24 = some [(.v (.int .i64 0)), .emp] := by rw [zeroC, info_24]; rfl
@[go_sem] theorem info_27 : Try.prog.info? 27 = some Try.t27 := info_of Try.types_size (by decide) Try.type27
@[go_sem] theorem tz_27 : Try.t27.size = 1 := rfl
@[go_sem] theorem tb_27 : Try.t27.bytes = 24 := rfl
@[go_sem] theorem sz_27 : szOf Try.prog 27 = some 1 := by rw [szOf, info_27]; rfl
@[go_sem] theorem ag_27 : isAggT Try.prog 27 = some false := by rw [isAggT, Try.underlying27]; rfl
@[go_sem] theorem el_27 : elemT Try.prog 27 = some 43 := by rw [elemT, Try.underlying27]
@[go_sem] theorem ze_27 : zeroC Try.prog 27 = some [.emp] := by rw [zeroC, info_27]; rfl
@[go_sem] theorem info_29 : Try.prog.info? 29 = some Try.t29 := info_of Try.types_size (by decide) Try.type29
@[go_sem] theorem tz_29 : Try.t29.size = 2 := rfl
@[go_sem] theorem tb_29 : Try.t29.bytes = 32 := rfl
@[go_sem] theorem sz_29 : szOf Try.prog 29 = some 2 := by rw [szOf, info_29]; rfl
@[go_sem] theorem ag_29 : isAggT Try.prog 29 = some true := by rw [isAggT, Try.underlying29]; rfl
@[go_sem] theorem fd_29_0 : fieldT Try.prog 29 0 = some { name := "Nodes", type := 3, offset := 0, embedded := false, tag := "", pkgPath := "", byteOffset := 0 } := by rw [fieldT, Try.underlying29]; rfl
@[go_sem] theorem fd_29_1 : fieldT Try.prog 29 1 = some { name := "Edges", type := 27, offset := 1, embedded := false, tag := "", pkgPath := "", byteOffset := 8 } := by rw [fieldT, Try.underlying29]; rfl
@[go_sem] theorem ze_29 : zeroC Try.prog 29 = some [(.v (.int .i64 0)), .emp] := by rw [zeroC, info_29]; rfl
@[go_sem] theorem info_33 : Try.prog.info? 33 = some Try.t33 := info_of Try.types_size (by decide) Try.type33
@[go_sem] theorem tz_33 : Try.t33.size = 1 := rfl
@[go_sem] theorem tb_33 : Try.t33.bytes = 24 := rfl
@[go_sem] theorem sz_33 : szOf Try.prog 33 = some 1 := by rw [szOf, info_33]; rfl
@[go_sem] theorem ag_33 : isAggT Try.prog 33 = some false := by rw [isAggT, Try.underlying33]; rfl
@[go_sem] theorem el_33 : elemT Try.prog 33 = some 3 := by rw [elemT, Try.underlying33]
@[go_sem] theorem ze_33 : zeroC Try.prog 33 = some [.emp] := by rw [zeroC, info_33]; rfl
@[go_sem] theorem info_41 : Try.prog.info? 41 = some Try.t41 := info_of Try.types_size (by decide) Try.type41
@[go_sem] theorem tz_41 : Try.t41.size = 2 := rfl
@[go_sem] theorem tb_41 : Try.t41.bytes = 16 := rfl
@[go_sem] theorem sz_41 : szOf Try.prog 41 = some 2 := by rw [szOf, info_41]; rfl
@[go_sem] theorem ag_41 : isAggT Try.prog 41 = some true := by rw [isAggT, Try.underlying41]; rfl
@[go_sem] theorem fd_41_0 : fieldT Try.prog 41 0 = some { name := "A", type := 3, offset := 0, embedded := false, tag := "", pkgPath := "", byteOffset := 0 } := by rw [fieldT, Try.underlying41]; rfl
@[go_sem] theorem fd_41_1 : fieldT Try.prog 41 1 = some { name := "B", type := 3, offset := 1, embedded := false, tag := "", pkgPath := "", byteOffset := 8 } := by rw [fieldT, Try.underlying41]; rfl
@[go_sem] theorem ze_41 : zeroC Try.prog 41 = some [(.v (.int .i64 0)), (.v (.int .i64 0))] := by rw [zeroC, info_41]; rfl
@[go_sem] theorem fs_41 : flatS Try.prog 41 2 = true := by simp [flatS, Try.underlying41, Try.stoodInHeld41, Try.eqGuardType41, Try.underlying3]
@[go_sem] theorem info_43 : Try.prog.info? 43 = some Try.t43 := info_of Try.types_size (by decide) Try.type43
@[go_sem] theorem tz_43 : Try.t43.size = 2 := rfl
@[go_sem] theorem tb_43 : Try.t43.bytes = 16 := rfl
@[go_sem] theorem sz_43 : szOf Try.prog 43 = some 2 := by rw [szOf, info_43]; rfl
@[go_sem] theorem ag_43 : isAggT Try.prog 43 = some true := by rw [isAggT, Try.underlying43]; rfl
@[go_sem] theorem fd_43_0 : fieldT Try.prog 43 0 = some { name := "A", type := 3, offset := 0, embedded := false, tag := "", pkgPath := "", byteOffset := 0 } := by rw [fieldT, Try.underlying43]; rfl
@[go_sem] theorem fd_43_1 : fieldT Try.prog 43 1 = some { name := "B", type := 3, offset := 1, embedded := false, tag := "", pkgPath := "", byteOffset := 8 } := by rw [fieldT, Try.underlying43]; rfl
@[go_sem] theorem ze_43 : zeroC Try.prog 43 = some [(.v (.int .i64 0)), (.v (.int .i64 0))] := by rw [zeroC, info_43]; rfl
@[go_sem] theorem fs_43 : flatS Try.prog 43 2 = true := by simp [flatS, Try.underlying43, Try.stoodInHeld43, Try.eqGuardType43, Try.underlying3]
@[go_sem] theorem info_46 : Try.prog.info? 46 = some Try.t46 := info_of Try.types_size (by decide) Try.type46
@[go_sem] theorem tz_46 : Try.t46.size = 1 := rfl
@[go_sem] theorem tb_46 : Try.t46.bytes = 24 := rfl
@[go_sem] theorem sz_46 : szOf Try.prog 46 = some 1 := by rw [szOf, info_46]; rfl
@[go_sem] theorem ag_46 : isAggT Try.prog 46 = some false := by rw [isAggT, Try.underlying46]; rfl
@[go_sem] theorem el_46 : elemT Try.prog 46 = some 5 := by rw [elemT, Try.underlying46]
@[go_sem] theorem ze_46 : zeroC Try.prog 46 = some [.emp] := by rw [zeroC, info_46]; rfl
@[go_sem] theorem info_49 : Try.prog.info? 49 = some Try.t49 := info_of Try.types_size (by decide) Try.type49
@[go_sem] theorem tz_49 : Try.t49.size = 3 := rfl
@[go_sem] theorem tb_49 : Try.t49.bytes = 72 := rfl
@[go_sem] theorem sz_49 : szOf Try.prog 49 = some 3 := by rw [szOf, info_49]; rfl
@[go_sem] theorem ag_49 : isAggT Try.prog 49 = some true := by rw [isAggT, Try.underlying49]; rfl
@[go_sem] theorem fd_49_0 : fieldT Try.prog 49 0 = some { name := "Numbers", type := 33, offset := 0, embedded := false, tag := "", pkgPath := "", byteOffset := 0 } := by rw [fieldT, Try.underlying49]; rfl
@[go_sem] theorem fd_49_1 : fieldT Try.prog 49 1 = some { name := "Parents", type := 33, offset := 1, embedded := false, tag := "", pkgPath := "", byteOffset := 24 } := by rw [fieldT, Try.underlying49]; rfl
@[go_sem] theorem fd_49_2 : fieldT Try.prog 49 2 = some { name := "Lows", type := 33, offset := 2, embedded := false, tag := "", pkgPath := "", byteOffset := 48 } := by rw [fieldT, Try.underlying49]; rfl
@[go_sem] theorem ze_49 : zeroC Try.prog 49 = some [.emp, .emp, .emp] := by rw [zeroC, info_49]; rfl
@[go_sem] theorem info_63 : Try.prog.info? 63 = some Try.t63 := info_of Try.types_size (by decide) Try.type63
@[go_sem] theorem tz_63 : Try.t63.size = 1 := rfl
@[go_sem] theorem tb_63 : Try.t63.bytes = 24 := rfl
@[go_sem] theorem sz_63 : szOf Try.prog 63 = some 1 := by rw [szOf, info_63]; rfl
@[go_sem] theorem ag_63 : isAggT Try.prog 63 = some false := by rw [isAggT, Try.underlying63]; rfl
@[go_sem] theorem el_63 : elemT Try.prog 63 = some 27 := by rw [elemT, Try.underlying63]
@[go_sem] theorem ze_63 : zeroC Try.prog 63 = some [.emp] := by rw [zeroC, info_63]; rfl
@[go_sem] theorem info_74 : Try.prog.info? 74 = some Try.t74 := info_of Try.types_size (by decide) Try.type74
@[go_sem] theorem tz_74 : Try.t74.size = 1 := rfl
@[go_sem] theorem tb_74 : Try.t74.bytes = 8 := rfl
@[go_sem] theorem sz_74 : szOf Try.prog 74 = some 1 := by rw [szOf, info_74]; rfl
@[go_sem] theorem ag_74 : isAggT Try.prog 74 = some false := by rw [isAggT, Try.underlying74]; rfl
@[go_sem] theorem info_92 : Try.prog.info? 92 = some Try.t92 := info_of Try.types_size (by decide) Try.type92
@[go_sem] theorem tz_92 : Try.t92.size = 1 := rfl
@[go_sem] theorem tb_92 : Try.t92.bytes = 8 := rfl
@[go_sem] theorem sz_92 : szOf Try.prog 92 = some 1 := by rw [szOf, info_92]; rfl
@[go_sem] theorem ag_92 : isAggT Try.prog 92 = some false := by rw [isAggT, Try.underlying92]; rfl
@[go_sem] theorem ze_92 : zeroC Try.prog 92 = some [(.v (.pointer none))] := by rw [zeroC, info_92]; rfl
@[go_sem] theorem info_96 : Try.prog.info? 96 = some Try.t96 := info_of Try.types_size (by decide) Try.type96
@[go_sem] theorem tz_96 : Try.t96.size = 1 := rfl
@[go_sem] theorem tb_96 : Try.t96.bytes = 8 := rfl
@[go_sem] theorem sz_96 : szOf Try.prog 96 = some 1 := by rw [szOf, info_96]; rfl
@[go_sem] theorem ag_96 : isAggT Try.prog 96 = some false := by rw [isAggT, Try.underlying96]; rfl
@[go_sem] theorem info_116 : Try.prog.info? 116 = some Try.t116 := info_of Try.types_size (by decide) Try.type116
@[go_sem] theorem tz_116 : Try.t116.size = 2 := rfl
@[go_sem] theorem tb_116 : Try.t116.bytes = 32 := rfl
@[go_sem] theorem sz_116 : szOf Try.prog 116 = some 2 := by rw [szOf, info_116]; rfl
@[go_sem] theorem ag_116 : isAggT Try.prog 116 = some true := by rw [isAggT, Try.underlying116]; rfl
@[go_sem] theorem fd_116_0 : fieldT Try.prog 116 0 = some (fld Try.prog 116 0) := by rw [fld, fieldT, Try.underlying116]; rfl
@[go_sem] theorem fo_116_0 : (fld Try.prog 116 0).offset = 0 := by rw [fld, fieldT, Try.underlying116]; rfl
@[go_sem] theorem ft_116_0 : (fld Try.prog 116 0).type = 46 := by rw [fld, fieldT, Try.underlying116]; rfl
@[go_sem] theorem fd_116_1 : fieldT Try.prog 116 1 = some (fld Try.prog 116 1) := by rw [fld, fieldT, Try.underlying116]; rfl
@[go_sem] theorem fo_116_1 : (fld Try.prog 116 1).offset = 1 := by rw [fld, fieldT, Try.underlying116]; rfl
@[go_sem] theorem ft_116_1 : (fld Try.prog 116 1).type = 3 := by rw [fld, fieldT, Try.underlying116]; rfl
@[go_sem] theorem ze_116 : zeroC Try.prog 116 = some [.emp, (.v (.int .i64 0))] := by rw [zeroC, info_116]; rfl
@[go_sem] theorem info_119 : Try.prog.info? 119 = some Try.t119 := info_of Try.types_size (by decide) Try.type119
@[go_sem] theorem tz_119 : Try.t119.size = 1 := rfl
@[go_sem] theorem tb_119 : Try.t119.bytes = 8 := rfl
@[go_sem] theorem sz_119 : szOf Try.prog 119 = some 1 := by rw [szOf, info_119]; rfl
@[go_sem] theorem ag_119 : isAggT Try.prog 119 = some false := by rw [isAggT, Try.underlying119]; rfl
@[go_sem] theorem ze_119 : zeroC Try.prog 119 = some [(.v (.int .u64 0))] := by rw [zeroC, info_119]; rfl
@[go_sem] theorem info_125 : Try.prog.info? 125 = some Try.t125 := info_of Try.types_size (by decide) Try.type125
@[go_sem] theorem tz_125 : Try.t125.size = 1 := rfl
@[go_sem] theorem tb_125 : Try.t125.bytes = 8 := rfl
@[go_sem] theorem sz_125 : szOf Try.prog 125 = some 1 := by rw [szOf, info_125]; rfl
@[go_sem] theorem ag_125 : isAggT Try.prog 125 = some false := by rw [isAggT, Try.underlying125]; rfl
@[go_sem] theorem ze_125 : zeroC Try.prog 125 = some [(.v (.pointer none))] := by rw [zeroC, info_125]; rfl
@[go_sem] theorem info_129 : Try.prog.info? 129 = some Try.t129 := info_of Try.types_size (by decide) Try.type129
@[go_sem] theorem tz_129 : Try.t129.size = 1 := rfl
@[go_sem] theorem tb_129 : Try.t129.bytes = 4 := rfl
@[go_sem] theorem sz_129 : szOf Try.prog 129 = some 1 := by rw [szOf, info_129]; rfl
@[go_sem] theorem ag_129 : isAggT Try.prog 129 = some false := by rw [isAggT, Try.underlying129]; rfl
@[go_sem] theorem ze_129 : zeroC Try.prog 129 = some [(.v (.int .u32 0))] := by rw [zeroC, info_129]; rfl
@[go_sem] theorem info_132 : Try.prog.info? 132 = some Try.t132 := info_of Try.types_size (by decide) Try.type132
@[go_sem] theorem tz_132 : Try.t132.size = 1 := rfl
@[go_sem] theorem tb_132 : Try.t132.bytes = 8 := rfl
@[go_sem] theorem sz_132 : szOf Try.prog 132 = some 1 := by rw [szOf, info_132]; rfl
@[go_sem] theorem ag_132 : isAggT Try.prog 132 = some false := by rw [isAggT, Try.underlying132]; rfl
@[go_sem] theorem ze_132 : zeroC Try.prog 132 = some [(.v (.int .u64 0))] := by rw [zeroC, info_132]; rfl
@[go_sem] theorem info_136 : Try.prog.info? 136 = some Try.t136 := info_of Try.types_size (by decide) Try.type136
@[go_sem] theorem tz_136 : Try.t136.size = 1 := rfl
@[go_sem] theorem tb_136 : Try.t136.bytes = 8 := rfl
@[go_sem] theorem sz_136 : szOf Try.prog 136 = some 1 := by rw [szOf, info_136]; rfl
@[go_sem] theorem ag_136 : isAggT Try.prog 136 = some false := by rw [isAggT, Try.underlying136]; rfl
@[go_sem] theorem ze_136 : zeroC Try.prog 136 = some [(.v (.int .i64 0))] := by rw [zeroC, info_136]; rfl
@[go_sem] theorem info_146 : Try.prog.info? 146 = some Try.t146 := info_of Try.types_size (by decide) Try.type146
@[go_sem] theorem tz_146 : Try.t146.size = 1 := rfl
@[go_sem] theorem tb_146 : Try.t146.bytes = 8 := rfl
@[go_sem] theorem sz_146 : szOf Try.prog 146 = some 1 := by rw [szOf, info_146]; rfl
@[go_sem] theorem ag_146 : isAggT Try.prog 146 = some false := by rw [isAggT, Try.underlying146]; rfl
@[go_sem] theorem ze_146 : zeroC Try.prog 146 = some [(.v (.int .u64 0))] := by rw [zeroC, info_146]; rfl
@[go_sem] theorem info_150 : Try.prog.info? 150 = some Try.t150 := info_of Try.types_size (by decide) Try.type150
@[go_sem] theorem tz_150 : Try.t150.size = 1 := rfl
@[go_sem] theorem tb_150 : Try.t150.bytes = 8 := rfl
@[go_sem] theorem sz_150 : szOf Try.prog 150 = some 1 := by rw [szOf, info_150]; rfl
@[go_sem] theorem ag_150 : isAggT Try.prog 150 = some false := by rw [isAggT, Try.underlying150]; rfl
@[go_sem] theorem ze_150 : zeroC Try.prog 150 = some [(.v (.pointer none))] := by rw [zeroC, info_150]; rfl

/-- How calls are taken. -/
def mutL : List Nat := [20, 21, 65, 85, 88, 89, 101, 105, 106, 107, 109, 114, 128, 147, 166]
def ownL : List (Nat × Nat) := [(3, 19), (3, 22), (4, 32), (4, 37), (4, 86), (5, 30), (5, 35), (5, 84), (14, 9), (25, 21), (42, 4), (46, 10), (51, 4), (63, 13), (69, 5), (105, 8), (115, 9)]
end Go.Proofs.Ytgpdpocgkloogaa.X
