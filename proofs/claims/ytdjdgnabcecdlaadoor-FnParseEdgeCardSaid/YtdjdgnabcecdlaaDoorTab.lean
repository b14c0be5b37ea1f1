/- Facts of one program's tables. -/
import Derived.Test.YtdjdgnabcecdlaaDoorEval
import Derived.Test.YtdjdgnabcecdlaaDoorProg
namespace Go.Proofs.YtdjdgnabcecdlaaDoor.X
open Go Go.Proofs
set_option maxRecDepth 100000
attribute [go_sem] Tryd.underlying0 Tryd.underlying1 Tryd.underlying2 Tryd.underlying3 Tryd.underlying4 Tryd.underlying5 Tryd.underlying6 Tryd.underlying7 Tryd.underlying8 Tryd.underlying9 Tryd.underlying10 Tryd.underlying11 Tryd.underlying12 Tryd.underlying13 Tryd.underlying14 Tryd.underlying15 Tryd.underlying16 Tryd.underlying17 Tryd.underlying18 Tryd.underlying19 Tryd.underlying20 Tryd.underlying21 Tryd.underlying22 Tryd.underlying23 Tryd.underlying24 Tryd.underlying25 Tryd.underlying26 Tryd.underlying27 Tryd.underlying28 Tryd.underlying29 Tryd.underlying30 Tryd.underlying31 Tryd.underlying32 Tryd.underlying33 Tryd.underlying34 Tryd.underlying35 Tryd.underlying36 Tryd.underlying37 Tryd.underlying38 Tryd.underlying39 Tryd.underlying40 Tryd.underlying41 Tryd.underlying42 Tryd.underlying43 Tryd.underlying44 Tryd.underlying45 Tryd.underlying46 Tryd.underlying47 Tryd.underlying48 Tryd.underlying49 Tryd.underlying50 Tryd.underlying51 Tryd.underlying52 Tryd.underlying53 Tryd.underlying54 Tryd.underlying55 Tryd.underlying56 Tryd.underlying57 Tryd.underlying58 Tryd.underlying59 Tryd.underlying60 Tryd.underlying61 Tryd.underlying62 Tryd.underlying63 Tryd.underlying64 Tryd.underlying65 Tryd.underlying66 Tryd.underlying67 Tryd.underlying68 Tryd.underlying69 Tryd.underlying70 Tryd.underlying71 Tryd.underlying72 Tryd.underlying73 Tryd.underlying74 Tryd.underlying75 Tryd.underlying76 Tryd.underlying77 Tryd.underlying78 Tryd.underlying79 Tryd.underlying80 Tryd.underlying81 Tryd.underlying82 Tryd.underlying83 Tryd.underlying84 Tryd.underlying85 Tryd.underlying86 Tryd.underlying87 Tryd.underlying88 Tryd.underlying89 Tryd.underlying90 Tryd.underlying91 Tryd.underlying92 Tryd.underlying93 Tryd.underlying94 Tryd.underlying95 Tryd.underlying96 Tryd.underlying97 Tryd.underlying98 Tryd.underlying99 Tryd.underlying100 Tryd.underlying101 Tryd.underlying102 Tryd.underlying103 Tryd.underlying104 Tryd.underlying105 Tryd.underlying106 Tryd.underlying107 Tryd.underlying108 Tryd.underlying109 Tryd.underlying110 Tryd.underlying111 Tryd.underlying112 Tryd.underlying113 Tryd.underlying114 Tryd.underlying115 Tryd.underlying116 Tryd.underlying117 Tryd.underlying118 Tryd.underlying119 Tryd.underlying120 Tryd.underlying121 Tryd.underlying122 Tryd.underlying123 Tryd.underlying124 Tryd.underlying125 Tryd.underlying126 Tryd.underlying127 Tryd.underlying128 Tryd.underlying129 Tryd.underlying130 Tryd.underlying131 Tryd.underlying132 Tryd.underlying133 Tryd.underlying134 Tryd.underlying135 Tryd.underlying136 Tryd.underlying137 Tryd.underlying138 Tryd.underlying139 Tryd.underlying140 Tryd.underlying141 Tryd.underlying142 Tryd.underlying143 Tryd.underlying144 Tryd.underlying145 Tryd.underlying146 Tryd.underlying147 Tryd.underlying148 Tryd.underlying149 Tryd.underlying150 Tryd.underlying151 Tryd.underlying152
theorem info_of {P : Program} {t n : Nat} {i : TypeInfo} (h : P.types.size = n) (hl : t < n) (hi : P.types[t]? = some i) : P.info? t = some i := by
  unfold Tables.info?
  rw [if_pos (by rw [h]; exact hl)]
  exact hi
def zB (n : Nat) : List IV := List.replicate n (.v (.bool false))
def fld (P : Program) (t i : Nat) : Field := (fieldT P t i).getD ⟨ "", 0, 0, false, "", "", 0⟩
@[go_sem] theorem info_2 : Tryd.prog.info? 2 = some Tryd.t2 := info_of Tryd.types_size (by decide) Tryd.type2
@[go_sem] theorem tz_2 : Tryd.t2.size = 1 := rfl
@[go_sem] theorem tb_2 : Tryd.t2.bytes = 8 := rfl
@[go_sem] theorem sz_2 : szOf Tryd.prog 2 = some 1 := by rw [szOf, info_2]; rfl
@[go_sem] theorem ag_2 : isAggT Tryd.prog 2 = some false := by rw [isAggT, Tryd.underlying2]; rfl
@[go_sem] theorem ze_2 : zeroC Tryd.prog 2 = some [(.v (.int .i64 0))] := by rw [zeroC, info_2]; rfl
@[go_sem] theorem info_3 : Tryd.prog.info? 3 = some Tryd.t3 := info_of Tryd.types_size (by decide) Tryd.type3
@[go_sem] theorem tz_3 : Tryd.t3.size = 1 := rfl
@[go_sem] theorem tb_3 : Tryd.t3.bytes = 8 := rfl
@[go_sem] theorem sz_3 : szOf Tryd.prog 3 = some 1 := by rw [szOf, info_3]; rfl
@[go_sem] theorem ag_3 : isAggT Tryd.prog 3 = some false := by rw [isAggT, Tryd.underlying3]; rfl
@[go_sem] theorem ze_3 : zeroC Tryd.prog 3 = some [(.v (.int .i64 0))] := by rw [zeroC, info_3]; rfl
@[go_sem] theorem info_4 : Tryd.prog.info? 4 = some Tryd.t4 := info_of Tryd.types_size (by decide) Tryd.type4
@[go_sem] theorem tz_4 : Tryd.t4.size = 1 := rfl
@[go_sem] theorem tb_4 : Tryd.t4.bytes = 1 := rfl
@[go_sem] theorem sz_4 : szOf Tryd.prog 4 = some 1 := by rw [szOf, info_4]; rfl
@[go_sem] theorem ag_4 : isAggT Tryd.prog 4 = some false := by rw [isAggT, Tryd.underlying4]; rfl
@[go_sem] theorem ze_4 : zeroC Tryd.prog 4 = some [(.v (.bool false))] := by rw [zeroC, info_4]; rfl
@[go_sem] theorem info_5 : Tryd.prog.info? 5 = some Tryd.t5 := info_of Tryd.types_size (by decide) Tryd.type5
@[go_sem] theorem tz_5 : Tryd.t5.size = 1 := rfl
@[go_sem] theorem tb_5 : Tryd.t5.bytes = 1 := rfl
@[go_sem] theorem sz_5 : szOf Tryd.prog 5 = some 1 := by rw [szOf, info_5]; rfl
@[go_sem] theorem ag_5 : isAggT Tryd.prog 5 = some false := by rw [isAggT, Tryd.underlying5]; rfl
@[go_sem] theorem ze_5 : zeroC Tryd.prog 5 = some [(.v (.int .u8 0))] := by rw [zeroC, info_5]; rfl
@[go_sem] theorem info_9 : Tryd.prog.info? 9 = some Tryd.t9 := info_of Tryd.types_size (by decide) Tryd.type9
@[go_sem] theorem tz_9 : Tryd.t9.size = 1 := rfl
@[go_sem] theorem tb_9 : Tryd.t9.bytes = 16 := rfl
@[go_sem] theorem sz_9 : szOf Tryd.prog 9 = some 1 := by rw [szOf, info_9]; rfl
@[go_sem] theorem ag_9 : isAggT Tryd.prog 9 = some false := by rw [isAggT, Tryd.underlying9]; rfl
@[go_sem] theorem ze_9 : zeroC Tryd.prog 9 = some [(.v (.string ⟨#[]⟩))] := by rw [zeroC, info_9]; rfl
@[go_sem] theorem info_21 : Tryd.prog.info? 21 = some Tryd.t21 := info_of Tryd.types_size (by decide) Tryd.type21
@[go_sem] theorem tz_21 : Tryd.t21.size = 1 := rfl
@[go_sem] theorem tb_21 : Tryd.t21.bytes = 4 := rfl
@[go_sem] theorem sz_21 : szOf Tryd.prog 21 = some 1 := by rw [szOf, info_21]; rfl
@[go_sem] theorem ag_21 : isAggT Tryd.prog 21 = some false := by rw [isAggT, Tryd.underlying21]; rfl
@[go_sem] theorem ze_21 : zeroC Tryd.prog 21 = some [(.v (.int .i32 0))] := by rw [zeroC, info_21]; rfl
@[go_sem] theorem info_22 : Tryd.prog.info? 22 = some Tryd.t22 := info_of Tryd.types_size (by decide) Tryd.type22
@[go_sem] theorem tz_22 : Tryd.t22.size = 1 := rfl
@[go_sem] theorem tb_22 : Tryd.t22.bytes = 24 := rfl
@[go_sem] theorem sz_22 : szOf Tryd.prog 22 = some 1 := by rw [szOf, info_22]; rfl
@[go_sem] theorem ag_22 : isAggT Tryd.prog 22 = some false := by rw [isAggT, Tryd.underlying22]; rfl
@[go_sem] theorem el_22 : elemT Tryd.prog 22 = some 5 := by rw [elemT, Tryd.underlying22]
@[go_sem] theorem ze_22 : zeroC Tryd.prog 22 = some [.emp] := by rw [zeroC, info_22]; rfl
@[go_sem] theorem info_26 : Tryd.prog.info? 26 = some Tryd.t26 := info_of Tryd.types_size (by decide) Tryd.type26
@[go_sem] theorem tz_26 : Tryd.t26.size = 2 := rfl
@[go_sem] theorem tb_26 : Tryd.t26.bytes = 16 := rfl
@[go_sem] theorem sz_26 : szOf Tryd.prog 26 = some 2 := by rw [szOf, info_26]; rfl
@[go_sem] theorem ag_26 : isAggT Tryd.prog 26 = some true := by rw [isAggT, Tryd.underlying26]; rfl
@[go_sem] theorem fd_26_0 : fieldT Tryd.prog 26 0 = some { name := "A", type := 3, offset := 0, embedded := false, tag := "", pkgPath := "", byteOffset := 0 } := by rw [fieldT, Tryd.underlying26]; rfl
@[go_sem] theorem fd_26_1 : fieldT Tryd.prog 26 1 = some { name := "B", type := 3, offset := 1, embedded := false, tag := "", pkgPath := "", byteOffset := 8 } := by rw [fieldT, Tryd.underlying26]; rfl
@[go_sem] theorem ze_26 : zeroC Tryd.prog 26 = some [(.v (.int .i64 0)), (.v (.int .i64 0))] := by rw [zeroC, info_26]; rfl
@[go_sem] theorem fs_26 : flatS Tryd.prog 26 2 = true := by simp [flatS, Tryd.underlying26, Tryd.stoodInHeld26, Tryd.eqGuardType26, Tryd.underlying3]
@[go_sem] theorem info_29 : Tryd.prog.info? 29 = some Tryd.t29 := info_of Tryd.types_size (by decide) Tryd.type29
@[go_sem] theorem tz_29 : Tryd.t29.size = 1 := rfl
@[go_sem] theorem tb_29 : Tryd.t29.bytes = 24 := rfl
@[go_sem] theorem sz_29 : szOf Tryd.prog 29 = some 1 := by rw [szOf, info_29]; rfl
@[go_sem] theorem ag_29 : isAggT Tryd.prog 29 = some false := by rw [isAggT, Tryd.underlying29]; rfl
@[go_sem] theorem el_29 : elemT Tryd.prog 29 = some 26 := by rw [elemT, Tryd.underlying29]
@[go_sem] theorem ze_29 : zeroC Tryd.prog 29 = some [.emp] := by rw [zeroC, info_29]; rfl
@[go_sem] theorem info_31 : Tryd.prog.info? 31 = some Tryd.t31 := info_of Tryd.types_size (by decide) Tryd.type31
@[go_sem] theorem tz_31 : Tryd.t31.size = 2 := rfl
@[go_sem] theorem tb_31 : Tryd.t31.bytes = 32 := rfl
@[go_sem] theorem sz_31 : szOf Tryd.prog 31 = some 2 := by rw [szOf, info_31]; rfl
@[go_sem] theorem ag_31 : isAggT Tryd.prog 31 = some true := by rw [isAggT, Tryd.underlying31]; rfl
@[go_sem] theorem fd_31_0 : fieldT Tryd.prog 31 0 = some { name := "Nodes", type := 3, offset := 0, embedded := false, tag := "", pkgPath := "", byteOffset := 0 } := by rw [fieldT, Tryd.underlying31]; rfl
@[go_sem] theorem fd_31_1 : fieldT Tryd.prog 31 1 = some { name := "Edges", type := 29, offset := 1, embedded := false, tag := "", pkgPath := "", byteOffset := 8 } := by rw [fieldT, Tryd.underlying31]; rfl
@[go_sem] theorem ze_31 : zeroC Tryd.prog 31 = some [(.v (.int .i64 0)), .emp] := by rw [zeroC, info_31]; rfl
@[go_sem] theorem info_36 : Tryd.prog.info? 36 = some Tryd.t36 := info_of Tryd.types_size (by decide) Tryd.type36
@[go_sem] theorem tz_36 : Tryd.t36.size = 1 := rfl
@[go_sem] theorem tb_36 : Tryd.t36.bytes = 24 := rfl
@[go_sem] theorem sz_36 : szOf Tryd.prog 36 = some 1 := by rw [szOf, info_36]; rfl
@[go_sem] theorem ag_36 : isAggT Tryd.prog 36 = some false := by rw [isAggT, Tryd.underlying36]; rfl
@[go_sem] theorem el_36 : elemT Tryd.prog 36 = some 3 := by rw [elemT, Tryd.underlying36]
@[go_sem] theorem ze_36 : zeroC Tryd.prog 36 = some [.emp] := by rw [zeroC, info_36]; rfl
@[go_sem] theorem info_39 : Tryd.prog.info? 39 = some Tryd.t39 := info_of Tryd.types_size (by decide) Tryd.type39
@[go_sem] theorem tz_39 : Tryd.t39.size = 1 := rfl
@[go_sem] theorem tb_39 : Tryd.t39.bytes = 8 := rfl
@[go_sem] theorem sz_39 : szOf Tryd.prog 39 = some 1 := by rw [szOf, info_39]; rfl
@[go_sem] theorem ag_39 : isAggT Tryd.prog 39 = some false := by rw [isAggT, Tryd.underlying39]; rfl
@[go_sem] theorem ze_39 : zeroC Tryd.prog 39 = some [(.v (.pointer none))] := by rw [zeroC, info_39]; rfl
@[go_sem] theorem info_48 : Tryd.prog.info? 48 = some Tryd.t48 := info_of Tryd.types_size (by decide) Tryd.type48
@[go_sem] theorem tz_48 : Tryd.t48.size = 1 := rfl
@[go_sem] theorem tb_48 : Tryd.t48.bytes = 8 := rfl
@[go_sem] theorem sz_48 : szOf Tryd.prog 48 = some 1 := by rw [szOf, info_48]; rfl
@[go_sem] theorem ag_48 : isAggT Tryd.prog 48 = some false := by rw [isAggT, Tryd.underlying48]; rfl
@[go_sem] theorem info_53 : Tryd.prog.info? 53 = some Tryd.t53 := info_of Tryd.types_size (by decide) Tryd.type53
@[go_sem] theorem tz_53 : Tryd.t53.size = 1 := rfl
@[go_sem] theorem tb_53 : Tryd.t53.bytes = 24 := rfl
@[go_sem] theorem sz_53 : szOf Tryd.prog 53 = some 1 := by rw [szOf, info_53]; rfl
@[go_sem] theorem ag_53 : isAggT Tryd.prog 53 = some false := by rw [isAggT, Tryd.underlying53]; rfl
@[go_sem] theorem el_53 : elemT Tryd.prog 53 = some 9 := by rw [elemT, Tryd.underlying53]
@[go_sem] theorem ze_53 : zeroC Tryd.prog 53 = some [.emp] := by rw [zeroC, info_53]; rfl
@[go_sem] theorem info_56 : Tryd.prog.info? 56 = some Tryd.t56 := info_of Tryd.types_size (by decide) Tryd.type56
@[go_sem] theorem tz_56 : Tryd.t56.size = 1 := rfl
@[go_sem] theorem tb_56 : Tryd.t56.bytes = 16 := rfl
@[go_sem] theorem sz_56 : szOf Tryd.prog 56 = some 1 := by rw [szOf, info_56]; rfl
@[go_sem] theorem ag_56 : isAggT Tryd.prog 56 = some false := by rw [isAggT, Tryd.underlying56]; rfl
@[go_sem] theorem info_63 : Tryd.prog.info? 63 = some Tryd.t63 := info_of Tryd.types_size (by decide) Tryd.type63
@[go_sem] theorem tz_63 : Tryd.t63.size = 2 := rfl
@[go_sem] theorem tb_63 : Tryd.t63.bytes = 32 := rfl
@[go_sem] theorem sz_63 : szOf Tryd.prog 63 = some 2 := by rw [szOf, info_63]; rfl
@[go_sem] theorem ag_63 : isAggT Tryd.prog 63 = some true := by rw [isAggT, Tryd.underlying63]; rfl
@[go_sem] theorem fd_63_0 : fieldT Tryd.prog 63 0 = some (fld Tryd.prog 63 0) := by rw [fld, fieldT, Tryd.underlying63]; rfl
@[go_sem] theorem fo_63_0 : (fld Tryd.prog 63 0).offset = 0 := by rw [fld, fieldT, Tryd.underlying63]; rfl
@[go_sem] theorem ft_63_0 : (fld Tryd.prog 63 0).type = 22 := by rw [fld, fieldT, Tryd.underlying63]; rfl
@[go_sem] theorem fd_63_1 : fieldT Tryd.prog 63 1 = some (fld Tryd.prog 63 1) := by rw [fld, fieldT, Tryd.underlying63]; rfl
@[go_sem] theorem fo_63_1 : (fld Tryd.prog 63 1).offset = 1 := by rw [fld, fieldT, Tryd.underlying63]; rfl
@[go_sem] theorem ft_63_1 : (fld Tryd.prog 63 1).type = 3 := by rw [fld, fieldT, Tryd.underlying63]; rfl
@[go_sem] theorem ze_63 : zeroC Tryd.prog 63 = some [.emp, (.v (.int .i64 0))] := by rw [zeroC, info_63]; rfl
@[go_sem] theorem info_66 : Tryd.prog.info? 66 = some Tryd.t66 := info_of Tryd.types_size (by decide) Tryd.type66
@[go_sem] theorem tz_66 : Tryd.t66.size = 1 := rfl
@[go_sem] theorem tb_66 : Tryd.t66.bytes = 8 := rfl
@[go_sem] theorem sz_66 : szOf Tryd.prog 66 = some 1 := by rw [szOf, info_66]; rfl
@[go_sem] theorem ag_66 : isAggT Tryd.prog 66 = some false := by rw [isAggT, Tryd.underlying66]; rfl
@[go_sem] theorem ze_66 : zeroC Tryd.prog 66 = some [(.v (.int .u64 0))] := by rw [zeroC, info_66]; rfl
@[go_sem] theorem info_87 : Tryd.prog.info? 87 = some Tryd.t87 := info_of Tryd.types_size (by decide) Tryd.type87
@[go_sem] theorem tz_87 : Tryd.t87.size = 24 := rfl
@[go_sem] theorem tb_87 : Tryd.t87.bytes = 24 := rfl
@[go_sem] theorem sz_87 : szOf Tryd.prog 87 = some 24 := by rw [szOf, info_87]; rfl
@[go_sem] theorem ag_87 : isAggT Tryd.prog 87 = some true := by rw [isAggT, Tryd.underlying87]; rfl
@[go_sem] theorem ze_87 : zeroC Tryd.prog 87 = some [(.v (.int .u8 0)), (.v (.int .u8 0)), (.v (.int .u8 0)), (.v (.int .u8 0)), (.v (.int .u8 0)), (.v (.int .u8 0)), (.v (.int .u8 0)), (.v (.int .u8 0)), (.v (.int .u8 0)), (.v (.int .u8 0)), (.v (.int .u8 0)), (.v (.int .u8 0)), (.v (.int .u8 0)), (.v (.int .u8 0)), (.v (.int .u8 0)), (.v (.int .u8 0)), (.v (.int .u8 0)), (.v (.int .u8 0)), (.v (.int .u8 0)), (.v (.int .u8 0)), (.v (.int .u8 0)), (.v (.int .u8 0)), (.v (.int .u8 0)), (.v (.int .u8 0))] := by rw [zeroC, info_87]; rfl
@[go_sem] theorem info_88 : Tryd.prog.info? 88 = some Tryd.t88 := info_of Tryd.types_size (by decide) Tryd.type88
@[go_sem] theorem tz_88 : Tryd.t88.size = 1 := rfl
@[go_sem] theorem tb_88 : Tryd.t88.bytes = 8 := rfl
@[go_sem] theorem sz_88 : szOf Tryd.prog 88 = some 1 := by rw [szOf, info_88]; rfl
@[go_sem] theorem ag_88 : isAggT Tryd.prog 88 = some false := by rw [isAggT, Tryd.underlying88]; rfl
@[go_sem] theorem ze_88 : zeroC Tryd.prog 88 = some [(.v (.int .u64 0))] := by rw [zeroC, info_88]; rfl
@[go_sem] theorem info_101 : Tryd.prog.info? 101 = some Tryd.t101 := info_of Tryd.types_size (by decide) Tryd.type101
@[go_sem] theorem tz_101 : Tryd.t101.size = 3 := rfl
@[go_sem] theorem tb_101 : Tryd.t101.bytes = 48 := rfl
@[go_sem] theorem sz_101 : szOf Tryd.prog 101 = some 3 := by rw [szOf, info_101]; rfl
@[go_sem] theorem ag_101 : isAggT Tryd.prog 101 = some true := by rw [isAggT, Tryd.underlying101]; rfl
@[go_sem] theorem fd_101_0 : fieldT Tryd.prog 101 0 = some { name := "Func", type := 9, offset := 0, embedded := false, tag := "", pkgPath := "", byteOffset := 0 } := by rw [fieldT, Tryd.underlying101]; rfl
@[go_sem] theorem fd_101_1 : fieldT Tryd.prog 101 1 = some { name := "Num", type := 9, offset := 1, embedded := false, tag := "", pkgPath := "", byteOffset := 16 } := by rw [fieldT, Tryd.underlying101]; rfl
@[go_sem] theorem fd_101_2 : fieldT Tryd.prog 101 2 = some { name := "Err", type := 56, offset := 2, embedded := false, tag := "", pkgPath := "", byteOffset := 32 } := by rw [fieldT, Tryd.underlying101]; rfl
@[go_sem] theorem info_104 : Tryd.prog.info? 104 = some Tryd.t104 := info_of Tryd.types_size (by decide) Tryd.type104
@[go_sem] theorem tz_104 : Tryd.t104.size = 1 := rfl
@[go_sem] theorem tb_104 : Tryd.t104.bytes = 8 := rfl
@[go_sem] theorem sz_104 : szOf Tryd.prog 104 = some 1 := by rw [szOf, info_104]; rfl
@[go_sem] theorem ag_104 : isAggT Tryd.prog 104 = some false := by rw [isAggT, Tryd.underlying104]; rfl
@[go_sem] theorem ze_104 : zeroC Tryd.prog 104 = some [(.v (.int .i64 0))] := by rw [zeroC, info_104]; rfl
@[go_sem] theorem info_112 : Tryd.prog.info? 112 = some Tryd.t112 := info_of Tryd.types_size (by decide) Tryd.type112
@[go_sem] theorem tz_112 : Tryd.t112.size = 1 := rfl
@[go_sem] theorem tb_112 : Tryd.t112.bytes = 4 := rfl
@[go_sem] theorem sz_112 : szOf Tryd.prog 112 = some 1 := by rw [szOf, info_112]; rfl
@[go_sem] theorem ag_112 : isAggT Tryd.prog 112 = some false := by rw [isAggT, Tryd.underlying112]; rfl
@[go_sem] theorem ze_112 : zeroC Tryd.prog 112 = some [(.v (.int .u32 0))] := by rw [zeroC, info_112]; rfl
@[go_sem] theorem info_114 : Tryd.prog.info? 114 = some Tryd.t114 := info_of Tryd.types_size (by decide) Tryd.type114
@[go_sem] theorem tz_114 : Tryd.t114.size = 20 := rfl
@[go_sem] theorem tb_114 : Tryd.t114.bytes = 160 := rfl
@[go_sem] theorem sz_114 : szOf Tryd.prog 114 = some 20 := by rw [szOf, info_114]; rfl
@[go_sem] theorem ag_114 : isAggT Tryd.prog 114 = some true := by rw [isAggT, Tryd.underlying114]; rfl
@[go_sem] theorem ze_114 : zeroC Tryd.prog 114 = some [(.v (.int .u64 0)), (.v (.int .u64 0)), (.v (.int .u64 0)), (.v (.int .u64 0)), (.v (.int .u64 0)), (.v (.int .u64 0)), (.v (.int .u64 0)), (.v (.int .u64 0)), (.v (.int .u64 0)), (.v (.int .u64 0)), (.v (.int .u64 0)), (.v (.int .u64 0)), (.v (.int .u64 0)), (.v (.int .u64 0)), (.v (.int .u64 0)), (.v (.int .u64 0)), (.v (.int .u64 0)), (.v (.int .u64 0)), (.v (.int .u64 0)), (.v (.int .u64 0))] := by rw [zeroC, info_114]; rfl
@[go_sem] theorem info_115 : Tryd.prog.info? 115 = some Tryd.t115 := info_of Tryd.types_size (by decide) Tryd.type115
@[go_sem] theorem tz_115 : Tryd.t115.size = 65 := rfl
@[go_sem] theorem tb_115 : Tryd.t115.bytes = 65 := rfl
@[go_sem] theorem sz_115 : szOf Tryd.prog 115 = some 65 := by rw [szOf, info_115]; rfl
@[go_sem] theorem ag_115 : isAggT Tryd.prog 115 = some true := by rw [isAggT, Tryd.underlying115]; rfl
@[go_sem] theorem ze_115 : zeroC Tryd.prog 115 = some [(.v (.int .u8 0)), (.v (.int .u8 0)), (.v (.int .u8 0)), (.v (.int .u8 0)), (.v (.int .u8 0)), (.v (.int .u8 0)), (.v (.int .u8 0)), (.v (.int .u8 0)), (.v (.int .u8 0)), (.v (.int .u8 0)), (.v (.int .u8 0)), (.v (.int .u8 0)), (.v (.int .u8 0)), (.v (.int .u8 0)), (.v (.int .u8 0)), (.v (.int .u8 0)), (.v (.int .u8 0)), (.v (.int .u8 0)), (.v (.int .u8 0)), (.v (.int .u8 0)), (.v (.int .u8 0)), (.v (.int .u8 0)), (.v (.int .u8 0)), (.v (.int .u8 0)), (.v (.int .u8 0)), (.v (.int .u8 0)), (.v (.int .u8 0)), (.v (.int .u8 0)), (.v (.int .u8 0)), (.v (.int .u8 0)), (.v (.int .u8 0)), (.v (.int .u8 0)), (.v (.int .u8 0)), (.v (.int .u8 0)), (.v (.int .u8 0)), (.v (.int .u8 0)), (.v (.int .u8 0)), (.v (.int .u8 0)), (.v (.int .u8 0)), (.v (.int .u8 0)), (.v (.int .u8 0)), (.v (.int .u8 0)), (.v (.int .u8 0)), (.v (.int .u8 0)), (.v (.int .u8 0)), (.v (.int .u8 0)), (.v (.int .u8 0)), (.v (.int .u8 0)), (.v (.int .u8 0)), (.v (.int .u8 0)), (.v (.int .u8 0)), (.v (.int .u8 0)), (.v (.int .u8 0)), (.v (.int .u8 0)), (.v (.int .u8 0)), (.v (.int .u8 0)), (.v (.int .u8 0)), (.v (.int .u8 0)), (.v (.int .u8 0)), (.v (.int .u8 0)), (.v (.int .u8 0)), (.v (.int .u8 0)), (.v (.int .u8 0)), (.v (.int .u8 0)), (.v (.int .u8 0))] := by rw [zeroC, info_115]; rfl
@[go_sem] theorem info_118 : Tryd.prog.info? 118 = some Tryd.t118 := info_of Tryd.types_size (by decide) Tryd.type118
@[go_sem] theorem tz_118 : Tryd.t118.size = 1 := rfl
@[go_sem] theorem tb_118 : Tryd.t118.bytes = 8 := rfl
@[go_sem] theorem sz_118 : szOf Tryd.prog 118 = some 1 := by rw [szOf, info_118]; rfl
@[go_sem] theorem ag_118 : isAggT Tryd.prog 118 = some false := by rw [isAggT, Tryd.underlying118]; rfl
@[go_sem] theorem ze_118 : zeroC Tryd.prog 118 = some [(.v (.pointer none))] := by rw [zeroC, info_118]; rfl
@[go_sem] theorem info_121 : Tryd.prog.info? 121 = some Tryd.t121 := info_of Tryd.types_size (by decide) Tryd.type121
@[go_sem] theorem tz_121 : Tryd.t121.size = 1 := rfl
@[go_sem] theorem tb_121 : Tryd.t121.bytes = 16 := rfl
@[go_sem] theorem sz_121 : szOf Tryd.prog 121 = some 1 := by rw [szOf, info_121]; rfl
@[go_sem] theorem ag_121 : isAggT Tryd.prog 121 = some true := by rw [isAggT, Tryd.underlying121]; rfl
@[go_sem] theorem fd_121_0 : fieldT Tryd.prog 121 0 = some (fld Tryd.prog 121 0) := by rw [fld, fieldT, Tryd.underlying121]; rfl
@[go_sem] theorem fo_121_0 : (fld Tryd.prog 121 0).offset = 0 := by rw [fld, fieldT, Tryd.underlying121]; rfl
@[go_sem] theorem ft_121_0 : (fld Tryd.prog 121 0).type = 9 := by rw [fld, fieldT, Tryd.underlying121]; rfl
@[go_sem] theorem ze_121 : zeroC Tryd.prog 121 = some [(.v (.string ⟨#[]⟩))] := by rw [zeroC, info_121]; rfl
@[go_sem] theorem info_124 : Tryd.prog.info? 124 = some Tryd.t124 := info_of Tryd.types_size (by decide) Tryd.type124
@[go_sem] theorem tz_124 : Tryd.t124.size = 1 := rfl
@[go_sem] theorem tb_124 : Tryd.t124.bytes = 8 := rfl
@[go_sem] theorem sz_124 : szOf Tryd.prog 124 = some 1 := by rw [szOf, info_124]; rfl
@[go_sem] theorem ag_124 : isAggT Tryd.prog 124 = some false := by rw [isAggT, Tryd.underlying124]; rfl
@[go_sem] theorem ze_124 : zeroC Tryd.prog 124 = some [(.v (.int .u64 0))] := by rw [zeroC, info_124]; rfl
@[go_sem] theorem info_128 : Tryd.prog.info? 128 = some Tryd.t128 := info_of Tryd.types_size (by decide) Tryd.type128
@[go_sem] theorem tz_128 : Tryd.t128.size = 1 := rfl
@[go_sem] theorem tb_128 : Tryd.t128.bytes = 8 := rfl
@[go_sem] theorem sz_128 : szOf Tryd.prog 128 = some 1 := by rw [szOf, info_128]; rfl
@[go_sem] theorem ag_128 : isAggT Tryd.prog 128 = some false := by rw [isAggT, Tryd.underlying128]; rfl
@[go_sem] theorem ze_128 : zeroC Tryd.prog 128 = some [(.v (.pointer none))] := by rw [zeroC, info_128]; rfl
@[go_sem] theorem info_130 : Tryd.prog.info? 130 = some Tryd.t130 := info_of Tryd.types_size (by decide) Tryd.type130
@[go_sem] theorem tz_130 : Tryd.t130.size = 256 := rfl
@[go_sem] theorem tb_130 : Tryd.t130.bytes = 256 := rfl
@[go_sem] theorem sz_130 : szOf Tryd.prog 130 = some 256 := by rw [szOf, info_130]; rfl
@[go_sem] theorem ag_130 : isAggT Tryd.prog 130 = some true := by rw [isAggT, Tryd.underlying130]; rfl
@[go_sem] theorem ze_130 : zeroC Tryd.prog 130 = some [(.v (.int .u8 0)), (.v (.int .u8 0)), (.v (.int .u8 0)), (.v (.int .u8 0)), (.v (.int .u8 0)), (.v (.int .u8 0)), (.v (.int .u8 0)), (.v (.int .u8 0)), (.v (.int .u8 0)), (.v (.int .u8 0)), (.v (.int .u8 0)), (.v (.int .u8 0)), (.v (.int .u8 0)), (.v (.int .u8 0)), (.v (.int .u8 0)), (.v (.int .u8 0)), (.v (.int .u8 0)), (.v (.int .u8 0)), (.v (.int .u8 0)), (.v (.int .u8 0)), (.v (.int .u8 0)), (.v (.int .u8 0)), (.v (.int .u8 0)), (.v (.int .u8 0)), (.v (.int .u8 0)), (.v (.int .u8 0)), (.v (.int .u8 0)), (.v (.int .u8 0)), (.v (.int .u8 0)), (.v (.int .u8 0)), (.v (.int .u8 0)), (.v (.int .u8 0)), (.v (.int .u8 0)), (.v (.int .u8 0)), (.v (.int .u8 0)), (.v (.int .u8 0)), (.v (.int .u8 0)), (.v (.int .u8 0)), (.v (.int .u8 0)), (.v (.int .u8 0)), (.v (.int .u8 0)), (.v (.int .u8 0)), (.v (.int .u8 0)), (.v (.int .u8 0)), (.v (.int .u8 0)), (.v (.int .u8 0)), (.v (.int .u8 0)), (.v (.int .u8 0)), (.v (.int .u8 0)), (.v (.int .u8 0)), (.v (.int .u8 0)), (.v (.int .u8 0)), (.v (.int .u8 0)), (.v (.int .u8 0)), (.v (.int .u8 0)), (.v (.int .u8 0)), (.v (.int .u8 0)), (.v (.int .u8 0)), (.v (.int .u8 0)), (.v (.int .u8 0)), (.v (.int .u8 0)), (.v (.int .u8 0)), (.v (.int .u8 0)), (.v (.int .u8 0)), (.v (.int .u8 0)), (.v (.int .u8 0)), (.v (.int .u8 0)), (.v (.int .u8 0)), (.v (.int .u8 0)), (.v (.int .u8 0)), (.v (.int .u8 0)), (.v (.int .u8 0)), (.v (.int .u8 0)), (.v (.int .u8 0)), (.v (.int .u8 0)), (.v (.int .u8 0)), (.v (.int .u8 0)), (.v (.int .u8 0)), (.v (.int .u8 0)), (.v (.int .u8 0)), (.v (.int .u8 0)), (.v (.int .u8 0)), (.v (.int .u8 0)), (.v (.int .u8 0)), (.v (.int .u8 0)), (.v (.int .u8 0)), (.v (.int .u8 0)), (.v (.int .u8 0)), (.v (.int .u8 0)), (.v (.int .u8 0)), (.v (.int .u8 0)), (.v (.int .u8 0)), (.v (.int .u8 0)), (.v (.int .u8 0)), (.v (.int .u8 0)), (.v (.int .u8 0)), (.v (.int .u8 0)), (.v (.int .u8 0)), (.v (.int .u8 0)), (.v (.int .u8 0)), (.v (.int .u8 0)), (.v (.int .u8 0)), (.v (.int .u8 0)), (.v (.int .u8 0)), (.v (.int .u8 0)), (.v (.int .u8 0)), (.v (.int .u8 0)), (.v (.int .u8 0)), (.v (.int .u8 0)), (.v (.int .u8 0)), (.v (.int .u8 0)), (.v (.int .u8 0)), (.v (.int .u8 0)), (.v (.int .u8 0)), (.v (.int .u8 0)), (.v (.int .u8 0)), (.v (.int .u8 0)), (.v (.int .u8 0)), (.v (.int .u8 0)), (.v (.int .u8 0)), (.v (.int .u8 0)), (.v (.int .u8 0)), (.v (.int .u8 0)), (.v (.int .u8 0)), (.v (.int .u8 0)), (.v (.int .u8 0)), (.v (.int .u8 0)), (.v (.int .u8 0)), (.v (.int .u8 0)), (.v (.int .u8 0)), (.v (.int .u8 0)), (.v (.int .u8 0)), (.v (.int .u8 0)), (.v (.int .u8 0)), (.v (.int .u8 0)), (.v (.int .u8 0)), (.v (.int .u8 0)), (.v (.int .u8 0)), (.v (.int .u8 0)), (.v (.int .u8 0)), (.v (.int .u8 0)), (.v (.int .u8 0)), (.v (.int .u8 0)), (.v (.int .u8 0)), (.v (.int .u8 0)), (.v (.int .u8 0)), (.v (.int .u8 0)), (.v (.int .u8 0)), (.v (.int .u8 0)), (.v (.int .u8 0)), (.v (.int .u8 0)), (.v (.int .u8 0)), (.v (.int .u8 0)), (.v (.int .u8 0)), (.v (.int .u8 0)), (.v (.int .u8 0)), (.v (.int .u8 0)), (.v (.int .u8 0)), (.v (.int .u8 0)), (.v (.int .u8 0)), (.v (.int .u8 0)), (.v (.int .u8 0)), (.v (.int .u8 0)), (.v (.int .u8 0)), (.v (.int .u8 0)), (.v (.int .u8 0)), (.v (.int .u8 0)), (.v (.int .u8 0)), (.v (.int .u8 0)), (.v (.int .u8 0)), (.v (.int .u8 0)), (.v (.int .u8 0)), (.v (.int .u8 0)), (.v (.int .u8 0)), (.v (.int .u8 0)), (.v (.int .u8 0)), (.v (.int .u8 0)), (.v (.int .u8 0)), (.v (.int .u8 0)), (.v (.int .u8 0)), (.v (.int .u8 0)), (.v (.int .u8 0)), (.v (.int .u8 0)), (.v (.int .u8 0)), (.v (.int .u8 0)), (.v (.int .u8 0)), (.v (.int .u8 0)), (.v (.int .u8 0)), (.v (.int .u8 0)), (.v (.int .u8 0)), (.v (.int .u8 0)), (.v (.int .u8 0)), (.v (.int .u8 0)), (.v (.int .u8 0)), (.v (.int .u8 0)), (.v (.int .u8 0)), (.v (.int .u8 0)), (.v (.int .u8 0)), (.v (.int .u8 0)), (.v (.int .u8 0)), (.v (.int .u8 0)), (.v (.int .u8 0)), (.v (.int .u8 0)), (.v (.int .u8 0)), (.v (.int .u8 0)), (.v (.int .u8 0)), (.v (.int .u8 0)), (.v (.int .u8 0)), (.v (.int .u8 0)), (.v (.int .u8 0)), (.v (.int .u8 0)), (.v (.int .u8 0)), (.v (.int .u8 0)), (.v (.int .u8 0)), (.v (.int .u8 0)), (.v (.int .u8 0)), (.v (.int .u8 0)), (.v (.int .u8 0)), (.v (.int .u8 0)), (.v (.int .u8 0)), (.v (.int .u8 0)), (.v (.int .u8 0)), (.v (.int .u8 0)), (.v (.int .u8 0)), (.v (.int .u8 0)), (.v (.int .u8 0)), (.v (.int .u8 0)), (.v (.int .u8 0)), (.v (.int .u8 0)), (.v (.int .u8 0)), (.v (.int .u8 0)), (.v (.int .u8 0)), (.v (.int .u8 0)), (.v (.int .u8 0)), (.v (.int .u8 0)), (.v (.int .u8 0)), (.v (.int .u8 0)), (.v (.int .u8 0)), (.v (.int .u8 0)), (.v (.int .u8 0)), (.v (.int .u8 0)), (.v (.int .u8 0)), (.v (.int .u8 0)), (.v (.int .u8 0)), (.v (.int .u8 0)), (.v (.int .u8 0)), (.v (.int .u8 0)), (.v (.int .u8 0)), (.v (.int .u8 0)), (.v (.int .u8 0)), (.v (.int .u8 0)), (.v (.int .u8 0)), (.v (.int .u8 0)), (.v (.int .u8 0)), (.v (.int .u8 0)), (.v (.int .u8 0))] := by rw [zeroC, info_130]; rfl
@[go_sem] theorem info_132 : Tryd.prog.info? 132 = some Tryd.t132 := info_of Tryd.types_size (by decide) Tryd.type132
@[go_sem] theorem tz_132 : Tryd.t132.size = 2 := rfl
@[go_sem] theorem tb_132 : Tryd.t132.bytes = 2 := rfl
@[go_sem] theorem sz_132 : szOf Tryd.prog 132 = some 2 := by rw [szOf, info_132]; rfl
@[go_sem] theorem ag_132 : isAggT Tryd.prog 132 = some true := by rw [isAggT, Tryd.underlying132]; rfl
@[go_sem] theorem fd_132_0 : fieldT Tryd.prog 132 0 = some (fld Tryd.prog 132 0) := by rw [fld, fieldT, Tryd.underlying132]; rfl
@[go_sem] theorem fo_132_0 : (fld Tryd.prog 132 0).offset = 0 := by rw [fld, fieldT, Tryd.underlying132]; rfl
@[go_sem] theorem ft_132_0 : (fld Tryd.prog 132 0).type = 5 := by rw [fld, fieldT, Tryd.underlying132]; rfl
@[go_sem] theorem fd_132_1 : fieldT Tryd.prog 132 1 = some (fld Tryd.prog 132 1) := by rw [fld, fieldT, Tryd.underlying132]; rfl
@[go_sem] theorem fo_132_1 : (fld Tryd.prog 132 1).offset = 1 := by rw [fld, fieldT, Tryd.underlying132]; rfl
@[go_sem] theorem ft_132_1 : (fld Tryd.prog 132 1).type = 5 := by rw [fld, fieldT, Tryd.underlying132]; rfl
@[go_sem] theorem ze_132 : zeroC Tryd.prog 132 = some [(.v (.int .u8 0)), (.v (.int .u8 0))] := by rw [zeroC, info_132]; rfl
@[go_sem] theorem fs_132 : flatS Tryd.prog 132 2 = true := by simp [flatS, Tryd.underlying132, Tryd.stoodInHeld132, Tryd.eqGuardType132, Tryd.underlying5]
@[go_sem] theorem info_133 : Tryd.prog.info? 133 = some Tryd.t133 := info_of Tryd.types_size (by decide) Tryd.type133
@[go_sem] theorem tz_133 : Tryd.t133.size = 32 := rfl
@[go_sem] theorem tb_133 : Tryd.t133.bytes = 32 := rfl
@[go_sem] theorem sz_133 : szOf Tryd.prog 133 = some 32 := by rw [szOf, info_133]; rfl
@[go_sem] theorem ag_133 : isAggT Tryd.prog 133 = some true := by rw [isAggT, Tryd.underlying133]; rfl
@[go_sem] theorem ze_133 : zeroC Tryd.prog 133 = some [(.v (.int .u8 0)), (.v (.int .u8 0)), (.v (.int .u8 0)), (.v (.int .u8 0)), (.v (.int .u8 0)), (.v (.int .u8 0)), (.v (.int .u8 0)), (.v (.int .u8 0)), (.v (.int .u8 0)), (.v (.int .u8 0)), (.v (.int .u8 0)), (.v (.int .u8 0)), (.v (.int .u8 0)), (.v (.int .u8 0)), (.v (.int .u8 0)), (.v (.int .u8 0)), (.v (.int .u8 0)), (.v (.int .u8 0)), (.v (.int .u8 0)), (.v (.int .u8 0)), (.v (.int .u8 0)), (.v (.int .u8 0)), (.v (.int .u8 0)), (.v (.int .u8 0)), (.v (.int .u8 0)), (.v (.int .u8 0)), (.v (.int .u8 0)), (.v (.int .u8 0)), (.v (.int .u8 0)), (.v (.int .u8 0)), (.v (.int .u8 0)), (.v (.int .u8 0))] := by rw [zeroC, info_133]; rfl
@[go_sem] theorem info_136 : Tryd.prog.info? 136 = some Tryd.t136 := info_of Tryd.types_size (by decide) Tryd.type136
@[go_sem] theorem tz_136 : Tryd.t136.size = 32 := rfl
@[go_sem] theorem tb_136 : Tryd.t136.bytes = 32 := rfl
@[go_sem] theorem sz_136 : szOf Tryd.prog 136 = some 32 := by rw [szOf, info_136]; rfl
@[go_sem] theorem ag_136 : isAggT Tryd.prog 136 = some true := by rw [isAggT, Tryd.underlying136]; rfl
@[go_sem] theorem ze_136 : zeroC Tryd.prog 136 = some [(.v (.int .u8 0)), (.v (.int .u8 0)), (.v (.int .u8 0)), (.v (.int .u8 0)), (.v (.int .u8 0)), (.v (.int .u8 0)), (.v (.int .u8 0)), (.v (.int .u8 0)), (.v (.int .u8 0)), (.v (.int .u8 0)), (.v (.int .u8 0)), (.v (.int .u8 0)), (.v (.int .u8 0)), (.v (.int .u8 0)), (.v (.int .u8 0)), (.v (.int .u8 0)), (.v (.int .u8 0)), (.v (.int .u8 0)), (.v (.int .u8 0)), (.v (.int .u8 0)), (.v (.int .u8 0)), (.v (.int .u8 0)), (.v (.int .u8 0)), (.v (.int .u8 0)), (.v (.int .u8 0)), (.v (.int .u8 0)), (.v (.int .u8 0)), (.v (.int .u8 0)), (.v (.int .u8 0)), (.v (.int .u8 0)), (.v (.int .u8 0)), (.v (.int .u8 0))] := by rw [zeroC, info_136]; rfl
@[go_sem] theorem info_137 : Tryd.prog.info? 137 = some Tryd.t137 := info_of Tryd.types_size (by decide) Tryd.type137
@[go_sem] theorem tz_137 : Tryd.t137.size = 64 := rfl
@[go_sem] theorem tb_137 : Tryd.t137.bytes = 64 := rfl
@[go_sem] theorem sz_137 : szOf Tryd.prog 137 = some 64 := by rw [szOf, info_137]; rfl
@[go_sem] theorem ag_137 : isAggT Tryd.prog 137 = some true := by rw [isAggT, Tryd.underlying137]; rfl
@[go_sem] theorem ze_137 : zeroC Tryd.prog 137 = some [(.v (.int .u8 0)), (.v (.int .u8 0)), (.v (.int .u8 0)), (.v (.int .u8 0)), (.v (.int .u8 0)), (.v (.int .u8 0)), (.v (.int .u8 0)), (.v (.int .u8 0)), (.v (.int .u8 0)), (.v (.int .u8 0)), (.v (.int .u8 0)), (.v (.int .u8 0)), (.v (.int .u8 0)), (.v (.int .u8 0)), (.v (.int .u8 0)), (.v (.int .u8 0)), (.v (.int .u8 0)), (.v (.int .u8 0)), (.v (.int .u8 0)), (.v (.int .u8 0)), (.v (.int .u8 0)), (.v (.int .u8 0)), (.v (.int .u8 0)), (.v (.int .u8 0)), (.v (.int .u8 0)), (.v (.int .u8 0)), (.v (.int .u8 0)), (.v (.int .u8 0)), (.v (.int .u8 0)), (.v (.int .u8 0)), (.v (.int .u8 0)), (.v (.int .u8 0)), (.v (.int .u8 0)), (.v (.int .u8 0)), (.v (.int .u8 0)), (.v (.int .u8 0)), (.v (.int .u8 0)), (.v (.int .u8 0)), (.v (.int .u8 0)), (.v (.int .u8 0)), (.v (.int .u8 0)), (.v (.int .u8 0)), (.v (.int .u8 0)), (.v (.int .u8 0)), (.v (.int .u8 0)), (.v (.int .u8 0)), (.v (.int .u8 0)), (.v (.int .u8 0)), (.v (.int .u8 0)), (.v (.int .u8 0)), (.v (.int .u8 0)), (.v (.int .u8 0)), (.v (.int .u8 0)), (.v (.int .u8 0)), (.v (.int .u8 0)), (.v (.int .u8 0)), (.v (.int .u8 0)), (.v (.int .u8 0)), (.v (.int .u8 0)), (.v (.int .u8 0)), (.v (.int .u8 0)), (.v (.int .u8 0)), (.v (.int .u8 0)), (.v (.int .u8 0))] := by rw [zeroC, info_137]; rfl
/-- How calls are taken. -/
def mutL : List Nat := [12, 19, 28, 39, 55, 92, 113]
def ownL : List (Nat × Nat) := [(4, 6), (7, 29)]
end Go.Proofs.YtdjdgnabcecdlaaDoor.X
