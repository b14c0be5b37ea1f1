/- What functions answer, and the plain laws behind it. -/
import Derived.Test.YtdlfdoicheakoaaGreatEval
import Derived.Test.YtdlfdoicheakoaaGreatProg
import Derived.Lib.Atoi
import Derived.Lib.Bytealg
/- Facts of one program's tables. -/
namespace Go.Proofs.YtdlfdoicheakoaaGreat.X
open Go Go.Proofs
set_option maxRecDepth 100000
attribute [go_sem] Tryz.underlying0 Tryz.underlying1 Tryz.underlying2 Tryz.underlying3 Tryz.underlying4 Tryz.underlying5 Tryz.underlying6 Tryz.underlying7 Tryz.underlying8 Tryz.underlying9 Tryz.underlying10 Tryz.underlying11 Tryz.underlying12 Tryz.underlying13 Tryz.underlying14 Tryz.underlying15 Tryz.underlying16 Tryz.underlying17 Tryz.underlying18 Tryz.underlying19 Tryz.underlying20 Tryz.underlying21 Tryz.underlying22 Tryz.underlying23 Tryz.underlying24 Tryz.underlying25 Tryz.underlying26 Tryz.underlying27 Tryz.underlying28 Tryz.underlying29 Tryz.underlying30 Tryz.underlying31 Tryz.underlying32 Tryz.underlying33 Tryz.underlying34 Tryz.underlying35 Tryz.underlying36 Tryz.underlying37 Tryz.underlying38 Tryz.underlying39 Tryz.underlying40 Tryz.underlying41 Tryz.underlying42 Tryz.underlying43 Tryz.underlying44 Tryz.underlying45 Tryz.underlying46 Tryz.underlying47 Tryz.underlying48 Tryz.underlying49 Tryz.underlying50 Tryz.underlying51 Tryz.underlying52 Tryz.underlying53 Tryz.underlying54 Tryz.underlying55 Tryz.underlying56 Tryz.underlying57 Tryz.underlying58 Tryz.underlying59 Tryz.underlying60 Tryz.underlying61 Tryz.underlying62 Tryz.underlying63 Tryz.underlying64 Tryz.underlying65 Tryz.underlying66 Tryz.underlying67 Tryz.underlying68 Tryz.underlying69 Tryz.underlying70 Tryz.underlying71 Tryz.underlying72 Tryz.underlying73 Tryz.underlying74 Tryz.underlying75 Tryz.underlying76 Tryz.underlying77 Tryz.underlying78 Tryz.underlying79 Tryz.underlying80 Tryz.underlying81 Tryz.underlying82 Tryz.underlying83 Tryz.underlying84 Tryz.underlying85 Tryz.underlying86 Tryz.underlying87 Tryz.underlying88 Tryz.underlying89 Tryz.underlying90 Tryz.underlying91 Tryz.underlying92 Tryz.underlying93 Tryz.underlying94 Tryz.underlying95 Tryz.underlying96 Tryz.underlying97 Tryz.underlying98 Tryz.underlying99 Tryz.underlying100 Tryz.underlying101 Tryz.underlying102 Tryz.underlying103 Tryz.underlying104 Tryz.underlying105 Tryz.underlying106 Tryz.underlying107 Tryz.underlying108 Tryz.underlying109 Tryz.underlying110 Tryz.underlying111 Tryz.underlying112 Tryz.underlying113 Tryz.underlying114 Tryz.underlying115 Tryz.underlying116 Tryz.underlying117 Tryz.underlying118 Tryz.underlying119 Tryz.underlying120 Tryz.underlying121 Tryz.underlying122 Tryz.underlying123 Tryz.underlying124 Tryz.underlying125 Tryz.underlying126 Tryz.underlying127 Tryz.underlying128 Tryz.underlying129 Tryz.underlying130 Tryz.underlying131 Tryz.underlying132 Tryz.underlying133 Tryz.underlying134 Tryz.underlying135 Tryz.underlying136 Tryz.underlying137 Tryz.underlying138 Tryz.underlying139 Tryz.underlying140 Tryz.underlying141 Tryz.underlying142 Tryz.underlying143 Tryz.underlying144 Tryz.underlying145 Tryz.underlying146 Tryz.underlying147 Tryz.underlying148 Tryz.underlying149 Tryz.underlying150 Tryz.underlying151 Tryz.underlying152
theorem info_of {P : Program} {t n : Nat} {i : TypeInfo} (h : P.types.size = n) (hl : t < n) (hi : P.types[t]? = some i) : P.info? t = some i := by
  unfold Tables.info?
  rw [if_pos (by rw [h]; exact hl)]
  exact hi
def zB (n : Nat) : List IV := List.replicate n (.v (.bool false))
def fld (P : Program) (t i : Nat) : Field := (fieldT P t i).getD ⟨ "", 0, 0, false, "", "", 0⟩
@[go_sem] theorem info_3 : Tryz.prog.info? 3 = some Tryz.t3 := info_of Tryz.types_size (by decide) Tryz.type3
@[go_sem] theorem tz_3 : Tryz.t3.size = 1 := rfl
@[go_sem] theorem tb_3 : Tryz.t3.bytes = 8 := rfl
@[go_sem] theorem sz_3 : szOf Tryz.prog 3 = some 1 := by rw [szOf, info_3]; rfl
@[go_sem] theorem ag_3 : isAggT Tryz.prog 3 = some false := by rw [isAggT, Tryz.underlying3]; rfl
@[go_sem] theorem ze_3 : zeroC Tryz.prog 3 = some [(.v (.int .i64 0))] := by rw [zeroC, info_3]; rfl
@[go_sem] theorem info_4 : Tryz.prog.info? 4 = some Tryz.t4 := info_of Tryz.types_size (by decide) Tryz.type4
@[go_sem] theorem tz_4 : Tryz.t4.size = 1 := rfl
@[go_sem] theorem tb_4 : Tryz.t4.bytes = 1 := rfl
@[go_sem] theorem sz_4 : szOf Tryz.prog 4 = some 1 := by rw [szOf, info_4]; rfl
@[go_sem] theorem ag_4 : isAggT Tryz.prog 4 = some false := by rw [isAggT, Tryz.underlying4]; rfl
@[go_sem] theorem ze_4 : zeroC Tryz.prog 4 = some [(.v (.bool false))] := by rw [zeroC, info_4]; rfl
@[go_sem] theorem info_5 : Tryz.prog.info? 5 = some Tryz.t5 := info_of Tryz.types_size (by decide) Tryz.type5
@[go_sem] theorem tz_5 : Tryz.t5.size = 1 := rfl
@[go_sem] theorem tb_5 : Tryz.t5.bytes = 1 := rfl
@[go_sem] theorem sz_5 : szOf Tryz.prog 5 = some 1 := by rw [szOf, info_5]; rfl
@[go_sem] theorem ag_5 : isAggT Tryz.prog 5 = some false := by rw [isAggT, Tryz.underlying5]; rfl
@[go_sem] theorem ze_5 : zeroC Tryz.prog 5 = some [(.v (.int .u8 0))] := by rw [zeroC, info_5]; rfl
@[go_sem] theorem info_9 : Tryz.prog.info? 9 = some Tryz.t9 := info_of Tryz.types_size (by decide) Tryz.type9
@[go_sem] theorem tz_9 : Tryz.t9.size = 1 := rfl
@[go_sem] theorem tb_9 : Tryz.t9.bytes = 16 := rfl
@[go_sem] theorem sz_9 : szOf Tryz.prog 9 = some 1 := by rw [szOf, info_9]; rfl
@[go_sem] theorem ag_9 : isAggT Tryz.prog 9 = some false := by rw [isAggT, Tryz.underlying9]; rfl
@[go_sem] theorem ze_9 : zeroC Tryz.prog 9 = some [(.v (.string ⟨#[]⟩))] := by rw [zeroC, info_9]; rfl
@[go_sem] theorem info_22 : Tryz.prog.info? 22 = some Tryz.t22 := info_of Tryz.types_size (by decide) Tryz.type22
@[go_sem] theorem tz_22 : Tryz.t22.size = 1 := rfl
@[go_sem] theorem tb_22 : Tryz.t22.bytes = 24 := rfl
@[go_sem] theorem sz_22 : szOf Tryz.prog 22 = some 1 := by rw [szOf, info_22]; rfl
@[go_sem] theorem ag_22 : isAggT Tryz.prog 22 = some false := by rw [isAggT, Tryz.underlying22]; rfl
@[go_sem] theorem el_22 : elemT Tryz.prog 22 = some 5 := by rw [elemT, Tryz.underlying22]
@[go_sem] theorem ze_22 : zeroC Tryz.prog 22 = some [.emp] := by rw [zeroC, info_22]; rfl
@[go_sem] theorem info_23 : Tryz.prog.info? 23 = some Tryz.t23 := info_of Tryz.types_size (by decide) Tryz.type23
@[go_sem] theorem tz_23 : Tryz.t23.size = 1 := rfl
@[go_sem] theorem tb_23 : Tryz.t23.bytes = 24 := rfl
@[go_sem] theorem sz_23 : szOf Tryz.prog 23 = some 1 := by rw [szOf, info_23]; rfl
@[go_sem] theorem ag_23 : isAggT Tryz.prog 23 = some false := by rw [isAggT, Tryz.underlying23]; rfl
@[go_sem] theorem el_23 : elemT Tryz.prog 23 = some 31 := by rw [elemT, Tryz.underlying23]
@[go_sem] theorem ze_23 : zeroC Tryz.prog 23 = some [.emp] := by rw [zeroC, info_23]; rfl
@[go_sem] theorem info_25 : Tryz.prog.info? 25 = some Tryz.t25 := info_of Tryz.types_size (by decide) Tryz.type25
@[go_sem] theorem tz_25 : Tryz.t25.size = 2 := rfl
@[go_sem] theorem tb_25 : Tryz.t25.bytes = 32 := rfl
@[go_sem] theorem sz_25 : szOf Tryz.prog 25 = some 2 := by rw [szOf, info_25]; rfl
@[go_sem] theorem ag_25 : isAggT Tryz.prog 25 = some true := by rw [isAggT, Tryz.underlying25]; rfl
@[go_sem] theorem fd_25_0 : fieldT Tryz.prog 25 0 = some { name := "Nodes", type := 3, offset := 0, embedded := false, tag := "", pkgPath := "", byteOffset := 0 } := by rw [fieldT, Tryz.underlying25]; rfl
@[go_sem] theorem fd_25_1 : fieldT Tryz.prog 25 1 = some { name := "Edges", type := 23, offset := 1, embedded := false, tag := "", pkgPath := "", byteOffset := 8 } := by rw [fieldT, Tryz.underlying25]; rfl
@[go_sem] theorem ze_25 : zeroC Tryz.prog 25 = some [(.v (.int .i64 0)), .emp] := by rw [zeroC, info_25]; rfl
@[go_sem] theorem info_26 : Tryz.prog.info? 26 = some Tryz.t26 := info_of Tryz.types_size (by decide) Tryz.type26
@[go_sem] theorem tz_26 : Tryz.t26.size = 1 := rfl
@[go_sem] theorem tb_26 : Tryz.t26.bytes = 24 := rfl
@[go_sem] theorem sz_26 : szOf Tryz.prog 26 = some 1 := by rw [szOf, info_26]; rfl
@[go_sem] theorem ag_26 : isAggT Tryz.prog 26 = some false := by rw [isAggT, Tryz.underlying26]; rfl
@[go_sem] theorem el_26 : elemT Tryz.prog 26 = some 3 := by rw [elemT, Tryz.underlying26]
@[go_sem] theorem ze_26 : zeroC Tryz.prog 26 = some [.emp] := by rw [zeroC, info_26]; rfl
@[go_sem] theorem info_27 : Tryz.prog.info? 27 = some Tryz.t27 := info_of Tryz.types_size (by decide) Tryz.type27
@[go_sem] theorem tz_27 : Tryz.t27.size = 1 := rfl
@[go_sem] theorem tb_27 : Tryz.t27.bytes = 24 := rfl
@[go_sem] theorem sz_27 : szOf Tryz.prog 27 = some 1 := by rw [szOf, info_27]; rfl
@[go_sem] theorem ag_27 : isAggT Tryz.prog 27 = some false := by rw [isAggT, Tryz.underlying27]; rfl
@[go_sem] theorem el_27 : elemT Tryz.prog 27 = some 4 := by rw [elemT, Tryz.underlying27]
@[go_sem] theorem ze_27 : zeroC Tryz.prog 27 = some [.emp] := by rw [zeroC, info_27]; rfl
@[go_sem] theorem info_29 : Tryz.prog.info? 29 = some Tryz.t29 := info_of Tryz.types_size (by decide) Tryz.type29
@[go_sem] theorem tz_29 : Tryz.t29.size = 4 := rfl
@[go_sem] theorem tb_29 : Tryz.t29.bytes = 80 := rfl
@[go_sem] theorem sz_29 : szOf Tryz.prog 29 = some 4 := by rw [szOf, info_29]; rfl
@[go_sem] theorem ag_29 : isAggT Tryz.prog 29 = some true := by rw [isAggT, Tryz.underlying29]; rfl
@[go_sem] theorem fd_29_0 : fieldT Tryz.prog 29 0 = some { name := "Graph", type := 25, offset := 0, embedded := false, tag := "", pkgPath := "", byteOffset := 0 } := by rw [fieldT, Tryz.underlying29]; rfl
@[go_sem] theorem fd_29_1 : fieldT Tryz.prog 29 1 = some { name := "Levels", type := 26, offset := 2, embedded := false, tag := "", pkgPath := "", byteOffset := 32 } := by rw [fieldT, Tryz.underlying29]; rfl
@[go_sem] theorem fd_29_2 : fieldT Tryz.prog 29 2 = some { name := "Tree", type := 27, offset := 3, embedded := false, tag := "", pkgPath := "", byteOffset := 56 } := by rw [fieldT, Tryz.underlying29]; rfl
@[go_sem] theorem ze_29 : zeroC Tryz.prog 29 = some [(.v (.int .i64 0)), .emp, .emp, .emp] := by rw [zeroC, info_29]; rfl
@[go_sem] theorem info_31 : Tryz.prog.info? 31 = some Tryz.t31 := info_of Tryz.types_size (by decide) Tryz.type31
@[go_sem] theorem tz_31 : Tryz.t31.size = 2 := rfl
@[go_sem] theorem tb_31 : Tryz.t31.bytes = 16 := rfl
@[go_sem] theorem sz_31 : szOf Tryz.prog 31 = some 2 := by rw [szOf, info_31]; rfl
@[go_sem] theorem ag_31 : isAggT Tryz.prog 31 = some true := by rw [isAggT, Tryz.underlying31]; rfl
@[go_sem] theorem fd_31_0 : fieldT Tryz.prog 31 0 = some { name := "A", type := 3, offset := 0, embedded := false, tag := "", pkgPath := "", byteOffset := 0 } := by rw [fieldT, Tryz.underlying31]; rfl
@[go_sem] theorem fd_31_1 : fieldT Tryz.prog 31 1 = some { name := "B", type := 3, offset := 1, embedded := false, tag := "", pkgPath := "", byteOffset := 8 } := by rw [fieldT, Tryz.underlying31]; rfl
@[go_sem] theorem ze_31 : zeroC Tryz.prog 31 = some [(.v (.int .i64 0)), (.v (.int .i64 0))] := by rw [zeroC, info_31]; rfl
@[go_sem] theorem fs_31 : flatS Tryz.prog 31 2 = true := by simp [flatS, Tryz.underlying31, Tryz.stoodInHeld31, Tryz.eqGuardType31, Tryz.underlying3]
@[go_sem] theorem info_43 : Tryz.prog.info? 43 = some Tryz.t43 := info_of Tryz.types_size (by decide) Tryz.type43
@[go_sem] theorem tz_43 : Tryz.t43.size = 1 := rfl
@[go_sem] theorem tb_43 : Tryz.t43.bytes = 8 := rfl
@[go_sem] theorem sz_43 : szOf Tryz.prog 43 = some 1 := by rw [szOf, info_43]; rfl
@[go_sem] theorem ag_43 : isAggT Tryz.prog 43 = some false := by rw [isAggT, Tryz.underlying43]; rfl
@[go_sem] theorem ze_43 : zeroC Tryz.prog 43 = some [(.v (.pointer none))] := by rw [zeroC, info_43]; rfl
@[go_sem] theorem info_48 : Tryz.prog.info? 48 = some Tryz.t48 := info_of Tryz.types_size (by decide) Tryz.type48
@[go_sem] theorem tz_48 : Tryz.t48.size = 1 := rfl
@[go_sem] theorem tb_48 : Tryz.t48.bytes = 8 := rfl
@[go_sem] theorem sz_48 : szOf Tryz.prog 48 = some 1 := by rw [szOf, info_48]; rfl
@[go_sem] theorem ag_48 : isAggT Tryz.prog 48 = some false := by rw [isAggT, Tryz.underlying48]; rfl
@[go_sem] theorem info_72 : Tryz.prog.info? 72 = some Tryz.t72 := info_of Tryz.types_size (by decide) Tryz.type72
@[go_sem] theorem tz_72 : Tryz.t72.size = 2 := rfl
@[go_sem] theorem tb_72 : Tryz.t72.bytes = 32 := rfl
@[go_sem] theorem sz_72 : szOf Tryz.prog 72 = some 2 := by rw [szOf, info_72]; rfl
@[go_sem] theorem ag_72 : isAggT Tryz.prog 72 = some true := by rw [isAggT, Tryz.underlying72]; rfl
@[go_sem] theorem fd_72_0 : fieldT Tryz.prog 72 0 = some (fld Tryz.prog 72 0) := by rw [fld, fieldT, Tryz.underlying72]; rfl
@[go_sem] theorem fo_72_0 : (fld Tryz.prog 72 0).offset = 0 := by rw [fld, fieldT, Tryz.underlying72]; rfl
@[go_sem] theorem ft_72_0 : (fld Tryz.prog 72 0).type = 22 := by rw [fld, fieldT, Tryz.underlying72]; rfl
@[go_sem] theorem fd_72_1 : fieldT Tryz.prog 72 1 = some (fld Tryz.prog 72 1) := by rw [fld, fieldT, Tryz.underlying72]; rfl
@[go_sem] theorem fo_72_1 : (fld Tryz.prog 72 1).offset = 1 := by rw [fld, fieldT, Tryz.underlying72]; rfl
@[go_sem] theorem ft_72_1 : (fld Tryz.prog 72 1).type = 3 := by rw [fld, fieldT, Tryz.underlying72]; rfl
@[go_sem] theorem ze_72 : zeroC Tryz.prog 72 = some [.emp, (.v (.int .i64 0))] := by rw [zeroC, info_72]; rfl
@[go_sem] theorem info_75 : Tryz.prog.info? 75 = some Tryz.t75 := info_of Tryz.types_size (by decide) Tryz.type75
@[go_sem] theorem tz_75 : Tryz.t75.size = 1 := rfl
@[go_sem] theorem tb_75 : Tryz.t75.bytes = 8 := rfl
@[go_sem] theorem sz_75 : szOf Tryz.prog 75 = some 1 := by rw [szOf, info_75]; rfl
@[go_sem] theorem ag_75 : isAggT Tryz.prog 75 = some false := by rw [isAggT, Tryz.underlying75]; rfl
@[go_sem] theorem info_80 : Tryz.prog.info? 80 = some Tryz.t80 := info_of Tryz.types_size (by decide) Tryz.type80
@[go_sem] theorem tz_80 : Tryz.t80.size = 1 := rfl
@[go_sem] theorem tb_80 : Tryz.t80.bytes = 8 := rfl
@[go_sem] theorem sz_80 : szOf Tryz.prog 80 = some 1 := by rw [szOf, info_80]; rfl
@[go_sem] theorem ag_80 : isAggT Tryz.prog 80 = some false := by rw [isAggT, Tryz.underlying80]; rfl
@[go_sem] theorem ze_80 : zeroC Tryz.prog 80 = some [(.v (.pointer none))] := by rw [zeroC, info_80]; rfl
@[go_sem] theorem info_107 : Tryz.prog.info? 107 = some Tryz.t107 := info_of Tryz.types_size (by decide) Tryz.type107
@[go_sem] theorem tz_107 : Tryz.t107.size = 1 := rfl
@[go_sem] theorem tb_107 : Tryz.t107.bytes = 8 := rfl
@[go_sem] theorem sz_107 : szOf Tryz.prog 107 = some 1 := by rw [szOf, info_107]; rfl
@[go_sem] theorem ag_107 : isAggT Tryz.prog 107 = some false := by rw [isAggT, Tryz.underlying107]; rfl
@[go_sem] theorem ze_107 : zeroC Tryz.prog 107 = some [(.v (.int .u64 0))] := by rw [zeroC, info_107]; rfl
@[go_sem] theorem info_112 : Tryz.prog.info? 112 = some Tryz.t112 := info_of Tryz.types_size (by decide) Tryz.type112
@[go_sem] theorem tz_112 : Tryz.t112.size = 1 := rfl
@[go_sem] theorem tb_112 : Tryz.t112.bytes = 4 := rfl
@[go_sem] theorem sz_112 : szOf Tryz.prog 112 = some 1 := by rw [szOf, info_112]; rfl
@[go_sem] theorem ag_112 : isAggT Tryz.prog 112 = some false := by rw [isAggT, Tryz.underlying112]; rfl
@[go_sem] theorem ze_112 : zeroC Tryz.prog 112 = some [(.v (.int .u32 0))] := by rw [zeroC, info_112]; rfl
@[go_sem] theorem info_115 : Tryz.prog.info? 115 = some Tryz.t115 := info_of Tryz.types_size (by decide) Tryz.type115
@[go_sem] theorem tz_115 : Tryz.t115.size = 1 := rfl
@[go_sem] theorem tb_115 : Tryz.t115.bytes = 8 := rfl
@[go_sem] theorem sz_115 : szOf Tryz.prog 115 = some 1 := by rw [szOf, info_115]; rfl
@[go_sem] theorem ag_115 : isAggT Tryz.prog 115 = some false := by rw [isAggT, Tryz.underlying115]; rfl
@[go_sem] theorem ze_115 : zeroC Tryz.prog 115 = some [(.v (.int .u64 0))] := by rw [zeroC, info_115]; rfl
@[go_sem] theorem info_119 : Tryz.prog.info? 119 = some Tryz.t119 := info_of Tryz.types_size (by decide) Tryz.type119
@[go_sem] theorem tz_119 : Tryz.t119.size = 1 := rfl
@[go_sem] theorem tb_119 : Tryz.t119.bytes = 8 := rfl
@[go_sem] theorem sz_119 : szOf Tryz.prog 119 = some 1 := by rw [szOf, info_119]; rfl
@[go_sem] theorem ag_119 : isAggT Tryz.prog 119 = some false := by rw [isAggT, Tryz.underlying119]; rfl
@[go_sem] theorem ze_119 : zeroC Tryz.prog 119 = some [(.v (.int .i64 0))] := by rw [zeroC, info_119]; rfl
@[go_sem] theorem info_127 : Tryz.prog.info? 127 = some Tryz.t127 := info_of Tryz.types_size (by decide) Tryz.type127
@[go_sem] theorem tz_127 : Tryz.t127.size = 1 := rfl
@[go_sem] theorem tb_127 : Tryz.t127.bytes = 8 := rfl
@[go_sem] theorem sz_127 : szOf Tryz.prog 127 = some 1 := by rw [szOf, info_127]; rfl
@[go_sem] theorem ag_127 : isAggT Tryz.prog 127 = some false := by rw [isAggT, Tryz.underlying127]; rfl
@[go_sem] theorem ze_127 : zeroC Tryz.prog 127 = some [(.v (.int .u64 0))] := by rw [zeroC, info_127]; rfl
@[go_sem] theorem info_131 : Tryz.prog.info? 131 = some Tryz.t131 := info_of Tryz.types_size (by decide) Tryz.type131
@[go_sem] theorem tz_131 : Tryz.t131.size = 1 := rfl
@[go_sem] theorem tb_131 : Tryz.t131.bytes = 8 := rfl
@[go_sem] theorem sz_131 : szOf Tryz.prog 131 = some 1 := by rw [szOf, info_131]; rfl
@[go_sem] theorem ag_131 : isAggT Tryz.prog 131 = some false := by rw [isAggT, Tryz.underlying131]; rfl
@[go_sem] theorem ze_131 : zeroC Tryz.prog 131 = some [(.v (.pointer none))] := by rw [zeroC, info_131]; rfl
/-- How calls are taken. -/
def mutL : List Nat := [12, 13, 18, 20, 22, 33, 69, 77, 101, 120, 121]
def ownL : List (Nat × Nat) := [(4, 9), (5, 36), (5, 43), (6, 30), (6, 54), (8, 21), (10, 15), (10, 18), (10, 45), (10, 75), (26, 25), (32, 38), (34, 33), (44, 9), (55, 5), (60, 13), (62, 17)]
end Go.Proofs.YtdlfdoicheakoaaGreat.X

/- Functions of Go's library that are taken as a whole: definitions alone. -/
namespace Go.Proofs.YtdlfdoicheakoaaGreat.X
open Go
def keyOf : List IV → Int
  | [.v (.int _ n)] => n
  | _ => 0
def sortE (xs : List (List IV)) : List (List IV) := xs.mergeSort fun a b => decide (keyOf a ≤ keyOf b)
def isI64 : List IV → Bool
  | [.v (.int .i64 _)] => true
  | _ => false
/-- Of an empty slice the clone is empty: whether it is nil is not told. -/
def cloneP : List PV → List Arr → Option (PV × List Arr × List Arr)
  | [.i (.lst [])], [] => some (.i .emp, [], [])
  | [.i .emp], [] => some (.i .emp, [], [])
  | _, _ => none
def sortP : List PV → List Arr → Option (PV × List Arr × List Arr)
  | [.ref 1000 0 0 n], [.arr 0 1 xs] => if n = xs.length ∧ n ≤ 4000000 ∧ xs.all isI64 = true then some (.tup [], [.arr 0 1 (sortE xs)], []) else none
  | [.i .emp], [] => some (.tup [], [], [])
  | _, _ => none
def mulP : List PV → List Arr → Option (PV × List Arr × List Arr)
  | [.i (.v (.int .u64 a)), .i (.v (.int .u64 b))], [] =>
    if 0 ≤ a ∧ a < 18446744073709551616 ∧ 0 ≤ b ∧ b < 18446744073709551616 then some (.tup [.i (.v (.int .u64 (a * b / 18446744073709551616))), .i (.v (.int .u64 (a * b % 18446744073709551616)))], [], []) else none
  | _, _ => none
/-- An element goes in, not at the end. -/
def insP (k : Nat) : List PV → List Arr → Option (PV × List Arr × List Arr)
  | [.ref 1000 0 0 n, .i (.v (.int .i64 i)), .ref 1001 0 0 1], [.arr 0 k1 xs, .arr 0 k2 [x]] =>
    if (k1 = k ∧ k2 = k ∧ n = xs.length ∧ 0 ≤ i ∧ i < n ∧ n ≤ 1000000) ∧ x.length = k then some (.ref 1000 1 0 (n + 1), [.arr 1 k (xs.take i.toNat ++ x :: xs.drop i.toNat), .arr 0 k [x]], []) else none
  | _, _ => none
def keyE : List IV → Int × Int
  | [.v (.int _ a), .v (.int _ b)] => (a, b)
  | _ => (0, 0)
def isEd : List IV → Bool
  | [.v (.int .i64 _), .v (.int .i64 _)] => true
  | _ => false
/-- The first pair is not behind the second one. -/
def leE (a b : Int × Int) : Bool := decide (a.1 < b.1 ∨ (a.1 = b.1 ∧ a.2 ≤ b.2))
def sortF (xs : List (List IV)) : List (List IV) := xs.mergeSort fun a b => leE (keyE a) (keyE b)
def sortFP (c : FuncId) : List PV → List Arr → Option (PV × List Arr × List Arr)
  | [.ref 1000 0 0 n, .fn f [] []], [.arr 0 2 xs] => if f = c ∧ n = xs.length ∧ n ≤ 4000000 ∧ xs.all isEd = true then some (.tup [], [.arr 0 2 (sortF xs)], []) else none
  | [.i .emp, .fn f [] []], [] => if f = c then some (.tup [], [], []) else none
  | _, _ => none
/-- A string of bytes. -/
abbrev S (l : List UInt8) : PV := .i (.v (.string ⟨l.toArray⟩))
/-- A number below a hundred, in digits. -/
def dec2 (n : Nat) : List UInt8 := if n < 10 then [UInt8.ofNat (48 + n)] else [UInt8.ofNat (48 + n / 10), UInt8.ofNat (48 + n % 10)]
def itoaP : List PV → List Arr → Option (PV × List Arr × List Arr)
  | [.i (.v (.int .i64 n))], [] => if 0 ≤ n ∧ n < 100 then some (S (dec2 n.toNat), [], []) else none
  | _, _ => none
def atoiP : List PV → List Arr → Option (PV × List Arr × List Arr)
  | [.i (.v (.string s))], [] => if s.size ≤ 18 then (Lib.atoi s.data.toList).map fun n => (.tup [I n, .i (.v .nilIface)], [], []) else none
  | _, _ => none
/-- The place of a byte; how often a byte is there. -/
def idxP : List PV → List Arr → Option (PV × List Arr × List Arr)
  | [.i (.v (.string s)), .i (.v (.int .u8 c))], [] => some (I (Lib.indexByte s.data.toList c.toNat.toUInt8), [], [])
  | _, _ => none
def cntP : List PV → List Arr → Option (PV × List Arr × List Arr)
  | [.i (.v (.string s)), .i (.v (.string ⟨⟨[c]⟩⟩))], [] => some (I (Lib.countByte s.data.toList c), [], [])
  | _, _ => none
end Go.Proofs.YtdlfdoicheakoaaGreat.X
