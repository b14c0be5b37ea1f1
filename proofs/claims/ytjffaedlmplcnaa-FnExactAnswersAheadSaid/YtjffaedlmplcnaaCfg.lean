/- How this program's calls are taken. -/
import Derived.Test.YtjffaedlmplcnaaTab
import Derived.Test.YtjffaedlmplcnaaPrim
namespace Go.Proofs.Ytjffaedlmplcnaa.X
open Go Go.Proofs
def cfg : Cfg where
  mutF f := mutL.contains f
  own me d := ownL.contains (me, d)
  prim f := if f = 44 then some (insP 1) else if f = 45 then some (cloneP) else if f = 46 then some (insP 1) else if f = 47 then some (cloneP) else if f = 101 then some (insP 2) else if f = 102 then some (cloneP) else if f = 152 then some (mulP) else if f = 153 then some (sortP) else none
  give me d := if me = 82 then d == 14 else false
@[go_sem] theorem give_4 (d : Nat) : cfg.give 4 d = false := by rfl
@[go_sem] theorem give_5 (d : Nat) : cfg.give 5 d = false := by rfl
@[go_sem] theorem give_15 (d : Nat) : cfg.give 15 d = false := by rfl
@[go_sem] theorem give_16 (d : Nat) : cfg.give 16 d = false := by rfl
@[go_sem] theorem give_17 (d : Nat) : cfg.give 17 d = false := by rfl
@[go_sem] theorem give_18 (d : Nat) : cfg.give 18 d = false := by rfl
@[go_sem] theorem give_19 (d : Nat) : cfg.give 19 d = false := by rfl
@[go_sem] theorem give_20 (d : Nat) : cfg.give 20 d = false := by rfl
@[go_sem] theorem give_21 (d : Nat) : cfg.give 21 d = false := by rfl
@[go_sem] theorem give_22 (d : Nat) : cfg.give 22 d = false := by rfl
@[go_sem] theorem give_23 (d : Nat) : cfg.give 23 d = false := by rfl
@[go_sem] theorem give_24 (d : Nat) : cfg.give 24 d = false := by rfl
@[go_sem] theorem give_25 (d : Nat) : cfg.give 25 d = false := by rfl
@[go_sem] theorem give_26 (d : Nat) : cfg.give 26 d = false := by rfl
@[go_sem] theorem give_27 (d : Nat) : cfg.give 27 d = false := by rfl
@[go_sem] theorem give_28 (d : Nat) : cfg.give 28 d = false := by rfl
@[go_sem] theorem give_39 (d : Nat) : cfg.give 39 d = false := by rfl
@[go_sem] theorem give_40 (d : Nat) : cfg.give 40 d = false := by rfl
@[go_sem] theorem give_41 (d : Nat) : cfg.give 41 d = false := by rfl
@[go_sem] theorem give_42 (d : Nat) : cfg.give 42 d = false := by rfl
@[go_sem] theorem give_43 (d : Nat) : cfg.give 43 d = false := by rfl
@[go_sem] theorem give_48 (d : Nat) : cfg.give 48 d = false := by rfl
@[go_sem] theorem give_49 (d : Nat) : cfg.give 49 d = false := by rfl
@[go_sem] theorem give_54 (d : Nat) : cfg.give 54 d = false := by rfl
@[go_sem] theorem give_55 (d : Nat) : cfg.give 55 d = false := by rfl
@[go_sem] theorem give_59 (d : Nat) : cfg.give 59 d = false := by rfl
@[go_sem] theorem give_62 (d : Nat) : cfg.give 62 d = false := by rfl
@[go_sem] theorem give_65 (d : Nat) : cfg.give 65 d = false := by rfl
@[go_sem] theorem give_69 (d : Nat) : cfg.give 69 d = false := by rfl
@[go_sem] theorem give_70 (d : Nat) : cfg.give 70 d = false := by rfl
@[go_sem] theorem give_71 (d : Nat) : cfg.give 71 d = false := by rfl
@[go_sem] theorem give_72 (d : Nat) : cfg.give 72 d = false := by rfl
@[go_sem] theorem give_73 (d : Nat) : cfg.give 73 d = false := by rfl
@[go_sem] theorem give_74 (d : Nat) : cfg.give 74 d = false := by rfl
@[go_sem] theorem give_75 (d : Nat) : cfg.give 75 d = false := by rfl
@[go_sem] theorem give_76 (d : Nat) : cfg.give 76 d = false := by rfl
@[go_sem] theorem give_77 (d : Nat) : cfg.give 77 d = false := by rfl
@[go_sem] theorem give_78 (d : Nat) : cfg.give 78 d = false := by rfl
@[go_sem] theorem give_98 (d : Nat) : cfg.give 98 d = false := by rfl
@[go_sem] theorem give_99 (d : Nat) : cfg.give 99 d = false := by rfl
@[go_sem] theorem give_100 (d : Nat) : cfg.give 100 d = false := by rfl
@[go_sem] theorem give_101 (d : Nat) : cfg.give 101 d = false := by rfl
@[go_sem] theorem give_102 (d : Nat) : cfg.give 102 d = false := by rfl
@[go_sem] theorem give_107 (d : Nat) : cfg.give 107 d = false := by rfl
@[go_sem] theorem give_108 (d : Nat) : cfg.give 108 d = false := by rfl
@[go_sem] theorem give_109 (d : Nat) : cfg.give 109 d = false := by rfl
@[go_sem] theorem give_116 (d : Nat) : cfg.give 116 d = false := by rfl
@[go_sem] theorem give_117 (d : Nat) : cfg.give 117 d = false := by rfl
@[go_sem] theorem give_118 (d : Nat) : cfg.give 118 d = false := by rfl
@[go_sem] theorem give_121 (d : Nat) : cfg.give 121 d = false := by rfl
@[go_sem] theorem give_122 (d : Nat) : cfg.give 122 d = false := by rfl
@[go_sem] theorem give_123 (d : Nat) : cfg.give 123 d = false := by rfl
@[go_sem] theorem give_124 (d : Nat) : cfg.give 124 d = false := by rfl
@[go_sem] theorem give_125 (d : Nat) : cfg.give 125 d = false := by rfl
@[go_sem] theorem give_126 (d : Nat) : cfg.give 126 d = false := by rfl
@[go_sem] theorem give_127 (d : Nat) : cfg.give 127 d = false := by rfl
@[go_sem] theorem give_138 (d : Nat) : cfg.give 138 d = false := by rfl
@[go_sem] theorem give_139 (d : Nat) : cfg.give 139 d = false := by rfl
@[go_sem] theorem give_144 (d : Nat) : cfg.give 144 d = false := by rfl
@[go_sem] theorem give_146 (d : Nat) : cfg.give 146 d = false := by rfl
@[go_sem] theorem give_147 (d : Nat) : cfg.give 147 d = false := by rfl
@[go_sem] theorem give_148 (d : Nat) : cfg.give 148 d = false := by rfl
@[go_sem] theorem give_149 (d : Nat) : cfg.give 149 d = false := by rfl
@[go_sem] theorem give_150 (d : Nat) : cfg.give 150 d = false := by rfl
@[go_sem] theorem give_157 (d : Nat) : cfg.give 157 d = false := by rfl
@[go_sem] theorem give_160 (d : Nat) : cfg.give 160 d = false := by rfl
@[go_sem] theorem mut_4 : cfg.mutF 4 = false := by rfl
@[go_sem] theorem mut_5 : cfg.mutF 5 = false := by rfl
@[go_sem] theorem mut_15 : cfg.mutF 15 = false := by rfl
@[go_sem] theorem mut_16 : cfg.mutF 16 = false := by rfl
@[go_sem] theorem mut_17 : cfg.mutF 17 = false := by rfl
@[go_sem] theorem mut_18 : cfg.mutF 18 = false := by rfl
@[go_sem] theorem mut_19 : cfg.mutF 19 = false := by rfl
@[go_sem] theorem mut_20 : cfg.mutF 20 = false := by rfl
@[go_sem] theorem mut_21 : cfg.mutF 21 = false := by rfl
@[go_sem] theorem mut_22 : cfg.mutF 22 = false := by rfl
@[go_sem] theorem mut_23 : cfg.mutF 23 = false := by rfl
@[go_sem] theorem mut_24 : cfg.mutF 24 = false := by rfl
@[go_sem] theorem mut_25 : cfg.mutF 25 = false := by rfl
@[go_sem] theorem mut_26 : cfg.mutF 26 = true := by rfl
@[go_sem] theorem mut_27 : cfg.mutF 27 = true := by rfl
@[go_sem] theorem mut_28 : cfg.mutF 28 = false := by rfl
@[go_sem] theorem mut_39 : cfg.mutF 39 = false := by rfl
@[go_sem] theorem mut_40 : cfg.mutF 40 = true := by rfl
@[go_sem] theorem mut_41 : cfg.mutF 41 = false := by rfl
@[go_sem] theorem mut_42 : cfg.mutF 42 = false := by rfl
@[go_sem] theorem mut_43 : cfg.mutF 43 = false := by rfl
@[go_sem] theorem mut_48 : cfg.mutF 48 = false := by rfl
@[go_sem] theorem mut_49 : cfg.mutF 49 = false := by rfl
@[go_sem] theorem mut_54 : cfg.mutF 54 = false := by rfl
@[go_sem] theorem mut_55 : cfg.mutF 55 = false := by rfl
@[go_sem] theorem mut_59 : cfg.mutF 59 = false := by rfl
@[go_sem] theorem mut_62 : cfg.mutF 62 = false := by rfl
@[go_sem] theorem mut_65 : cfg.mutF 65 = false := by rfl
@[go_sem] theorem mut_69 : cfg.mutF 69 = false := by rfl
@[go_sem] theorem mut_70 : cfg.mutF 70 = false := by rfl
@[go_sem] theorem mut_71 : cfg.mutF 71 = true := by rfl
@[go_sem] theorem mut_72 : cfg.mutF 72 = false := by rfl
@[go_sem] theorem mut_73 : cfg.mutF 73 = false := by rfl
@[go_sem] theorem mut_74 : cfg.mutF 74 = false := by rfl
@[go_sem] theorem mut_75 : cfg.mutF 75 = false := by rfl
@[go_sem] theorem mut_76 : cfg.mutF 76 = false := by rfl
@[go_sem] theorem mut_77 : cfg.mutF 77 = false := by rfl
@[go_sem] theorem mut_78 : cfg.mutF 78 = false := by rfl
@[go_sem] theorem mut_98 : cfg.mutF 98 = true := by rfl
@[go_sem] theorem mut_99 : cfg.mutF 99 = false := by rfl
@[go_sem] theorem mut_100 : cfg.mutF 100 = false := by rfl
@[go_sem] theorem mut_101 : cfg.mutF 101 = true := by rfl
@[go_sem] theorem mut_102 : cfg.mutF 102 = false := by rfl
@[go_sem] theorem mut_107 : cfg.mutF 107 = false := by rfl
@[go_sem] theorem mut_108 : cfg.mutF 108 = false := by rfl
@[go_sem] theorem mut_109 : cfg.mutF 109 = false := by rfl
@[go_sem] theorem mut_116 : cfg.mutF 116 = false := by rfl
@[go_sem] theorem mut_117 : cfg.mutF 117 = false := by rfl
@[go_sem] theorem mut_118 : cfg.mutF 118 = false := by rfl
@[go_sem] theorem mut_121 : cfg.mutF 121 = true := by rfl
@[go_sem] theorem mut_122 : cfg.mutF 122 = false := by rfl
@[go_sem] theorem mut_123 : cfg.mutF 123 = false := by rfl
@[go_sem] theorem mut_124 : cfg.mutF 124 = false := by rfl
@[go_sem] theorem mut_125 : cfg.mutF 125 = false := by rfl
@[go_sem] theorem mut_126 : cfg.mutF 126 = false := by rfl
@[go_sem] theorem mut_127 : cfg.mutF 127 = false := by rfl
@[go_sem] theorem mut_138 : cfg.mutF 138 = false := by rfl
@[go_sem] theorem mut_139 : cfg.mutF 139 = false := by rfl
@[go_sem] theorem mut_140 : cfg.mutF 140 = false := by rfl
@[go_sem] theorem mut_141 : cfg.mutF 141 = false := by rfl
@[go_sem] theorem mut_144 : cfg.mutF 144 = false := by rfl
@[go_sem] theorem mut_146 : cfg.mutF 146 = true := by rfl
@[go_sem] theorem mut_147 : cfg.mutF 147 = false := by rfl
@[go_sem] theorem mut_148 : cfg.mutF 148 = false := by rfl
@[go_sem] theorem mut_149 : cfg.mutF 149 = false := by rfl
@[go_sem] theorem mut_150 : cfg.mutF 150 = false := by rfl
@[go_sem] theorem mut_157 : cfg.mutF 157 = false := by rfl
@[go_sem] theorem mut_160 : cfg.mutF 160 = false := by rfl
@[go_sem] theorem own_4_24 : cfg.own 4 24 = false := by rfl
@[go_sem] theorem own_4_30 : cfg.own 4 30 = false := by rfl
@[go_sem] theorem own_4_37 : cfg.own 4 37 = false := by rfl
@[go_sem] theorem own_4_43 : cfg.own 4 43 = false := by rfl
@[go_sem] theorem own_4_61 : cfg.own 4 61 = false := by rfl
@[go_sem] theorem own_4_75 : cfg.own 4 75 = false := by rfl
@[go_sem] theorem own_4_81 : cfg.own 4 81 = false := by rfl
@[go_sem] theorem own_4_103 : cfg.own 4 103 = false := by rfl
@[go_sem] theorem own_4_116 : cfg.own 4 116 = false := by rfl
@[go_sem] theorem own_5_21 : cfg.own 5 21 = false := by rfl
@[go_sem] theorem own_5_27 : cfg.own 5 27 = false := by rfl
@[go_sem] theorem own_5_28 : cfg.own 5 28 = false := by rfl
@[go_sem] theorem own_5_33 : cfg.own 5 33 = true := by rfl
@[go_sem] theorem own_5_37 : cfg.own 5 37 = true := by rfl
@[go_sem] theorem own_5_43 : cfg.own 5 43 = false := by rfl
@[go_sem] theorem own_5_57 : cfg.own 5 57 = false := by rfl
@[go_sem] theorem own_5_58 : cfg.own 5 58 = false := by rfl
@[go_sem] theorem own_5_62 : cfg.own 5 62 = false := by rfl
@[go_sem] theorem own_5_68 : cfg.own 5 68 = false := by rfl
@[go_sem] theorem own_5_83 : cfg.own 5 83 = false := by rfl
@[go_sem] theorem own_5_86 : cfg.own 5 86 = false := by rfl
@[go_sem] theorem own_5_95 : cfg.own 5 95 = false := by rfl
@[go_sem] theorem own_5_96 : cfg.own 5 96 = true := by rfl
@[go_sem] theorem own_5_102 : cfg.own 5 102 = false := by rfl
@[go_sem] theorem own_5_116 : cfg.own 5 116 = false := by rfl
@[go_sem] theorem own_15_5 : cfg.own 15 5 = false := by rfl
@[go_sem] theorem own_16_19 : cfg.own 16 19 = false := by rfl
@[go_sem] theorem own_16_27 : cfg.own 16 27 = true := by rfl
@[go_sem] theorem own_16_43 : cfg.own 16 43 = false := by rfl
@[go_sem] theorem own_17_11 : cfg.own 17 11 = false := by rfl
@[go_sem] theorem own_17_21 : cfg.own 17 21 = true := by rfl
@[go_sem] theorem own_17_25 : cfg.own 17 25 = false := by rfl
@[go_sem] theorem own_17_27 : cfg.own 17 27 = false := by rfl
@[go_sem] theorem own_19_12 : cfg.own 19 12 = true := by rfl
@[go_sem] theorem own_20_12 : cfg.own 20 12 = false := by rfl
@[go_sem] theorem own_21_36 : cfg.own 21 36 = false := by rfl
@[go_sem] theorem own_23_20 : cfg.own 23 20 = false := by rfl
@[go_sem] theorem own_25_25 : cfg.own 25 25 = false := by rfl
@[go_sem] theorem own_42_10 : cfg.own 42 10 = false := by rfl
@[go_sem] theorem own_42_15 : cfg.own 42 15 = false := by rfl
@[go_sem] theorem own_42_22 : cfg.own 42 22 = false := by rfl
@[go_sem] theorem own_42_29 : cfg.own 42 29 = true := by rfl
@[go_sem] theorem own_42_33 : cfg.own 42 33 = false := by rfl
@[go_sem] theorem own_42_36 : cfg.own 42 36 = false := by rfl
@[go_sem] theorem own_48_9 : cfg.own 48 9 = false := by rfl
@[go_sem] theorem own_49_8 : cfg.own 49 8 = false := by rfl
@[go_sem] theorem own_49_14 : cfg.own 49 14 = false := by rfl
@[go_sem] theorem own_49_23 : cfg.own 49 23 = false := by rfl
@[go_sem] theorem own_49_26 : cfg.own 49 26 = false := by rfl
@[go_sem] theorem own_54_8 : cfg.own 54 8 = false := by rfl
@[go_sem] theorem own_55_7 : cfg.own 55 7 = false := by rfl
@[go_sem] theorem own_59_6 : cfg.own 59 6 = false := by rfl
@[go_sem] theorem own_62_55 : cfg.own 62 55 = false := by rfl
@[go_sem] theorem own_69_8 : cfg.own 69 8 = true := by rfl
@[go_sem] theorem own_69_11 : cfg.own 69 11 = false := by rfl
@[go_sem] theorem own_69_15 : cfg.own 69 15 = false := by rfl
@[go_sem] theorem own_69_19 : cfg.own 69 19 = false := by rfl
@[go_sem] theorem own_70_23 : cfg.own 70 23 = false := by rfl
@[go_sem] theorem own_71_49 : cfg.own 71 49 = false := by rfl
@[go_sem] theorem own_71_85 : cfg.own 71 85 = false := by rfl
@[go_sem] theorem own_71_93 : cfg.own 71 93 = false := by rfl
@[go_sem] theorem own_71_111 : cfg.own 71 111 = false := by rfl
@[go_sem] theorem own_71_121 : cfg.own 71 121 = false := by rfl
@[go_sem] theorem own_74_16 : cfg.own 74 16 = false := by rfl
@[go_sem] theorem own_74_38 : cfg.own 74 38 = false := by rfl
@[go_sem] theorem own_74_47 : cfg.own 74 47 = false := by rfl
@[go_sem] theorem own_74_64 : cfg.own 74 64 = false := by rfl
@[go_sem] theorem own_74_71 : cfg.own 74 71 = false := by rfl
@[go_sem] theorem own_74_83 : cfg.own 74 83 = false := by rfl
@[go_sem] theorem own_75_11 : cfg.own 75 11 = false := by rfl
@[go_sem] theorem own_76_40 : cfg.own 76 40 = true := by rfl
@[go_sem] theorem own_76_45 : cfg.own 76 45 = true := by rfl
@[go_sem] theorem own_77_9 : cfg.own 77 9 = false := by rfl
@[go_sem] theorem own_78_14 : cfg.own 78 14 = false := by rfl
@[go_sem] theorem own_98_9 : cfg.own 98 9 = false := by rfl
@[go_sem] theorem own_99_30 : cfg.own 99 30 = false := by rfl
@[go_sem] theorem own_99_46 : cfg.own 99 46 = false := by rfl
@[go_sem] theorem own_100_9 : cfg.own 100 9 = false := by rfl
@[go_sem] theorem own_100_14 : cfg.own 100 14 = false := by rfl
@[go_sem] theorem own_100_16 : cfg.own 100 16 = false := by rfl
@[go_sem] theorem own_101_67 : cfg.own 101 67 = false := by rfl
@[go_sem] theorem own_101_93 : cfg.own 101 93 = false := by rfl
@[go_sem] theorem own_107_59 : cfg.own 107 59 = false := by rfl
@[go_sem] theorem own_109_23 : cfg.own 109 23 = false := by rfl
@[go_sem] theorem own_116_7 : cfg.own 116 7 = false := by rfl
@[go_sem] theorem own_117_9 : cfg.own 117 9 = true := by rfl
@[go_sem] theorem own_117_11 : cfg.own 117 11 = false := by rfl
@[go_sem] theorem own_121_14 : cfg.own 121 14 = false := by rfl
@[go_sem] theorem own_121_19 : cfg.own 121 19 = false := by rfl
@[go_sem] theorem own_121_27 : cfg.own 121 27 = false := by rfl
@[go_sem] theorem own_121_31 : cfg.own 121 31 = false := by rfl
@[go_sem] theorem own_121_37 : cfg.own 121 37 = false := by rfl
@[go_sem] theorem own_121_40 : cfg.own 121 40 = false := by rfl
@[go_sem] theorem own_121_46 : cfg.own 121 46 = false := by rfl
@[go_sem] theorem own_121_71 : cfg.own 121 71 = false := by rfl
@[go_sem] theorem own_121_79 : cfg.own 121 79 = false := by rfl
@[go_sem] theorem own_121_90 : cfg.own 121 90 = false := by rfl
@[go_sem] theorem own_121_96 : cfg.own 121 96 = false := by rfl
@[go_sem] theorem own_121_101 : cfg.own 121 101 = false := by rfl
@[go_sem] theorem own_121_108 : cfg.own 121 108 = false := by rfl
@[go_sem] theorem own_122_62 : cfg.own 122 62 = false := by rfl
@[go_sem] theorem own_122_74 : cfg.own 122 74 = false := by rfl
@[go_sem] theorem own_123_11 : cfg.own 123 11 = true := by rfl
@[go_sem] theorem own_123_14 : cfg.own 123 14 = false := by rfl
@[go_sem] theorem own_123_17 : cfg.own 123 17 = false := by rfl
@[go_sem] theorem own_125_8 : cfg.own 125 8 = false := by rfl
@[go_sem] theorem own_125_13 : cfg.own 125 13 = false := by rfl
@[go_sem] theorem own_139_8 : cfg.own 139 8 = false := by rfl
@[go_sem] theorem own_139_10 : cfg.own 139 10 = false := by rfl
@[go_sem] theorem own_146_10 : cfg.own 146 10 = false := by rfl
@[go_sem] theorem own_146_28 : cfg.own 146 28 = false := by rfl
@[go_sem] theorem own_148_7 : cfg.own 148 7 = false := by rfl
@[go_sem] theorem own_148_13 : cfg.own 148 13 = false := by rfl
@[go_sem] theorem own_148_22 : cfg.own 148 22 = false := by rfl
@[go_sem] theorem own_150_6 : cfg.own 150 6 = false := by rfl
@[go_sem] theorem own_150_10 : cfg.own 150 10 = false := by rfl
@[go_sem] theorem own_160_16 : cfg.own 160 16 = false := by rfl
end Go.Proofs.Ytjffaedlmplcnaa.X
