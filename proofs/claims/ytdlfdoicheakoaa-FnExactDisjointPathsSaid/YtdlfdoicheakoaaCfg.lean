/- How this program's calls are taken. -/
import Derived.Test.YtdlfdoicheakoaaTab
import Derived.Test.YtdlfdoicheakoaaPrim
namespace Go.Proofs.Ytdlfdoicheakoaa.X
open Go Go.Proofs
def cfg : Cfg where
  mutF f := mutL.contains f
  own me d := ownL.contains (me, d)
  prim f := if f = 28 then some (insP 1) else if f = 29 then some (cloneP) else if f = 30 then some (insP 1) else if f = 31 then some (cloneP) else if f = 75 then some (insP 2) else if f = 76 then some (cloneP) else if f = 117 then some (mulP) else if f = 118 then some (sortP) else none
  give me d := if me = 16 then (d == 28 || d == 65 || d == 66 || d == 999) else if me = 17 then (d == 999) else if me = 20 then (d == 999) else if me = 21 then (d == 999) else if me = 56 then (d == 14) else false
@[go_sem] theorem give_0 (d : Nat) : cfg.give 0 d = false := by rfl
@[go_sem] theorem give_1 (d : Nat) : cfg.give 1 d = false := by rfl
@[go_sem] theorem give_2 (d : Nat) : cfg.give 2 d = false := by rfl
@[go_sem] theorem give_3 (d : Nat) : cfg.give 3 d = false := by rfl
@[go_sem] theorem give_4 (d : Nat) : cfg.give 4 d = false := by rfl
@[go_sem] theorem give_5 (d : Nat) : cfg.give 5 d = false := by rfl
@[go_sem] theorem give_6 (d : Nat) : cfg.give 6 d = false := by rfl
@[go_sem] theorem give_7 (d : Nat) : cfg.give 7 d = false := by rfl
@[go_sem] theorem give_8 (d : Nat) : cfg.give 8 d = false := by rfl
@[go_sem] theorem give_9 (d : Nat) : cfg.give 9 d = false := by rfl
@[go_sem] theorem give_10 (d : Nat) : cfg.give 10 d = false := by rfl
@[go_sem] theorem give_11 (d : Nat) : cfg.give 11 d = false := by rfl
@[go_sem] theorem give_12 (d : Nat) : cfg.give 12 d = false := by rfl
@[go_sem] theorem give_13 (d : Nat) : cfg.give 13 d = false := by rfl
@[go_sem] theorem give_14 (d : Nat) : cfg.give 14 d = false := by rfl
@[go_sem] theorem give_15 (d : Nat) : cfg.give 15 d = false := by rfl
@[go_sem] theorem give_16 (d : Nat) : cfg.give 16 d = (d == 28 || d == 65 || d == 66 || d == 999) := by rfl
@[go_sem] theorem give_17 (d : Nat) : cfg.give 17 d = (d == 999) := by rfl
@[go_sem] theorem give_18 (d : Nat) : cfg.give 18 d = false := by rfl
@[go_sem] theorem give_19 (d : Nat) : cfg.give 19 d = false := by rfl
@[go_sem] theorem give_20 (d : Nat) : cfg.give 20 d = (d == 999) := by rfl
@[go_sem] theorem give_21 (d : Nat) : cfg.give 21 d = (d == 999) := by rfl
@[go_sem] theorem give_22 (d : Nat) : cfg.give 22 d = false := by rfl
@[go_sem] theorem give_23 (d : Nat) : cfg.give 23 d = false := by rfl
@[go_sem] theorem give_24 (d : Nat) : cfg.give 24 d = false := by rfl
@[go_sem] theorem give_25 (d : Nat) : cfg.give 25 d = false := by rfl
@[go_sem] theorem give_26 (d : Nat) : cfg.give 26 d = false := by rfl
@[go_sem] theorem give_27 (d : Nat) : cfg.give 27 d = false := by rfl
@[go_sem] theorem give_28 (d : Nat) : cfg.give 28 d = false := by rfl
@[go_sem] theorem give_29 (d : Nat) : cfg.give 29 d = false := by rfl
@[go_sem] theorem give_30 (d : Nat) : cfg.give 30 d = false := by rfl
@[go_sem] theorem give_31 (d : Nat) : cfg.give 31 d = false := by rfl
@[go_sem] theorem give_32 (d : Nat) : cfg.give 32 d = false := by rfl
@[go_sem] theorem give_33 (d : Nat) : cfg.give 33 d = false := by rfl
@[go_sem] theorem give_34 (d : Nat) : cfg.give 34 d = false := by rfl
@[go_sem] theorem give_35 (d : Nat) : cfg.give 35 d = false := by rfl
@[go_sem] theorem give_36 (d : Nat) : cfg.give 36 d = false := by rfl
@[go_sem] theorem give_37 (d : Nat) : cfg.give 37 d = false := by rfl
@[go_sem] theorem give_38 (d : Nat) : cfg.give 38 d = false := by rfl
@[go_sem] theorem give_39 (d : Nat) : cfg.give 39 d = false := by rfl
@[go_sem] theorem give_40 (d : Nat) : cfg.give 40 d = false := by rfl
@[go_sem] theorem give_41 (d : Nat) : cfg.give 41 d = false := by rfl
@[go_sem] theorem give_42 (d : Nat) : cfg.give 42 d = false := by rfl
@[go_sem] theorem give_43 (d : Nat) : cfg.give 43 d = false := by rfl
@[go_sem] theorem give_44 (d : Nat) : cfg.give 44 d = false := by rfl
@[go_sem] theorem give_45 (d : Nat) : cfg.give 45 d = false := by rfl
@[go_sem] theorem give_46 (d : Nat) : cfg.give 46 d = false := by rfl
@[go_sem] theorem give_47 (d : Nat) : cfg.give 47 d = false := by rfl
@[go_sem] theorem give_48 (d : Nat) : cfg.give 48 d = false := by rfl
@[go_sem] theorem give_49 (d : Nat) : cfg.give 49 d = false := by rfl
@[go_sem] theorem give_50 (d : Nat) : cfg.give 50 d = false := by rfl
@[go_sem] theorem give_51 (d : Nat) : cfg.give 51 d = false := by rfl
@[go_sem] theorem give_52 (d : Nat) : cfg.give 52 d = false := by rfl
@[go_sem] theorem give_53 (d : Nat) : cfg.give 53 d = false := by rfl
@[go_sem] theorem give_54 (d : Nat) : cfg.give 54 d = false := by rfl
@[go_sem] theorem give_55 (d : Nat) : cfg.give 55 d = false := by rfl
@[go_sem] theorem give_56 (d : Nat) : cfg.give 56 d = (d == 14) := by rfl
@[go_sem] theorem give_57 (d : Nat) : cfg.give 57 d = false := by rfl
@[go_sem] theorem give_58 (d : Nat) : cfg.give 58 d = false := by rfl
@[go_sem] theorem give_59 (d : Nat) : cfg.give 59 d = false := by rfl
@[go_sem] theorem give_60 (d : Nat) : cfg.give 60 d = false := by rfl
@[go_sem] theorem give_61 (d : Nat) : cfg.give 61 d = false := by rfl
@[go_sem] theorem give_62 (d : Nat) : cfg.give 62 d = false := by rfl
@[go_sem] theorem give_63 (d : Nat) : cfg.give 63 d = false := by rfl
@[go_sem] theorem give_64 (d : Nat) : cfg.give 64 d = false := by rfl
@[go_sem] theorem give_65 (d : Nat) : cfg.give 65 d = false := by rfl
@[go_sem] theorem give_66 (d : Nat) : cfg.give 66 d = false := by rfl
@[go_sem] theorem give_67 (d : Nat) : cfg.give 67 d = false := by rfl
@[go_sem] theorem give_68 (d : Nat) : cfg.give 68 d = false := by rfl
@[go_sem] theorem give_69 (d : Nat) : cfg.give 69 d = false := by rfl
@[go_sem] theorem give_70 (d : Nat) : cfg.give 70 d = false := by rfl
@[go_sem] theorem give_71 (d : Nat) : cfg.give 71 d = false := by rfl
@[go_sem] theorem give_72 (d : Nat) : cfg.give 72 d = false := by rfl
@[go_sem] theorem give_73 (d : Nat) : cfg.give 73 d = false := by rfl
@[go_sem] theorem give_74 (d : Nat) : cfg.give 74 d = false := by rfl
@[go_sem] theorem give_75 (d : Nat) : cfg.give 75 d = false := by rfl
@[go_sem] theorem give_76 (d : Nat) : cfg.give 76 d = false := by rfl
@[go_sem] theorem give_77 (d : Nat) : cfg.give 77 d = false := by rfl
@[go_sem] theorem give_78 (d : Nat) : cfg.give 78 d = false := by rfl
@[go_sem] theorem give_79 (d : Nat) : cfg.give 79 d = false := by rfl
@[go_sem] theorem give_80 (d : Nat) : cfg.give 80 d = false := by rfl
@[go_sem] theorem give_81 (d : Nat) : cfg.give 81 d = false := by rfl
@[go_sem] theorem give_82 (d : Nat) : cfg.give 82 d = false := by rfl
@[go_sem] theorem give_83 (d : Nat) : cfg.give 83 d = false := by rfl
@[go_sem] theorem give_84 (d : Nat) : cfg.give 84 d = false := by rfl
@[go_sem] theorem give_85 (d : Nat) : cfg.give 85 d = false := by rfl
@[go_sem] theorem give_86 (d : Nat) : cfg.give 86 d = false := by rfl
@[go_sem] theorem give_87 (d : Nat) : cfg.give 87 d = false := by rfl
@[go_sem] theorem give_88 (d : Nat) : cfg.give 88 d = false := by rfl
@[go_sem] theorem give_89 (d : Nat) : cfg.give 89 d = false := by rfl
@[go_sem] theorem give_90 (d : Nat) : cfg.give 90 d = false := by rfl
@[go_sem] theorem give_91 (d : Nat) : cfg.give 91 d = false := by rfl
@[go_sem] theorem give_92 (d : Nat) : cfg.give 92 d = false := by rfl
@[go_sem] theorem give_93 (d : Nat) : cfg.give 93 d = false := by rfl
@[go_sem] theorem give_94 (d : Nat) : cfg.give 94 d = false := by rfl
@[go_sem] theorem give_95 (d : Nat) : cfg.give 95 d = false := by rfl
@[go_sem] theorem give_96 (d : Nat) : cfg.give 96 d = false := by rfl
@[go_sem] theorem give_97 (d : Nat) : cfg.give 97 d = false := by rfl
@[go_sem] theorem give_98 (d : Nat) : cfg.give 98 d = false := by rfl
@[go_sem] theorem give_99 (d : Nat) : cfg.give 99 d = false := by rfl
@[go_sem] theorem give_100 (d : Nat) : cfg.give 100 d = false := by rfl
@[go_sem] theorem give_101 (d : Nat) : cfg.give 101 d = false := by rfl
@[go_sem] theorem give_102 (d : Nat) : cfg.give 102 d = false := by rfl
@[go_sem] theorem give_103 (d : Nat) : cfg.give 103 d = false := by rfl
@[go_sem] theorem give_104 (d : Nat) : cfg.give 104 d = false := by rfl
@[go_sem] theorem give_105 (d : Nat) : cfg.give 105 d = false := by rfl
@[go_sem] theorem give_106 (d : Nat) : cfg.give 106 d = false := by rfl
@[go_sem] theorem give_107 (d : Nat) : cfg.give 107 d = false := by rfl
@[go_sem] theorem give_108 (d : Nat) : cfg.give 108 d = false := by rfl
@[go_sem] theorem give_109 (d : Nat) : cfg.give 109 d = false := by rfl
@[go_sem] theorem give_110 (d : Nat) : cfg.give 110 d = false := by rfl
@[go_sem] theorem give_111 (d : Nat) : cfg.give 111 d = false := by rfl
@[go_sem] theorem give_112 (d : Nat) : cfg.give 112 d = false := by rfl
@[go_sem] theorem give_113 (d : Nat) : cfg.give 113 d = false := by rfl
@[go_sem] theorem give_114 (d : Nat) : cfg.give 114 d = false := by rfl
@[go_sem] theorem give_115 (d : Nat) : cfg.give 115 d = false := by rfl
@[go_sem] theorem give_116 (d : Nat) : cfg.give 116 d = false := by rfl
@[go_sem] theorem give_117 (d : Nat) : cfg.give 117 d = false := by rfl
@[go_sem] theorem give_118 (d : Nat) : cfg.give 118 d = false := by rfl
@[go_sem] theorem give_119 (d : Nat) : cfg.give 119 d = false := by rfl
@[go_sem] theorem give_120 (d : Nat) : cfg.give 120 d = false := by rfl
@[go_sem] theorem give_121 (d : Nat) : cfg.give 121 d = false := by rfl
@[go_sem] theorem give_122 (d : Nat) : cfg.give 122 d = false := by rfl
@[go_sem] theorem give_123 (d : Nat) : cfg.give 123 d = false := by rfl
@[go_sem] theorem give_124 (d : Nat) : cfg.give 124 d = false := by rfl
@[go_sem] theorem give_125 (d : Nat) : cfg.give 125 d = false := by rfl
@[go_sem] theorem give_126 (d : Nat) : cfg.give 126 d = false := by rfl
@[go_sem] theorem give_127 (d : Nat) : cfg.give 127 d = false := by rfl
@[go_sem] theorem give_128 (d : Nat) : cfg.give 128 d = false := by rfl
@[go_sem] theorem give_129 (d : Nat) : cfg.give 129 d = false := by rfl
@[go_sem] theorem give_130 (d : Nat) : cfg.give 130 d = false := by rfl
@[go_sem] theorem give_131 (d : Nat) : cfg.give 131 d = false := by rfl
@[go_sem] theorem give_132 (d : Nat) : cfg.give 132 d = false := by rfl
@[go_sem] theorem give_133 (d : Nat) : cfg.give 133 d = false := by rfl
@[go_sem] theorem give_134 (d : Nat) : cfg.give 134 d = false := by rfl
@[go_sem] theorem give_135 (d : Nat) : cfg.give 135 d = false := by rfl
@[go_sem] theorem give_136 (d : Nat) : cfg.give 136 d = false := by rfl
@[go_sem] theorem give_137 (d : Nat) : cfg.give 137 d = false := by rfl
@[go_sem] theorem give_138 (d : Nat) : cfg.give 138 d = false := by rfl
@[go_sem] theorem give_139 (d : Nat) : cfg.give 139 d = false := by rfl
@[go_sem] theorem give_140 (d : Nat) : cfg.give 140 d = false := by rfl
@[go_sem] theorem give_141 (d : Nat) : cfg.give 141 d = false := by rfl
@[go_sem] theorem give_142 (d : Nat) : cfg.give 142 d = false := by rfl
@[go_sem] theorem give_143 (d : Nat) : cfg.give 143 d = false := by rfl
@[go_sem] theorem give_144 (d : Nat) : cfg.give 144 d = false := by rfl
@[go_sem] theorem give_145 (d : Nat) : cfg.give 145 d = false := by rfl
@[go_sem] theorem give_146 (d : Nat) : cfg.give 146 d = false := by rfl
@[go_sem] theorem give_147 (d : Nat) : cfg.give 147 d = false := by rfl
@[go_sem] theorem give_148 (d : Nat) : cfg.give 148 d = false := by rfl
@[go_sem] theorem give_149 (d : Nat) : cfg.give 149 d = false := by rfl
@[go_sem] theorem give_150 (d : Nat) : cfg.give 150 d = false := by rfl
@[go_sem] theorem give_151 (d : Nat) : cfg.give 151 d = false := by rfl
@[go_sem] theorem give_152 (d : Nat) : cfg.give 152 d = false := by rfl
@[go_sem] theorem give_153 (d : Nat) : cfg.give 153 d = false := by rfl
@[go_sem] theorem give_154 (d : Nat) : cfg.give 154 d = false := by rfl
@[go_sem] theorem give_155 (d : Nat) : cfg.give 155 d = false := by rfl
@[go_sem] theorem give_156 (d : Nat) : cfg.give 156 d = false := by rfl
@[go_sem] theorem give_157 (d : Nat) : cfg.give 157 d = false := by rfl
@[go_sem] theorem give_158 (d : Nat) : cfg.give 158 d = false := by rfl
@[go_sem] theorem give_159 (d : Nat) : cfg.give 159 d = false := by rfl
@[go_sem] theorem give_160 (d : Nat) : cfg.give 160 d = false := by rfl
@[go_sem] theorem give_161 (d : Nat) : cfg.give 161 d = false := by rfl
@[go_sem] theorem give_162 (d : Nat) : cfg.give 162 d = false := by rfl
@[go_sem] theorem give_163 (d : Nat) : cfg.give 163 d = false := by rfl
@[go_sem] theorem give_164 (d : Nat) : cfg.give 164 d = false := by rfl
@[go_sem] theorem give_165 (d : Nat) : cfg.give 165 d = false := by rfl
@[go_sem] theorem give_166 (d : Nat) : cfg.give 166 d = false := by rfl
@[go_sem] theorem give_167 (d : Nat) : cfg.give 167 d = false := by rfl
@[go_sem] theorem mut_0 : cfg.mutF 0 = false := by rfl
@[go_sem] theorem mut_1 : cfg.mutF 1 = false := by rfl
@[go_sem] theorem mut_2 : cfg.mutF 2 = false := by rfl
@[go_sem] theorem mut_3 : cfg.mutF 3 = false := by rfl
@[go_sem] theorem mut_4 : cfg.mutF 4 = false := by rfl
@[go_sem] theorem mut_5 : cfg.mutF 5 = false := by rfl
@[go_sem] theorem mut_6 : cfg.mutF 6 = false := by rfl
@[go_sem] theorem mut_7 : cfg.mutF 7 = false := by rfl
@[go_sem] theorem mut_8 : cfg.mutF 8 = false := by rfl
@[go_sem] theorem mut_9 : cfg.mutF 9 = false := by rfl
@[go_sem] theorem mut_10 : cfg.mutF 10 = false := by rfl
@[go_sem] theorem mut_11 : cfg.mutF 11 = false := by rfl
@[go_sem] theorem mut_12 : cfg.mutF 12 = false := by rfl
@[go_sem] theorem mut_13 : cfg.mutF 13 = false := by rfl
@[go_sem] theorem mut_14 : cfg.mutF 14 = false := by rfl
@[go_sem] theorem mut_15 : cfg.mutF 15 = false := by rfl
@[go_sem] theorem mut_16 : cfg.mutF 16 = false := by rfl
@[go_sem] theorem mut_17 : cfg.mutF 17 = false := by rfl
@[go_sem] theorem mut_18 : cfg.mutF 18 = false := by rfl
@[go_sem] theorem mut_19 : cfg.mutF 19 = true := by rfl
@[go_sem] theorem mut_20 : cfg.mutF 20 = true := by rfl
@[go_sem] theorem mut_21 : cfg.mutF 21 = false := by rfl
@[go_sem] theorem mut_22 : cfg.mutF 22 = false := by rfl
@[go_sem] theorem mut_23 : cfg.mutF 23 = false := by rfl
@[go_sem] theorem mut_24 : cfg.mutF 24 = true := by rfl
@[go_sem] theorem mut_25 : cfg.mutF 25 = false := by rfl
@[go_sem] theorem mut_26 : cfg.mutF 26 = false := by rfl
@[go_sem] theorem mut_27 : cfg.mutF 27 = false := by rfl
@[go_sem] theorem mut_28 : cfg.mutF 28 = true := by rfl
@[go_sem] theorem mut_29 : cfg.mutF 29 = false := by rfl
@[go_sem] theorem mut_30 : cfg.mutF 30 = true := by rfl
@[go_sem] theorem mut_31 : cfg.mutF 31 = false := by rfl
@[go_sem] theorem mut_32 : cfg.mutF 32 = false := by rfl
@[go_sem] theorem mut_33 : cfg.mutF 33 = false := by rfl
@[go_sem] theorem mut_34 : cfg.mutF 34 = false := by rfl
@[go_sem] theorem mut_35 : cfg.mutF 35 = false := by rfl
@[go_sem] theorem mut_36 : cfg.mutF 36 = false := by rfl
@[go_sem] theorem mut_37 : cfg.mutF 37 = false := by rfl
@[go_sem] theorem mut_38 : cfg.mutF 38 = false := by rfl
@[go_sem] theorem mut_39 : cfg.mutF 39 = false := by rfl
@[go_sem] theorem mut_40 : cfg.mutF 40 = true := by rfl
@[go_sem] theorem mut_41 : cfg.mutF 41 = true := by rfl
@[go_sem] theorem mut_42 : cfg.mutF 42 = true := by rfl
@[go_sem] theorem mut_43 : cfg.mutF 43 = false := by rfl
@[go_sem] theorem mut_44 : cfg.mutF 44 = false := by rfl
@[go_sem] theorem mut_45 : cfg.mutF 45 = false := by rfl
@[go_sem] theorem mut_46 : cfg.mutF 46 = false := by rfl
@[go_sem] theorem mut_47 : cfg.mutF 47 = false := by rfl
@[go_sem] theorem mut_48 : cfg.mutF 48 = false := by rfl
@[go_sem] theorem mut_49 : cfg.mutF 49 = false := by rfl
@[go_sem] theorem mut_50 : cfg.mutF 50 = false := by rfl
@[go_sem] theorem mut_51 : cfg.mutF 51 = false := by rfl
@[go_sem] theorem mut_52 : cfg.mutF 52 = false := by rfl
@[go_sem] theorem mut_53 : cfg.mutF 53 = false := by rfl
@[go_sem] theorem mut_54 : cfg.mutF 54 = false := by rfl
@[go_sem] theorem mut_55 : cfg.mutF 55 = false := by rfl
@[go_sem] theorem mut_56 : cfg.mutF 56 = false := by rfl
@[go_sem] theorem mut_57 : cfg.mutF 57 = false := by rfl
@[go_sem] theorem mut_58 : cfg.mutF 58 = false := by rfl
@[go_sem] theorem mut_59 : cfg.mutF 59 = false := by rfl
@[go_sem] theorem mut_60 : cfg.mutF 60 = false := by rfl
@[go_sem] theorem mut_61 : cfg.mutF 61 = false := by rfl
@[go_sem] theorem mut_62 : cfg.mutF 62 = false := by rfl
@[go_sem] theorem mut_63 : cfg.mutF 63 = false := by rfl
@[go_sem] theorem mut_64 : cfg.mutF 64 = false := by rfl
@[go_sem] theorem mut_65 : cfg.mutF 65 = false := by rfl
@[go_sem] theorem mut_66 : cfg.mutF 66 = true := by rfl
@[go_sem] theorem mut_67 : cfg.mutF 67 = true := by rfl
@[go_sem] theorem mut_68 : cfg.mutF 68 = false := by rfl
@[go_sem] theorem mut_69 : cfg.mutF 69 = false := by rfl
@[go_sem] theorem mut_70 : cfg.mutF 70 = true := by rfl
@[go_sem] theorem mut_71 : cfg.mutF 71 = false := by rfl
@[go_sem] theorem mut_72 : cfg.mutF 72 = true := by rfl
@[go_sem] theorem mut_73 : cfg.mutF 73 = false := by rfl
@[go_sem] theorem mut_74 : cfg.mutF 74 = false := by rfl
@[go_sem] theorem mut_75 : cfg.mutF 75 = true := by rfl
@[go_sem] theorem mut_76 : cfg.mutF 76 = false := by rfl
@[go_sem] theorem mut_77 : cfg.mutF 77 = false := by rfl
@[go_sem] theorem mut_78 : cfg.mutF 78 = false := by rfl
@[go_sem] theorem mut_79 : cfg.mutF 79 = false := by rfl
@[go_sem] theorem mut_80 : cfg.mutF 80 = false := by rfl
@[go_sem] theorem mut_81 : cfg.mutF 81 = false := by rfl
@[go_sem] theorem mut_82 : cfg.mutF 82 = false := by rfl
@[go_sem] theorem mut_83 : cfg.mutF 83 = false := by rfl
@[go_sem] theorem mut_84 : cfg.mutF 84 = false := by rfl
@[go_sem] theorem mut_85 : cfg.mutF 85 = false := by rfl
@[go_sem] theorem mut_86 : cfg.mutF 86 = false := by rfl
@[go_sem] theorem mut_87 : cfg.mutF 87 = false := by rfl
@[go_sem] theorem mut_88 : cfg.mutF 88 = false := by rfl
@[go_sem] theorem mut_89 : cfg.mutF 89 = false := by rfl
@[go_sem] theorem mut_90 : cfg.mutF 90 = false := by rfl
@[go_sem] theorem mut_91 : cfg.mutF 91 = false := by rfl
@[go_sem] theorem mut_92 : cfg.mutF 92 = false := by rfl
@[go_sem] theorem mut_93 : cfg.mutF 93 = false := by rfl
@[go_sem] theorem mut_94 : cfg.mutF 94 = false := by rfl
@[go_sem] theorem mut_95 : cfg.mutF 95 = false := by rfl
@[go_sem] theorem mut_96 : cfg.mutF 96 = false := by rfl
@[go_sem] theorem mut_97 : cfg.mutF 97 = false := by rfl
@[go_sem] theorem mut_98 : cfg.mutF 98 = false := by rfl
@[go_sem] theorem mut_99 : cfg.mutF 99 = false := by rfl
@[go_sem] theorem mut_100 : cfg.mutF 100 = false := by rfl
@[go_sem] theorem mut_101 : cfg.mutF 101 = false := by rfl
@[go_sem] theorem mut_102 : cfg.mutF 102 = false := by rfl
@[go_sem] theorem mut_103 : cfg.mutF 103 = true := by rfl
@[go_sem] theorem mut_104 : cfg.mutF 104 = false := by rfl
@[go_sem] theorem mut_105 : cfg.mutF 105 = false := by rfl
@[go_sem] theorem mut_106 : cfg.mutF 106 = false := by rfl
@[go_sem] theorem mut_107 : cfg.mutF 107 = false := by rfl
@[go_sem] theorem mut_108 : cfg.mutF 108 = false := by rfl
@[go_sem] theorem mut_109 : cfg.mutF 109 = false := by rfl
@[go_sem] theorem mut_110 : cfg.mutF 110 = false := by rfl
@[go_sem] theorem mut_111 : cfg.mutF 111 = false := by rfl
@[go_sem] theorem mut_112 : cfg.mutF 112 = false := by rfl
@[go_sem] theorem mut_113 : cfg.mutF 113 = false := by rfl
@[go_sem] theorem mut_114 : cfg.mutF 114 = false := by rfl
@[go_sem] theorem mut_115 : cfg.mutF 115 = true := by rfl
@[go_sem] theorem mut_116 : cfg.mutF 116 = false := by rfl
@[go_sem] theorem mut_117 : cfg.mutF 117 = false := by rfl
@[go_sem] theorem mut_118 : cfg.mutF 118 = true := by rfl
@[go_sem] theorem mut_119 : cfg.mutF 119 = false := by rfl
@[go_sem] theorem mut_120 : cfg.mutF 120 = false := by rfl
@[go_sem] theorem mut_121 : cfg.mutF 121 = false := by rfl
@[go_sem] theorem mut_122 : cfg.mutF 122 = false := by rfl
@[go_sem] theorem mut_123 : cfg.mutF 123 = false := by rfl
@[go_sem] theorem mut_124 : cfg.mutF 124 = true := by rfl
@[go_sem] theorem mut_125 : cfg.mutF 125 = false := by rfl
@[go_sem] theorem mut_126 : cfg.mutF 126 = false := by rfl
@[go_sem] theorem mut_127 : cfg.mutF 127 = false := by rfl
@[go_sem] theorem mut_128 : cfg.mutF 128 = false := by rfl
@[go_sem] theorem mut_129 : cfg.mutF 129 = false := by rfl
@[go_sem] theorem mut_130 : cfg.mutF 130 = false := by rfl
@[go_sem] theorem mut_131 : cfg.mutF 131 = false := by rfl
@[go_sem] theorem mut_132 : cfg.mutF 132 = true := by rfl
@[go_sem] theorem mut_133 : cfg.mutF 133 = false := by rfl
@[go_sem] theorem mut_134 : cfg.mutF 134 = false := by rfl
@[go_sem] theorem mut_135 : cfg.mutF 135 = false := by rfl
@[go_sem] theorem mut_136 : cfg.mutF 136 = false := by rfl
@[go_sem] theorem mut_137 : cfg.mutF 137 = false := by rfl
@[go_sem] theorem mut_138 : cfg.mutF 138 = false := by rfl
@[go_sem] theorem mut_139 : cfg.mutF 139 = false := by rfl
@[go_sem] theorem mut_140 : cfg.mutF 140 = false := by rfl
@[go_sem] theorem mut_141 : cfg.mutF 141 = false := by rfl
@[go_sem] theorem mut_142 : cfg.mutF 142 = false := by rfl
@[go_sem] theorem mut_143 : cfg.mutF 143 = false := by rfl
@[go_sem] theorem mut_144 : cfg.mutF 144 = false := by rfl
@[go_sem] theorem mut_145 : cfg.mutF 145 = false := by rfl
@[go_sem] theorem mut_146 : cfg.mutF 146 = true := by rfl
@[go_sem] theorem mut_147 : cfg.mutF 147 = false := by rfl
@[go_sem] theorem mut_148 : cfg.mutF 148 = false := by rfl
@[go_sem] theorem mut_149 : cfg.mutF 149 = false := by rfl
@[go_sem] theorem mut_150 : cfg.mutF 150 = false := by rfl
@[go_sem] theorem mut_151 : cfg.mutF 151 = false := by rfl
@[go_sem] theorem mut_152 : cfg.mutF 152 = false := by rfl
@[go_sem] theorem mut_153 : cfg.mutF 153 = false := by rfl
@[go_sem] theorem mut_154 : cfg.mutF 154 = false := by rfl
@[go_sem] theorem mut_155 : cfg.mutF 155 = false := by rfl
@[go_sem] theorem mut_156 : cfg.mutF 156 = false := by rfl
@[go_sem] theorem mut_157 : cfg.mutF 157 = false := by rfl
@[go_sem] theorem mut_158 : cfg.mutF 158 = false := by rfl
@[go_sem] theorem mut_159 : cfg.mutF 159 = false := by rfl
@[go_sem] theorem mut_160 : cfg.mutF 160 = false := by rfl
@[go_sem] theorem mut_161 : cfg.mutF 161 = false := by rfl
@[go_sem] theorem mut_162 : cfg.mutF 162 = false := by rfl
@[go_sem] theorem mut_163 : cfg.mutF 163 = false := by rfl
@[go_sem] theorem mut_164 : cfg.mutF 164 = false := by rfl
@[go_sem] theorem mut_165 : cfg.mutF 165 = true := by rfl
@[go_sem] theorem mut_166 : cfg.mutF 166 = true := by rfl
@[go_sem] theorem mut_167 : cfg.mutF 167 = false := by rfl
@[go_sem] theorem own_2_0 : cfg.own 2 0 = false := by rfl
@[go_sem] theorem own_3_18 : cfg.own 3 18 = false := by rfl
@[go_sem] theorem own_3_24 : cfg.own 3 24 = false := by rfl
@[go_sem] theorem own_3_30 : cfg.own 3 30 = false := by rfl
@[go_sem] theorem own_3_35 : cfg.own 3 35 = false := by rfl
@[go_sem] theorem own_3_48 : cfg.own 3 48 = false := by rfl
@[go_sem] theorem own_3_57 : cfg.own 3 57 = false := by rfl
@[go_sem] theorem own_3_67 : cfg.own 3 67 = false := by rfl
@[go_sem] theorem own_3_80 : cfg.own 3 80 = false := by rfl
@[go_sem] theorem own_3_92 : cfg.own 3 92 = false := by rfl
@[go_sem] theorem own_3_96 : cfg.own 3 96 = false := by rfl
@[go_sem] theorem own_4_20 : cfg.own 4 20 = false := by rfl
@[go_sem] theorem own_4_25 : cfg.own 4 25 = false := by rfl
@[go_sem] theorem own_4_28 : cfg.own 4 28 = false := by rfl
@[go_sem] theorem own_4_32 : cfg.own 4 32 = true := by rfl
@[go_sem] theorem own_4_37 : cfg.own 4 37 = true := by rfl
@[go_sem] theorem own_4_42 : cfg.own 4 42 = false := by rfl
@[go_sem] theorem own_4_51 : cfg.own 4 51 = false := by rfl
@[go_sem] theorem own_4_52 : cfg.own 4 52 = false := by rfl
@[go_sem] theorem own_4_56 : cfg.own 4 56 = false := by rfl
@[go_sem] theorem own_4_62 : cfg.own 4 62 = false := by rfl
@[go_sem] theorem own_4_72 : cfg.own 4 72 = false := by rfl
@[go_sem] theorem own_4_75 : cfg.own 4 75 = false := by rfl
@[go_sem] theorem own_4_83 : cfg.own 4 83 = false := by rfl
@[go_sem] theorem own_4_86 : cfg.own 4 86 = true := by rfl
@[go_sem] theorem own_4_91 : cfg.own 4 91 = false := by rfl
@[go_sem] theorem own_4_100 : cfg.own 4 100 = false := by rfl
@[go_sem] theorem own_5_9 : cfg.own 5 9 = false := by rfl
@[go_sem] theorem own_5_11 : cfg.own 5 11 = true := by rfl
@[go_sem] theorem own_5_16 : cfg.own 5 16 = false := by rfl
@[go_sem] theorem own_5_21 : cfg.own 5 21 = false := by rfl
@[go_sem] theorem own_5_25 : cfg.own 5 25 = false := by rfl
@[go_sem] theorem own_6_10 : cfg.own 6 10 = false := by rfl
@[go_sem] theorem own_6_17 : cfg.own 6 17 = false := by rfl
@[go_sem] theorem own_6_26 : cfg.own 6 26 = false := by rfl
@[go_sem] theorem own_6_30 : cfg.own 6 30 = true := by rfl
@[go_sem] theorem own_6_33 : cfg.own 6 33 = false := by rfl
@[go_sem] theorem own_6_36 : cfg.own 6 36 = true := by rfl
@[go_sem] theorem own_6_44 : cfg.own 6 44 = false := by rfl
@[go_sem] theorem own_6_47 : cfg.own 6 47 = false := by rfl
@[go_sem] theorem own_7_12 : cfg.own 7 12 = false := by rfl
@[go_sem] theorem own_7_19 : cfg.own 7 19 = false := by rfl
@[go_sem] theorem own_7_31 : cfg.own 7 31 = false := by rfl
@[go_sem] theorem own_7_33 : cfg.own 7 33 = true := by rfl
@[go_sem] theorem own_8_10 : cfg.own 8 10 = false := by rfl
@[go_sem] theorem own_8_17 : cfg.own 8 17 = false := by rfl
@[go_sem] theorem own_9_15 : cfg.own 9 15 = false := by rfl
@[go_sem] theorem own_9_21 : cfg.own 9 21 = false := by rfl
@[go_sem] theorem own_9_29 : cfg.own 9 29 = false := by rfl
@[go_sem] theorem own_9_33 : cfg.own 9 33 = false := by rfl
@[go_sem] theorem own_9_36 : cfg.own 9 36 = true := by rfl
@[go_sem] theorem own_9_40 : cfg.own 9 40 = false := by rfl
@[go_sem] theorem own_9_43 : cfg.own 9 43 = true := by rfl
@[go_sem] theorem own_9_47 : cfg.own 9 47 = false := by rfl
@[go_sem] theorem own_9_70 : cfg.own 9 70 = false := by rfl
@[go_sem] theorem own_10_8 : cfg.own 10 8 = false := by rfl
@[go_sem] theorem own_10_13 : cfg.own 10 13 = false := by rfl
@[go_sem] theorem own_10_19 : cfg.own 10 19 = false := by rfl
@[go_sem] theorem own_10_23 : cfg.own 10 23 = false := by rfl
@[go_sem] theorem own_10_26 : cfg.own 10 26 = false := by rfl
@[go_sem] theorem own_11_15 : cfg.own 11 15 = false := by rfl
@[go_sem] theorem own_12_11 : cfg.own 12 11 = false := by rfl
@[go_sem] theorem own_12_35 : cfg.own 12 35 = false := by rfl
@[go_sem] theorem own_12_41 : cfg.own 12 41 = false := by rfl
@[go_sem] theorem own_12_44 : cfg.own 12 44 = false := by rfl
@[go_sem] theorem own_12_45 : cfg.own 12 45 = false := by rfl
@[go_sem] theorem own_12_47 : cfg.own 12 47 = false := by rfl
@[go_sem] theorem own_12_55 : cfg.own 12 55 = false := by rfl
@[go_sem] theorem own_12_57 : cfg.own 12 57 = false := by rfl
@[go_sem] theorem own_12_78 : cfg.own 12 78 = false := by rfl
@[go_sem] theorem own_13_8 : cfg.own 13 8 = false := by rfl
@[go_sem] theorem own_14_18 : cfg.own 14 18 = false := by rfl
@[go_sem] theorem own_14_25 : cfg.own 14 25 = false := by rfl
@[go_sem] theorem own_14_38 : cfg.own 14 38 = false := by rfl
@[go_sem] theorem own_14_55 : cfg.own 14 55 = false := by rfl
@[go_sem] theorem own_15_9 : cfg.own 15 9 = true := by rfl
@[go_sem] theorem own_16_19 : cfg.own 16 19 = false := by rfl
@[go_sem] theorem own_16_25 : cfg.own 16 25 = false := by rfl
@[go_sem] theorem own_16_36 : cfg.own 16 36 = false := by rfl
@[go_sem] theorem own_16_43 : cfg.own 16 43 = true := by rfl
@[go_sem] theorem own_17_25 : cfg.own 17 25 = false := by rfl
@[go_sem] theorem own_18_14 : cfg.own 18 14 = false := by rfl
@[go_sem] theorem own_19_8 : cfg.own 19 8 = false := by rfl
@[go_sem] theorem own_20_17 : cfg.own 20 17 = false := by rfl
@[go_sem] theorem own_21_17 : cfg.own 21 17 = false := by rfl
@[go_sem] theorem own_22_15 : cfg.own 22 15 = true := by rfl
@[go_sem] theorem own_22_17 : cfg.own 22 17 = false := by rfl
@[go_sem] theorem own_22_18 : cfg.own 22 18 = true := by rfl
@[go_sem] theorem own_22_20 : cfg.own 22 20 = false := by rfl
@[go_sem] theorem own_22_42 : cfg.own 22 42 = false := by rfl
@[go_sem] theorem own_22_45 : cfg.own 22 45 = true := by rfl
@[go_sem] theorem own_22_56 : cfg.own 22 56 = false := by rfl
@[go_sem] theorem own_22_61 : cfg.own 22 61 = false := by rfl
@[go_sem] theorem own_22_67 : cfg.own 22 67 = false := by rfl
@[go_sem] theorem own_22_74 : cfg.own 22 74 = false := by rfl
@[go_sem] theorem own_22_75 : cfg.own 22 75 = true := by rfl
@[go_sem] theorem own_22_86 : cfg.own 22 86 = false := by rfl
@[go_sem] theorem own_22_95 : cfg.own 22 95 = false := by rfl
@[go_sem] theorem own_22_98 : cfg.own 22 98 = false := by rfl
@[go_sem] theorem own_22_108 : cfg.own 22 108 = false := by rfl
@[go_sem] theorem own_22_110 : cfg.own 22 110 = false := by rfl
@[go_sem] theorem own_26_10 : cfg.own 26 10 = false := by rfl
@[go_sem] theorem own_26_15 : cfg.own 26 15 = false := by rfl
@[go_sem] theorem own_26_22 : cfg.own 26 22 = false := by rfl
@[go_sem] theorem own_26_29 : cfg.own 26 29 = true := by rfl
@[go_sem] theorem own_26_33 : cfg.own 26 33 = false := by rfl
@[go_sem] theorem own_26_36 : cfg.own 26 36 = false := by rfl
@[go_sem] theorem own_28_67 : cfg.own 28 67 = false := by rfl
@[go_sem] theorem own_28_93 : cfg.own 28 93 = false := by rfl
@[go_sem] theorem own_30_67 : cfg.own 30 67 = false := by rfl
@[go_sem] theorem own_30_93 : cfg.own 30 93 = false := by rfl
@[go_sem] theorem own_32_9 : cfg.own 32 9 = false := by rfl
@[go_sem] theorem own_33_8 : cfg.own 33 8 = false := by rfl
@[go_sem] theorem own_33_14 : cfg.own 33 14 = false := by rfl
@[go_sem] theorem own_33_23 : cfg.own 33 23 = false := by rfl
@[go_sem] theorem own_33_26 : cfg.own 33 26 = false := by rfl
@[go_sem] theorem own_34_9 : cfg.own 34 9 = false := by rfl
@[go_sem] theorem own_34_58 : cfg.own 34 58 = false := by rfl
@[go_sem] theorem own_34_61 : cfg.own 34 61 = false := by rfl
@[go_sem] theorem own_34_63 : cfg.own 34 63 = false := by rfl
@[go_sem] theorem own_34_67 : cfg.own 34 67 = false := by rfl
@[go_sem] theorem own_34_69 : cfg.own 34 69 = false := by rfl
@[go_sem] theorem own_34_70 : cfg.own 34 70 = false := by rfl
@[go_sem] theorem own_34_78 : cfg.own 34 78 = false := by rfl
@[go_sem] theorem own_34_79 : cfg.own 34 79 = false := by rfl
@[go_sem] theorem own_35_17 : cfg.own 35 17 = true := by rfl
@[go_sem] theorem own_35_37 : cfg.own 35 37 = false := by rfl
@[go_sem] theorem own_36_9 : cfg.own 36 9 = false := by rfl
@[go_sem] theorem own_38_8 : cfg.own 38 8 = false := by rfl
@[go_sem] theorem own_39_7 : cfg.own 39 7 = false := by rfl
@[go_sem] theorem own_42_22 : cfg.own 42 22 = false := by rfl
@[go_sem] theorem own_42_23 : cfg.own 42 23 = false := by rfl
@[go_sem] theorem own_42_36 : cfg.own 42 36 = false := by rfl
@[go_sem] theorem own_42_43 : cfg.own 42 43 = false := by rfl
@[go_sem] theorem own_43_6 : cfg.own 43 6 = false := by rfl
@[go_sem] theorem own_46_55 : cfg.own 46 55 = false := by rfl
@[go_sem] theorem own_47_7 : cfg.own 47 7 = false := by rfl
@[go_sem] theorem own_50_21 : cfg.own 50 21 = false := by rfl
@[go_sem] theorem own_54_9 : cfg.own 54 9 = false := by rfl
@[go_sem] theorem own_54_13 : cfg.own 54 13 = false := by rfl
@[go_sem] theorem own_55_18 : cfg.own 55 18 = false := by rfl
@[go_sem] theorem own_55_38 : cfg.own 55 38 = false := by rfl
@[go_sem] theorem own_56_53 : cfg.own 56 53 = false := by rfl
@[go_sem] theorem own_58_20 : cfg.own 58 20 = false := by rfl
@[go_sem] theorem own_59_9 : cfg.own 59 9 = false := by rfl
@[go_sem] theorem own_59_13 : cfg.own 59 13 = false := by rfl
@[go_sem] theorem own_60_22 : cfg.own 60 22 = false := by rfl
@[go_sem] theorem own_60_29 : cfg.own 60 29 = false := by rfl
@[go_sem] theorem own_61_16 : cfg.own 61 16 = true := by rfl
@[go_sem] theorem own_61_34 : cfg.own 61 34 = false := by rfl
@[go_sem] theorem own_61_52 : cfg.own 61 52 = false := by rfl
@[go_sem] theorem own_63_28 : cfg.own 63 28 = false := by rfl
@[go_sem] theorem own_65_25 : cfg.own 65 25 = false := by rfl
@[go_sem] theorem own_69_36 : cfg.own 69 36 = false := by rfl
@[go_sem] theorem own_69_38 : cfg.own 69 38 = true := by rfl
@[go_sem] theorem own_70_10 : cfg.own 70 10 = false := by rfl
@[go_sem] theorem own_70_19 : cfg.own 70 19 = false := by rfl
@[go_sem] theorem own_70_25 : cfg.own 70 25 = false := by rfl
@[go_sem] theorem own_70_27 : cfg.own 70 27 = false := by rfl
@[go_sem] theorem own_70_28 : cfg.own 70 28 = false := by rfl
@[go_sem] theorem own_70_32 : cfg.own 70 32 = false := by rfl
@[go_sem] theorem own_70_40 : cfg.own 70 40 = false := by rfl
@[go_sem] theorem own_70_44 : cfg.own 70 44 = false := by rfl
@[go_sem] theorem own_70_53 : cfg.own 70 53 = false := by rfl
@[go_sem] theorem own_70_54 : cfg.own 70 54 = false := by rfl
@[go_sem] theorem own_70_61 : cfg.own 70 61 = false := by rfl
@[go_sem] theorem own_70_62 : cfg.own 70 62 = false := by rfl
@[go_sem] theorem own_71_19 : cfg.own 71 19 = false := by rfl
@[go_sem] theorem own_71_24 : cfg.own 71 24 = false := by rfl
@[go_sem] theorem own_71_30 : cfg.own 71 30 = true := by rfl
@[go_sem] theorem own_71_54 : cfg.own 71 54 = true := by rfl
@[go_sem] theorem own_72_9 : cfg.own 72 9 = false := by rfl
@[go_sem] theorem own_73_30 : cfg.own 73 30 = false := by rfl
@[go_sem] theorem own_73_46 : cfg.own 73 46 = false := by rfl
@[go_sem] theorem own_74_9 : cfg.own 74 9 = false := by rfl
@[go_sem] theorem own_74_14 : cfg.own 74 14 = false := by rfl
@[go_sem] theorem own_74_16 : cfg.own 74 16 = false := by rfl
@[go_sem] theorem own_75_67 : cfg.own 75 67 = false := by rfl
@[go_sem] theorem own_75_93 : cfg.own 75 93 = false := by rfl
@[go_sem] theorem own_78_9 : cfg.own 78 9 = false := by rfl
@[go_sem] theorem own_80_9 : cfg.own 80 9 = false := by rfl
@[go_sem] theorem own_81_59 : cfg.own 81 59 = false := by rfl
@[go_sem] theorem own_83_23 : cfg.own 83 23 = false := by rfl
@[go_sem] theorem own_85_7 : cfg.own 85 7 = false := by rfl
@[go_sem] theorem own_88_10 : cfg.own 88 10 = false := by rfl
@[go_sem] theorem own_90_7 : cfg.own 90 7 = false := by rfl
@[go_sem] theorem own_91_9 : cfg.own 91 9 = true := by rfl
@[go_sem] theorem own_91_11 : cfg.own 91 11 = false := by rfl
@[go_sem] theorem own_94_16 : cfg.own 94 16 = false := by rfl
@[go_sem] theorem own_95_6 : cfg.own 95 6 = false := by rfl
@[go_sem] theorem own_96_39 : cfg.own 96 39 = false := by rfl
@[go_sem] theorem own_96_61 : cfg.own 96 61 = false := by rfl
@[go_sem] theorem own_97_11 : cfg.own 97 11 = false := by rfl
@[go_sem] theorem own_97_15 : cfg.own 97 15 = true := by rfl
@[go_sem] theorem own_97_19 : cfg.own 97 19 = true := by rfl
@[go_sem] theorem own_101_18 : cfg.own 101 18 = false := by rfl
@[go_sem] theorem own_102_37 : cfg.own 102 37 = false := by rfl
@[go_sem] theorem own_106_20 : cfg.own 106 20 = false := by rfl
@[go_sem] theorem own_106_23 : cfg.own 106 23 = false := by rfl
@[go_sem] theorem own_106_25 : cfg.own 106 25 = true := by rfl
@[go_sem] theorem own_106_57 : cfg.own 106 57 = false := by rfl
@[go_sem] theorem own_106_98 : cfg.own 106 98 = false := by rfl
@[go_sem] theorem own_106_104 : cfg.own 106 104 = false := by rfl
@[go_sem] theorem own_106_111 : cfg.own 106 111 = false := by rfl
@[go_sem] theorem own_106_116 : cfg.own 106 116 = false := by rfl
@[go_sem] theorem own_108_8 : cfg.own 108 8 = false := by rfl
@[go_sem] theorem own_108_10 : cfg.own 108 10 = false := by rfl
@[go_sem] theorem own_110_9 : cfg.own 110 9 = false := by rfl
@[go_sem] theorem own_111_7 : cfg.own 111 7 = false := by rfl
@[go_sem] theorem own_111_11 : cfg.own 111 11 = false := by rfl
@[go_sem] theorem own_111_13 : cfg.own 111 13 = false := by rfl
@[go_sem] theorem own_112_7 : cfg.own 112 7 = false := by rfl
@[go_sem] theorem own_112_11 : cfg.own 112 11 = false := by rfl
@[go_sem] theorem own_112_13 : cfg.own 112 13 = false := by rfl
@[go_sem] theorem own_114_27 : cfg.own 114 27 = false := by rfl
@[go_sem] theorem own_115_10 : cfg.own 115 10 = false := by rfl
@[go_sem] theorem own_115_28 : cfg.own 115 28 = false := by rfl
@[go_sem] theorem own_116_22 : cfg.own 116 22 = false := by rfl
@[go_sem] theorem own_116_23 : cfg.own 116 23 = false := by rfl
@[go_sem] theorem own_117_15 : cfg.own 117 15 = false := by rfl
@[go_sem] theorem own_117_25 : cfg.own 117 25 = false := by rfl
@[go_sem] theorem own_118_9 : cfg.own 118 9 = false := by rfl
@[go_sem] theorem own_118_10 : cfg.own 118 10 = false := by rfl
@[go_sem] theorem own_119_11 : cfg.own 119 11 = false := by rfl
@[go_sem] theorem own_119_14 : cfg.own 119 14 = false := by rfl
@[go_sem] theorem own_120_5 : cfg.own 120 5 = true := by rfl
@[go_sem] theorem own_123_7 : cfg.own 123 7 = false := by rfl
@[go_sem] theorem own_123_11 : cfg.own 123 11 = false := by rfl
@[go_sem] theorem own_123_13 : cfg.own 123 13 = false := by rfl
@[go_sem] theorem own_125_16 : cfg.own 125 16 = false := by rfl
@[go_sem] theorem own_128_27 : cfg.own 128 27 = false := by rfl
@[go_sem] theorem own_128_33 : cfg.own 128 33 = false := by rfl
@[go_sem] theorem own_128_39 : cfg.own 128 39 = false := by rfl
@[go_sem] theorem own_128_46 : cfg.own 128 46 = false := by rfl
@[go_sem] theorem own_128_54 : cfg.own 128 54 = false := by rfl
@[go_sem] theorem own_128_72 : cfg.own 128 72 = false := by rfl
@[go_sem] theorem own_128_85 : cfg.own 128 85 = false := by rfl
@[go_sem] theorem own_128_92 : cfg.own 128 92 = false := by rfl
@[go_sem] theorem own_128_99 : cfg.own 128 99 = false := by rfl
@[go_sem] theorem own_128_121 : cfg.own 128 121 = false := by rfl
@[go_sem] theorem own_128_132 : cfg.own 128 132 = false := by rfl
@[go_sem] theorem own_129_5 : cfg.own 129 5 = false := by rfl
@[go_sem] theorem own_129_7 : cfg.own 129 7 = false := by rfl
@[go_sem] theorem own_130_11 : cfg.own 130 11 = false := by rfl
@[go_sem] theorem own_130_15 : cfg.own 130 15 = false := by rfl
@[go_sem] theorem own_133_29 : cfg.own 133 29 = false := by rfl
@[go_sem] theorem own_134_26 : cfg.own 134 26 = false := by rfl
@[go_sem] theorem own_134_55 : cfg.own 134 55 = false := by rfl
@[go_sem] theorem own_135_19 : cfg.own 135 19 = false := by rfl
@[go_sem] theorem own_135_36 : cfg.own 135 36 = false := by rfl
@[go_sem] theorem own_136_37 : cfg.own 136 37 = false := by rfl
@[go_sem] theorem own_136_40 : cfg.own 136 40 = false := by rfl
@[go_sem] theorem own_136_43 : cfg.own 136 43 = false := by rfl
@[go_sem] theorem own_136_48 : cfg.own 136 48 = false := by rfl
@[go_sem] theorem own_138_30 : cfg.own 138 30 = false := by rfl
@[go_sem] theorem own_138_77 : cfg.own 138 77 = false := by rfl
@[go_sem] theorem own_138_115 : cfg.own 138 115 = false := by rfl
@[go_sem] theorem own_139_6 : cfg.own 139 6 = false := by rfl
@[go_sem] theorem own_139_9 : cfg.own 139 9 = false := by rfl
@[go_sem] theorem own_140_41 : cfg.own 140 41 = false := by rfl
@[go_sem] theorem own_140_58 : cfg.own 140 58 = false := by rfl
@[go_sem] theorem own_141_42 : cfg.own 141 42 = false := by rfl
@[go_sem] theorem own_141_58 : cfg.own 141 58 = false := by rfl
@[go_sem] theorem own_141_111 : cfg.own 141 111 = false := by rfl
@[go_sem] theorem own_141_127 : cfg.own 141 127 = false := by rfl
@[go_sem] theorem own_144_35 : cfg.own 144 35 = false := by rfl
@[go_sem] theorem own_144_51 : cfg.own 144 51 = false := by rfl
@[go_sem] theorem own_145_5 : cfg.own 145 5 = false := by rfl
@[go_sem] theorem own_147_14 : cfg.own 147 14 = false := by rfl
@[go_sem] theorem own_148_16 : cfg.own 148 16 = false := by rfl
@[go_sem] theorem own_148_24 : cfg.own 148 24 = false := by rfl
@[go_sem] theorem own_148_32 : cfg.own 148 32 = false := by rfl
@[go_sem] theorem own_149_18 : cfg.own 149 18 = false := by rfl
end Go.Proofs.Ytdlfdoicheakoaa.X
