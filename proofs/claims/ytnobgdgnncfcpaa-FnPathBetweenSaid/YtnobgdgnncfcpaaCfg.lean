/- How this program's calls are taken. -/
import Derived.Test.YtnobgdgnncfcpaaTab
import Derived.Test.YtnobgdgnncfcpaaPrim
namespace Go.Proofs.Ytnobgdgnncfcpaa.X
open Go Go.Proofs

def cfg : Cfg where
  mutF f := mutL.contains f
  own me d := ownL.contains (me, d)
  prim f := if f = 115 then some (sortP) else if f = 140 then some (cloneP) else if f = 148 then some (mulP) else none

@[go_sem] theorem mut_0 : cfg.mutF 0 = false := by rfl
@[go_sem] theorem mut_1 : cfg.mutF 1 = false := by rfl
@[go_sem] theorem mut_2 : cfg.mutF 2 = false := by rfl
@[go_sem] theorem mut_3 : cfg.mutF 3 = false := by rfl
@[go_sem] theorem mut_4 : cfg.mutF 4 = false := by rfl
@[go_sem] theorem mut_5 : cfg.mutF 5 = false := by rfl
@[go_sem] theorem mut_6 : cfg.mutF 6 = false := by rfl
@[go_sem] theorem mut_7 : cfg.mutF 7 = false := by rfl
@[go_sem] theorem mut_8 : cfg.mutF 8 = false := by rfl
@[go_sem] theorem mut_9 : cfg.mutF 9 = false := by rfl
@[go_sem] theorem mut_10 : cfg.mutF 10 = false := by rfl
@[go_sem] theorem mut_11 : cfg.mutF 11 = false := by rfl
@[go_sem] theorem mut_12 : cfg.mutF 12 = false := by rfl
@[go_sem] theorem mut_13 : cfg.mutF 13 = false := by rfl
@[go_sem] theorem mut_14 : cfg.mutF 14 = false := by rfl
@[go_sem] theorem mut_15 : cfg.mutF 15 = false := by rfl
@[go_sem] theorem mut_16 : cfg.mutF 16 = false := by rfl
@[go_sem] theorem mut_17 : cfg.mutF 17 = false := by rfl
@[go_sem] theorem mut_18 : cfg.mutF 18 = false := by rfl
@[go_sem] theorem mut_19 : cfg.mutF 19 = false := by rfl
@[go_sem] theorem mut_20 : cfg.mutF 20 = false := by rfl
@[go_sem] theorem mut_21 : cfg.mutF 21 = false := by rfl
@[go_sem] theorem mut_22 : cfg.mutF 22 = false := by rfl
@[go_sem] theorem mut_23 : cfg.mutF 23 = false := by rfl
@[go_sem] theorem mut_24 : cfg.mutF 24 = false := by rfl
@[go_sem] theorem mut_25 : cfg.mutF 25 = false := by rfl
@[go_sem] theorem mut_26 : cfg.mutF 26 = false := by rfl
@[go_sem] theorem mut_27 : cfg.mutF 27 = false := by rfl
@[go_sem] theorem mut_28 : cfg.mutF 28 = false := by rfl
@[go_sem] theorem mut_29 : cfg.mutF 29 = false := by rfl
@[go_sem] theorem mut_30 : cfg.mutF 30 = false := by rfl
@[go_sem] theorem mut_31 : cfg.mutF 31 = false := by rfl
@[go_sem] theorem mut_32 : cfg.mutF 32 = false := by rfl
@[go_sem] theorem mut_33 : cfg.mutF 33 = false := by rfl
@[go_sem] theorem mut_34 : cfg.mutF 34 = false := by rfl
@[go_sem] theorem mut_35 : cfg.mutF 35 = false := by rfl
@[go_sem] theorem mut_36 : cfg.mutF 36 = false := by rfl
@[go_sem] theorem mut_37 : cfg.mutF 37 = false := by rfl
@[go_sem] theorem mut_38 : cfg.mutF 38 = false := by rfl
@[go_sem] theorem mut_39 : cfg.mutF 39 = false := by rfl
@[go_sem] theorem mut_40 : cfg.mutF 40 = false := by rfl
@[go_sem] theorem mut_41 : cfg.mutF 41 = false := by rfl
@[go_sem] theorem mut_42 : cfg.mutF 42 = false := by rfl
@[go_sem] theorem mut_43 : cfg.mutF 43 = false := by rfl
@[go_sem] theorem mut_44 : cfg.mutF 44 = false := by rfl
@[go_sem] theorem mut_45 : cfg.mutF 45 = false := by rfl
@[go_sem] theorem mut_46 : cfg.mutF 46 = false := by rfl
@[go_sem] theorem mut_47 : cfg.mutF 47 = false := by rfl
@[go_sem] theorem mut_48 : cfg.mutF 48 = false := by rfl
@[go_sem] theorem mut_49 : cfg.mutF 49 = false := by rfl
@[go_sem] theorem mut_50 : cfg.mutF 50 = false := by rfl
@[go_sem] theorem mut_51 : cfg.mutF 51 = false := by rfl
@[go_sem] theorem mut_52 : cfg.mutF 52 = false := by rfl
@[go_sem] theorem mut_53 : cfg.mutF 53 = false := by rfl
@[go_sem] theorem mut_54 : cfg.mutF 54 = false := by rfl
@[go_sem] theorem mut_55 : cfg.mutF 55 = false := by rfl
@[go_sem] theorem mut_56 : cfg.mutF 56 = false := by rfl
@[go_sem] theorem mut_57 : cfg.mutF 57 = false := by rfl
@[go_sem] theorem mut_58 : cfg.mutF 58 = false := by rfl
@[go_sem] theorem mut_59 : cfg.mutF 59 = false := by rfl
@[go_sem] theorem mut_60 : cfg.mutF 60 = false := by rfl
@[go_sem] theorem mut_61 : cfg.mutF 61 = false := by rfl
@[go_sem] theorem mut_62 : cfg.mutF 62 = false := by rfl
@[go_sem] theorem mut_63 : cfg.mutF 63 = false := by rfl
@[go_sem] theorem mut_64 : cfg.mutF 64 = false := by rfl
@[go_sem] theorem mut_65 : cfg.mutF 65 = false := by rfl
@[go_sem] theorem mut_66 : cfg.mutF 66 = true := by rfl
@[go_sem] theorem mut_67 : cfg.mutF 67 = false := by rfl
@[go_sem] theorem mut_68 : cfg.mutF 68 = false := by rfl
@[go_sem] theorem mut_69 : cfg.mutF 69 = false := by rfl
@[go_sem] theorem mut_70 : cfg.mutF 70 = false := by rfl
@[go_sem] theorem mut_71 : cfg.mutF 71 = false := by rfl
@[go_sem] theorem mut_72 : cfg.mutF 72 = false := by rfl
@[go_sem] theorem mut_73 : cfg.mutF 73 = false := by rfl
@[go_sem] theorem mut_74 : cfg.mutF 74 = false := by rfl
@[go_sem] theorem mut_75 : cfg.mutF 75 = false := by rfl
@[go_sem] theorem mut_76 : cfg.mutF 76 = false := by rfl
@[go_sem] theorem mut_77 : cfg.mutF 77 = false := by rfl
@[go_sem] theorem mut_78 : cfg.mutF 78 = false := by rfl
@[go_sem] theorem mut_79 : cfg.mutF 79 = false := by rfl
@[go_sem] theorem mut_80 : cfg.mutF 80 = false := by rfl
@[go_sem] theorem mut_81 : cfg.mutF 81 = false := by rfl
@[go_sem] theorem mut_82 : cfg.mutF 82 = false := by rfl
@[go_sem] theorem mut_83 : cfg.mutF 83 = false := by rfl
@[go_sem] theorem mut_84 : cfg.mutF 84 = false := by rfl
@[go_sem] theorem mut_85 : cfg.mutF 85 = false := by rfl
@[go_sem] theorem mut_86 : cfg.mutF 86 = false := by rfl
@[go_sem] theorem mut_87 : cfg.mutF 87 = false := by rfl
@[go_sem] theorem mut_88 : cfg.mutF 88 = false := by rfl
@[go_sem] theorem mut_89 : cfg.mutF 89 = false := by rfl
@[go_sem] theorem mut_90 : cfg.mutF 90 = false := by rfl
@[go_sem] theorem mut_91 : cfg.mutF 91 = false := by rfl
@[go_sem] theorem mut_92 : cfg.mutF 92 = false := by rfl
@[go_sem] theorem mut_93 : cfg.mutF 93 = false := by rfl
@[go_sem] theorem mut_94 : cfg.mutF 94 = false := by rfl
@[go_sem] theorem mut_95 : cfg.mutF 95 = false := by rfl
@[go_sem] theorem mut_96 : cfg.mutF 96 = false := by rfl
@[go_sem] theorem mut_97 : cfg.mutF 97 = false := by rfl
@[go_sem] theorem mut_98 : cfg.mutF 98 = false := by rfl
@[go_sem] theorem mut_99 : cfg.mutF 99 = false := by rfl
@[go_sem] theorem mut_100 : cfg.mutF 100 = false := by rfl
@[go_sem] theorem mut_101 : cfg.mutF 101 = false := by rfl
@[go_sem] theorem mut_102 : cfg.mutF 102 = false := by rfl
@[go_sem] theorem mut_103 : cfg.mutF 103 = true := by rfl
@[go_sem] theorem mut_104 : cfg.mutF 104 = true := by rfl
@[go_sem] theorem mut_105 : cfg.mutF 105 = true := by rfl
@[go_sem] theorem mut_106 : cfg.mutF 106 = false := by rfl
@[go_sem] theorem mut_107 : cfg.mutF 107 = false := by rfl
@[go_sem] theorem mut_108 : cfg.mutF 108 = false := by rfl
@[go_sem] theorem mut_109 : cfg.mutF 109 = false := by rfl
@[go_sem] theorem mut_110 : cfg.mutF 110 = true := by rfl
@[go_sem] theorem mut_111 : cfg.mutF 111 = true := by rfl
@[go_sem] theorem mut_112 : cfg.mutF 112 = false := by rfl
@[go_sem] theorem mut_113 : cfg.mutF 113 = false := by rfl
@[go_sem] theorem mut_114 : cfg.mutF 114 = false := by rfl
@[go_sem] theorem mut_115 : cfg.mutF 115 = true := by rfl
@[go_sem] theorem mut_116 : cfg.mutF 116 = false := by rfl
@[go_sem] theorem mut_117 : cfg.mutF 117 = false := by rfl
@[go_sem] theorem mut_118 : cfg.mutF 118 = false := by rfl
@[go_sem] theorem mut_119 : cfg.mutF 119 = true := by rfl
@[go_sem] theorem mut_120 : cfg.mutF 120 = true := by rfl
@[go_sem] theorem mut_121 : cfg.mutF 121 = false := by rfl
@[go_sem] theorem mut_122 : cfg.mutF 122 = false := by rfl
@[go_sem] theorem mut_123 : cfg.mutF 123 = false := by rfl
@[go_sem] theorem mut_124 : cfg.mutF 124 = false := by rfl
@[go_sem] theorem mut_125 : cfg.mutF 125 = false := by rfl
@[go_sem] theorem mut_126 : cfg.mutF 126 = false := by rfl
@[go_sem] theorem mut_127 : cfg.mutF 127 = false := by rfl
@[go_sem] theorem mut_128 : cfg.mutF 128 = false := by rfl
@[go_sem] theorem mut_129 : cfg.mutF 129 = false := by rfl
@[go_sem] theorem mut_130 : cfg.mutF 130 = false := by rfl
@[go_sem] theorem mut_131 : cfg.mutF 131 = false := by rfl
@[go_sem] theorem mut_132 : cfg.mutF 132 = false := by rfl
@[go_sem] theorem mut_133 : cfg.mutF 133 = false := by rfl
@[go_sem] theorem mut_134 : cfg.mutF 134 = false := by rfl
@[go_sem] theorem mut_135 : cfg.mutF 135 = false := by rfl
@[go_sem] theorem mut_136 : cfg.mutF 136 = false := by rfl
@[go_sem] theorem mut_137 : cfg.mutF 137 = false := by rfl
@[go_sem] theorem mut_138 : cfg.mutF 138 = false := by rfl
@[go_sem] theorem mut_139 : cfg.mutF 139 = true := by rfl
@[go_sem] theorem mut_140 : cfg.mutF 140 = false := by rfl
@[go_sem] theorem mut_141 : cfg.mutF 141 = false := by rfl
@[go_sem] theorem mut_142 : cfg.mutF 142 = true := by rfl
@[go_sem] theorem mut_143 : cfg.mutF 143 = false := by rfl
@[go_sem] theorem mut_144 : cfg.mutF 144 = false := by rfl
@[go_sem] theorem mut_145 : cfg.mutF 145 = false := by rfl
@[go_sem] theorem mut_146 : cfg.mutF 146 = false := by rfl
@[go_sem] theorem mut_147 : cfg.mutF 147 = false := by rfl
@[go_sem] theorem mut_148 : cfg.mutF 148 = false := by rfl
@[go_sem] theorem mut_149 : cfg.mutF 149 = false := by rfl
@[go_sem] theorem mut_150 : cfg.mutF 150 = false := by rfl
@[go_sem] theorem mut_151 : cfg.mutF 151 = false := by rfl
@[go_sem] theorem mut_152 : cfg.mutF 152 = false := by rfl
@[go_sem] theorem mut_153 : cfg.mutF 153 = false := by rfl
@[go_sem] theorem mut_154 : cfg.mutF 154 = false := by rfl
@[go_sem] theorem mut_155 : cfg.mutF 155 = false := by rfl
@[go_sem] theorem mut_156 : cfg.mutF 156 = false := by rfl
@[go_sem] theorem mut_157 : cfg.mutF 157 = false := by rfl
@[go_sem] theorem mut_158 : cfg.mutF 158 = false := by rfl
@[go_sem] theorem mut_159 : cfg.mutF 159 = false := by rfl
@[go_sem] theorem mut_160 : cfg.mutF 160 = false := by rfl
@[go_sem] theorem mut_161 : cfg.mutF 161 = false := by rfl
@[go_sem] theorem mut_162 : cfg.mutF 162 = false := by rfl
@[go_sem] theorem mut_163 : cfg.mutF 163 = false := by rfl
@[go_sem] theorem mut_164 : cfg.mutF 164 = false := by rfl
@[go_sem] theorem mut_165 : cfg.mutF 165 = false := by rfl
@[go_sem] theorem mut_166 : cfg.mutF 166 = false := by rfl
@[go_sem] theorem mut_167 : cfg.mutF 167 = false := by rfl
@[go_sem] theorem mut_168 : cfg.mutF 168 = true := by rfl
@[go_sem] theorem mut_169 : cfg.mutF 169 = false := by rfl
@[go_sem] theorem mut_170 : cfg.mutF 170 = false := by rfl
@[go_sem] theorem mut_171 : cfg.mutF 171 = true := by rfl
@[go_sem] theorem mut_172 : cfg.mutF 172 = false := by rfl
@[go_sem] theorem mut_173 : cfg.mutF 173 = false := by rfl
@[go_sem] theorem mut_174 : cfg.mutF 174 = false := by rfl
@[go_sem] theorem mut_175 : cfg.mutF 175 = false := by rfl
@[go_sem] theorem mut_176 : cfg.mutF 176 = false := by rfl
@[go_sem] theorem mut_177 : cfg.mutF 177 = false := by rfl
@[go_sem] theorem mut_178 : cfg.mutF 178 = false := by rfl
@[go_sem] theorem mut_179 : cfg.mutF 179 = false := by rfl
@[go_sem] theorem mut_180 : cfg.mutF 180 = false := by rfl
@[go_sem] theorem mut_181 : cfg.mutF 181 = false := by rfl
@[go_sem] theorem mut_182 : cfg.mutF 182 = false := by rfl
@[go_sem] theorem mut_183 : cfg.mutF 183 = false := by rfl
@[go_sem] theorem mut_184 : cfg.mutF 184 = false := by rfl
@[go_sem] theorem mut_185 : cfg.mutF 185 = false := by rfl
@[go_sem] theorem mut_186 : cfg.mutF 186 = false := by rfl
@[go_sem] theorem mut_187 : cfg.mutF 187 = false := by rfl
@[go_sem] theorem mut_188 : cfg.mutF 188 = false := by rfl
@[go_sem] theorem mut_189 : cfg.mutF 189 = true := by rfl
@[go_sem] theorem mut_190 : cfg.mutF 190 = false := by rfl
@[go_sem] theorem own_2_0 : cfg.own 2 0 = false := by rfl
@[go_sem] theorem own_3_24 : cfg.own 3 24 = false := by rfl
@[go_sem] theorem own_3_30 : cfg.own 3 30 = false := by rfl
@[go_sem] theorem own_3_37 : cfg.own 3 37 = false := by rfl
@[go_sem] theorem own_3_43 : cfg.own 3 43 = false := by rfl
@[go_sem] theorem own_3_61 : cfg.own 3 61 = false := by rfl
@[go_sem] theorem own_3_75 : cfg.own 3 75 = false := by rfl
@[go_sem] theorem own_3_81 : cfg.own 3 81 = false := by rfl
@[go_sem] theorem own_3_103 : cfg.own 3 103 = false := by rfl
@[go_sem] theorem own_3_116 : cfg.own 3 116 = false := by rfl
@[go_sem] theorem own_4_16 : cfg.own 4 16 = false := by rfl
@[go_sem] theorem own_4_22 : cfg.own 4 22 = false := by rfl
@[go_sem] theorem own_4_28 : cfg.own 4 28 = false := by rfl
@[go_sem] theorem own_4_33 : cfg.own 4 33 = false := by rfl
@[go_sem] theorem own_4_46 : cfg.own 4 46 = false := by rfl
@[go_sem] theorem own_4_54 : cfg.own 4 54 = false := by rfl
@[go_sem] theorem own_4_69 : cfg.own 4 69 = false := by rfl
@[go_sem] theorem own_4_72 : cfg.own 4 72 = false := by rfl
@[go_sem] theorem own_4_76 : cfg.own 4 76 = false := by rfl
@[go_sem] theorem own_5_17 : cfg.own 5 17 = false := by rfl
@[go_sem] theorem own_5_20 : cfg.own 5 20 = false := by rfl
@[go_sem] theorem own_5_25 : cfg.own 5 25 = false := by rfl
@[go_sem] theorem own_5_30 : cfg.own 5 30 = false := by rfl
@[go_sem] theorem own_5_43 : cfg.own 5 43 = false := by rfl
@[go_sem] theorem own_5_62 : cfg.own 5 62 = false := by rfl
@[go_sem] theorem own_6_11 : cfg.own 6 11 = false := by rfl
@[go_sem] theorem own_6_15 : cfg.own 6 15 = false := by rfl
@[go_sem] theorem own_6_17 : cfg.own 6 17 = false := by rfl
@[go_sem] theorem own_6_19 : cfg.own 6 19 = false := by rfl
@[go_sem] theorem own_6_22 : cfg.own 6 22 = false := by rfl
@[go_sem] theorem own_6_28 : cfg.own 6 28 = false := by rfl
@[go_sem] theorem own_6_29 : cfg.own 6 29 = false := by rfl
@[go_sem] theorem own_7_21 : cfg.own 7 21 = false := by rfl
@[go_sem] theorem own_7_27 : cfg.own 7 27 = false := by rfl
@[go_sem] theorem own_7_28 : cfg.own 7 28 = false := by rfl
@[go_sem] theorem own_7_33 : cfg.own 7 33 = false := by rfl
@[go_sem] theorem own_7_37 : cfg.own 7 37 = false := by rfl
@[go_sem] theorem own_7_43 : cfg.own 7 43 = false := by rfl
@[go_sem] theorem own_7_57 : cfg.own 7 57 = false := by rfl
@[go_sem] theorem own_7_58 : cfg.own 7 58 = false := by rfl
@[go_sem] theorem own_7_62 : cfg.own 7 62 = false := by rfl
@[go_sem] theorem own_7_68 : cfg.own 7 68 = false := by rfl
@[go_sem] theorem own_7_83 : cfg.own 7 83 = false := by rfl
@[go_sem] theorem own_7_86 : cfg.own 7 86 = false := by rfl
@[go_sem] theorem own_7_95 : cfg.own 7 95 = false := by rfl
@[go_sem] theorem own_7_96 : cfg.own 7 96 = false := by rfl
@[go_sem] theorem own_7_102 : cfg.own 7 102 = false := by rfl
@[go_sem] theorem own_7_116 : cfg.own 7 116 = false := by rfl
@[go_sem] theorem own_8_23 : cfg.own 8 23 = false := by rfl
@[go_sem] theorem own_8_29 : cfg.own 8 29 = false := by rfl
@[go_sem] theorem own_8_35 : cfg.own 8 35 = false := by rfl
@[go_sem] theorem own_8_40 : cfg.own 8 40 = false := by rfl
@[go_sem] theorem own_8_53 : cfg.own 8 53 = false := by rfl
@[go_sem] theorem own_8_62 : cfg.own 8 62 = false := by rfl
@[go_sem] theorem own_8_68 : cfg.own 8 68 = false := by rfl
@[go_sem] theorem own_8_81 : cfg.own 8 81 = false := by rfl
@[go_sem] theorem own_8_87 : cfg.own 8 87 = false := by rfl
@[go_sem] theorem own_8_97 : cfg.own 8 97 = false := by rfl
@[go_sem] theorem own_8_102 : cfg.own 8 102 = false := by rfl
@[go_sem] theorem own_9_13 : cfg.own 9 13 = false := by rfl
@[go_sem] theorem own_9_18 : cfg.own 9 18 = false := by rfl
@[go_sem] theorem own_9_22 : cfg.own 9 22 = false := by rfl
@[go_sem] theorem own_9_26 : cfg.own 9 26 = false := by rfl
@[go_sem] theorem own_9_42 : cfg.own 9 42 = false := by rfl
@[go_sem] theorem own_9_51 : cfg.own 9 51 = false := by rfl
@[go_sem] theorem own_9_58 : cfg.own 9 58 = false := by rfl
@[go_sem] theorem own_9_61 : cfg.own 9 61 = false := by rfl
@[go_sem] theorem own_10_15 : cfg.own 10 15 = false := by rfl
@[go_sem] theorem own_10_17 : cfg.own 10 17 = false := by rfl
@[go_sem] theorem own_10_20 : cfg.own 10 20 = false := by rfl
@[go_sem] theorem own_10_21 : cfg.own 10 21 = false := by rfl
@[go_sem] theorem own_10_25 : cfg.own 10 25 = false := by rfl
@[go_sem] theorem own_10_30 : cfg.own 10 30 = false := by rfl
@[go_sem] theorem own_10_31 : cfg.own 10 31 = false := by rfl
@[go_sem] theorem own_10_39 : cfg.own 10 39 = false := by rfl
@[go_sem] theorem own_10_96 : cfg.own 10 96 = false := by rfl
@[go_sem] theorem own_10_102 : cfg.own 10 102 = false := by rfl
@[go_sem] theorem own_11_17 : cfg.own 11 17 = false := by rfl
@[go_sem] theorem own_11_24 : cfg.own 11 24 = false := by rfl
@[go_sem] theorem own_11_29 : cfg.own 11 29 = false := by rfl
@[go_sem] theorem own_11_36 : cfg.own 11 36 = false := by rfl
@[go_sem] theorem own_11_43 : cfg.own 11 43 = false := by rfl
@[go_sem] theorem own_11_72 : cfg.own 11 72 = false := by rfl
@[go_sem] theorem own_11_80 : cfg.own 11 80 = false := by rfl
@[go_sem] theorem own_11_102 : cfg.own 11 102 = false := by rfl
@[go_sem] theorem own_12_20 : cfg.own 12 20 = false := by rfl
@[go_sem] theorem own_12_28 : cfg.own 12 28 = false := by rfl
@[go_sem] theorem own_12_35 : cfg.own 12 35 = false := by rfl
@[go_sem] theorem own_12_40 : cfg.own 12 40 = false := by rfl
@[go_sem] theorem own_12_53 : cfg.own 12 53 = false := by rfl
@[go_sem] theorem own_12_69 : cfg.own 12 69 = false := by rfl
@[go_sem] theorem own_12_76 : cfg.own 12 76 = false := by rfl
@[go_sem] theorem own_13_20 : cfg.own 13 20 = false := by rfl
@[go_sem] theorem own_13_25 : cfg.own 13 25 = false := by rfl
@[go_sem] theorem own_13_28 : cfg.own 13 28 = false := by rfl
@[go_sem] theorem own_13_32 : cfg.own 13 32 = false := by rfl
@[go_sem] theorem own_13_37 : cfg.own 13 37 = false := by rfl
@[go_sem] theorem own_13_42 : cfg.own 13 42 = false := by rfl
@[go_sem] theorem own_13_51 : cfg.own 13 51 = false := by rfl
@[go_sem] theorem own_13_52 : cfg.own 13 52 = false := by rfl
@[go_sem] theorem own_13_56 : cfg.own 13 56 = false := by rfl
@[go_sem] theorem own_13_62 : cfg.own 13 62 = false := by rfl
@[go_sem] theorem own_13_72 : cfg.own 13 72 = false := by rfl
@[go_sem] theorem own_13_75 : cfg.own 13 75 = false := by rfl
@[go_sem] theorem own_13_83 : cfg.own 13 83 = false := by rfl
@[go_sem] theorem own_13_86 : cfg.own 13 86 = false := by rfl
@[go_sem] theorem own_13_91 : cfg.own 13 91 = false := by rfl
@[go_sem] theorem own_13_100 : cfg.own 13 100 = false := by rfl
@[go_sem] theorem own_14_19 : cfg.own 14 19 = false := by rfl
@[go_sem] theorem own_14_27 : cfg.own 14 27 = false := by rfl
@[go_sem] theorem own_14_34 : cfg.own 14 34 = false := by rfl
@[go_sem] theorem own_14_39 : cfg.own 14 39 = false := by rfl
@[go_sem] theorem own_14_52 : cfg.own 14 52 = false := by rfl
@[go_sem] theorem own_14_71 : cfg.own 14 71 = false := by rfl
@[go_sem] theorem own_14_76 : cfg.own 14 76 = false := by rfl
@[go_sem] theorem own_14_90 : cfg.own 14 90 = false := by rfl
@[go_sem] theorem own_14_96 : cfg.own 14 96 = false := by rfl
@[go_sem] theorem own_15_5 : cfg.own 15 5 = false := by rfl
@[go_sem] theorem own_16_19 : cfg.own 16 19 = false := by rfl
@[go_sem] theorem own_16_27 : cfg.own 16 27 = false := by rfl
@[go_sem] theorem own_16_43 : cfg.own 16 43 = false := by rfl
@[go_sem] theorem own_17_11 : cfg.own 17 11 = false := by rfl
@[go_sem] theorem own_17_21 : cfg.own 17 21 = false := by rfl
@[go_sem] theorem own_17_25 : cfg.own 17 25 = false := by rfl
@[go_sem] theorem own_17_27 : cfg.own 17 27 = false := by rfl
@[go_sem] theorem own_19_12 : cfg.own 19 12 = false := by rfl
@[go_sem] theorem own_20_12 : cfg.own 20 12 = false := by rfl
@[go_sem] theorem own_21_36 : cfg.own 21 36 = false := by rfl
@[go_sem] theorem own_22_5 : cfg.own 22 5 = false := by rfl
@[go_sem] theorem own_23_8 : cfg.own 23 8 = false := by rfl
@[go_sem] theorem own_23_13 : cfg.own 23 13 = false := by rfl
@[go_sem] theorem own_24_7 : cfg.own 24 7 = false := by rfl
@[go_sem] theorem own_24_22 : cfg.own 24 22 = false := by rfl
@[go_sem] theorem own_25_15 : cfg.own 25 15 = false := by rfl
@[go_sem] theorem own_26_7 : cfg.own 26 7 = false := by rfl
@[go_sem] theorem own_26_11 : cfg.own 26 11 = false := by rfl
@[go_sem] theorem own_27_6 : cfg.own 27 6 = false := by rfl
@[go_sem] theorem own_27_10 : cfg.own 27 10 = false := by rfl
@[go_sem] theorem own_28_55 : cfg.own 28 55 = false := by rfl
@[go_sem] theorem own_29_4 : cfg.own 29 4 = false := by rfl
@[go_sem] theorem own_30_5 : cfg.own 30 5 = false := by rfl
@[go_sem] theorem own_30_9 : cfg.own 30 9 = false := by rfl
@[go_sem] theorem own_31_5 : cfg.own 31 5 = false := by rfl
@[go_sem] theorem own_31_9 : cfg.own 31 9 = false := by rfl
@[go_sem] theorem own_32_9 : cfg.own 32 9 = false := by rfl
@[go_sem] theorem own_32_15 : cfg.own 32 15 = false := by rfl
@[go_sem] theorem own_32_22 : cfg.own 32 22 = false := by rfl
@[go_sem] theorem own_33_8 : cfg.own 33 8 = false := by rfl
@[go_sem] theorem own_34_7 : cfg.own 34 7 = false := by rfl
@[go_sem] theorem own_34_11 : cfg.own 34 11 = false := by rfl
@[go_sem] theorem own_35_9 : cfg.own 35 9 = false := by rfl
@[go_sem] theorem own_36_7 : cfg.own 36 7 = false := by rfl
@[go_sem] theorem own_36_11 : cfg.own 36 11 = false := by rfl
@[go_sem] theorem own_37_14 : cfg.own 37 14 = false := by rfl
@[go_sem] theorem own_39_20 : cfg.own 39 20 = false := by rfl
@[go_sem] theorem own_41_25 : cfg.own 41 25 = false := by rfl
@[go_sem] theorem own_45_11 : cfg.own 45 11 = false := by rfl
@[go_sem] theorem own_45_16 : cfg.own 45 16 = false := by rfl
@[go_sem] theorem own_46_8 : cfg.own 46 8 = false := by rfl
@[go_sem] theorem own_46_13 : cfg.own 46 13 = false := by rfl
@[go_sem] theorem own_47_5 : cfg.own 47 5 = false := by rfl
@[go_sem] theorem own_48_7 : cfg.own 48 7 = false := by rfl
@[go_sem] theorem own_49_4 : cfg.own 49 4 = false := by rfl
@[go_sem] theorem own_50_4 : cfg.own 50 4 = false := by rfl
@[go_sem] theorem own_50_9 : cfg.own 50 9 = false := by rfl
@[go_sem] theorem own_52_12 : cfg.own 52 12 = false := by rfl
@[go_sem] theorem own_52_18 : cfg.own 52 18 = false := by rfl
@[go_sem] theorem own_54_6 : cfg.own 54 6 = false := by rfl
@[go_sem] theorem own_55_9 : cfg.own 55 9 = false := by rfl
@[go_sem] theorem own_55_13 : cfg.own 55 13 = false := by rfl
@[go_sem] theorem own_55_19 : cfg.own 55 19 = false := by rfl
@[go_sem] theorem own_56_9 : cfg.own 56 9 = false := by rfl
@[go_sem] theorem own_56_13 : cfg.own 56 13 = false := by rfl
@[go_sem] theorem own_56_19 : cfg.own 56 19 = false := by rfl
@[go_sem] theorem own_57_15 : cfg.own 57 15 = false := by rfl
@[go_sem] theorem own_57_21 : cfg.own 57 21 = false := by rfl
@[go_sem] theorem own_57_27 : cfg.own 57 27 = false := by rfl
@[go_sem] theorem own_58_6 : cfg.own 58 6 = false := by rfl
@[go_sem] theorem own_59_11 : cfg.own 59 11 = false := by rfl
@[go_sem] theorem own_59_17 : cfg.own 59 17 = false := by rfl
@[go_sem] theorem own_61_8 : cfg.own 61 8 = false := by rfl
@[go_sem] theorem own_64_8 : cfg.own 64 8 = true := by rfl
@[go_sem] theorem own_64_11 : cfg.own 64 11 = false := by rfl
@[go_sem] theorem own_64_15 : cfg.own 64 15 = false := by rfl
@[go_sem] theorem own_64_19 : cfg.own 64 19 = false := by rfl
@[go_sem] theorem own_65_23 : cfg.own 65 23 = false := by rfl
@[go_sem] theorem own_66_49 : cfg.own 66 49 = false := by rfl
@[go_sem] theorem own_66_85 : cfg.own 66 85 = false := by rfl
@[go_sem] theorem own_66_93 : cfg.own 66 93 = false := by rfl
@[go_sem] theorem own_66_111 : cfg.own 66 111 = false := by rfl
@[go_sem] theorem own_66_121 : cfg.own 66 121 = false := by rfl
@[go_sem] theorem own_69_16 : cfg.own 69 16 = false := by rfl
@[go_sem] theorem own_69_38 : cfg.own 69 38 = false := by rfl
@[go_sem] theorem own_69_47 : cfg.own 69 47 = false := by rfl
@[go_sem] theorem own_69_64 : cfg.own 69 64 = false := by rfl
@[go_sem] theorem own_69_71 : cfg.own 69 71 = false := by rfl
@[go_sem] theorem own_69_83 : cfg.own 69 83 = false := by rfl
@[go_sem] theorem own_70_11 : cfg.own 70 11 = false := by rfl
@[go_sem] theorem own_71_40 : cfg.own 71 40 = false := by rfl
@[go_sem] theorem own_71_45 : cfg.own 71 45 = false := by rfl
@[go_sem] theorem own_72_8 : cfg.own 72 8 = true := by rfl
@[go_sem] theorem own_72_10 : cfg.own 72 10 = false := by rfl
@[go_sem] theorem own_72_14 : cfg.own 72 14 = false := by rfl
@[go_sem] theorem own_72_16 : cfg.own 72 16 = false := by rfl
@[go_sem] theorem own_72_20 : cfg.own 72 20 = false := by rfl
@[go_sem] theorem own_72_23 : cfg.own 72 23 = false := by rfl
@[go_sem] theorem own_73_6 : cfg.own 73 6 = false := by rfl
@[go_sem] theorem own_74_7 : cfg.own 74 7 = false := by rfl
@[go_sem] theorem own_75_59 : cfg.own 75 59 = false := by rfl
@[go_sem] theorem own_78_37 : cfg.own 78 37 = false := by rfl
@[go_sem] theorem own_79_8 : cfg.own 79 8 = false := by rfl
@[go_sem] theorem own_80_9 : cfg.own 80 9 = false := by rfl
@[go_sem] theorem own_80_14 : cfg.own 80 14 = false := by rfl
@[go_sem] theorem own_80_16 : cfg.own 80 16 = false := by rfl
@[go_sem] theorem own_81_5 : cfg.own 81 5 = true := by rfl
@[go_sem] theorem own_81_10 : cfg.own 81 10 = false := by rfl
@[go_sem] theorem own_81_11 : cfg.own 81 11 = false := by rfl
@[go_sem] theorem own_81_12 : cfg.own 81 12 = false := by rfl
@[go_sem] theorem own_81_13 : cfg.own 81 13 = false := by rfl
@[go_sem] theorem own_82_30 : cfg.own 82 30 = false := by rfl
@[go_sem] theorem own_83_33 : cfg.own 83 33 = false := by rfl
@[go_sem] theorem own_85_6 : cfg.own 85 6 = false := by rfl
@[go_sem] theorem own_86_10 : cfg.own 86 10 = false := by rfl
@[go_sem] theorem own_86_13 : cfg.own 86 13 = false := by rfl
@[go_sem] theorem own_86_28 : cfg.own 86 28 = false := by rfl
@[go_sem] theorem own_87_20 : cfg.own 87 20 = false := by rfl
@[go_sem] theorem own_88_9 : cfg.own 88 9 = false := by rfl
@[go_sem] theorem own_88_10 : cfg.own 88 10 = false := by rfl
@[go_sem] theorem own_88_13 : cfg.own 88 13 = false := by rfl
@[go_sem] theorem own_88_16 : cfg.own 88 16 = false := by rfl
@[go_sem] theorem own_89_25 : cfg.own 89 25 = false := by rfl
@[go_sem] theorem own_90_9 : cfg.own 90 9 = false := by rfl
@[go_sem] theorem own_91_14 : cfg.own 91 14 = false := by rfl
@[go_sem] theorem own_93_7 : cfg.own 93 7 = false := by rfl
@[go_sem] theorem own_94_4 : cfg.own 94 4 = false := by rfl
@[go_sem] theorem own_94_7 : cfg.own 94 7 = false := by rfl
@[go_sem] theorem own_95_15 : cfg.own 95 15 = false := by rfl
@[go_sem] theorem own_96_11 : cfg.own 96 11 = false := by rfl
@[go_sem] theorem own_96_15 : cfg.own 96 15 = true := by rfl
@[go_sem] theorem own_96_18 : cfg.own 96 18 = false := by rfl
@[go_sem] theorem own_96_24 : cfg.own 96 24 = false := by rfl
@[go_sem] theorem own_96_30 : cfg.own 96 30 = false := by rfl
@[go_sem] theorem own_97_9 : cfg.own 97 9 = false := by rfl
@[go_sem] theorem own_98_9 : cfg.own 98 9 = false := by rfl
@[go_sem] theorem own_99_13 : cfg.own 99 13 = true := by rfl
@[go_sem] theorem own_99_29 : cfg.own 99 29 = false := by rfl
@[go_sem] theorem own_100_14 : cfg.own 100 14 = false := by rfl
@[go_sem] theorem own_100_28 : cfg.own 100 28 = false := by rfl
@[go_sem] theorem own_103_14 : cfg.own 103 14 = false := by rfl
@[go_sem] theorem own_103_19 : cfg.own 103 19 = false := by rfl
@[go_sem] theorem own_103_27 : cfg.own 103 27 = false := by rfl
@[go_sem] theorem own_103_31 : cfg.own 103 31 = false := by rfl
@[go_sem] theorem own_103_37 : cfg.own 103 37 = false := by rfl
@[go_sem] theorem own_103_40 : cfg.own 103 40 = false := by rfl
@[go_sem] theorem own_103_46 : cfg.own 103 46 = false := by rfl
@[go_sem] theorem own_103_71 : cfg.own 103 71 = false := by rfl
@[go_sem] theorem own_103_79 : cfg.own 103 79 = false := by rfl
@[go_sem] theorem own_103_90 : cfg.own 103 90 = false := by rfl
@[go_sem] theorem own_103_96 : cfg.own 103 96 = false := by rfl
@[go_sem] theorem own_103_101 : cfg.own 103 101 = false := by rfl
@[go_sem] theorem own_103_108 : cfg.own 103 108 = false := by rfl
@[go_sem] theorem own_105_9 : cfg.own 105 9 = false := by rfl
@[go_sem] theorem own_106_62 : cfg.own 106 62 = false := by rfl
@[go_sem] theorem own_106_74 : cfg.own 106 74 = false := by rfl
@[go_sem] theorem own_107_11 : cfg.own 107 11 = true := by rfl
@[go_sem] theorem own_107_14 : cfg.own 107 14 = false := by rfl
@[go_sem] theorem own_107_17 : cfg.own 107 17 = false := by rfl
@[go_sem] theorem own_109_10 : cfg.own 109 10 = false := by rfl
@[go_sem] theorem own_109_15 : cfg.own 109 15 = false := by rfl
@[go_sem] theorem own_109_22 : cfg.own 109 22 = false := by rfl
@[go_sem] theorem own_109_29 : cfg.own 109 29 = true := by rfl
@[go_sem] theorem own_109_33 : cfg.own 109 33 = false := by rfl
@[go_sem] theorem own_109_36 : cfg.own 109 36 = false := by rfl
@[go_sem] theorem own_110_10 : cfg.own 110 10 = false := by rfl
@[go_sem] theorem own_110_19 : cfg.own 110 19 = false := by rfl
@[go_sem] theorem own_110_25 : cfg.own 110 25 = false := by rfl
@[go_sem] theorem own_110_27 : cfg.own 110 27 = false := by rfl
@[go_sem] theorem own_110_28 : cfg.own 110 28 = false := by rfl
@[go_sem] theorem own_110_32 : cfg.own 110 32 = false := by rfl
@[go_sem] theorem own_110_40 : cfg.own 110 40 = false := by rfl
@[go_sem] theorem own_110_44 : cfg.own 110 44 = false := by rfl
@[go_sem] theorem own_110_53 : cfg.own 110 53 = false := by rfl
@[go_sem] theorem own_110_54 : cfg.own 110 54 = false := by rfl
@[go_sem] theorem own_110_61 : cfg.own 110 61 = false := by rfl
@[go_sem] theorem own_110_62 : cfg.own 110 62 = false := by rfl
@[go_sem] theorem own_111_8 : cfg.own 111 8 = true := by rfl
@[go_sem] theorem own_111_10 : cfg.own 111 10 = false := by rfl
@[go_sem] theorem own_111_23 : cfg.own 111 23 = false := by rfl
@[go_sem] theorem own_111_25 : cfg.own 111 25 = false := by rfl
@[go_sem] theorem own_111_33 : cfg.own 111 33 = false := by rfl
@[go_sem] theorem own_111_40 : cfg.own 111 40 = false := by rfl
@[go_sem] theorem own_112_9 : cfg.own 112 9 = true := by rfl
@[go_sem] theorem own_112_11 : cfg.own 112 11 = false := by rfl
@[go_sem] theorem own_115_9 : cfg.own 115 9 = false := by rfl
@[go_sem] theorem own_115_10 : cfg.own 115 10 = false := by rfl
@[go_sem] theorem own_116_7 : cfg.own 116 7 = false := by rfl
@[go_sem] theorem own_118_8 : cfg.own 118 8 = false := by rfl
@[go_sem] theorem own_118_10 : cfg.own 118 10 = false := by rfl
@[go_sem] theorem own_119_38 : cfg.own 119 38 = false := by rfl
@[go_sem] theorem own_119_57 : cfg.own 119 57 = false := by rfl
@[go_sem] theorem own_120_33 : cfg.own 120 33 = false := by rfl
@[go_sem] theorem own_120_64 : cfg.own 120 64 = false := by rfl
@[go_sem] theorem own_121_22 : cfg.own 121 22 = false := by rfl
@[go_sem] theorem own_121_23 : cfg.own 121 23 = false := by rfl
@[go_sem] theorem own_124_7 : cfg.own 124 7 = false := by rfl
@[go_sem] theorem own_129_18 : cfg.own 129 18 = false := by rfl
@[go_sem] theorem own_130_36 : cfg.own 130 36 = false := by rfl
@[go_sem] theorem own_133_23 : cfg.own 133 23 = false := by rfl
@[go_sem] theorem own_135_8 : cfg.own 135 8 = false := by rfl
@[go_sem] theorem own_135_14 : cfg.own 135 14 = false := by rfl
@[go_sem] theorem own_135_23 : cfg.own 135 23 = false := by rfl
@[go_sem] theorem own_135_26 : cfg.own 135 26 = false := by rfl
@[go_sem] theorem own_136_7 : cfg.own 136 7 = false := by rfl
@[go_sem] theorem own_136_13 : cfg.own 136 13 = false := by rfl
@[go_sem] theorem own_136_22 : cfg.own 136 22 = false := by rfl
@[go_sem] theorem own_138_30 : cfg.own 138 30 = false := by rfl
@[go_sem] theorem own_138_46 : cfg.own 138 46 = false := by rfl
@[go_sem] theorem own_139_67 : cfg.own 139 67 = false := by rfl
@[go_sem] theorem own_139_93 : cfg.own 139 93 = false := by rfl
@[go_sem] theorem own_142_10 : cfg.own 142 10 = false := by rfl
@[go_sem] theorem own_142_28 : cfg.own 142 28 = false := by rfl
@[go_sem] theorem own_143_27 : cfg.own 143 27 = false := by rfl
@[go_sem] theorem own_143_33 : cfg.own 143 33 = false := by rfl
@[go_sem] theorem own_143_39 : cfg.own 143 39 = false := by rfl
@[go_sem] theorem own_143_46 : cfg.own 143 46 = false := by rfl
@[go_sem] theorem own_143_54 : cfg.own 143 54 = false := by rfl
@[go_sem] theorem own_143_72 : cfg.own 143 72 = false := by rfl
@[go_sem] theorem own_143_85 : cfg.own 143 85 = false := by rfl
@[go_sem] theorem own_143_92 : cfg.own 143 92 = false := by rfl
@[go_sem] theorem own_143_99 : cfg.own 143 99 = false := by rfl
@[go_sem] theorem own_143_121 : cfg.own 143 121 = false := by rfl
@[go_sem] theorem own_143_132 : cfg.own 143 132 = false := by rfl
@[go_sem] theorem own_144_5 : cfg.own 144 5 = false := by rfl
@[go_sem] theorem own_144_7 : cfg.own 144 7 = false := by rfl
@[go_sem] theorem own_147_16 : cfg.own 147 16 = false := by rfl
@[go_sem] theorem own_148_15 : cfg.own 148 15 = false := by rfl
@[go_sem] theorem own_148_25 : cfg.own 148 25 = false := by rfl
@[go_sem] theorem own_150_9 : cfg.own 150 9 = false := by rfl
@[go_sem] theorem own_151_16 : cfg.own 151 16 = false := by rfl
@[go_sem] theorem own_152_29 : cfg.own 152 29 = false := by rfl
@[go_sem] theorem own_153_26 : cfg.own 153 26 = false := by rfl
@[go_sem] theorem own_153_55 : cfg.own 153 55 = false := by rfl
@[go_sem] theorem own_154_19 : cfg.own 154 19 = false := by rfl
@[go_sem] theorem own_154_36 : cfg.own 154 36 = false := by rfl
@[go_sem] theorem own_155_37 : cfg.own 155 37 = false := by rfl
@[go_sem] theorem own_155_40 : cfg.own 155 40 = false := by rfl
@[go_sem] theorem own_155_43 : cfg.own 155 43 = false := by rfl
@[go_sem] theorem own_155_48 : cfg.own 155 48 = false := by rfl
@[go_sem] theorem own_157_30 : cfg.own 157 30 = false := by rfl
@[go_sem] theorem own_157_77 : cfg.own 157 77 = false := by rfl
@[go_sem] theorem own_157_115 : cfg.own 157 115 = false := by rfl
@[go_sem] theorem own_158_6 : cfg.own 158 6 = false := by rfl
@[go_sem] theorem own_158_9 : cfg.own 158 9 = false := by rfl
@[go_sem] theorem own_159_41 : cfg.own 159 41 = false := by rfl
@[go_sem] theorem own_159_58 : cfg.own 159 58 = false := by rfl
@[go_sem] theorem own_160_42 : cfg.own 160 42 = false := by rfl
@[go_sem] theorem own_160_58 : cfg.own 160 58 = false := by rfl
@[go_sem] theorem own_160_111 : cfg.own 160 111 = false := by rfl
@[go_sem] theorem own_160_127 : cfg.own 160 127 = false := by rfl
@[go_sem] theorem own_165_7 : cfg.own 165 7 = false := by rfl
@[go_sem] theorem own_165_11 : cfg.own 165 11 = false := by rfl
@[go_sem] theorem own_165_13 : cfg.own 165 13 = false := by rfl
@[go_sem] theorem own_166_35 : cfg.own 166 35 = false := by rfl
@[go_sem] theorem own_166_51 : cfg.own 166 51 = false := by rfl
@[go_sem] theorem own_167_5 : cfg.own 167 5 = false := by rfl
@[go_sem] theorem own_169_14 : cfg.own 169 14 = false := by rfl
@[go_sem] theorem own_170_16 : cfg.own 170 16 = false := by rfl
@[go_sem] theorem own_170_24 : cfg.own 170 24 = false := by rfl
@[go_sem] theorem own_170_32 : cfg.own 170 32 = false := by rfl
@[go_sem] theorem own_172_18 : cfg.own 172 18 = false := by rfl
end Go.Proofs.Ytnobgdgnncfcpaa.X
