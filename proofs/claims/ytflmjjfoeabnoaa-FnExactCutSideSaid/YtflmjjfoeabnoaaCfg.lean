/- How this program's calls are taken. -/
import Derived.Test.YtflmjjfoeabnoaaTab
import Derived.Test.YtflmjjfoeabnoaaPrim
namespace Go.Proofs.Ytflmjjfoeabnoaa.X
open Go Go.Proofs

def cfg : Cfg where
  mutF f := mutL.contains f
  own me d := ownL.contains (me, d)
  prim f := if f = 85 then some (sortP) else if f = 98 then some (cloneP) else if f = 145 then some (mulP) else none
  give me d := if me = 91 then d == 14 else false

@[go_sem] theorem give_0 (d : Nat) : cfg.give 0 d = false := by rfl
@[go_sem] theorem give_1 (d : Nat) : cfg.give 1 d = false := by rfl
@[go_sem] theorem give_2 (d : Nat) : cfg.give 2 d = false := by rfl
@[go_sem] theorem give_3 (d : Nat) : cfg.give 3 d = false := by rfl
@[go_sem] theorem give_4 (d : Nat) : cfg.give 4 d = false := by rfl
@[go_sem] theorem give_5 (d : Nat) : cfg.give 5 d = false := by rfl
@[go_sem] theorem give_6 (d : Nat) : cfg.give 6 d = false := by rfl
@[go_sem] theorem give_7 (d : Nat) : cfg.give 7 d = false := by rfl
@[go_sem] theorem give_8 (d : Nat) : cfg.give 8 d = false := by rfl
@[go_sem] theorem give_9 (d : Nat) : cfg.give 9 d = false := by rfl
@[go_sem] theorem give_10 (d : Nat) : cfg.give 10 d = false := by rfl
@[go_sem] theorem give_11 (d : Nat) : cfg.give 11 d = false := by rfl
@[go_sem] theorem give_12 (d : Nat) : cfg.give 12 d = false := by rfl
@[go_sem] theorem give_13 (d : Nat) : cfg.give 13 d = false := by rfl
@[go_sem] theorem give_14 (d : Nat) : cfg.give 14 d = false := by rfl
@[go_sem] theorem give_15 (d : Nat) : cfg.give 15 d = false := by rfl
@[go_sem] theorem give_16 (d : Nat) : cfg.give 16 d = false := by rfl
@[go_sem] theorem give_17 (d : Nat) : cfg.give 17 d = false := by rfl
@[go_sem] theorem give_18 (d : Nat) : cfg.give 18 d = false := by rfl
@[go_sem] theorem give_19 (d : Nat) : cfg.give 19 d = false := by rfl
@[go_sem] theorem give_20 (d : Nat) : cfg.give 20 d = false := by rfl
@[go_sem] theorem give_21 (d : Nat) : cfg.give 21 d = false := by rfl
@[go_sem] theorem give_22 (d : Nat) : cfg.give 22 d = false := by rfl
@[go_sem] theorem give_23 (d : Nat) : cfg.give 23 d = false := by rfl
@[go_sem] theorem give_24 (d : Nat) : cfg.give 24 d = false := by rfl
@[go_sem] theorem give_25 (d : Nat) : cfg.give 25 d = false := by rfl
@[go_sem] theorem give_26 (d : Nat) : cfg.give 26 d = false := by rfl
@[go_sem] theorem give_27 (d : Nat) : cfg.give 27 d = false := by rfl
@[go_sem] theorem give_28 (d : Nat) : cfg.give 28 d = false := by rfl
@[go_sem] theorem give_29 (d : Nat) : cfg.give 29 d = false := by rfl
@[go_sem] theorem give_30 (d : Nat) : cfg.give 30 d = false := by rfl
@[go_sem] theorem give_31 (d : Nat) : cfg.give 31 d = false := by rfl
@[go_sem] theorem give_32 (d : Nat) : cfg.give 32 d = false := by rfl
@[go_sem] theorem give_33 (d : Nat) : cfg.give 33 d = false := by rfl
@[go_sem] theorem give_34 (d : Nat) : cfg.give 34 d = false := by rfl
@[go_sem] theorem give_35 (d : Nat) : cfg.give 35 d = false := by rfl
@[go_sem] theorem give_36 (d : Nat) : cfg.give 36 d = false := by rfl
@[go_sem] theorem give_37 (d : Nat) : cfg.give 37 d = false := by rfl
@[go_sem] theorem give_38 (d : Nat) : cfg.give 38 d = false := by rfl
@[go_sem] theorem give_39 (d : Nat) : cfg.give 39 d = false := by rfl
@[go_sem] theorem give_40 (d : Nat) : cfg.give 40 d = false := by rfl
@[go_sem] theorem give_41 (d : Nat) : cfg.give 41 d = false := by rfl
@[go_sem] theorem give_42 (d : Nat) : cfg.give 42 d = false := by rfl
@[go_sem] theorem give_43 (d : Nat) : cfg.give 43 d = false := by rfl
@[go_sem] theorem give_44 (d : Nat) : cfg.give 44 d = false := by rfl
@[go_sem] theorem give_45 (d : Nat) : cfg.give 45 d = false := by rfl
@[go_sem] theorem give_46 (d : Nat) : cfg.give 46 d = false := by rfl
@[go_sem] theorem give_47 (d : Nat) : cfg.give 47 d = false := by rfl
@[go_sem] theorem give_48 (d : Nat) : cfg.give 48 d = false := by rfl
@[go_sem] theorem give_49 (d : Nat) : cfg.give 49 d = false := by rfl
@[go_sem] theorem give_50 (d : Nat) : cfg.give 50 d = false := by rfl
@[go_sem] theorem give_51 (d : Nat) : cfg.give 51 d = false := by rfl
@[go_sem] theorem give_52 (d : Nat) : cfg.give 52 d = false := by rfl
@[go_sem] theorem give_53 (d : Nat) : cfg.give 53 d = false := by rfl
@[go_sem] theorem give_54 (d : Nat) : cfg.give 54 d = false := by rfl
@[go_sem] theorem give_55 (d : Nat) : cfg.give 55 d = false := by rfl
@[go_sem] theorem give_56 (d : Nat) : cfg.give 56 d = false := by rfl
@[go_sem] theorem give_57 (d : Nat) : cfg.give 57 d = false := by rfl
@[go_sem] theorem give_58 (d : Nat) : cfg.give 58 d = false := by rfl
@[go_sem] theorem give_59 (d : Nat) : cfg.give 59 d = false := by rfl
@[go_sem] theorem give_60 (d : Nat) : cfg.give 60 d = false := by rfl
@[go_sem] theorem give_61 (d : Nat) : cfg.give 61 d = false := by rfl
@[go_sem] theorem give_62 (d : Nat) : cfg.give 62 d = false := by rfl
@[go_sem] theorem give_63 (d : Nat) : cfg.give 63 d = false := by rfl
@[go_sem] theorem give_64 (d : Nat) : cfg.give 64 d = false := by rfl
@[go_sem] theorem give_65 (d : Nat) : cfg.give 65 d = false := by rfl
@[go_sem] theorem give_66 (d : Nat) : cfg.give 66 d = false := by rfl
@[go_sem] theorem give_67 (d : Nat) : cfg.give 67 d = false := by rfl
@[go_sem] theorem give_68 (d : Nat) : cfg.give 68 d = false := by rfl
@[go_sem] theorem give_69 (d : Nat) : cfg.give 69 d = false := by rfl
@[go_sem] theorem give_70 (d : Nat) : cfg.give 70 d = false := by rfl
@[go_sem] theorem give_71 (d : Nat) : cfg.give 71 d = false := by rfl
@[go_sem] theorem give_72 (d : Nat) : cfg.give 72 d = false := by rfl
@[go_sem] theorem give_73 (d : Nat) : cfg.give 73 d = false := by rfl
@[go_sem] theorem give_74 (d : Nat) : cfg.give 74 d = false := by rfl
@[go_sem] theorem give_75 (d : Nat) : cfg.give 75 d = false := by rfl
@[go_sem] theorem give_76 (d : Nat) : cfg.give 76 d = false := by rfl
@[go_sem] theorem give_77 (d : Nat) : cfg.give 77 d = false := by rfl
@[go_sem] theorem give_78 (d : Nat) : cfg.give 78 d = false := by rfl
@[go_sem] theorem give_79 (d : Nat) : cfg.give 79 d = false := by rfl
@[go_sem] theorem give_80 (d : Nat) : cfg.give 80 d = false := by rfl
@[go_sem] theorem give_81 (d : Nat) : cfg.give 81 d = false := by rfl
@[go_sem] theorem give_82 (d : Nat) : cfg.give 82 d = false := by rfl
@[go_sem] theorem give_83 (d : Nat) : cfg.give 83 d = false := by rfl
@[go_sem] theorem give_84 (d : Nat) : cfg.give 84 d = false := by rfl
@[go_sem] theorem give_85 (d : Nat) : cfg.give 85 d = false := by rfl
@[go_sem] theorem give_86 (d : Nat) : cfg.give 86 d = false := by rfl
@[go_sem] theorem give_87 (d : Nat) : cfg.give 87 d = false := by rfl
@[go_sem] theorem give_88 (d : Nat) : cfg.give 88 d = false := by rfl
@[go_sem] theorem give_89 (d : Nat) : cfg.give 89 d = false := by rfl
@[go_sem] theorem give_90 (d : Nat) : cfg.give 90 d = false := by rfl
@[go_sem] theorem give_91 (d : Nat) : cfg.give 91 d = (d == 14) := by rfl
@[go_sem] theorem give_92 (d : Nat) : cfg.give 92 d = false := by rfl
@[go_sem] theorem give_93 (d : Nat) : cfg.give 93 d = false := by rfl
@[go_sem] theorem give_94 (d : Nat) : cfg.give 94 d = false := by rfl
@[go_sem] theorem give_95 (d : Nat) : cfg.give 95 d = false := by rfl
@[go_sem] theorem give_96 (d : Nat) : cfg.give 96 d = false := by rfl
@[go_sem] theorem give_97 (d : Nat) : cfg.give 97 d = false := by rfl
@[go_sem] theorem give_98 (d : Nat) : cfg.give 98 d = false := by rfl
@[go_sem] theorem give_99 (d : Nat) : cfg.give 99 d = false := by rfl
@[go_sem] theorem give_100 (d : Nat) : cfg.give 100 d = false := by rfl
@[go_sem] theorem give_101 (d : Nat) : cfg.give 101 d = false := by rfl
@[go_sem] theorem give_102 (d : Nat) : cfg.give 102 d = false := by rfl
@[go_sem] theorem give_103 (d : Nat) : cfg.give 103 d = false := by rfl
@[go_sem] theorem give_104 (d : Nat) : cfg.give 104 d = false := by rfl
@[go_sem] theorem give_105 (d : Nat) : cfg.give 105 d = false := by rfl
@[go_sem] theorem give_106 (d : Nat) : cfg.give 106 d = false := by rfl
@[go_sem] theorem give_107 (d : Nat) : cfg.give 107 d = false := by rfl
@[go_sem] theorem give_108 (d : Nat) : cfg.give 108 d = false := by rfl
@[go_sem] theorem give_109 (d : Nat) : cfg.give 109 d = false := by rfl
@[go_sem] theorem give_110 (d : Nat) : cfg.give 110 d = false := by rfl
@[go_sem] theorem give_111 (d : Nat) : cfg.give 111 d = false := by rfl
@[go_sem] theorem give_112 (d : Nat) : cfg.give 112 d = false := by rfl
@[go_sem] theorem give_113 (d : Nat) : cfg.give 113 d = false := by rfl
@[go_sem] theorem give_114 (d : Nat) : cfg.give 114 d = false := by rfl
@[go_sem] theorem give_115 (d : Nat) : cfg.give 115 d = false := by rfl
@[go_sem] theorem give_116 (d : Nat) : cfg.give 116 d = false := by rfl
@[go_sem] theorem give_117 (d : Nat) : cfg.give 117 d = false := by rfl
@[go_sem] theorem give_118 (d : Nat) : cfg.give 118 d = false := by rfl
@[go_sem] theorem give_119 (d : Nat) : cfg.give 119 d = false := by rfl
@[go_sem] theorem give_120 (d : Nat) : cfg.give 120 d = false := by rfl
@[go_sem] theorem give_121 (d : Nat) : cfg.give 121 d = false := by rfl
@[go_sem] theorem give_122 (d : Nat) : cfg.give 122 d = false := by rfl
@[go_sem] theorem give_123 (d : Nat) : cfg.give 123 d = false := by rfl
@[go_sem] theorem give_124 (d : Nat) : cfg.give 124 d = false := by rfl
@[go_sem] theorem give_125 (d : Nat) : cfg.give 125 d = false := by rfl
@[go_sem] theorem give_126 (d : Nat) : cfg.give 126 d = false := by rfl
@[go_sem] theorem give_127 (d : Nat) : cfg.give 127 d = false := by rfl
@[go_sem] theorem give_128 (d : Nat) : cfg.give 128 d = false := by rfl
@[go_sem] theorem give_129 (d : Nat) : cfg.give 129 d = false := by rfl
@[go_sem] theorem give_130 (d : Nat) : cfg.give 130 d = false := by rfl
@[go_sem] theorem give_131 (d : Nat) : cfg.give 131 d = false := by rfl
@[go_sem] theorem give_132 (d : Nat) : cfg.give 132 d = false := by rfl
@[go_sem] theorem give_133 (d : Nat) : cfg.give 133 d = false := by rfl
@[go_sem] theorem give_134 (d : Nat) : cfg.give 134 d = false := by rfl
@[go_sem] theorem give_135 (d : Nat) : cfg.give 135 d = false := by rfl
@[go_sem] theorem give_136 (d : Nat) : cfg.give 136 d = false := by rfl
@[go_sem] theorem give_137 (d : Nat) : cfg.give 137 d = false := by rfl
@[go_sem] theorem give_138 (d : Nat) : cfg.give 138 d = false := by rfl
@[go_sem] theorem give_139 (d : Nat) : cfg.give 139 d = false := by rfl
@[go_sem] theorem give_140 (d : Nat) : cfg.give 140 d = false := by rfl
@[go_sem] theorem give_141 (d : Nat) : cfg.give 141 d = false := by rfl
@[go_sem] theorem give_142 (d : Nat) : cfg.give 142 d = false := by rfl
@[go_sem] theorem give_143 (d : Nat) : cfg.give 143 d = false := by rfl
@[go_sem] theorem give_144 (d : Nat) : cfg.give 144 d = false := by rfl
@[go_sem] theorem give_145 (d : Nat) : cfg.give 145 d = false := by rfl
@[go_sem] theorem give_146 (d : Nat) : cfg.give 146 d = false := by rfl
@[go_sem] theorem give_147 (d : Nat) : cfg.give 147 d = false := by rfl
@[go_sem] theorem give_148 (d : Nat) : cfg.give 148 d = false := by rfl
@[go_sem] theorem give_149 (d : Nat) : cfg.give 149 d = false := by rfl
@[go_sem] theorem give_150 (d : Nat) : cfg.give 150 d = false := by rfl
@[go_sem] theorem give_151 (d : Nat) : cfg.give 151 d = false := by rfl
@[go_sem] theorem give_152 (d : Nat) : cfg.give 152 d = false := by rfl
@[go_sem] theorem give_153 (d : Nat) : cfg.give 153 d = false := by rfl
@[go_sem] theorem give_154 (d : Nat) : cfg.give 154 d = false := by rfl
@[go_sem] theorem give_155 (d : Nat) : cfg.give 155 d = false := by rfl
@[go_sem] theorem give_156 (d : Nat) : cfg.give 156 d = false := by rfl
@[go_sem] theorem give_157 (d : Nat) : cfg.give 157 d = false := by rfl
@[go_sem] theorem give_158 (d : Nat) : cfg.give 158 d = false := by rfl
@[go_sem] theorem give_159 (d : Nat) : cfg.give 159 d = false := by rfl
@[go_sem] theorem give_160 (d : Nat) : cfg.give 160 d = false := by rfl
@[go_sem] theorem give_161 (d : Nat) : cfg.give 161 d = false := by rfl
@[go_sem] theorem give_162 (d : Nat) : cfg.give 162 d = false := by rfl
@[go_sem] theorem give_163 (d : Nat) : cfg.give 163 d = false := by rfl
@[go_sem] theorem give_164 (d : Nat) : cfg.give 164 d = false := by rfl
@[go_sem] theorem give_165 (d : Nat) : cfg.give 165 d = false := by rfl
@[go_sem] theorem give_166 (d : Nat) : cfg.give 166 d = false := by rfl
@[go_sem] theorem give_167 (d : Nat) : cfg.give 167 d = false := by rfl
@[go_sem] theorem give_168 (d : Nat) : cfg.give 168 d = false := by rfl
@[go_sem] theorem give_169 (d : Nat) : cfg.give 169 d = false := by rfl
@[go_sem] theorem give_170 (d : Nat) : cfg.give 170 d = false := by rfl
@[go_sem] theorem give_171 (d : Nat) : cfg.give 171 d = false := by rfl
@[go_sem] theorem give_172 (d : Nat) : cfg.give 172 d = false := by rfl
@[go_sem] theorem give_173 (d : Nat) : cfg.give 173 d = false := by rfl
@[go_sem] theorem give_174 (d : Nat) : cfg.give 174 d = false := by rfl
@[go_sem] theorem give_175 (d : Nat) : cfg.give 175 d = false := by rfl
@[go_sem] theorem give_176 (d : Nat) : cfg.give 176 d = false := by rfl
@[go_sem] theorem give_177 (d : Nat) : cfg.give 177 d = false := by rfl
@[go_sem] theorem give_178 (d : Nat) : cfg.give 178 d = false := by rfl
@[go_sem] theorem give_179 (d : Nat) : cfg.give 179 d = false := by rfl
@[go_sem] theorem give_180 (d : Nat) : cfg.give 180 d = false := by rfl
@[go_sem] theorem give_181 (d : Nat) : cfg.give 181 d = false := by rfl
@[go_sem] theorem give_182 (d : Nat) : cfg.give 182 d = false := by rfl
@[go_sem] theorem give_183 (d : Nat) : cfg.give 183 d = false := by rfl
@[go_sem] theorem give_184 (d : Nat) : cfg.give 184 d = false := by rfl
@[go_sem] theorem give_185 (d : Nat) : cfg.give 185 d = false := by rfl
@[go_sem] theorem give_186 (d : Nat) : cfg.give 186 d = false := by rfl
@[go_sem] theorem give_187 (d : Nat) : cfg.give 187 d = false := by rfl
@[go_sem] theorem give_188 (d : Nat) : cfg.give 188 d = false := by rfl
@[go_sem] theorem give_189 (d : Nat) : cfg.give 189 d = false := by rfl
@[go_sem] theorem give_190 (d : Nat) : cfg.give 190 d = false := by rfl
@[go_sem] theorem give_191 (d : Nat) : cfg.give 191 d = false := by rfl
@[go_sem] theorem give_192 (d : Nat) : cfg.give 192 d = false := by rfl
@[go_sem] theorem give_193 (d : Nat) : cfg.give 193 d = false := by rfl
@[go_sem] theorem give_194 (d : Nat) : cfg.give 194 d = false := by rfl
@[go_sem] theorem give_195 (d : Nat) : cfg.give 195 d = false := by rfl
@[go_sem] theorem give_196 (d : Nat) : cfg.give 196 d = false := by rfl
@[go_sem] theorem give_197 (d : Nat) : cfg.give 197 d = false := by rfl
@[go_sem] theorem give_198 (d : Nat) : cfg.give 198 d = false := by rfl
@[go_sem] theorem mut_0 : cfg.mutF 0 = false := by rfl
@[go_sem] theorem mut_1 : cfg.mutF 1 = false := by rfl
@[go_sem] theorem mut_2 : cfg.mutF 2 = false := by rfl
@[go_sem] theorem mut_3 : cfg.mutF 3 = false := by rfl
@[go_sem] theorem mut_4 : cfg.mutF 4 = false := by rfl
@[go_sem] theorem mut_5 : cfg.mutF 5 = false := by rfl
@[go_sem] theorem mut_6 : cfg.mutF 6 = false := by rfl
@[go_sem] theorem mut_7 : cfg.mutF 7 = false := by rfl
@[go_sem] theorem mut_8 : cfg.mutF 8 = false := by rfl
@[go_sem] theorem mut_9 : cfg.mutF 9 = false := by rfl
@[go_sem] theorem mut_10 : cfg.mutF 10 = false := by rfl
@[go_sem] theorem mut_11 : cfg.mutF 11 = false := by rfl
@[go_sem] theorem mut_12 : cfg.mutF 12 = false := by rfl
@[go_sem] theorem mut_13 : cfg.mutF 13 = false := by rfl
@[go_sem] theorem mut_14 : cfg.mutF 14 = false := by rfl
@[go_sem] theorem mut_15 : cfg.mutF 15 = false := by rfl
@[go_sem] theorem mut_16 : cfg.mutF 16 = false := by rfl
@[go_sem] theorem mut_17 : cfg.mutF 17 = false := by rfl
@[go_sem] theorem mut_18 : cfg.mutF 18 = false := by rfl
@[go_sem] theorem mut_19 : cfg.mutF 19 = false := by rfl
@[go_sem] theorem mut_20 : cfg.mutF 20 = false := by rfl
@[go_sem] theorem mut_21 : cfg.mutF 21 = false := by rfl
@[go_sem] theorem mut_22 : cfg.mutF 22 = false := by rfl
@[go_sem] theorem mut_23 : cfg.mutF 23 = false := by rfl
@[go_sem] theorem mut_24 : cfg.mutF 24 = false := by rfl
@[go_sem] theorem mut_25 : cfg.mutF 25 = false := by rfl
@[go_sem] theorem mut_26 : cfg.mutF 26 = false := by rfl
@[go_sem] theorem mut_27 : cfg.mutF 27 = false := by rfl
@[go_sem] theorem mut_28 : cfg.mutF 28 = false := by rfl
@[go_sem] theorem mut_29 : cfg.mutF 29 = false := by rfl
@[go_sem] theorem mut_30 : cfg.mutF 30 = false := by rfl
@[go_sem] theorem mut_31 : cfg.mutF 31 = false := by rfl
@[go_sem] theorem mut_32 : cfg.mutF 32 = false := by rfl
@[go_sem] theorem mut_33 : cfg.mutF 33 = false := by rfl
@[go_sem] theorem mut_34 : cfg.mutF 34 = false := by rfl
@[go_sem] theorem mut_35 : cfg.mutF 35 = false := by rfl
@[go_sem] theorem mut_36 : cfg.mutF 36 = false := by rfl
@[go_sem] theorem mut_37 : cfg.mutF 37 = false := by rfl
@[go_sem] theorem mut_38 : cfg.mutF 38 = false := by rfl
@[go_sem] theorem mut_39 : cfg.mutF 39 = false := by rfl
@[go_sem] theorem mut_40 : cfg.mutF 40 = false := by rfl
@[go_sem] theorem mut_41 : cfg.mutF 41 = false := by rfl
@[go_sem] theorem mut_42 : cfg.mutF 42 = false := by rfl
@[go_sem] theorem mut_43 : cfg.mutF 43 = false := by rfl
@[go_sem] theorem mut_44 : cfg.mutF 44 = false := by rfl
@[go_sem] theorem mut_45 : cfg.mutF 45 = false := by rfl
@[go_sem] theorem mut_46 : cfg.mutF 46 = false := by rfl
@[go_sem] theorem mut_47 : cfg.mutF 47 = false := by rfl
@[go_sem] theorem mut_48 : cfg.mutF 48 = false := by rfl
@[go_sem] theorem mut_49 : cfg.mutF 49 = true := by rfl
@[go_sem] theorem mut_50 : cfg.mutF 50 = true := by rfl
@[go_sem] theorem mut_51 : cfg.mutF 51 = false := by rfl
@[go_sem] theorem mut_52 : cfg.mutF 52 = false := by rfl
@[go_sem] theorem mut_53 : cfg.mutF 53 = true := by rfl
@[go_sem] theorem mut_54 : cfg.mutF 54 = false := by rfl
@[go_sem] theorem mut_55 : cfg.mutF 55 = false := by rfl
@[go_sem] theorem mut_56 : cfg.mutF 56 = false := by rfl
@[go_sem] theorem mut_57 : cfg.mutF 57 = false := by rfl
@[go_sem] theorem mut_58 : cfg.mutF 58 = false := by rfl
@[go_sem] theorem mut_59 : cfg.mutF 59 = false := by rfl
@[go_sem] theorem mut_60 : cfg.mutF 60 = false := by rfl
@[go_sem] theorem mut_61 : cfg.mutF 61 = true := by rfl
@[go_sem] theorem mut_62 : cfg.mutF 62 = true := by rfl
@[go_sem] theorem mut_63 : cfg.mutF 63 = true := by rfl
@[go_sem] theorem mut_64 : cfg.mutF 64 = true := by rfl
@[go_sem] theorem mut_65 : cfg.mutF 65 = false := by rfl
@[go_sem] theorem mut_66 : cfg.mutF 66 = false := by rfl
@[go_sem] theorem mut_67 : cfg.mutF 67 = false := by rfl
@[go_sem] theorem mut_68 : cfg.mutF 68 = false := by rfl
@[go_sem] theorem mut_69 : cfg.mutF 69 = false := by rfl
@[go_sem] theorem mut_70 : cfg.mutF 70 = false := by rfl
@[go_sem] theorem mut_71 : cfg.mutF 71 = false := by rfl
@[go_sem] theorem mut_72 : cfg.mutF 72 = false := by rfl
@[go_sem] theorem mut_73 : cfg.mutF 73 = false := by rfl
@[go_sem] theorem mut_74 : cfg.mutF 74 = false := by rfl
@[go_sem] theorem mut_75 : cfg.mutF 75 = false := by rfl
@[go_sem] theorem mut_76 : cfg.mutF 76 = false := by rfl
@[go_sem] theorem mut_77 : cfg.mutF 77 = false := by rfl
@[go_sem] theorem mut_78 : cfg.mutF 78 = false := by rfl
@[go_sem] theorem mut_79 : cfg.mutF 79 = false := by rfl
@[go_sem] theorem mut_80 : cfg.mutF 80 = false := by rfl
@[go_sem] theorem mut_81 : cfg.mutF 81 = false := by rfl
@[go_sem] theorem mut_82 : cfg.mutF 82 = false := by rfl
@[go_sem] theorem mut_83 : cfg.mutF 83 = false := by rfl
@[go_sem] theorem mut_84 : cfg.mutF 84 = false := by rfl
@[go_sem] theorem mut_85 : cfg.mutF 85 = true := by rfl
@[go_sem] theorem mut_86 : cfg.mutF 86 = false := by rfl
@[go_sem] theorem mut_87 : cfg.mutF 87 = false := by rfl
@[go_sem] theorem mut_88 : cfg.mutF 88 = false := by rfl
@[go_sem] theorem mut_89 : cfg.mutF 89 = false := by rfl
@[go_sem] theorem mut_90 : cfg.mutF 90 = false := by rfl
@[go_sem] theorem mut_91 : cfg.mutF 91 = false := by rfl
@[go_sem] theorem mut_92 : cfg.mutF 92 = false := by rfl
@[go_sem] theorem mut_93 : cfg.mutF 93 = false := by rfl
@[go_sem] theorem mut_94 : cfg.mutF 94 = false := by rfl
@[go_sem] theorem mut_95 : cfg.mutF 95 = false := by rfl
@[go_sem] theorem mut_96 : cfg.mutF 96 = false := by rfl
@[go_sem] theorem mut_97 : cfg.mutF 97 = true := by rfl
@[go_sem] theorem mut_98 : cfg.mutF 98 = false := by rfl
@[go_sem] theorem mut_99 : cfg.mutF 99 = false := by rfl
@[go_sem] theorem mut_100 : cfg.mutF 100 = false := by rfl
@[go_sem] theorem mut_101 : cfg.mutF 101 = false := by rfl
@[go_sem] theorem mut_102 : cfg.mutF 102 = true := by rfl
@[go_sem] theorem mut_103 : cfg.mutF 103 = false := by rfl
@[go_sem] theorem mut_104 : cfg.mutF 104 = false := by rfl
@[go_sem] theorem mut_105 : cfg.mutF 105 = false := by rfl
@[go_sem] theorem mut_106 : cfg.mutF 106 = true := by rfl
@[go_sem] theorem mut_107 : cfg.mutF 107 = false := by rfl
@[go_sem] theorem mut_108 : cfg.mutF 108 = false := by rfl
@[go_sem] theorem mut_109 : cfg.mutF 109 = false := by rfl
@[go_sem] theorem mut_110 : cfg.mutF 110 = false := by rfl
@[go_sem] theorem mut_111 : cfg.mutF 111 = false := by rfl
@[go_sem] theorem mut_112 : cfg.mutF 112 = false := by rfl
@[go_sem] theorem mut_113 : cfg.mutF 113 = false := by rfl
@[go_sem] theorem mut_114 : cfg.mutF 114 = false := by rfl
@[go_sem] theorem mut_115 : cfg.mutF 115 = false := by rfl
@[go_sem] theorem mut_116 : cfg.mutF 116 = false := by rfl
@[go_sem] theorem mut_117 : cfg.mutF 117 = false := by rfl
@[go_sem] theorem mut_118 : cfg.mutF 118 = false := by rfl
@[go_sem] theorem mut_119 : cfg.mutF 119 = false := by rfl
@[go_sem] theorem mut_120 : cfg.mutF 120 = false := by rfl
@[go_sem] theorem mut_121 : cfg.mutF 121 = false := by rfl
@[go_sem] theorem mut_122 : cfg.mutF 122 = false := by rfl
@[go_sem] theorem mut_123 : cfg.mutF 123 = false := by rfl
@[go_sem] theorem mut_124 : cfg.mutF 124 = false := by rfl
@[go_sem] theorem mut_125 : cfg.mutF 125 = false := by rfl
@[go_sem] theorem mut_126 : cfg.mutF 126 = false := by rfl
@[go_sem] theorem mut_127 : cfg.mutF 127 = false := by rfl
@[go_sem] theorem mut_128 : cfg.mutF 128 = true := by rfl
@[go_sem] theorem mut_129 : cfg.mutF 129 = false := by rfl
@[go_sem] theorem mut_130 : cfg.mutF 130 = false := by rfl
@[go_sem] theorem mut_131 : cfg.mutF 131 = false := by rfl
@[go_sem] theorem mut_132 : cfg.mutF 132 = false := by rfl
@[go_sem] theorem mut_133 : cfg.mutF 133 = false := by rfl
@[go_sem] theorem mut_134 : cfg.mutF 134 = false := by rfl
@[go_sem] theorem mut_135 : cfg.mutF 135 = false := by rfl
@[go_sem] theorem mut_136 : cfg.mutF 136 = false := by rfl
@[go_sem] theorem mut_137 : cfg.mutF 137 = false := by rfl
@[go_sem] theorem mut_138 : cfg.mutF 138 = false := by rfl
@[go_sem] theorem mut_139 : cfg.mutF 139 = false := by rfl
@[go_sem] theorem mut_140 : cfg.mutF 140 = false := by rfl
@[go_sem] theorem mut_141 : cfg.mutF 141 = false := by rfl
@[go_sem] theorem mut_142 : cfg.mutF 142 = true := by rfl
@[go_sem] theorem mut_143 : cfg.mutF 143 = true := by rfl
@[go_sem] theorem mut_144 : cfg.mutF 144 = false := by rfl
@[go_sem] theorem mut_145 : cfg.mutF 145 = false := by rfl
@[go_sem] theorem mut_146 : cfg.mutF 146 = false := by rfl
@[go_sem] theorem mut_147 : cfg.mutF 147 = false := by rfl
@[go_sem] theorem mut_148 : cfg.mutF 148 = false := by rfl
@[go_sem] theorem mut_149 : cfg.mutF 149 = false := by rfl
@[go_sem] theorem mut_150 : cfg.mutF 150 = false := by rfl
@[go_sem] theorem mut_151 : cfg.mutF 151 = false := by rfl
@[go_sem] theorem mut_152 : cfg.mutF 152 = false := by rfl
@[go_sem] theorem mut_153 : cfg.mutF 153 = false := by rfl
@[go_sem] theorem mut_154 : cfg.mutF 154 = false := by rfl
@[go_sem] theorem mut_155 : cfg.mutF 155 = false := by rfl
@[go_sem] theorem mut_156 : cfg.mutF 156 = false := by rfl
@[go_sem] theorem mut_157 : cfg.mutF 157 = false := by rfl
@[go_sem] theorem mut_158 : cfg.mutF 158 = false := by rfl
@[go_sem] theorem mut_159 : cfg.mutF 159 = false := by rfl
@[go_sem] theorem mut_160 : cfg.mutF 160 = false := by rfl
@[go_sem] theorem mut_161 : cfg.mutF 161 = false := by rfl
@[go_sem] theorem mut_162 : cfg.mutF 162 = false := by rfl
@[go_sem] theorem mut_163 : cfg.mutF 163 = false := by rfl
@[go_sem] theorem mut_164 : cfg.mutF 164 = false := by rfl
@[go_sem] theorem mut_165 : cfg.mutF 165 = false := by rfl
@[go_sem] theorem mut_166 : cfg.mutF 166 = false := by rfl
@[go_sem] theorem mut_167 : cfg.mutF 167 = false := by rfl
@[go_sem] theorem mut_168 : cfg.mutF 168 = false := by rfl
@[go_sem] theorem mut_169 : cfg.mutF 169 = false := by rfl
@[go_sem] theorem mut_170 : cfg.mutF 170 = false := by rfl
@[go_sem] theorem mut_171 : cfg.mutF 171 = false := by rfl
@[go_sem] theorem mut_172 : cfg.mutF 172 = false := by rfl
@[go_sem] theorem mut_173 : cfg.mutF 173 = true := by rfl
@[go_sem] theorem mut_174 : cfg.mutF 174 = false := by rfl
@[go_sem] theorem mut_175 : cfg.mutF 175 = false := by rfl
@[go_sem] theorem mut_176 : cfg.mutF 176 = true := by rfl
@[go_sem] theorem mut_177 : cfg.mutF 177 = false := by rfl
@[go_sem] theorem mut_178 : cfg.mutF 178 = false := by rfl
@[go_sem] theorem mut_179 : cfg.mutF 179 = false := by rfl
@[go_sem] theorem mut_180 : cfg.mutF 180 = false := by rfl
@[go_sem] theorem mut_181 : cfg.mutF 181 = false := by rfl
@[go_sem] theorem mut_182 : cfg.mutF 182 = false := by rfl
@[go_sem] theorem mut_183 : cfg.mutF 183 = false := by rfl
@[go_sem] theorem mut_184 : cfg.mutF 184 = false := by rfl
@[go_sem] theorem mut_185 : cfg.mutF 185 = false := by rfl
@[go_sem] theorem mut_186 : cfg.mutF 186 = false := by rfl
@[go_sem] theorem mut_187 : cfg.mutF 187 = false := by rfl
@[go_sem] theorem mut_188 : cfg.mutF 188 = false := by rfl
@[go_sem] theorem mut_189 : cfg.mutF 189 = false := by rfl
@[go_sem] theorem mut_190 : cfg.mutF 190 = false := by rfl
@[go_sem] theorem mut_191 : cfg.mutF 191 = false := by rfl
@[go_sem] theorem mut_192 : cfg.mutF 192 = false := by rfl
@[go_sem] theorem mut_193 : cfg.mutF 193 = false := by rfl
@[go_sem] theorem mut_194 : cfg.mutF 194 = false := by rfl
@[go_sem] theorem mut_195 : cfg.mutF 195 = false := by rfl
@[go_sem] theorem mut_196 : cfg.mutF 196 = false := by rfl
@[go_sem] theorem mut_197 : cfg.mutF 197 = true := by rfl
@[go_sem] theorem mut_198 : cfg.mutF 198 = false := by rfl
@[go_sem] theorem own_2_0 : cfg.own 2 0 = false := by rfl
@[go_sem] theorem own_3_18 : cfg.own 3 18 = false := by rfl
@[go_sem] theorem own_3_24 : cfg.own 3 24 = false := by rfl
@[go_sem] theorem own_3_30 : cfg.own 3 30 = false := by rfl
@[go_sem] theorem own_3_71 : cfg.own 3 71 = false := by rfl
@[go_sem] theorem own_3_75 : cfg.own 3 75 = false := by rfl
@[go_sem] theorem own_3_82 : cfg.own 3 82 = false := by rfl
@[go_sem] theorem own_4_20 : cfg.own 4 20 = false := by rfl
@[go_sem] theorem own_4_28 : cfg.own 4 28 = false := by rfl
@[go_sem] theorem own_4_35 : cfg.own 4 35 = false := by rfl
@[go_sem] theorem own_4_68 : cfg.own 4 68 = false := by rfl
@[go_sem] theorem own_4_75 : cfg.own 4 75 = false := by rfl
@[go_sem] theorem own_4_95 : cfg.own 4 95 = false := by rfl
@[go_sem] theorem own_4_102 : cfg.own 4 102 = false := by rfl
@[go_sem] theorem own_5_14 : cfg.own 5 14 = false := by rfl
@[go_sem] theorem own_5_21 : cfg.own 5 21 = false := by rfl
@[go_sem] theorem own_5_26 : cfg.own 5 26 = false := by rfl
@[go_sem] theorem own_5_33 : cfg.own 5 33 = false := by rfl
@[go_sem] theorem own_5_43 : cfg.own 5 43 = false := by rfl
@[go_sem] theorem own_6_13 : cfg.own 6 13 = false := by rfl
@[go_sem] theorem own_6_16 : cfg.own 6 16 = false := by rfl
@[go_sem] theorem own_6_21 : cfg.own 6 21 = false := by rfl
@[go_sem] theorem own_6_57 : cfg.own 6 57 = false := by rfl
@[go_sem] theorem own_6_63 : cfg.own 6 63 = false := by rfl
@[go_sem] theorem own_6_70 : cfg.own 6 70 = false := by rfl
@[go_sem] theorem own_6_74 : cfg.own 6 74 = false := by rfl
@[go_sem] theorem own_7_21 : cfg.own 7 21 = false := by rfl
@[go_sem] theorem own_7_29 : cfg.own 7 29 = false := by rfl
@[go_sem] theorem own_7_36 : cfg.own 7 36 = false := by rfl
@[go_sem] theorem own_7_67 : cfg.own 7 67 = false := by rfl
@[go_sem] theorem own_7_73 : cfg.own 7 73 = false := by rfl
@[go_sem] theorem own_7_80 : cfg.own 7 80 = false := by rfl
@[go_sem] theorem own_7_95 : cfg.own 7 95 = false := by rfl
@[go_sem] theorem own_7_100 : cfg.own 7 100 = false := by rfl
@[go_sem] theorem own_7_117 : cfg.own 7 117 = false := by rfl
@[go_sem] theorem own_8_21 : cfg.own 8 21 = false := by rfl
@[go_sem] theorem own_8_29 : cfg.own 8 29 = false := by rfl
@[go_sem] theorem own_8_36 : cfg.own 8 36 = false := by rfl
@[go_sem] theorem own_8_41 : cfg.own 8 41 = false := by rfl
@[go_sem] theorem own_8_54 : cfg.own 8 54 = false := by rfl
@[go_sem] theorem own_8_75 : cfg.own 8 75 = false := by rfl
@[go_sem] theorem own_8_83 : cfg.own 8 83 = false := by rfl
@[go_sem] theorem own_8_92 : cfg.own 8 92 = false := by rfl
@[go_sem] theorem own_8_102 : cfg.own 8 102 = false := by rfl
@[go_sem] theorem own_8_108 : cfg.own 8 108 = false := by rfl
@[go_sem] theorem own_9_23 : cfg.own 9 23 = false := by rfl
@[go_sem] theorem own_9_31 : cfg.own 9 31 = false := by rfl
@[go_sem] theorem own_9_38 : cfg.own 9 38 = false := by rfl
@[go_sem] theorem own_9_43 : cfg.own 9 43 = false := by rfl
@[go_sem] theorem own_9_56 : cfg.own 9 56 = false := by rfl
@[go_sem] theorem own_9_104 : cfg.own 9 104 = false := by rfl
@[go_sem] theorem own_9_112 : cfg.own 9 112 = false := by rfl
@[go_sem] theorem own_9_118 : cfg.own 9 118 = false := by rfl
@[go_sem] theorem own_9_128 : cfg.own 9 128 = false := by rfl
@[go_sem] theorem own_10_21 : cfg.own 10 21 = false := by rfl
@[go_sem] theorem own_10_29 : cfg.own 10 29 = false := by rfl
@[go_sem] theorem own_10_36 : cfg.own 10 36 = false := by rfl
@[go_sem] theorem own_10_62 : cfg.own 10 62 = false := by rfl
@[go_sem] theorem own_10_68 : cfg.own 10 68 = false := by rfl
@[go_sem] theorem own_10_77 : cfg.own 10 77 = false := by rfl
@[go_sem] theorem own_11_15 : cfg.own 11 15 = false := by rfl
@[go_sem] theorem own_11_20 : cfg.own 11 20 = true := by rfl
@[go_sem] theorem own_11_23 : cfg.own 11 23 = false := by rfl
@[go_sem] theorem own_11_27 : cfg.own 11 27 = true := by rfl
@[go_sem] theorem own_11_32 : cfg.own 11 32 = true := by rfl
@[go_sem] theorem own_11_45 : cfg.own 11 45 = true := by rfl
@[go_sem] theorem own_11_46 : cfg.own 11 46 = false := by rfl
@[go_sem] theorem own_12_20 : cfg.own 12 20 = false := by rfl
@[go_sem] theorem own_12_25 : cfg.own 12 25 = true := by rfl
@[go_sem] theorem own_12_28 : cfg.own 12 28 = false := by rfl
@[go_sem] theorem own_12_32 : cfg.own 12 32 = true := by rfl
@[go_sem] theorem own_12_37 : cfg.own 12 37 = true := by rfl
@[go_sem] theorem own_12_42 : cfg.own 12 42 = false := by rfl
@[go_sem] theorem own_12_51 : cfg.own 12 51 = true := by rfl
@[go_sem] theorem own_12_52 : cfg.own 12 52 = false := by rfl
@[go_sem] theorem own_12_56 : cfg.own 12 56 = false := by rfl
@[go_sem] theorem own_12_62 : cfg.own 12 62 = false := by rfl
@[go_sem] theorem own_12_72 : cfg.own 12 72 = false := by rfl
@[go_sem] theorem own_12_75 : cfg.own 12 75 = false := by rfl
@[go_sem] theorem own_12_83 : cfg.own 12 83 = true := by rfl
@[go_sem] theorem own_12_86 : cfg.own 12 86 = true := by rfl
@[go_sem] theorem own_12_91 : cfg.own 12 91 = false := by rfl
@[go_sem] theorem own_12_100 : cfg.own 12 100 = false := by rfl
@[go_sem] theorem own_13_20 : cfg.own 13 20 = false := by rfl
@[go_sem] theorem own_13_25 : cfg.own 13 25 = true := by rfl
@[go_sem] theorem own_13_28 : cfg.own 13 28 = false := by rfl
@[go_sem] theorem own_13_32 : cfg.own 13 32 = true := by rfl
@[go_sem] theorem own_13_37 : cfg.own 13 37 = true := by rfl
@[go_sem] theorem own_13_42 : cfg.own 13 42 = false := by rfl
@[go_sem] theorem own_13_51 : cfg.own 13 51 = true := by rfl
@[go_sem] theorem own_13_52 : cfg.own 13 52 = false := by rfl
@[go_sem] theorem own_13_56 : cfg.own 13 56 = false := by rfl
@[go_sem] theorem own_13_62 : cfg.own 13 62 = false := by rfl
@[go_sem] theorem own_13_72 : cfg.own 13 72 = false := by rfl
@[go_sem] theorem own_13_75 : cfg.own 13 75 = false := by rfl
@[go_sem] theorem own_13_83 : cfg.own 13 83 = true := by rfl
@[go_sem] theorem own_13_86 : cfg.own 13 86 = true := by rfl
@[go_sem] theorem own_13_91 : cfg.own 13 91 = false := by rfl
@[go_sem] theorem own_13_100 : cfg.own 13 100 = false := by rfl
@[go_sem] theorem own_14_20 : cfg.own 14 20 = false := by rfl
@[go_sem] theorem own_14_26 : cfg.own 14 26 = false := by rfl
@[go_sem] theorem own_14_32 : cfg.own 14 32 = false := by rfl
@[go_sem] theorem own_14_37 : cfg.own 14 37 = false := by rfl
@[go_sem] theorem own_14_50 : cfg.own 14 50 = false := by rfl
@[go_sem] theorem own_14_71 : cfg.own 14 71 = false := by rfl
@[go_sem] theorem own_14_78 : cfg.own 14 78 = false := by rfl
@[go_sem] theorem own_14_97 : cfg.own 14 97 = false := by rfl
@[go_sem] theorem own_15_9 : cfg.own 15 9 = true := by rfl
@[go_sem] theorem own_15_11 : cfg.own 15 11 = false := by rfl
@[go_sem] theorem own_15_20 : cfg.own 15 20 = false := by rfl
@[go_sem] theorem own_15_27 : cfg.own 15 27 = false := by rfl
@[go_sem] theorem own_15_32 : cfg.own 15 32 = false := by rfl
@[go_sem] theorem own_15_37 : cfg.own 15 37 = false := by rfl
@[go_sem] theorem own_16_10 : cfg.own 16 10 = false := by rfl
@[go_sem] theorem own_16_41 : cfg.own 16 41 = false := by rfl
@[go_sem] theorem own_17_10 : cfg.own 17 10 = false := by rfl
@[go_sem] theorem own_17_40 : cfg.own 17 40 = false := by rfl
@[go_sem] theorem own_17_56 : cfg.own 17 56 = false := by rfl
@[go_sem] theorem own_17_64 : cfg.own 17 64 = false := by rfl
@[go_sem] theorem own_19_13 : cfg.own 19 13 = false := by rfl
@[go_sem] theorem own_19_19 : cfg.own 19 19 = false := by rfl
@[go_sem] theorem own_20_6 : cfg.own 20 6 = false := by rfl
@[go_sem] theorem own_21_13 : cfg.own 21 13 = false := by rfl
@[go_sem] theorem own_21_19 : cfg.own 21 19 = false := by rfl
@[go_sem] theorem own_22_7 : cfg.own 22 7 = false := by rfl
@[go_sem] theorem own_22_11 : cfg.own 22 11 = false := by rfl
@[go_sem] theorem own_23_6 : cfg.own 23 6 = false := by rfl
@[go_sem] theorem own_24_10 : cfg.own 24 10 = false := by rfl
@[go_sem] theorem own_24_15 : cfg.own 24 15 = false := by rfl
@[go_sem] theorem own_24_19 : cfg.own 24 19 = false := by rfl
@[go_sem] theorem own_25_9 : cfg.own 25 9 = false := by rfl
@[go_sem] theorem own_25_13 : cfg.own 25 13 = false := by rfl
@[go_sem] theorem own_25_17 : cfg.own 25 17 = false := by rfl
@[go_sem] theorem own_25_20 : cfg.own 25 20 = false := by rfl
@[go_sem] theorem own_26_5 : cfg.own 26 5 = true := by rfl
@[go_sem] theorem own_26_8 : cfg.own 26 8 = false := by rfl
@[go_sem] theorem own_26_9 : cfg.own 26 9 = false := by rfl
@[go_sem] theorem own_27_11 : cfg.own 27 11 = false := by rfl
@[go_sem] theorem own_27_20 : cfg.own 27 20 = false := by rfl
@[go_sem] theorem own_27_36 : cfg.own 27 36 = false := by rfl
@[go_sem] theorem own_28_9 : cfg.own 28 9 = false := by rfl
@[go_sem] theorem own_28_25 : cfg.own 28 25 = false := by rfl
@[go_sem] theorem own_29_7 : cfg.own 29 7 = false := by rfl
@[go_sem] theorem own_30_4 : cfg.own 30 4 = false := by rfl
@[go_sem] theorem own_30_9 : cfg.own 30 9 = false := by rfl
@[go_sem] theorem own_31_15 : cfg.own 31 15 = false := by rfl
@[go_sem] theorem own_31_21 : cfg.own 31 21 = false := by rfl
@[go_sem] theorem own_31_28 : cfg.own 31 28 = true := by rfl
@[go_sem] theorem own_31_32 : cfg.own 31 32 = false := by rfl
@[go_sem] theorem own_32_9 : cfg.own 32 9 = false := by rfl
@[go_sem] theorem own_32_13 : cfg.own 32 13 = false := by rfl
@[go_sem] theorem own_32_19 : cfg.own 32 19 = false := by rfl
@[go_sem] theorem own_33_6 : cfg.own 33 6 = false := by rfl
@[go_sem] theorem own_34_17 : cfg.own 34 17 = false := by rfl
@[go_sem] theorem own_34_24 : cfg.own 34 24 = false := by rfl
@[go_sem] theorem own_34_30 : cfg.own 34 30 = false := by rfl
@[go_sem] theorem own_36_8 : cfg.own 36 8 = false := by rfl
@[go_sem] theorem own_36_13 : cfg.own 36 13 = false := by rfl
@[go_sem] theorem own_37_6 : cfg.own 37 6 = false := by rfl
@[go_sem] theorem own_38_19 : cfg.own 38 19 = false := by rfl
@[go_sem] theorem own_38_25 : cfg.own 38 25 = false := by rfl
@[go_sem] theorem own_38_36 : cfg.own 38 36 = false := by rfl
@[go_sem] theorem own_38_43 : cfg.own 38 43 = false := by rfl
@[go_sem] theorem own_39_18 : cfg.own 39 18 = false := by rfl
@[go_sem] theorem own_39_25 : cfg.own 39 25 = false := by rfl
@[go_sem] theorem own_39_38 : cfg.own 39 38 = false := by rfl
@[go_sem] theorem own_39_55 : cfg.own 39 55 = false := by rfl
@[go_sem] theorem own_40_25 : cfg.own 40 25 = false := by rfl
@[go_sem] theorem own_41_11 : cfg.own 41 11 = false := by rfl
@[go_sem] theorem own_41_16 : cfg.own 41 16 = false := by rfl
@[go_sem] theorem own_42_6 : cfg.own 42 6 = false := by rfl
@[go_sem] theorem own_42_10 : cfg.own 42 10 = false := by rfl
@[go_sem] theorem own_44_10 : cfg.own 44 10 = false := by rfl
@[go_sem] theorem own_44_15 : cfg.own 44 15 = false := by rfl
@[go_sem] theorem own_44_22 : cfg.own 44 22 = false := by rfl
@[go_sem] theorem own_44_29 : cfg.own 44 29 = true := by rfl
@[go_sem] theorem own_44_33 : cfg.own 44 33 = false := by rfl
@[go_sem] theorem own_44_36 : cfg.own 44 36 = false := by rfl
@[go_sem] theorem own_45_8 : cfg.own 45 8 = false := by rfl
@[go_sem] theorem own_46_9 : cfg.own 46 9 = true := by rfl
@[go_sem] theorem own_47_14 : cfg.own 47 14 = false := by rfl
@[go_sem] theorem own_49_8 : cfg.own 49 8 = false := by rfl
@[go_sem] theorem own_52_25 : cfg.own 52 25 = false := by rfl
@[go_sem] theorem own_53_17 : cfg.own 53 17 = false := by rfl
@[go_sem] theorem own_54_17 : cfg.own 54 17 = false := by rfl
@[go_sem] theorem own_55_5 : cfg.own 55 5 = false := by rfl
@[go_sem] theorem own_56_12 : cfg.own 56 12 = false := by rfl
@[go_sem] theorem own_56_19 : cfg.own 56 19 = false := by rfl
@[go_sem] theorem own_56_21 : cfg.own 56 21 = false := by rfl
@[go_sem] theorem own_57_14 : cfg.own 57 14 = false := by rfl
@[go_sem] theorem own_57_48 : cfg.own 57 48 = false := by rfl
@[go_sem] theorem own_58_15 : cfg.own 58 15 = false := by rfl
@[go_sem] theorem own_59_55 : cfg.own 59 55 = false := by rfl
@[go_sem] theorem own_61_9 : cfg.own 61 9 = false := by rfl
@[go_sem] theorem own_61_13 : cfg.own 61 13 = false := by rfl
@[go_sem] theorem own_61_21 : cfg.own 61 21 = false := by rfl
@[go_sem] theorem own_61_25 : cfg.own 61 25 = false := by rfl
@[go_sem] theorem own_61_34 : cfg.own 61 34 = false := by rfl
@[go_sem] theorem own_61_35 : cfg.own 61 35 = false := by rfl
@[go_sem] theorem own_61_42 : cfg.own 61 42 = false := by rfl
@[go_sem] theorem own_61_43 : cfg.own 61 43 = false := by rfl
@[go_sem] theorem own_63_9 : cfg.own 63 9 = false := by rfl
@[go_sem] theorem own_64_8 : cfg.own 64 8 = true := by rfl
@[go_sem] theorem own_64_10 : cfg.own 64 10 = false := by rfl
@[go_sem] theorem own_64_23 : cfg.own 64 23 = false := by rfl
@[go_sem] theorem own_64_25 : cfg.own 64 25 = false := by rfl
@[go_sem] theorem own_64_33 : cfg.own 64 33 = false := by rfl
@[go_sem] theorem own_64_40 : cfg.own 64 40 = false := by rfl
@[go_sem] theorem own_65_7 : cfg.own 65 7 = true := by rfl
@[go_sem] theorem own_67_59 : cfg.own 67 59 = false := by rfl
@[go_sem] theorem own_69_9 : cfg.own 69 9 = false := by rfl
@[go_sem] theorem own_69_13 : cfg.own 69 13 = false := by rfl
@[go_sem] theorem own_70_22 : cfg.own 70 22 = false := by rfl
@[go_sem] theorem own_70_29 : cfg.own 70 29 = false := by rfl
@[go_sem] theorem own_71_10 : cfg.own 71 10 = true := by rfl
@[go_sem] theorem own_71_12 : cfg.own 71 12 = false := by rfl
@[go_sem] theorem own_71_16 : cfg.own 71 16 = false := by rfl
@[go_sem] theorem own_71_20 : cfg.own 71 20 = false := by rfl
@[go_sem] theorem own_71_22 : cfg.own 71 22 = false := by rfl
@[go_sem] theorem own_71_26 : cfg.own 71 26 = false := by rfl
@[go_sem] theorem own_71_30 : cfg.own 71 30 = false := by rfl
@[go_sem] theorem own_71_37 : cfg.own 71 37 = false := by rfl
@[go_sem] theorem own_72_9 : cfg.own 72 9 = false := by rfl
@[go_sem] theorem own_72_13 : cfg.own 72 13 = false := by rfl
@[go_sem] theorem own_73_18 : cfg.own 73 18 = false := by rfl
@[go_sem] theorem own_73_38 : cfg.own 73 38 = false := by rfl
@[go_sem] theorem own_74_6 : cfg.own 74 6 = false := by rfl
@[go_sem] theorem own_75_37 : cfg.own 75 37 = false := by rfl
@[go_sem] theorem own_76_11 : cfg.own 76 11 = false := by rfl
@[go_sem] theorem own_76_15 : cfg.own 76 15 = true := by rfl
@[go_sem] theorem own_76_18 : cfg.own 76 18 = false := by rfl
@[go_sem] theorem own_76_24 : cfg.own 76 24 = false := by rfl
@[go_sem] theorem own_76_30 : cfg.own 76 30 = false := by rfl
@[go_sem] theorem own_77_6 : cfg.own 77 6 = false := by rfl
@[go_sem] theorem own_77_7 : cfg.own 77 7 = false := by rfl
@[go_sem] theorem own_78_6 : cfg.own 78 6 = false := by rfl
@[go_sem] theorem own_79_9 : cfg.own 79 9 = false := by rfl
@[go_sem] theorem own_80_11 : cfg.own 80 11 = false := by rfl
@[go_sem] theorem own_80_25 : cfg.own 80 25 = false := by rfl
@[go_sem] theorem own_81_4 : cfg.own 81 4 = false := by rfl
@[go_sem] theorem own_81_7 : cfg.own 81 7 = false := by rfl
@[go_sem] theorem own_82_7 : cfg.own 82 7 = false := by rfl
@[go_sem] theorem own_82_12 : cfg.own 82 12 = false := by rfl
@[go_sem] theorem own_83_16 : cfg.own 83 16 = true := by rfl
@[go_sem] theorem own_83_34 : cfg.own 83 34 = false := by rfl
@[go_sem] theorem own_83_52 : cfg.own 83 52 = false := by rfl
@[go_sem] theorem own_85_9 : cfg.own 85 9 = false := by rfl
@[go_sem] theorem own_85_10 : cfg.own 85 10 = false := by rfl
@[go_sem] theorem own_86_9 : cfg.own 86 9 = false := by rfl
@[go_sem] theorem own_87_39 : cfg.own 87 39 = false := by rfl
@[go_sem] theorem own_87_61 : cfg.own 87 61 = false := by rfl
@[go_sem] theorem own_88_7 : cfg.own 88 7 = false := by rfl
@[go_sem] theorem own_90_28 : cfg.own 90 28 = false := by rfl
@[go_sem] theorem own_91_53 : cfg.own 91 53 = false := by rfl
@[go_sem] theorem own_94_8 : cfg.own 94 8 = false := by rfl
@[go_sem] theorem own_95_30 : cfg.own 95 30 = false := by rfl
@[go_sem] theorem own_95_46 : cfg.own 95 46 = false := by rfl
@[go_sem] theorem own_96_9 : cfg.own 96 9 = false := by rfl
@[go_sem] theorem own_96_14 : cfg.own 96 14 = false := by rfl
@[go_sem] theorem own_96_16 : cfg.own 96 16 = false := by rfl
@[go_sem] theorem own_97_67 : cfg.own 97 67 = false := by rfl
@[go_sem] theorem own_97_93 : cfg.own 97 93 = false := by rfl
@[go_sem] theorem own_100_20 : cfg.own 100 20 = false := by rfl
@[go_sem] theorem own_101_25 : cfg.own 101 25 = false := by rfl
@[go_sem] theorem own_103_6 : cfg.own 103 6 = true := by rfl
@[go_sem] theorem own_103_9 : cfg.own 103 9 = false := by rfl
@[go_sem] theorem own_103_10 : cfg.own 103 10 = false := by rfl
@[go_sem] theorem own_103_13 : cfg.own 103 13 = false := by rfl
@[go_sem] theorem own_104_9 : cfg.own 104 9 = false := by rfl
@[go_sem] theorem own_104_24 : cfg.own 104 24 = false := by rfl
@[go_sem] theorem own_104_31 : cfg.own 104 31 = false := by rfl
@[go_sem] theorem own_105_24 : cfg.own 105 24 = false := by rfl
@[go_sem] theorem own_106_11 : cfg.own 106 11 = false := by rfl
@[go_sem] theorem own_106_13 : cfg.own 106 13 = false := by rfl
@[go_sem] theorem own_107_13 : cfg.own 107 13 = false := by rfl
@[go_sem] theorem own_107_34 : cfg.own 107 34 = false := by rfl
@[go_sem] theorem own_107_46 : cfg.own 107 46 = false := by rfl
@[go_sem] theorem own_108_23 : cfg.own 108 23 = false := by rfl
@[go_sem] theorem own_113_9 : cfg.own 113 9 = true := by rfl
@[go_sem] theorem own_113_11 : cfg.own 113 11 = false := by rfl
@[go_sem] theorem own_114_6 : cfg.own 114 6 = false := by rfl
@[go_sem] theorem own_117_11 : cfg.own 117 11 = false := by rfl
@[go_sem] theorem own_117_15 : cfg.own 117 15 = true := by rfl
@[go_sem] theorem own_117_19 : cfg.own 117 19 = true := by rfl
@[go_sem] theorem own_118_8 : cfg.own 118 8 = true := by rfl
@[go_sem] theorem own_118_10 : cfg.own 118 10 = false := by rfl
@[go_sem] theorem own_118_14 : cfg.own 118 14 = false := by rfl
@[go_sem] theorem own_118_16 : cfg.own 118 16 = false := by rfl
@[go_sem] theorem own_118_20 : cfg.own 118 20 = false := by rfl
@[go_sem] theorem own_118_23 : cfg.own 118 23 = false := by rfl
@[go_sem] theorem own_121_19 : cfg.own 121 19 = false := by rfl
@[go_sem] theorem own_122_18 : cfg.own 122 18 = false := by rfl
@[go_sem] theorem own_123_27 : cfg.own 123 27 = false := by rfl
@[go_sem] theorem own_123_33 : cfg.own 123 33 = false := by rfl
@[go_sem] theorem own_123_39 : cfg.own 123 39 = false := by rfl
@[go_sem] theorem own_123_46 : cfg.own 123 46 = false := by rfl
@[go_sem] theorem own_123_54 : cfg.own 123 54 = false := by rfl
@[go_sem] theorem own_123_72 : cfg.own 123 72 = false := by rfl
@[go_sem] theorem own_123_85 : cfg.own 123 85 = false := by rfl
@[go_sem] theorem own_123_92 : cfg.own 123 92 = false := by rfl
@[go_sem] theorem own_123_99 : cfg.own 123 99 = false := by rfl
@[go_sem] theorem own_123_121 : cfg.own 123 121 = false := by rfl
@[go_sem] theorem own_123_132 : cfg.own 123 132 = false := by rfl
@[go_sem] theorem own_124_5 : cfg.own 124 5 = false := by rfl
@[go_sem] theorem own_124_7 : cfg.own 124 7 = false := by rfl
@[go_sem] theorem own_125_22 : cfg.own 125 22 = false := by rfl
@[go_sem] theorem own_125_23 : cfg.own 125 23 = false := by rfl
@[go_sem] theorem own_129_7 : cfg.own 129 7 = false := by rfl
@[go_sem] theorem own_131_8 : cfg.own 131 8 = false := by rfl
@[go_sem] theorem own_131_10 : cfg.own 131 10 = false := by rfl
@[go_sem] theorem own_133_9 : cfg.own 133 9 = false := by rfl
@[go_sem] theorem own_136_21 : cfg.own 136 21 = false := by rfl
@[go_sem] theorem own_137_6 : cfg.own 137 6 = false := by rfl
@[go_sem] theorem own_139_30 : cfg.own 139 30 = false := by rfl
@[go_sem] theorem own_139_37 : cfg.own 139 37 = false := by rfl
@[go_sem] theorem own_139_44 : cfg.own 139 44 = false := by rfl
@[go_sem] theorem own_139_52 : cfg.own 139 52 = false := by rfl
@[go_sem] theorem own_139_61 : cfg.own 139 61 = false := by rfl
@[go_sem] theorem own_139_80 : cfg.own 139 80 = false := by rfl
@[go_sem] theorem own_139_94 : cfg.own 139 94 = false := by rfl
@[go_sem] theorem own_139_103 : cfg.own 139 103 = false := by rfl
@[go_sem] theorem own_139_111 : cfg.own 139 111 = false := by rfl
@[go_sem] theorem own_139_134 : cfg.own 139 134 = false := by rfl
@[go_sem] theorem own_139_146 : cfg.own 139 146 = false := by rfl
@[go_sem] theorem own_140_27 : cfg.own 140 27 = false := by rfl
@[go_sem] theorem own_142_10 : cfg.own 142 10 = false := by rfl
@[go_sem] theorem own_142_28 : cfg.own 142 28 = false := by rfl
@[go_sem] theorem own_143_10 : cfg.own 143 10 = false := by rfl
@[go_sem] theorem own_143_19 : cfg.own 143 19 = false := by rfl
@[go_sem] theorem own_143_25 : cfg.own 143 25 = false := by rfl
@[go_sem] theorem own_143_27 : cfg.own 143 27 = false := by rfl
@[go_sem] theorem own_143_28 : cfg.own 143 28 = false := by rfl
@[go_sem] theorem own_143_32 : cfg.own 143 32 = false := by rfl
@[go_sem] theorem own_143_40 : cfg.own 143 40 = false := by rfl
@[go_sem] theorem own_143_44 : cfg.own 143 44 = false := by rfl
@[go_sem] theorem own_143_53 : cfg.own 143 53 = false := by rfl
@[go_sem] theorem own_143_54 : cfg.own 143 54 = false := by rfl
@[go_sem] theorem own_143_61 : cfg.own 143 61 = false := by rfl
@[go_sem] theorem own_143_62 : cfg.own 143 62 = false := by rfl
@[go_sem] theorem own_144_10 : cfg.own 144 10 = false := by rfl
@[go_sem] theorem own_144_16 : cfg.own 144 16 = false := by rfl
@[go_sem] theorem own_145_15 : cfg.own 145 15 = false := by rfl
@[go_sem] theorem own_145_25 : cfg.own 145 25 = false := by rfl
@[go_sem] theorem own_146_29 : cfg.own 146 29 = false := by rfl
@[go_sem] theorem own_147_26 : cfg.own 147 26 = false := by rfl
@[go_sem] theorem own_147_55 : cfg.own 147 55 = false := by rfl
@[go_sem] theorem own_148_19 : cfg.own 148 19 = false := by rfl
@[go_sem] theorem own_148_36 : cfg.own 148 36 = false := by rfl
@[go_sem] theorem own_149_37 : cfg.own 149 37 = false := by rfl
@[go_sem] theorem own_149_40 : cfg.own 149 40 = false := by rfl
@[go_sem] theorem own_149_43 : cfg.own 149 43 = false := by rfl
@[go_sem] theorem own_149_48 : cfg.own 149 48 = false := by rfl
@[go_sem] theorem own_151_30 : cfg.own 151 30 = false := by rfl
@[go_sem] theorem own_151_77 : cfg.own 151 77 = false := by rfl
@[go_sem] theorem own_151_115 : cfg.own 151 115 = false := by rfl
@[go_sem] theorem own_152_6 : cfg.own 152 6 = false := by rfl
@[go_sem] theorem own_152_9 : cfg.own 152 9 = false := by rfl
@[go_sem] theorem own_153_41 : cfg.own 153 41 = false := by rfl
@[go_sem] theorem own_153_58 : cfg.own 153 58 = false := by rfl
@[go_sem] theorem own_154_42 : cfg.own 154 42 = false := by rfl
@[go_sem] theorem own_154_58 : cfg.own 154 58 = false := by rfl
@[go_sem] theorem own_154_111 : cfg.own 154 111 = false := by rfl
@[go_sem] theorem own_154_127 : cfg.own 154 127 = false := by rfl
@[go_sem] theorem own_159_7 : cfg.own 159 7 = false := by rfl
@[go_sem] theorem own_159_11 : cfg.own 159 11 = false := by rfl
@[go_sem] theorem own_159_13 : cfg.own 159 13 = false := by rfl
@[go_sem] theorem own_160_32 : cfg.own 160 32 = false := by rfl
@[go_sem] theorem own_161_29 : cfg.own 161 29 = false := by rfl
@[go_sem] theorem own_161_59 : cfg.own 161 59 = false := by rfl
@[go_sem] theorem own_162_21 : cfg.own 162 21 = false := by rfl
@[go_sem] theorem own_162_38 : cfg.own 162 38 = false := by rfl
@[go_sem] theorem own_163_40 : cfg.own 163 40 = false := by rfl
@[go_sem] theorem own_163_44 : cfg.own 163 44 = false := by rfl
@[go_sem] theorem own_163_48 : cfg.own 163 48 = false := by rfl
@[go_sem] theorem own_163_54 : cfg.own 163 54 = false := by rfl
@[go_sem] theorem own_165_33 : cfg.own 165 33 = false := by rfl
@[go_sem] theorem own_165_82 : cfg.own 165 82 = false := by rfl
@[go_sem] theorem own_165_122 : cfg.own 165 122 = false := by rfl
@[go_sem] theorem own_166_44 : cfg.own 166 44 = false := by rfl
@[go_sem] theorem own_166_63 : cfg.own 166 63 = false := by rfl
@[go_sem] theorem own_167_45 : cfg.own 167 45 = false := by rfl
@[go_sem] theorem own_167_63 : cfg.own 167 63 = false := by rfl
@[go_sem] theorem own_167_118 : cfg.own 167 118 = false := by rfl
@[go_sem] theorem own_167_136 : cfg.own 167 136 = false := by rfl
@[go_sem] theorem own_168_16 : cfg.own 168 16 = false := by rfl
@[go_sem] theorem own_171_35 : cfg.own 171 35 = false := by rfl
@[go_sem] theorem own_171_51 : cfg.own 171 51 = false := by rfl
@[go_sem] theorem own_172_5 : cfg.own 172 5 = false := by rfl
@[go_sem] theorem own_174_14 : cfg.own 174 14 = false := by rfl
@[go_sem] theorem own_175_16 : cfg.own 175 16 = false := by rfl
@[go_sem] theorem own_175_24 : cfg.own 175 24 = false := by rfl
@[go_sem] theorem own_175_32 : cfg.own 175 32 = false := by rfl
@[go_sem] theorem own_177_38 : cfg.own 177 38 = false := by rfl
@[go_sem] theorem own_177_56 : cfg.own 177 56 = false := by rfl
@[go_sem] theorem own_178_17 : cfg.own 178 17 = false := by rfl
@[go_sem] theorem own_179_19 : cfg.own 179 19 = false := by rfl
@[go_sem] theorem own_179_28 : cfg.own 179 28 = false := by rfl
@[go_sem] theorem own_179_37 : cfg.own 179 37 = false := by rfl
@[go_sem] theorem own_180_18 : cfg.own 180 18 = false := by rfl
@[go_sem] theorem own_181_21 : cfg.own 181 21 = false := by rfl
end Go.Proofs.Ytflmjjfoeabnoaa.X
