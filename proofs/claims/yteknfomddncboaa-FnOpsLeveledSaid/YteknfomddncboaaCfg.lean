/- How this program's calls are taken. -/
import Derived.Test.YteknfomddncboaaTab
import Derived.Test.YteknfomddncboaaPrim
namespace Go.Proofs.Yteknfomddncboaa.X
open Go Go.Proofs
def cfg : Cfg where
  mutF f := mutL.contains f
  own me d := ownL.contains (me, d)
  prim f := if f = 63 then some (insP 1) else if f = 64 then some (cloneP) else if f = 65 then some (insP 1) else if f = 66 then some (cloneP) else if f = 110 then some (insP 2) else if f = 111 then some (cloneP) else if f = 141 then some (sortFP 109) else if f = 142 then some (sortP) else if f = 169 then some (mulP) else none
  give me d := false
@[go_sem] theorem give_0 (d : Nat) : cfg.give 0 d = false := by rfl
@[go_sem] theorem give_1 (d : Nat) : cfg.give 1 d = false := by rfl
@[go_sem] theorem give_2 (d : Nat) : cfg.give 2 d = false := by rfl
@[go_sem] theorem give_3 (d : Nat) : cfg.give 3 d = false := by rfl
@[go_sem] theorem give_4 (d : Nat) : cfg.give 4 d = false := by rfl
@[go_sem] theorem give_5 (d : Nat) : cfg.give 5 d = false := by rfl
@[go_sem] theorem give_6 (d : Nat) : cfg.give 6 d = false := by rfl
@[go_sem] theorem give_7 (d : Nat) : cfg.give 7 d = false := by rfl
@[go_sem] theorem give_8 (d : Nat) : cfg.give 8 d = false := by rfl
@[go_sem] theorem give_9 (d : Nat) : cfg.give 9 d = false := by rfl
@[go_sem] theorem give_10 (d : Nat) : cfg.give 10 d = false := by rfl
@[go_sem] theorem give_11 (d : Nat) : cfg.give 11 d = false := by rfl
@[go_sem] theorem give_12 (d : Nat) : cfg.give 12 d = false := by rfl
@[go_sem] theorem give_13 (d : Nat) : cfg.give 13 d = false := by rfl
@[go_sem] theorem give_14 (d : Nat) : cfg.give 14 d = false := by rfl
@[go_sem] theorem give_15 (d : Nat) : cfg.give 15 d = false := by rfl
@[go_sem] theorem give_16 (d : Nat) : cfg.give 16 d = false := by rfl
@[go_sem] theorem give_17 (d : Nat) : cfg.give 17 d = false := by rfl
@[go_sem] theorem give_18 (d : Nat) : cfg.give 18 d = false := by rfl
@[go_sem] theorem give_19 (d : Nat) : cfg.give 19 d = false := by rfl
@[go_sem] theorem give_20 (d : Nat) : cfg.give 20 d = false := by rfl
@[go_sem] theorem give_21 (d : Nat) : cfg.give 21 d = false := by rfl
@[go_sem] theorem give_22 (d : Nat) : cfg.give 22 d = false := by rfl
@[go_sem] theorem give_23 (d : Nat) : cfg.give 23 d = false := by rfl
@[go_sem] theorem give_24 (d : Nat) : cfg.give 24 d = false := by rfl
@[go_sem] theorem give_25 (d : Nat) : cfg.give 25 d = false := by rfl
@[go_sem] theorem give_26 (d : Nat) : cfg.give 26 d = false := by rfl
@[go_sem] theorem give_27 (d : Nat) : cfg.give 27 d = false := by rfl
@[go_sem] theorem give_28 (d : Nat) : cfg.give 28 d = false := by rfl
@[go_sem] theorem give_29 (d : Nat) : cfg.give 29 d = false := by rfl
@[go_sem] theorem give_30 (d : Nat) : cfg.give 30 d = false := by rfl
@[go_sem] theorem give_31 (d : Nat) : cfg.give 31 d = false := by rfl
@[go_sem] theorem give_32 (d : Nat) : cfg.give 32 d = false := by rfl
@[go_sem] theorem give_33 (d : Nat) : cfg.give 33 d = false := by rfl
@[go_sem] theorem give_34 (d : Nat) : cfg.give 34 d = false := by rfl
@[go_sem] theorem give_35 (d : Nat) : cfg.give 35 d = false := by rfl
@[go_sem] theorem give_36 (d : Nat) : cfg.give 36 d = false := by rfl
@[go_sem] theorem give_37 (d : Nat) : cfg.give 37 d = false := by rfl
@[go_sem] theorem give_38 (d : Nat) : cfg.give 38 d = false := by rfl
@[go_sem] theorem give_39 (d : Nat) : cfg.give 39 d = false := by rfl
@[go_sem] theorem give_40 (d : Nat) : cfg.give 40 d = false := by rfl
@[go_sem] theorem give_41 (d : Nat) : cfg.give 41 d = false := by rfl
@[go_sem] theorem give_42 (d : Nat) : cfg.give 42 d = false := by rfl
@[go_sem] theorem give_43 (d : Nat) : cfg.give 43 d = false := by rfl
@[go_sem] theorem give_44 (d : Nat) : cfg.give 44 d = false := by rfl
@[go_sem] theorem give_45 (d : Nat) : cfg.give 45 d = false := by rfl
@[go_sem] theorem give_46 (d : Nat) : cfg.give 46 d = false := by rfl
@[go_sem] theorem give_47 (d : Nat) : cfg.give 47 d = false := by rfl
@[go_sem] theorem give_48 (d : Nat) : cfg.give 48 d = false := by rfl
@[go_sem] theorem give_49 (d : Nat) : cfg.give 49 d = false := by rfl
@[go_sem] theorem give_50 (d : Nat) : cfg.give 50 d = false := by rfl
@[go_sem] theorem give_51 (d : Nat) : cfg.give 51 d = false := by rfl
@[go_sem] theorem give_52 (d : Nat) : cfg.give 52 d = false := by rfl
@[go_sem] theorem give_53 (d : Nat) : cfg.give 53 d = false := by rfl
@[go_sem] theorem give_54 (d : Nat) : cfg.give 54 d = false := by rfl
@[go_sem] theorem give_55 (d : Nat) : cfg.give 55 d = false := by rfl
@[go_sem] theorem give_56 (d : Nat) : cfg.give 56 d = false := by rfl
@[go_sem] theorem give_57 (d : Nat) : cfg.give 57 d = false := by rfl
@[go_sem] theorem give_58 (d : Nat) : cfg.give 58 d = false := by rfl
@[go_sem] theorem give_59 (d : Nat) : cfg.give 59 d = false := by rfl
@[go_sem] theorem give_60 (d : Nat) : cfg.give 60 d = false := by rfl
@[go_sem] theorem give_61 (d : Nat) : cfg.give 61 d = false := by rfl
@[go_sem] theorem give_62 (d : Nat) : cfg.give 62 d = false := by rfl
@[go_sem] theorem give_63 (d : Nat) : cfg.give 63 d = false := by rfl
@[go_sem] theorem give_64 (d : Nat) : cfg.give 64 d = false := by rfl
@[go_sem] theorem give_65 (d : Nat) : cfg.give 65 d = false := by rfl
@[go_sem] theorem give_66 (d : Nat) : cfg.give 66 d = false := by rfl
@[go_sem] theorem give_67 (d : Nat) : cfg.give 67 d = false := by rfl
@[go_sem] theorem give_68 (d : Nat) : cfg.give 68 d = false := by rfl
@[go_sem] theorem give_69 (d : Nat) : cfg.give 69 d = false := by rfl
@[go_sem] theorem give_70 (d : Nat) : cfg.give 70 d = false := by rfl
@[go_sem] theorem give_71 (d : Nat) : cfg.give 71 d = false := by rfl
@[go_sem] theorem give_72 (d : Nat) : cfg.give 72 d = false := by rfl
@[go_sem] theorem give_73 (d : Nat) : cfg.give 73 d = false := by rfl
@[go_sem] theorem give_74 (d : Nat) : cfg.give 74 d = false := by rfl
@[go_sem] theorem give_75 (d : Nat) : cfg.give 75 d = false := by rfl
@[go_sem] theorem give_76 (d : Nat) : cfg.give 76 d = false := by rfl
@[go_sem] theorem give_77 (d : Nat) : cfg.give 77 d = false := by rfl
@[go_sem] theorem give_78 (d : Nat) : cfg.give 78 d = false := by rfl
@[go_sem] theorem give_79 (d : Nat) : cfg.give 79 d = false := by rfl
@[go_sem] theorem give_80 (d : Nat) : cfg.give 80 d = false := by rfl
@[go_sem] theorem give_81 (d : Nat) : cfg.give 81 d = false := by rfl
@[go_sem] theorem give_82 (d : Nat) : cfg.give 82 d = false := by rfl
@[go_sem] theorem give_83 (d : Nat) : cfg.give 83 d = false := by rfl
@[go_sem] theorem give_84 (d : Nat) : cfg.give 84 d = false := by rfl
@[go_sem] theorem give_85 (d : Nat) : cfg.give 85 d = false := by rfl
@[go_sem] theorem give_86 (d : Nat) : cfg.give 86 d = false := by rfl
@[go_sem] theorem give_87 (d : Nat) : cfg.give 87 d = false := by rfl
@[go_sem] theorem give_88 (d : Nat) : cfg.give 88 d = false := by rfl
@[go_sem] theorem give_89 (d : Nat) : cfg.give 89 d = false := by rfl
@[go_sem] theorem give_90 (d : Nat) : cfg.give 90 d = false := by rfl
@[go_sem] theorem give_91 (d : Nat) : cfg.give 91 d = false := by rfl
@[go_sem] theorem give_92 (d : Nat) : cfg.give 92 d = false := by rfl
@[go_sem] theorem give_93 (d : Nat) : cfg.give 93 d = false := by rfl
@[go_sem] theorem give_94 (d : Nat) : cfg.give 94 d = false := by rfl
@[go_sem] theorem give_95 (d : Nat) : cfg.give 95 d = false := by rfl
@[go_sem] theorem give_96 (d : Nat) : cfg.give 96 d = false := by rfl
@[go_sem] theorem give_97 (d : Nat) : cfg.give 97 d = false := by rfl
@[go_sem] theorem give_98 (d : Nat) : cfg.give 98 d = false := by rfl
@[go_sem] theorem give_99 (d : Nat) : cfg.give 99 d = false := by rfl
@[go_sem] theorem give_100 (d : Nat) : cfg.give 100 d = false := by rfl
@[go_sem] theorem give_101 (d : Nat) : cfg.give 101 d = false := by rfl
@[go_sem] theorem give_102 (d : Nat) : cfg.give 102 d = false := by rfl
@[go_sem] theorem give_103 (d : Nat) : cfg.give 103 d = false := by rfl
@[go_sem] theorem give_104 (d : Nat) : cfg.give 104 d = false := by rfl
@[go_sem] theorem give_105 (d : Nat) : cfg.give 105 d = false := by rfl
@[go_sem] theorem give_106 (d : Nat) : cfg.give 106 d = false := by rfl
@[go_sem] theorem give_107 (d : Nat) : cfg.give 107 d = false := by rfl
@[go_sem] theorem give_108 (d : Nat) : cfg.give 108 d = false := by rfl
@[go_sem] theorem give_109 (d : Nat) : cfg.give 109 d = false := by rfl
@[go_sem] theorem give_110 (d : Nat) : cfg.give 110 d = false := by rfl
@[go_sem] theorem give_111 (d : Nat) : cfg.give 111 d = false := by rfl
@[go_sem] theorem give_112 (d : Nat) : cfg.give 112 d = false := by rfl
@[go_sem] theorem give_113 (d : Nat) : cfg.give 113 d = false := by rfl
@[go_sem] theorem give_114 (d : Nat) : cfg.give 114 d = false := by rfl
@[go_sem] theorem give_115 (d : Nat) : cfg.give 115 d = false := by rfl
@[go_sem] theorem give_116 (d : Nat) : cfg.give 116 d = false := by rfl
@[go_sem] theorem give_117 (d : Nat) : cfg.give 117 d = false := by rfl
@[go_sem] theorem give_118 (d : Nat) : cfg.give 118 d = false := by rfl
@[go_sem] theorem give_119 (d : Nat) : cfg.give 119 d = false := by rfl
@[go_sem] theorem give_120 (d : Nat) : cfg.give 120 d = false := by rfl
@[go_sem] theorem give_121 (d : Nat) : cfg.give 121 d = false := by rfl
@[go_sem] theorem give_122 (d : Nat) : cfg.give 122 d = false := by rfl
@[go_sem] theorem give_123 (d : Nat) : cfg.give 123 d = false := by rfl
@[go_sem] theorem give_124 (d : Nat) : cfg.give 124 d = false := by rfl
@[go_sem] theorem give_125 (d : Nat) : cfg.give 125 d = false := by rfl
@[go_sem] theorem give_126 (d : Nat) : cfg.give 126 d = false := by rfl
@[go_sem] theorem give_127 (d : Nat) : cfg.give 127 d = false := by rfl
@[go_sem] theorem give_128 (d : Nat) : cfg.give 128 d = false := by rfl
@[go_sem] theorem give_129 (d : Nat) : cfg.give 129 d = false := by rfl
@[go_sem] theorem give_130 (d : Nat) : cfg.give 130 d = false := by rfl
@[go_sem] theorem give_131 (d : Nat) : cfg.give 131 d = false := by rfl
@[go_sem] theorem give_132 (d : Nat) : cfg.give 132 d = false := by rfl
@[go_sem] theorem give_133 (d : Nat) : cfg.give 133 d = false := by rfl
@[go_sem] theorem give_134 (d : Nat) : cfg.give 134 d = false := by rfl
@[go_sem] theorem give_135 (d : Nat) : cfg.give 135 d = false := by rfl
@[go_sem] theorem give_136 (d : Nat) : cfg.give 136 d = false := by rfl
@[go_sem] theorem give_137 (d : Nat) : cfg.give 137 d = false := by rfl
@[go_sem] theorem give_138 (d : Nat) : cfg.give 138 d = false := by rfl
@[go_sem] theorem give_139 (d : Nat) : cfg.give 139 d = false := by rfl
@[go_sem] theorem give_140 (d : Nat) : cfg.give 140 d = false := by rfl
@[go_sem] theorem give_141 (d : Nat) : cfg.give 141 d = false := by rfl
@[go_sem] theorem give_142 (d : Nat) : cfg.give 142 d = false := by rfl
@[go_sem] theorem give_143 (d : Nat) : cfg.give 143 d = false := by rfl
@[go_sem] theorem give_144 (d : Nat) : cfg.give 144 d = false := by rfl
@[go_sem] theorem give_145 (d : Nat) : cfg.give 145 d = false := by rfl
@[go_sem] theorem give_146 (d : Nat) : cfg.give 146 d = false := by rfl
@[go_sem] theorem give_147 (d : Nat) : cfg.give 147 d = false := by rfl
@[go_sem] theorem give_148 (d : Nat) : cfg.give 148 d = false := by rfl
@[go_sem] theorem give_149 (d : Nat) : cfg.give 149 d = false := by rfl
@[go_sem] theorem give_150 (d : Nat) : cfg.give 150 d = false := by rfl
@[go_sem] theorem give_151 (d : Nat) : cfg.give 151 d = false := by rfl
@[go_sem] theorem give_152 (d : Nat) : cfg.give 152 d = false := by rfl
@[go_sem] theorem give_153 (d : Nat) : cfg.give 153 d = false := by rfl
@[go_sem] theorem give_154 (d : Nat) : cfg.give 154 d = false := by rfl
@[go_sem] theorem give_155 (d : Nat) : cfg.give 155 d = false := by rfl
@[go_sem] theorem give_156 (d : Nat) : cfg.give 156 d = false := by rfl
@[go_sem] theorem give_157 (d : Nat) : cfg.give 157 d = false := by rfl
@[go_sem] theorem give_158 (d : Nat) : cfg.give 158 d = false := by rfl
@[go_sem] theorem give_159 (d : Nat) : cfg.give 159 d = false := by rfl
@[go_sem] theorem give_160 (d : Nat) : cfg.give 160 d = false := by rfl
@[go_sem] theorem give_161 (d : Nat) : cfg.give 161 d = false := by rfl
@[go_sem] theorem give_162 (d : Nat) : cfg.give 162 d = false := by rfl
@[go_sem] theorem give_163 (d : Nat) : cfg.give 163 d = false := by rfl
@[go_sem] theorem give_164 (d : Nat) : cfg.give 164 d = false := by rfl
@[go_sem] theorem give_165 (d : Nat) : cfg.give 165 d = false := by rfl
@[go_sem] theorem give_166 (d : Nat) : cfg.give 166 d = false := by rfl
@[go_sem] theorem give_167 (d : Nat) : cfg.give 167 d = false := by rfl
@[go_sem] theorem give_168 (d : Nat) : cfg.give 168 d = false := by rfl
@[go_sem] theorem give_169 (d : Nat) : cfg.give 169 d = false := by rfl
@[go_sem] theorem give_170 (d : Nat) : cfg.give 170 d = false := by rfl
@[go_sem] theorem give_171 (d : Nat) : cfg.give 171 d = false := by rfl
@[go_sem] theorem give_172 (d : Nat) : cfg.give 172 d = false := by rfl
@[go_sem] theorem give_173 (d : Nat) : cfg.give 173 d = false := by rfl
@[go_sem] theorem give_174 (d : Nat) : cfg.give 174 d = false := by rfl
@[go_sem] theorem give_175 (d : Nat) : cfg.give 175 d = false := by rfl
@[go_sem] theorem give_176 (d : Nat) : cfg.give 176 d = false := by rfl
@[go_sem] theorem give_177 (d : Nat) : cfg.give 177 d = false := by rfl
@[go_sem] theorem give_178 (d : Nat) : cfg.give 178 d = false := by rfl
@[go_sem] theorem give_179 (d : Nat) : cfg.give 179 d = false := by rfl
@[go_sem] theorem give_180 (d : Nat) : cfg.give 180 d = false := by rfl
@[go_sem] theorem give_181 (d : Nat) : cfg.give 181 d = false := by rfl
@[go_sem] theorem give_182 (d : Nat) : cfg.give 182 d = false := by rfl
@[go_sem] theorem give_183 (d : Nat) : cfg.give 183 d = false := by rfl
@[go_sem] theorem give_184 (d : Nat) : cfg.give 184 d = false := by rfl
@[go_sem] theorem give_185 (d : Nat) : cfg.give 185 d = false := by rfl
@[go_sem] theorem give_186 (d : Nat) : cfg.give 186 d = false := by rfl
@[go_sem] theorem give_187 (d : Nat) : cfg.give 187 d = false := by rfl
@[go_sem] theorem give_188 (d : Nat) : cfg.give 188 d = false := by rfl
@[go_sem] theorem give_189 (d : Nat) : cfg.give 189 d = false := by rfl
@[go_sem] theorem give_190 (d : Nat) : cfg.give 190 d = false := by rfl
@[go_sem] theorem give_191 (d : Nat) : cfg.give 191 d = false := by rfl
@[go_sem] theorem give_192 (d : Nat) : cfg.give 192 d = false := by rfl
@[go_sem] theorem give_193 (d : Nat) : cfg.give 193 d = false := by rfl
@[go_sem] theorem give_194 (d : Nat) : cfg.give 194 d = false := by rfl
@[go_sem] theorem give_195 (d : Nat) : cfg.give 195 d = false := by rfl
@[go_sem] theorem give_196 (d : Nat) : cfg.give 196 d = false := by rfl
@[go_sem] theorem give_197 (d : Nat) : cfg.give 197 d = false := by rfl
@[go_sem] theorem give_198 (d : Nat) : cfg.give 198 d = false := by rfl
@[go_sem] theorem give_199 (d : Nat) : cfg.give 199 d = false := by rfl
@[go_sem] theorem give_200 (d : Nat) : cfg.give 200 d = false := by rfl
@[go_sem] theorem give_201 (d : Nat) : cfg.give 201 d = false := by rfl
@[go_sem] theorem give_202 (d : Nat) : cfg.give 202 d = false := by rfl
@[go_sem] theorem give_203 (d : Nat) : cfg.give 203 d = false := by rfl
@[go_sem] theorem give_204 (d : Nat) : cfg.give 204 d = false := by rfl
@[go_sem] theorem give_205 (d : Nat) : cfg.give 205 d = false := by rfl
@[go_sem] theorem give_206 (d : Nat) : cfg.give 206 d = false := by rfl
@[go_sem] theorem give_207 (d : Nat) : cfg.give 207 d = false := by rfl
@[go_sem] theorem give_208 (d : Nat) : cfg.give 208 d = false := by rfl
@[go_sem] theorem give_209 (d : Nat) : cfg.give 209 d = false := by rfl
@[go_sem] theorem give_210 (d : Nat) : cfg.give 210 d = false := by rfl
@[go_sem] theorem give_211 (d : Nat) : cfg.give 211 d = false := by rfl
@[go_sem] theorem give_212 (d : Nat) : cfg.give 212 d = false := by rfl
@[go_sem] theorem give_213 (d : Nat) : cfg.give 213 d = false := by rfl
@[go_sem] theorem give_214 (d : Nat) : cfg.give 214 d = false := by rfl
@[go_sem] theorem give_215 (d : Nat) : cfg.give 215 d = false := by rfl
@[go_sem] theorem give_216 (d : Nat) : cfg.give 216 d = false := by rfl
@[go_sem] theorem give_217 (d : Nat) : cfg.give 217 d = false := by rfl
@[go_sem] theorem give_218 (d : Nat) : cfg.give 218 d = false := by rfl
@[go_sem] theorem give_219 (d : Nat) : cfg.give 219 d = false := by rfl
@[go_sem] theorem give_220 (d : Nat) : cfg.give 220 d = false := by rfl
@[go_sem] theorem give_221 (d : Nat) : cfg.give 221 d = false := by rfl
@[go_sem] theorem give_222 (d : Nat) : cfg.give 222 d = false := by rfl
@[go_sem] theorem mut_0 : cfg.mutF 0 = false := by rfl
@[go_sem] theorem mut_1 : cfg.mutF 1 = false := by rfl
@[go_sem] theorem mut_2 : cfg.mutF 2 = false := by rfl
@[go_sem] theorem mut_3 : cfg.mutF 3 = false := by rfl
@[go_sem] theorem mut_4 : cfg.mutF 4 = false := by rfl
@[go_sem] theorem mut_5 : cfg.mutF 5 = false := by rfl
@[go_sem] theorem mut_6 : cfg.mutF 6 = false := by rfl
@[go_sem] theorem mut_7 : cfg.mutF 7 = false := by rfl
@[go_sem] theorem mut_8 : cfg.mutF 8 = false := by rfl
@[go_sem] theorem mut_9 : cfg.mutF 9 = false := by rfl
@[go_sem] theorem mut_10 : cfg.mutF 10 = false := by rfl
@[go_sem] theorem mut_11 : cfg.mutF 11 = false := by rfl
@[go_sem] theorem mut_12 : cfg.mutF 12 = false := by rfl
@[go_sem] theorem mut_13 : cfg.mutF 13 = false := by rfl
@[go_sem] theorem mut_14 : cfg.mutF 14 = false := by rfl
@[go_sem] theorem mut_15 : cfg.mutF 15 = false := by rfl
@[go_sem] theorem mut_16 : cfg.mutF 16 = false := by rfl
@[go_sem] theorem mut_17 : cfg.mutF 17 = false := by rfl
@[go_sem] theorem mut_18 : cfg.mutF 18 = false := by rfl
@[go_sem] theorem mut_19 : cfg.mutF 19 = true := by rfl
@[go_sem] theorem mut_20 : cfg.mutF 20 = true := by rfl
@[go_sem] theorem mut_21 : cfg.mutF 21 = false := by rfl
@[go_sem] theorem mut_22 : cfg.mutF 22 = false := by rfl
@[go_sem] theorem mut_23 : cfg.mutF 23 = false := by rfl
@[go_sem] theorem mut_24 : cfg.mutF 24 = false := by rfl
@[go_sem] theorem mut_25 : cfg.mutF 25 = false := by rfl
@[go_sem] theorem mut_26 : cfg.mutF 26 = false := by rfl
@[go_sem] theorem mut_27 : cfg.mutF 27 = false := by rfl
@[go_sem] theorem mut_28 : cfg.mutF 28 = false := by rfl
@[go_sem] theorem mut_29 : cfg.mutF 29 = false := by rfl
@[go_sem] theorem mut_30 : cfg.mutF 30 = false := by rfl
@[go_sem] theorem mut_31 : cfg.mutF 31 = false := by rfl
@[go_sem] theorem mut_32 : cfg.mutF 32 = false := by rfl
@[go_sem] theorem mut_33 : cfg.mutF 33 = false := by rfl
@[go_sem] theorem mut_34 : cfg.mutF 34 = false := by rfl
@[go_sem] theorem mut_35 : cfg.mutF 35 = false := by rfl
@[go_sem] theorem mut_36 : cfg.mutF 36 = false := by rfl
@[go_sem] theorem mut_37 : cfg.mutF 37 = false := by rfl
@[go_sem] theorem mut_38 : cfg.mutF 38 = false := by rfl
@[go_sem] theorem mut_39 : cfg.mutF 39 = false := by rfl
@[go_sem] theorem mut_40 : cfg.mutF 40 = false := by rfl
@[go_sem] theorem mut_41 : cfg.mutF 41 = false := by rfl
@[go_sem] theorem mut_42 : cfg.mutF 42 = false := by rfl
@[go_sem] theorem mut_43 : cfg.mutF 43 = false := by rfl
@[go_sem] theorem mut_44 : cfg.mutF 44 = false := by rfl
@[go_sem] theorem mut_45 : cfg.mutF 45 = false := by rfl
@[go_sem] theorem mut_46 : cfg.mutF 46 = false := by rfl
@[go_sem] theorem mut_47 : cfg.mutF 47 = true := by rfl
@[go_sem] theorem mut_48 : cfg.mutF 48 = false := by rfl
@[go_sem] theorem mut_49 : cfg.mutF 49 = false := by rfl
@[go_sem] theorem mut_50 : cfg.mutF 50 = false := by rfl
@[go_sem] theorem mut_51 : cfg.mutF 51 = false := by rfl
@[go_sem] theorem mut_52 : cfg.mutF 52 = false := by rfl
@[go_sem] theorem mut_53 : cfg.mutF 53 = false := by rfl
@[go_sem] theorem mut_54 : cfg.mutF 54 = false := by rfl
@[go_sem] theorem mut_55 : cfg.mutF 55 = false := by rfl
@[go_sem] theorem mut_56 : cfg.mutF 56 = true := by rfl
@[go_sem] theorem mut_57 : cfg.mutF 57 = true := by rfl
@[go_sem] theorem mut_58 : cfg.mutF 58 = false := by rfl
@[go_sem] theorem mut_59 : cfg.mutF 59 = false := by rfl
@[go_sem] theorem mut_60 : cfg.mutF 60 = false := by rfl
@[go_sem] theorem mut_61 : cfg.mutF 61 = false := by rfl
@[go_sem] theorem mut_62 : cfg.mutF 62 = false := by rfl
@[go_sem] theorem mut_63 : cfg.mutF 63 = true := by rfl
@[go_sem] theorem mut_64 : cfg.mutF 64 = false := by rfl
@[go_sem] theorem mut_65 : cfg.mutF 65 = true := by rfl
@[go_sem] theorem mut_66 : cfg.mutF 66 = false := by rfl
@[go_sem] theorem mut_67 : cfg.mutF 67 = false := by rfl
@[go_sem] theorem mut_68 : cfg.mutF 68 = false := by rfl
@[go_sem] theorem mut_69 : cfg.mutF 69 = false := by rfl
@[go_sem] theorem mut_70 : cfg.mutF 70 = true := by rfl
@[go_sem] theorem mut_71 : cfg.mutF 71 = true := by rfl
@[go_sem] theorem mut_72 : cfg.mutF 72 = true := by rfl
@[go_sem] theorem mut_73 : cfg.mutF 73 = false := by rfl
@[go_sem] theorem mut_74 : cfg.mutF 74 = false := by rfl
@[go_sem] theorem mut_75 : cfg.mutF 75 = false := by rfl
@[go_sem] theorem mut_76 : cfg.mutF 76 = false := by rfl
@[go_sem] theorem mut_77 : cfg.mutF 77 = false := by rfl
@[go_sem] theorem mut_78 : cfg.mutF 78 = false := by rfl
@[go_sem] theorem mut_79 : cfg.mutF 79 = false := by rfl
@[go_sem] theorem mut_80 : cfg.mutF 80 = false := by rfl
@[go_sem] theorem mut_81 : cfg.mutF 81 = false := by rfl
@[go_sem] theorem mut_82 : cfg.mutF 82 = false := by rfl
@[go_sem] theorem mut_83 : cfg.mutF 83 = false := by rfl
@[go_sem] theorem mut_84 : cfg.mutF 84 = false := by rfl
@[go_sem] theorem mut_85 : cfg.mutF 85 = false := by rfl
@[go_sem] theorem mut_86 : cfg.mutF 86 = false := by rfl
@[go_sem] theorem mut_87 : cfg.mutF 87 = false := by rfl
@[go_sem] theorem mut_88 : cfg.mutF 88 = false := by rfl
@[go_sem] theorem mut_89 : cfg.mutF 89 = false := by rfl
@[go_sem] theorem mut_90 : cfg.mutF 90 = false := by rfl
@[go_sem] theorem mut_91 : cfg.mutF 91 = false := by rfl
@[go_sem] theorem mut_92 : cfg.mutF 92 = false := by rfl
@[go_sem] theorem mut_93 : cfg.mutF 93 = false := by rfl
@[go_sem] theorem mut_94 : cfg.mutF 94 = false := by rfl
@[go_sem] theorem mut_95 : cfg.mutF 95 = false := by rfl
@[go_sem] theorem mut_96 : cfg.mutF 96 = false := by rfl
@[go_sem] theorem mut_97 : cfg.mutF 97 = false := by rfl
@[go_sem] theorem mut_98 : cfg.mutF 98 = false := by rfl
@[go_sem] theorem mut_99 : cfg.mutF 99 = false := by rfl
@[go_sem] theorem mut_100 : cfg.mutF 100 = false := by rfl
@[go_sem] theorem mut_101 : cfg.mutF 101 = true := by rfl
@[go_sem] theorem mut_102 : cfg.mutF 102 = false := by rfl
@[go_sem] theorem mut_103 : cfg.mutF 103 = false := by rfl
@[go_sem] theorem mut_104 : cfg.mutF 104 = false := by rfl
@[go_sem] theorem mut_105 : cfg.mutF 105 = false := by rfl
@[go_sem] theorem mut_106 : cfg.mutF 106 = false := by rfl
@[go_sem] theorem mut_107 : cfg.mutF 107 = false := by rfl
@[go_sem] theorem mut_108 : cfg.mutF 108 = false := by rfl
@[go_sem] theorem mut_109 : cfg.mutF 109 = false := by rfl
@[go_sem] theorem mut_110 : cfg.mutF 110 = true := by rfl
@[go_sem] theorem mut_111 : cfg.mutF 111 = false := by rfl
@[go_sem] theorem mut_112 : cfg.mutF 112 = false := by rfl
@[go_sem] theorem mut_113 : cfg.mutF 113 = false := by rfl
@[go_sem] theorem mut_114 : cfg.mutF 114 = false := by rfl
@[go_sem] theorem mut_115 : cfg.mutF 115 = false := by rfl
@[go_sem] theorem mut_116 : cfg.mutF 116 = false := by rfl
@[go_sem] theorem mut_117 : cfg.mutF 117 = false := by rfl
@[go_sem] theorem mut_118 : cfg.mutF 118 = false := by rfl
@[go_sem] theorem mut_119 : cfg.mutF 119 = false := by rfl
@[go_sem] theorem mut_120 : cfg.mutF 120 = false := by rfl
@[go_sem] theorem mut_121 : cfg.mutF 121 = true := by rfl
@[go_sem] theorem mut_122 : cfg.mutF 122 = false := by rfl
@[go_sem] theorem mut_123 : cfg.mutF 123 = false := by rfl
@[go_sem] theorem mut_124 : cfg.mutF 124 = false := by rfl
@[go_sem] theorem mut_125 : cfg.mutF 125 = false := by rfl
@[go_sem] theorem mut_126 : cfg.mutF 126 = false := by rfl
@[go_sem] theorem mut_127 : cfg.mutF 127 = false := by rfl
@[go_sem] theorem mut_128 : cfg.mutF 128 = false := by rfl
@[go_sem] theorem mut_129 : cfg.mutF 129 = false := by rfl
@[go_sem] theorem mut_130 : cfg.mutF 130 = false := by rfl
@[go_sem] theorem mut_131 : cfg.mutF 131 = true := by rfl
@[go_sem] theorem mut_132 : cfg.mutF 132 = false := by rfl
@[go_sem] theorem mut_133 : cfg.mutF 133 = false := by rfl
@[go_sem] theorem mut_134 : cfg.mutF 134 = false := by rfl
@[go_sem] theorem mut_135 : cfg.mutF 135 = false := by rfl
@[go_sem] theorem mut_136 : cfg.mutF 136 = false := by rfl
@[go_sem] theorem mut_137 : cfg.mutF 137 = false := by rfl
@[go_sem] theorem mut_138 : cfg.mutF 138 = false := by rfl
@[go_sem] theorem mut_139 : cfg.mutF 139 = false := by rfl
@[go_sem] theorem mut_140 : cfg.mutF 140 = false := by rfl
@[go_sem] theorem mut_141 : cfg.mutF 141 = true := by rfl
@[go_sem] theorem mut_142 : cfg.mutF 142 = true := by rfl
@[go_sem] theorem mut_143 : cfg.mutF 143 = true := by rfl
@[go_sem] theorem mut_144 : cfg.mutF 144 = false := by rfl
@[go_sem] theorem mut_145 : cfg.mutF 145 = false := by rfl
@[go_sem] theorem mut_146 : cfg.mutF 146 = false := by rfl
@[go_sem] theorem mut_147 : cfg.mutF 147 = false := by rfl
@[go_sem] theorem mut_148 : cfg.mutF 148 = false := by rfl
@[go_sem] theorem mut_149 : cfg.mutF 149 = false := by rfl
@[go_sem] theorem mut_150 : cfg.mutF 150 = false := by rfl
@[go_sem] theorem mut_151 : cfg.mutF 151 = false := by rfl
@[go_sem] theorem mut_152 : cfg.mutF 152 = false := by rfl
@[go_sem] theorem mut_153 : cfg.mutF 153 = true := by rfl
@[go_sem] theorem mut_154 : cfg.mutF 154 = false := by rfl
@[go_sem] theorem mut_155 : cfg.mutF 155 = false := by rfl
@[go_sem] theorem mut_156 : cfg.mutF 156 = false := by rfl
@[go_sem] theorem mut_157 : cfg.mutF 157 = false := by rfl
@[go_sem] theorem mut_158 : cfg.mutF 158 = false := by rfl
@[go_sem] theorem mut_159 : cfg.mutF 159 = false := by rfl
@[go_sem] theorem mut_160 : cfg.mutF 160 = false := by rfl
@[go_sem] theorem mut_161 : cfg.mutF 161 = false := by rfl
@[go_sem] theorem mut_162 : cfg.mutF 162 = false := by rfl
@[go_sem] theorem mut_163 : cfg.mutF 163 = true := by rfl
@[go_sem] theorem mut_164 : cfg.mutF 164 = true := by rfl
@[go_sem] theorem mut_165 : cfg.mutF 165 = false := by rfl
@[go_sem] theorem mut_166 : cfg.mutF 166 = false := by rfl
@[go_sem] theorem mut_167 : cfg.mutF 167 = false := by rfl
@[go_sem] theorem mut_168 : cfg.mutF 168 = false := by rfl
@[go_sem] theorem mut_169 : cfg.mutF 169 = false := by rfl
@[go_sem] theorem mut_170 : cfg.mutF 170 = false := by rfl
@[go_sem] theorem mut_171 : cfg.mutF 171 = false := by rfl
@[go_sem] theorem mut_172 : cfg.mutF 172 = false := by rfl
@[go_sem] theorem mut_173 : cfg.mutF 173 = false := by rfl
@[go_sem] theorem mut_174 : cfg.mutF 174 = false := by rfl
@[go_sem] theorem mut_175 : cfg.mutF 175 = false := by rfl
@[go_sem] theorem mut_176 : cfg.mutF 176 = false := by rfl
@[go_sem] theorem mut_177 : cfg.mutF 177 = false := by rfl
@[go_sem] theorem mut_178 : cfg.mutF 178 = false := by rfl
@[go_sem] theorem mut_179 : cfg.mutF 179 = false := by rfl
@[go_sem] theorem mut_180 : cfg.mutF 180 = false := by rfl
@[go_sem] theorem mut_181 : cfg.mutF 181 = false := by rfl
@[go_sem] theorem mut_182 : cfg.mutF 182 = false := by rfl
@[go_sem] theorem mut_183 : cfg.mutF 183 = false := by rfl
@[go_sem] theorem mut_184 : cfg.mutF 184 = false := by rfl
@[go_sem] theorem mut_185 : cfg.mutF 185 = false := by rfl
@[go_sem] theorem mut_186 : cfg.mutF 186 = false := by rfl
@[go_sem] theorem mut_187 : cfg.mutF 187 = false := by rfl
@[go_sem] theorem mut_188 : cfg.mutF 188 = false := by rfl
@[go_sem] theorem mut_189 : cfg.mutF 189 = true := by rfl
@[go_sem] theorem mut_190 : cfg.mutF 190 = false := by rfl
@[go_sem] theorem mut_191 : cfg.mutF 191 = false := by rfl
@[go_sem] theorem mut_192 : cfg.mutF 192 = false := by rfl
@[go_sem] theorem mut_193 : cfg.mutF 193 = false := by rfl
@[go_sem] theorem mut_194 : cfg.mutF 194 = false := by rfl
@[go_sem] theorem mut_195 : cfg.mutF 195 = true := by rfl
@[go_sem] theorem mut_196 : cfg.mutF 196 = false := by rfl
@[go_sem] theorem mut_197 : cfg.mutF 197 = false := by rfl
@[go_sem] theorem mut_198 : cfg.mutF 198 = false := by rfl
@[go_sem] theorem mut_199 : cfg.mutF 199 = false := by rfl
@[go_sem] theorem mut_200 : cfg.mutF 200 = false := by rfl
@[go_sem] theorem mut_201 : cfg.mutF 201 = false := by rfl
@[go_sem] theorem mut_202 : cfg.mutF 202 = false := by rfl
@[go_sem] theorem mut_203 : cfg.mutF 203 = false := by rfl
@[go_sem] theorem mut_204 : cfg.mutF 204 = false := by rfl
@[go_sem] theorem mut_205 : cfg.mutF 205 = false := by rfl
@[go_sem] theorem mut_206 : cfg.mutF 206 = false := by rfl
@[go_sem] theorem mut_207 : cfg.mutF 207 = false := by rfl
@[go_sem] theorem mut_208 : cfg.mutF 208 = false := by rfl
@[go_sem] theorem mut_209 : cfg.mutF 209 = false := by rfl
@[go_sem] theorem mut_210 : cfg.mutF 210 = false := by rfl
@[go_sem] theorem mut_211 : cfg.mutF 211 = false := by rfl
@[go_sem] theorem mut_212 : cfg.mutF 212 = false := by rfl
@[go_sem] theorem mut_213 : cfg.mutF 213 = false := by rfl
@[go_sem] theorem mut_214 : cfg.mutF 214 = false := by rfl
@[go_sem] theorem mut_215 : cfg.mutF 215 = false := by rfl
@[go_sem] theorem mut_216 : cfg.mutF 216 = false := by rfl
@[go_sem] theorem mut_217 : cfg.mutF 217 = false := by rfl
@[go_sem] theorem mut_218 : cfg.mutF 218 = false := by rfl
@[go_sem] theorem mut_219 : cfg.mutF 219 = false := by rfl
@[go_sem] theorem mut_220 : cfg.mutF 220 = true := by rfl
@[go_sem] theorem mut_221 : cfg.mutF 221 = true := by rfl
@[go_sem] theorem mut_222 : cfg.mutF 222 = false := by rfl
@[go_sem] theorem own_2_0 : cfg.own 2 0 = false := by rfl
@[go_sem] theorem own_3_24 : cfg.own 3 24 = false := by rfl
@[go_sem] theorem own_3_30 : cfg.own 3 30 = false := by rfl
@[go_sem] theorem own_3_37 : cfg.own 3 37 = false := by rfl
@[go_sem] theorem own_3_43 : cfg.own 3 43 = false := by rfl
@[go_sem] theorem own_3_61 : cfg.own 3 61 = false := by rfl
@[go_sem] theorem own_3_75 : cfg.own 3 75 = false := by rfl
@[go_sem] theorem own_3_81 : cfg.own 3 81 = false := by rfl
@[go_sem] theorem own_3_103 : cfg.own 3 103 = false := by rfl
@[go_sem] theorem own_3_116 : cfg.own 3 116 = false := by rfl
@[go_sem] theorem own_4_21 : cfg.own 4 21 = false := by rfl
@[go_sem] theorem own_4_27 : cfg.own 4 27 = false := by rfl
@[go_sem] theorem own_4_28 : cfg.own 4 28 = false := by rfl
@[go_sem] theorem own_4_33 : cfg.own 4 33 = false := by rfl
@[go_sem] theorem own_4_37 : cfg.own 4 37 = true := by rfl
@[go_sem] theorem own_4_43 : cfg.own 4 43 = false := by rfl
@[go_sem] theorem own_4_57 : cfg.own 4 57 = false := by rfl
@[go_sem] theorem own_4_58 : cfg.own 4 58 = false := by rfl
@[go_sem] theorem own_4_62 : cfg.own 4 62 = false := by rfl
@[go_sem] theorem own_4_68 : cfg.own 4 68 = false := by rfl
@[go_sem] theorem own_4_83 : cfg.own 4 83 = false := by rfl
@[go_sem] theorem own_4_86 : cfg.own 4 86 = false := by rfl
@[go_sem] theorem own_4_95 : cfg.own 4 95 = false := by rfl
@[go_sem] theorem own_4_96 : cfg.own 4 96 = true := by rfl
@[go_sem] theorem own_4_102 : cfg.own 4 102 = false := by rfl
@[go_sem] theorem own_4_116 : cfg.own 4 116 = false := by rfl
@[go_sem] theorem own_5_20 : cfg.own 5 20 = false := by rfl
@[go_sem] theorem own_5_28 : cfg.own 5 28 = false := by rfl
@[go_sem] theorem own_5_35 : cfg.own 5 35 = false := by rfl
@[go_sem] theorem own_5_40 : cfg.own 5 40 = false := by rfl
@[go_sem] theorem own_5_53 : cfg.own 5 53 = false := by rfl
@[go_sem] theorem own_5_61 : cfg.own 5 61 = false := by rfl
@[go_sem] theorem own_5_83 : cfg.own 5 83 = false := by rfl
@[go_sem] theorem own_5_95 : cfg.own 5 95 = false := by rfl
@[go_sem] theorem own_5_109 : cfg.own 5 109 = false := by rfl
@[go_sem] theorem own_5_112 : cfg.own 5 112 = false := by rfl
@[go_sem] theorem own_5_119 : cfg.own 5 119 = false := by rfl
@[go_sem] theorem own_6_18 : cfg.own 6 18 = false := by rfl
@[go_sem] theorem own_6_24 : cfg.own 6 24 = false := by rfl
@[go_sem] theorem own_6_30 : cfg.own 6 30 = false := by rfl
@[go_sem] theorem own_6_35 : cfg.own 6 35 = false := by rfl
@[go_sem] theorem own_6_48 : cfg.own 6 48 = false := by rfl
@[go_sem] theorem own_6_57 : cfg.own 6 57 = false := by rfl
@[go_sem] theorem own_6_67 : cfg.own 6 67 = false := by rfl
@[go_sem] theorem own_6_80 : cfg.own 6 80 = false := by rfl
@[go_sem] theorem own_6_92 : cfg.own 6 92 = false := by rfl
@[go_sem] theorem own_6_96 : cfg.own 6 96 = false := by rfl
@[go_sem] theorem own_7_23 : cfg.own 7 23 = false := by rfl
@[go_sem] theorem own_7_26 : cfg.own 7 26 = false := by rfl
@[go_sem] theorem own_7_31 : cfg.own 7 31 = false := by rfl
@[go_sem] theorem own_7_36 : cfg.own 7 36 = false := by rfl
@[go_sem] theorem own_7_49 : cfg.own 7 49 = false := by rfl
@[go_sem] theorem own_7_58 : cfg.own 7 58 = false := by rfl
@[go_sem] theorem own_7_69 : cfg.own 7 69 = false := by rfl
@[go_sem] theorem own_7_75 : cfg.own 7 75 = false := by rfl
@[go_sem] theorem own_7_80 : cfg.own 7 80 = false := by rfl
@[go_sem] theorem own_7_86 : cfg.own 7 86 = false := by rfl
@[go_sem] theorem own_7_124 : cfg.own 7 124 = false := by rfl
@[go_sem] theorem own_8_5 : cfg.own 8 5 = false := by rfl
@[go_sem] theorem own_9_19 : cfg.own 9 19 = false := by rfl
@[go_sem] theorem own_9_27 : cfg.own 9 27 = true := by rfl
@[go_sem] theorem own_9_43 : cfg.own 9 43 = false := by rfl
@[go_sem] theorem own_10_11 : cfg.own 10 11 = false := by rfl
@[go_sem] theorem own_10_21 : cfg.own 10 21 = true := by rfl
@[go_sem] theorem own_10_25 : cfg.own 10 25 = false := by rfl
@[go_sem] theorem own_10_27 : cfg.own 10 27 = false := by rfl
@[go_sem] theorem own_12_12 : cfg.own 12 12 = true := by rfl
@[go_sem] theorem own_13_12 : cfg.own 13 12 = false := by rfl
@[go_sem] theorem own_14_36 : cfg.own 14 36 = false := by rfl
@[go_sem] theorem own_16_20 : cfg.own 16 20 = false := by rfl
@[go_sem] theorem own_18_25 : cfg.own 18 25 = false := by rfl
@[go_sem] theorem own_22_10 : cfg.own 22 10 = false := by rfl
@[go_sem] theorem own_22_14 : cfg.own 22 14 = true := by rfl
@[go_sem] theorem own_22_16 : cfg.own 22 16 = false := by rfl
@[go_sem] theorem own_22_22 : cfg.own 22 22 = false := by rfl
@[go_sem] theorem own_22_29 : cfg.own 22 29 = false := by rfl
@[go_sem] theorem own_23_13 : cfg.own 23 13 = false := by rfl
@[go_sem] theorem own_23_31 : cfg.own 23 31 = false := by rfl
@[go_sem] theorem own_24_12 : cfg.own 24 12 = false := by rfl
@[go_sem] theorem own_24_29 : cfg.own 24 29 = false := by rfl
@[go_sem] theorem own_24_33 : cfg.own 24 33 = true := by rfl
@[go_sem] theorem own_25_15 : cfg.own 25 15 = false := by rfl
@[go_sem] theorem own_27_10 : cfg.own 27 10 = false := by rfl
@[go_sem] theorem own_27_17 : cfg.own 27 17 = false := by rfl
@[go_sem] theorem own_27_26 : cfg.own 27 26 = false := by rfl
@[go_sem] theorem own_27_30 : cfg.own 27 30 = true := by rfl
@[go_sem] theorem own_27_33 : cfg.own 27 33 = false := by rfl
@[go_sem] theorem own_27_36 : cfg.own 27 36 = true := by rfl
@[go_sem] theorem own_27_44 : cfg.own 27 44 = false := by rfl
@[go_sem] theorem own_27_47 : cfg.own 27 47 = false := by rfl
@[go_sem] theorem own_28_15 : cfg.own 28 15 = false := by rfl
@[go_sem] theorem own_28_21 : cfg.own 28 21 = false := by rfl
@[go_sem] theorem own_28_29 : cfg.own 28 29 = false := by rfl
@[go_sem] theorem own_28_33 : cfg.own 28 33 = false := by rfl
@[go_sem] theorem own_28_36 : cfg.own 28 36 = true := by rfl
@[go_sem] theorem own_28_40 : cfg.own 28 40 = false := by rfl
@[go_sem] theorem own_28_43 : cfg.own 28 43 = true := by rfl
@[go_sem] theorem own_28_47 : cfg.own 28 47 = false := by rfl
@[go_sem] theorem own_28_70 : cfg.own 28 70 = false := by rfl
@[go_sem] theorem own_29_8 : cfg.own 29 8 = false := by rfl
@[go_sem] theorem own_29_13 : cfg.own 29 13 = false := by rfl
@[go_sem] theorem own_29_19 : cfg.own 29 19 = false := by rfl
@[go_sem] theorem own_29_23 : cfg.own 29 23 = false := by rfl
@[go_sem] theorem own_29_26 : cfg.own 29 26 = false := by rfl
@[go_sem] theorem own_30_9 : cfg.own 30 9 = false := by rfl
@[go_sem] theorem own_30_13 : cfg.own 30 13 = false := by rfl
@[go_sem] theorem own_30_19 : cfg.own 30 19 = false := by rfl
@[go_sem] theorem own_31_9 : cfg.own 31 9 = false := by rfl
@[go_sem] theorem own_31_11 : cfg.own 31 11 = true := by rfl
@[go_sem] theorem own_31_16 : cfg.own 31 16 = false := by rfl
@[go_sem] theorem own_31_21 : cfg.own 31 21 = false := by rfl
@[go_sem] theorem own_31_25 : cfg.own 31 25 = false := by rfl
@[go_sem] theorem own_32_12 : cfg.own 32 12 = false := by rfl
@[go_sem] theorem own_32_19 : cfg.own 32 19 = false := by rfl
@[go_sem] theorem own_32_31 : cfg.own 32 31 = false := by rfl
@[go_sem] theorem own_32_33 : cfg.own 32 33 = true := by rfl
@[go_sem] theorem own_33_10 : cfg.own 33 10 = false := by rfl
@[go_sem] theorem own_33_17 : cfg.own 33 17 = false := by rfl
@[go_sem] theorem own_34_11 : cfg.own 34 11 = false := by rfl
@[go_sem] theorem own_34_35 : cfg.own 34 35 = false := by rfl
@[go_sem] theorem own_34_41 : cfg.own 34 41 = false := by rfl
@[go_sem] theorem own_34_44 : cfg.own 34 44 = false := by rfl
@[go_sem] theorem own_34_45 : cfg.own 34 45 = false := by rfl
@[go_sem] theorem own_34_47 : cfg.own 34 47 = false := by rfl
@[go_sem] theorem own_34_55 : cfg.own 34 55 = false := by rfl
@[go_sem] theorem own_34_57 : cfg.own 34 57 = false := by rfl
@[go_sem] theorem own_34_78 : cfg.own 34 78 = false := by rfl
@[go_sem] theorem own_35_4 : cfg.own 35 4 = false := by rfl
@[go_sem] theorem own_36_11 : cfg.own 36 11 = false := by rfl
@[go_sem] theorem own_36_17 : cfg.own 36 17 = false := by rfl
@[go_sem] theorem own_36_21 : cfg.own 36 21 = false := by rfl
@[go_sem] theorem own_36_50 : cfg.own 36 50 = false := by rfl
@[go_sem] theorem own_37_10 : cfg.own 37 10 = false := by rfl
@[go_sem] theorem own_37_19 : cfg.own 37 19 = false := by rfl
@[go_sem] theorem own_37_22 : cfg.own 37 22 = false := by rfl
@[go_sem] theorem own_37_36 : cfg.own 37 36 = false := by rfl
@[go_sem] theorem own_38_9 : cfg.own 38 9 = false := by rfl
@[go_sem] theorem own_38_15 : cfg.own 38 15 = false := by rfl
@[go_sem] theorem own_39_4 : cfg.own 39 4 = false := by rfl
@[go_sem] theorem own_39_7 : cfg.own 39 7 = false := by rfl
@[go_sem] theorem own_40_8 : cfg.own 40 8 = false := by rfl
@[go_sem] theorem own_40_12 : cfg.own 40 12 = false := by rfl
@[go_sem] theorem own_41_8 : cfg.own 41 8 = false := by rfl
@[go_sem] theorem own_41_12 : cfg.own 41 12 = false := by rfl
@[go_sem] theorem own_41_21 : cfg.own 41 21 = true := by rfl
@[go_sem] theorem own_42_9 : cfg.own 42 9 = false := by rfl
@[go_sem] theorem own_42_21 : cfg.own 42 21 = false := by rfl
@[go_sem] theorem own_43_8 : cfg.own 43 8 = false := by rfl
@[go_sem] theorem own_43_12 : cfg.own 43 12 = false := by rfl
@[go_sem] theorem own_45_8 : cfg.own 45 8 = true := by rfl
@[go_sem] theorem own_45_11 : cfg.own 45 11 = false := by rfl
@[go_sem] theorem own_45_15 : cfg.own 45 15 = false := by rfl
@[go_sem] theorem own_45_19 : cfg.own 45 19 = false := by rfl
@[go_sem] theorem own_46_23 : cfg.own 46 23 = false := by rfl
@[go_sem] theorem own_47_49 : cfg.own 47 49 = false := by rfl
@[go_sem] theorem own_47_85 : cfg.own 47 85 = false := by rfl
@[go_sem] theorem own_47_93 : cfg.own 47 93 = false := by rfl
@[go_sem] theorem own_47_111 : cfg.own 47 111 = false := by rfl
@[go_sem] theorem own_47_121 : cfg.own 47 121 = false := by rfl
@[go_sem] theorem own_50_16 : cfg.own 50 16 = false := by rfl
@[go_sem] theorem own_50_38 : cfg.own 50 38 = false := by rfl
@[go_sem] theorem own_50_47 : cfg.own 50 47 = false := by rfl
@[go_sem] theorem own_50_64 : cfg.own 50 64 = false := by rfl
@[go_sem] theorem own_50_71 : cfg.own 50 71 = false := by rfl
@[go_sem] theorem own_50_83 : cfg.own 50 83 = false := by rfl
@[go_sem] theorem own_51_11 : cfg.own 51 11 = false := by rfl
@[go_sem] theorem own_52_40 : cfg.own 52 40 = true := by rfl
@[go_sem] theorem own_52_45 : cfg.own 52 45 = true := by rfl
@[go_sem] theorem own_53_9 : cfg.own 53 9 = false := by rfl
@[go_sem] theorem own_54_14 : cfg.own 54 14 = false := by rfl
@[go_sem] theorem own_57_9 : cfg.own 57 9 = false := by rfl
@[go_sem] theorem own_58_62 : cfg.own 58 62 = false := by rfl
@[go_sem] theorem own_58_74 : cfg.own 58 74 = false := by rfl
@[go_sem] theorem own_61_10 : cfg.own 61 10 = false := by rfl
@[go_sem] theorem own_61_15 : cfg.own 61 15 = false := by rfl
@[go_sem] theorem own_61_22 : cfg.own 61 22 = false := by rfl
@[go_sem] theorem own_61_29 : cfg.own 61 29 = true := by rfl
@[go_sem] theorem own_61_33 : cfg.own 61 33 = false := by rfl
@[go_sem] theorem own_61_36 : cfg.own 61 36 = false := by rfl
@[go_sem] theorem own_63_67 : cfg.own 63 67 = false := by rfl
@[go_sem] theorem own_63_93 : cfg.own 63 93 = false := by rfl
@[go_sem] theorem own_65_67 : cfg.own 65 67 = false := by rfl
@[go_sem] theorem own_65_93 : cfg.own 65 93 = false := by rfl
@[go_sem] theorem own_67_9 : cfg.own 67 9 = false := by rfl
@[go_sem] theorem own_68_8 : cfg.own 68 8 = false := by rfl
@[go_sem] theorem own_69_7 : cfg.own 69 7 = false := by rfl
@[go_sem] theorem own_72_22 : cfg.own 72 22 = false := by rfl
@[go_sem] theorem own_72_23 : cfg.own 72 23 = false := by rfl
@[go_sem] theorem own_72_36 : cfg.own 72 36 = false := by rfl
@[go_sem] theorem own_72_43 : cfg.own 72 43 = false := by rfl
@[go_sem] theorem own_73_6 : cfg.own 73 6 = false := by rfl
@[go_sem] theorem own_75_15 : cfg.own 75 15 = true := by rfl
@[go_sem] theorem own_75_17 : cfg.own 75 17 = false := by rfl
@[go_sem] theorem own_75_18 : cfg.own 75 18 = true := by rfl
@[go_sem] theorem own_75_20 : cfg.own 75 20 = false := by rfl
@[go_sem] theorem own_75_42 : cfg.own 75 42 = false := by rfl
@[go_sem] theorem own_75_45 : cfg.own 75 45 = true := by rfl
@[go_sem] theorem own_75_56 : cfg.own 75 56 = false := by rfl
@[go_sem] theorem own_75_61 : cfg.own 75 61 = false := by rfl
@[go_sem] theorem own_75_67 : cfg.own 75 67 = false := by rfl
@[go_sem] theorem own_75_74 : cfg.own 75 74 = false := by rfl
@[go_sem] theorem own_75_75 : cfg.own 75 75 = true := by rfl
@[go_sem] theorem own_75_86 : cfg.own 75 86 = false := by rfl
@[go_sem] theorem own_75_95 : cfg.own 75 95 = false := by rfl
@[go_sem] theorem own_75_98 : cfg.own 75 98 = false := by rfl
@[go_sem] theorem own_75_108 : cfg.own 75 108 = false := by rfl
@[go_sem] theorem own_75_110 : cfg.own 75 110 = false := by rfl
@[go_sem] theorem own_77_8 : cfg.own 77 8 = false := by rfl
@[go_sem] theorem own_77_14 : cfg.own 77 14 = false := by rfl
@[go_sem] theorem own_77_23 : cfg.own 77 23 = false := by rfl
@[go_sem] theorem own_77_26 : cfg.own 77 26 = false := by rfl
@[go_sem] theorem own_78_9 : cfg.own 78 9 = false := by rfl
@[go_sem] theorem own_78_58 : cfg.own 78 58 = false := by rfl
@[go_sem] theorem own_78_61 : cfg.own 78 61 = false := by rfl
@[go_sem] theorem own_78_63 : cfg.own 78 63 = false := by rfl
@[go_sem] theorem own_78_67 : cfg.own 78 67 = false := by rfl
@[go_sem] theorem own_78_69 : cfg.own 78 69 = false := by rfl
@[go_sem] theorem own_78_70 : cfg.own 78 70 = false := by rfl
@[go_sem] theorem own_78_78 : cfg.own 78 78 = false := by rfl
@[go_sem] theorem own_78_79 : cfg.own 78 79 = false := by rfl
@[go_sem] theorem own_79_17 : cfg.own 79 17 = true := by rfl
@[go_sem] theorem own_79_37 : cfg.own 79 37 = false := by rfl
@[go_sem] theorem own_80_9 : cfg.own 80 9 = false := by rfl
@[go_sem] theorem own_82_55 : cfg.own 82 55 = false := by rfl
@[go_sem] theorem own_83_7 : cfg.own 83 7 = false := by rfl
@[go_sem] theorem own_86_21 : cfg.own 86 21 = false := by rfl
@[go_sem] theorem own_89_5 : cfg.own 89 5 = true := by rfl
@[go_sem] theorem own_89_10 : cfg.own 89 10 = false := by rfl
@[go_sem] theorem own_89_11 : cfg.own 89 11 = false := by rfl
@[go_sem] theorem own_89_12 : cfg.own 89 12 = false := by rfl
@[go_sem] theorem own_89_13 : cfg.own 89 13 = false := by rfl
@[go_sem] theorem own_90_15 : cfg.own 90 15 = false := by rfl
@[go_sem] theorem own_90_21 : cfg.own 90 21 = false := by rfl
@[go_sem] theorem own_90_27 : cfg.own 90 27 = false := by rfl
@[go_sem] theorem own_91_59 : cfg.own 91 59 = false := by rfl
@[go_sem] theorem own_92_27 : cfg.own 92 27 = false := by rfl
@[go_sem] theorem own_94_14 : cfg.own 94 14 = false := by rfl
@[go_sem] theorem own_94_28 : cfg.own 94 28 = false := by rfl
@[go_sem] theorem own_95_6 : cfg.own 95 6 = false := by rfl
@[go_sem] theorem own_96_10 : cfg.own 96 10 = false := by rfl
@[go_sem] theorem own_97_14 : cfg.own 97 14 = false := by rfl
@[go_sem] theorem own_97_27 : cfg.own 97 27 = false := by rfl
@[go_sem] theorem own_98_19 : cfg.own 98 19 = false := by rfl
@[go_sem] theorem own_98_34 : cfg.own 98 34 = true := by rfl
@[go_sem] theorem own_98_40 : cfg.own 98 40 = false := by rfl
@[go_sem] theorem own_98_80 : cfg.own 98 80 = true := by rfl
@[go_sem] theorem own_98_82 : cfg.own 98 82 = false := by rfl
@[go_sem] theorem own_98_93 : cfg.own 98 93 = false := by rfl
@[go_sem] theorem own_101_14 : cfg.own 101 14 = false := by rfl
@[go_sem] theorem own_101_19 : cfg.own 101 19 = false := by rfl
@[go_sem] theorem own_101_27 : cfg.own 101 27 = false := by rfl
@[go_sem] theorem own_101_31 : cfg.own 101 31 = false := by rfl
@[go_sem] theorem own_101_37 : cfg.own 101 37 = false := by rfl
@[go_sem] theorem own_101_40 : cfg.own 101 40 = false := by rfl
@[go_sem] theorem own_101_46 : cfg.own 101 46 = false := by rfl
@[go_sem] theorem own_101_71 : cfg.own 101 71 = false := by rfl
@[go_sem] theorem own_101_79 : cfg.own 101 79 = false := by rfl
@[go_sem] theorem own_101_90 : cfg.own 101 90 = false := by rfl
@[go_sem] theorem own_101_96 : cfg.own 101 96 = false := by rfl
@[go_sem] theorem own_101_101 : cfg.own 101 101 = false := by rfl
@[go_sem] theorem own_101_108 : cfg.own 101 108 = false := by rfl
@[go_sem] theorem own_102_11 : cfg.own 102 11 = true := by rfl
@[go_sem] theorem own_102_14 : cfg.own 102 14 = false := by rfl
@[go_sem] theorem own_102_17 : cfg.own 102 17 = false := by rfl
@[go_sem] theorem own_104_8 : cfg.own 104 8 = false := by rfl
@[go_sem] theorem own_104_13 : cfg.own 104 13 = false := by rfl
@[go_sem] theorem own_107_7 : cfg.own 107 7 = false := by rfl
@[go_sem] theorem own_107_13 : cfg.own 107 13 = false := by rfl
@[go_sem] theorem own_107_22 : cfg.own 107 22 = false := by rfl
@[go_sem] theorem own_108_30 : cfg.own 108 30 = false := by rfl
@[go_sem] theorem own_108_46 : cfg.own 108 46 = false := by rfl
@[go_sem] theorem own_109_9 : cfg.own 109 9 = false := by rfl
@[go_sem] theorem own_109_14 : cfg.own 109 14 = false := by rfl
@[go_sem] theorem own_109_16 : cfg.own 109 16 = false := by rfl
@[go_sem] theorem own_110_67 : cfg.own 110 67 = false := by rfl
@[go_sem] theorem own_110_93 : cfg.own 110 93 = false := by rfl
@[go_sem] theorem own_113_9 : cfg.own 113 9 = false := by rfl
@[go_sem] theorem own_115_9 : cfg.own 115 9 = false := by rfl
@[go_sem] theorem own_116_7 : cfg.own 116 7 = false := by rfl
@[go_sem] theorem own_117_9 : cfg.own 117 9 = true := by rfl
@[go_sem] theorem own_117_11 : cfg.own 117 11 = false := by rfl
@[go_sem] theorem own_120_36 : cfg.own 120 36 = false := by rfl
@[go_sem] theorem own_120_38 : cfg.own 120 38 = true := by rfl
@[go_sem] theorem own_121_10 : cfg.own 121 10 = false := by rfl
@[go_sem] theorem own_121_19 : cfg.own 121 19 = false := by rfl
@[go_sem] theorem own_121_25 : cfg.own 121 25 = false := by rfl
@[go_sem] theorem own_121_27 : cfg.own 121 27 = false := by rfl
@[go_sem] theorem own_121_28 : cfg.own 121 28 = false := by rfl
@[go_sem] theorem own_121_32 : cfg.own 121 32 = false := by rfl
@[go_sem] theorem own_121_40 : cfg.own 121 40 = false := by rfl
@[go_sem] theorem own_121_44 : cfg.own 121 44 = false := by rfl
@[go_sem] theorem own_121_53 : cfg.own 121 53 = false := by rfl
@[go_sem] theorem own_121_54 : cfg.own 121 54 = false := by rfl
@[go_sem] theorem own_121_61 : cfg.own 121 61 = false := by rfl
@[go_sem] theorem own_121_62 : cfg.own 121 62 = false := by rfl
@[go_sem] theorem own_122_19 : cfg.own 122 19 = false := by rfl
@[go_sem] theorem own_122_24 : cfg.own 122 24 = false := by rfl
@[go_sem] theorem own_122_30 : cfg.own 122 30 = true := by rfl
@[go_sem] theorem own_122_54 : cfg.own 122 54 = true := by rfl
@[go_sem] theorem own_124_23 : cfg.own 124 23 = false := by rfl
@[go_sem] theorem own_126_7 : cfg.own 126 7 = false := by rfl
@[go_sem] theorem own_128_10 : cfg.own 128 10 = false := by rfl
@[go_sem] theorem own_130_16 : cfg.own 130 16 = false := by rfl
@[go_sem] theorem own_131_8 : cfg.own 131 8 = true := by rfl
@[go_sem] theorem own_131_10 : cfg.own 131 10 = false := by rfl
@[go_sem] theorem own_131_23 : cfg.own 131 23 = false := by rfl
@[go_sem] theorem own_131_25 : cfg.own 131 25 = false := by rfl
@[go_sem] theorem own_131_33 : cfg.own 131 33 = false := by rfl
@[go_sem] theorem own_131_40 : cfg.own 131 40 = false := by rfl
@[go_sem] theorem own_132_13 : cfg.own 132 13 = true := by rfl
@[go_sem] theorem own_132_29 : cfg.own 132 29 = false := by rfl
@[go_sem] theorem own_133_37 : cfg.own 133 37 = false := by rfl
@[go_sem] theorem own_135_36 : cfg.own 135 36 = false := by rfl
@[go_sem] theorem own_136_22 : cfg.own 136 22 = false := by rfl
@[go_sem] theorem own_136_23 : cfg.own 136 23 = false := by rfl
@[go_sem] theorem own_137_78 : cfg.own 137 78 = false := by rfl
@[go_sem] theorem own_138_4 : cfg.own 138 4 = false := by rfl
@[go_sem] theorem own_140_25 : cfg.own 140 25 = false := by rfl
@[go_sem] theorem own_141_11 : cfg.own 141 11 = false := by rfl
@[go_sem] theorem own_141_13 : cfg.own 141 13 = false := by rfl
@[go_sem] theorem own_142_9 : cfg.own 142 9 = false := by rfl
@[go_sem] theorem own_142_10 : cfg.own 142 10 = false := by rfl
@[go_sem] theorem own_146_6 : cfg.own 146 6 = false := by rfl
@[go_sem] theorem own_146_10 : cfg.own 146 10 = false := by rfl
@[go_sem] theorem own_148_8 : cfg.own 148 8 = false := by rfl
@[go_sem] theorem own_148_10 : cfg.own 148 10 = false := by rfl
@[go_sem] theorem own_150_9 : cfg.own 150 9 = false := by rfl
@[go_sem] theorem own_151_7 : cfg.own 151 7 = false := by rfl
@[go_sem] theorem own_151_11 : cfg.own 151 11 = false := by rfl
@[go_sem] theorem own_151_13 : cfg.own 151 13 = false := by rfl
@[go_sem] theorem own_152_7 : cfg.own 152 7 = false := by rfl
@[go_sem] theorem own_152_11 : cfg.own 152 11 = false := by rfl
@[go_sem] theorem own_152_13 : cfg.own 152 13 = false := by rfl
@[go_sem] theorem own_153_10 : cfg.own 153 10 = false := by rfl
@[go_sem] theorem own_153_28 : cfg.own 153 28 = false := by rfl
@[go_sem] theorem own_155_20 : cfg.own 155 20 = false := by rfl
@[go_sem] theorem own_155_23 : cfg.own 155 23 = false := by rfl
@[go_sem] theorem own_155_25 : cfg.own 155 25 = true := by rfl
@[go_sem] theorem own_155_57 : cfg.own 155 57 = false := by rfl
@[go_sem] theorem own_155_98 : cfg.own 155 98 = false := by rfl
@[go_sem] theorem own_155_104 : cfg.own 155 104 = false := by rfl
@[go_sem] theorem own_155_111 : cfg.own 155 111 = false := by rfl
@[go_sem] theorem own_155_116 : cfg.own 155 116 = false := by rfl
@[go_sem] theorem own_156_18 : cfg.own 156 18 = false := by rfl
@[go_sem] theorem own_157_11 : cfg.own 157 11 = false := by rfl
@[go_sem] theorem own_157_16 : cfg.own 157 16 = false := by rfl
@[go_sem] theorem own_158_30 : cfg.own 158 30 = false := by rfl
@[go_sem] theorem own_158_37 : cfg.own 158 37 = false := by rfl
@[go_sem] theorem own_158_44 : cfg.own 158 44 = false := by rfl
@[go_sem] theorem own_158_52 : cfg.own 158 52 = false := by rfl
@[go_sem] theorem own_158_61 : cfg.own 158 61 = false := by rfl
@[go_sem] theorem own_158_80 : cfg.own 158 80 = false := by rfl
@[go_sem] theorem own_158_94 : cfg.own 158 94 = false := by rfl
@[go_sem] theorem own_158_103 : cfg.own 158 103 = false := by rfl
@[go_sem] theorem own_158_111 : cfg.own 158 111 = false := by rfl
@[go_sem] theorem own_158_134 : cfg.own 158 134 = false := by rfl
@[go_sem] theorem own_158_146 : cfg.own 158 146 = false := by rfl
@[go_sem] theorem own_159_5 : cfg.own 159 5 = false := by rfl
@[go_sem] theorem own_159_7 : cfg.own 159 7 = false := by rfl
@[go_sem] theorem own_160_27 : cfg.own 160 27 = false := by rfl
@[go_sem] theorem own_160_33 : cfg.own 160 33 = false := by rfl
@[go_sem] theorem own_160_39 : cfg.own 160 39 = false := by rfl
@[go_sem] theorem own_160_46 : cfg.own 160 46 = false := by rfl
@[go_sem] theorem own_160_54 : cfg.own 160 54 = false := by rfl
@[go_sem] theorem own_160_72 : cfg.own 160 72 = false := by rfl
@[go_sem] theorem own_160_85 : cfg.own 160 85 = false := by rfl
@[go_sem] theorem own_160_92 : cfg.own 160 92 = false := by rfl
@[go_sem] theorem own_160_99 : cfg.own 160 99 = false := by rfl
@[go_sem] theorem own_160_121 : cfg.own 160 121 = false := by rfl
@[go_sem] theorem own_160_132 : cfg.own 160 132 = false := by rfl
@[go_sem] theorem own_162_7 : cfg.own 162 7 = false := by rfl
@[go_sem] theorem own_162_11 : cfg.own 162 11 = false := by rfl
@[go_sem] theorem own_162_13 : cfg.own 162 13 = false := by rfl
@[go_sem] theorem own_165_16 : cfg.own 165 16 = false := by rfl
@[go_sem] theorem own_166_11 : cfg.own 166 11 = false := by rfl
@[go_sem] theorem own_166_14 : cfg.own 166 14 = false := by rfl
@[go_sem] theorem own_167_5 : cfg.own 167 5 = true := by rfl
@[go_sem] theorem own_169_15 : cfg.own 169 15 = false := by rfl
@[go_sem] theorem own_169_25 : cfg.own 169 25 = false := by rfl
@[go_sem] theorem own_170_32 : cfg.own 170 32 = false := by rfl
@[go_sem] theorem own_171_29 : cfg.own 171 29 = false := by rfl
@[go_sem] theorem own_171_59 : cfg.own 171 59 = false := by rfl
@[go_sem] theorem own_172_21 : cfg.own 172 21 = false := by rfl
@[go_sem] theorem own_172_38 : cfg.own 172 38 = false := by rfl
@[go_sem] theorem own_173_40 : cfg.own 173 40 = false := by rfl
@[go_sem] theorem own_173_44 : cfg.own 173 44 = false := by rfl
@[go_sem] theorem own_173_48 : cfg.own 173 48 = false := by rfl
@[go_sem] theorem own_173_54 : cfg.own 173 54 = false := by rfl
@[go_sem] theorem own_175_33 : cfg.own 175 33 = false := by rfl
@[go_sem] theorem own_175_82 : cfg.own 175 82 = false := by rfl
@[go_sem] theorem own_175_122 : cfg.own 175 122 = false := by rfl
@[go_sem] theorem own_176_44 : cfg.own 176 44 = false := by rfl
@[go_sem] theorem own_176_63 : cfg.own 176 63 = false := by rfl
@[go_sem] theorem own_177_45 : cfg.own 177 45 = false := by rfl
@[go_sem] theorem own_177_63 : cfg.own 177 63 = false := by rfl
@[go_sem] theorem own_177_118 : cfg.own 177 118 = false := by rfl
@[go_sem] theorem own_177_136 : cfg.own 177 136 = false := by rfl
@[go_sem] theorem own_180_29 : cfg.own 180 29 = false := by rfl
@[go_sem] theorem own_181_26 : cfg.own 181 26 = false := by rfl
@[go_sem] theorem own_181_55 : cfg.own 181 55 = false := by rfl
@[go_sem] theorem own_182_19 : cfg.own 182 19 = false := by rfl
@[go_sem] theorem own_182_36 : cfg.own 182 36 = false := by rfl
@[go_sem] theorem own_183_37 : cfg.own 183 37 = false := by rfl
@[go_sem] theorem own_183_40 : cfg.own 183 40 = false := by rfl
@[go_sem] theorem own_183_43 : cfg.own 183 43 = false := by rfl
@[go_sem] theorem own_183_48 : cfg.own 183 48 = false := by rfl
@[go_sem] theorem own_185_30 : cfg.own 185 30 = false := by rfl
@[go_sem] theorem own_185_77 : cfg.own 185 77 = false := by rfl
@[go_sem] theorem own_185_115 : cfg.own 185 115 = false := by rfl
@[go_sem] theorem own_186_6 : cfg.own 186 6 = false := by rfl
@[go_sem] theorem own_186_9 : cfg.own 186 9 = false := by rfl
@[go_sem] theorem own_187_41 : cfg.own 187 41 = false := by rfl
@[go_sem] theorem own_187_58 : cfg.own 187 58 = false := by rfl
@[go_sem] theorem own_188_42 : cfg.own 188 42 = false := by rfl
@[go_sem] theorem own_188_58 : cfg.own 188 58 = false := by rfl
@[go_sem] theorem own_188_111 : cfg.own 188 111 = false := by rfl
@[go_sem] theorem own_188_127 : cfg.own 188 127 = false := by rfl
@[go_sem] theorem own_190_11 : cfg.own 190 11 = false := by rfl
@[go_sem] theorem own_190_15 : cfg.own 190 15 = false := by rfl
@[go_sem] theorem own_193_38 : cfg.own 193 38 = false := by rfl
@[go_sem] theorem own_193_56 : cfg.own 193 56 = false := by rfl
@[go_sem] theorem own_194_5 : cfg.own 194 5 = false := by rfl
@[go_sem] theorem own_196_17 : cfg.own 196 17 = false := by rfl
@[go_sem] theorem own_197_19 : cfg.own 197 19 = false := by rfl
@[go_sem] theorem own_197_28 : cfg.own 197 28 = false := by rfl
@[go_sem] theorem own_197_37 : cfg.own 197 37 = false := by rfl
@[go_sem] theorem own_198_35 : cfg.own 198 35 = false := by rfl
@[go_sem] theorem own_198_51 : cfg.own 198 51 = false := by rfl
@[go_sem] theorem own_199_14 : cfg.own 199 14 = false := by rfl
@[go_sem] theorem own_200_16 : cfg.own 200 16 = false := by rfl
@[go_sem] theorem own_200_24 : cfg.own 200 24 = false := by rfl
@[go_sem] theorem own_200_32 : cfg.own 200 32 = false := by rfl
@[go_sem] theorem own_201_6 : cfg.own 201 6 = false := by rfl
@[go_sem] theorem own_202_21 : cfg.own 202 21 = false := by rfl
@[go_sem] theorem own_203_18 : cfg.own 203 18 = false := by rfl
end Go.Proofs.Yteknfomddncboaa.X
