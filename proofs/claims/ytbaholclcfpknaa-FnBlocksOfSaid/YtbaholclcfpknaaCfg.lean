/- How this program's calls are taken. -/
import Derived.Test.YtbaholclcfpknaaTab
import Derived.Test.YtbaholclcfpknaaPrim
namespace Go.Proofs.Ytbaholclcfpknaa.X
open Go Go.Proofs

def cfg : Cfg where
  mutF f := mutL.contains f
  own me d := ownL.contains (me, d)
  prim f := if f = 65 then some (sortFP 66) else if f = 103 then some (insP 2) else if f = 104 then some (cloneP) else if f = 147 then some (sortP) else if f = 190 then some (mulP) else none
  give me d := if me = 113 then d == 14 else if me = 148 then d == 8 else false

@[go_sem] theorem give_0 (d : Nat) : cfg.give 0 d = false := by rfl
@[go_sem] theorem give_1 (d : Nat) : cfg.give 1 d = false := by rfl
@[go_sem] theorem give_2 (d : Nat) : cfg.give 2 d = false := by rfl
@[go_sem] theorem give_3 (d : Nat) : cfg.give 3 d = false := by rfl
@[go_sem] theorem give_4 (d : Nat) : cfg.give 4 d = false := by rfl
@[go_sem] theorem give_5 (d : Nat) : cfg.give 5 d = false := by rfl
@[go_sem] theorem give_6 (d : Nat) : cfg.give 6 d = false := by rfl
@[go_sem] theorem give_7 (d : Nat) : cfg.give 7 d = false := by rfl
@[go_sem] theorem give_8 (d : Nat) : cfg.give 8 d = false := by rfl
@[go_sem] theorem give_9 (d : Nat) : cfg.give 9 d = false := by rfl
@[go_sem] theorem give_10 (d : Nat) : cfg.give 10 d = false := by rfl
@[go_sem] theorem give_11 (d : Nat) : cfg.give 11 d = false := by rfl
@[go_sem] theorem give_12 (d : Nat) : cfg.give 12 d = false := by rfl
@[go_sem] theorem give_13 (d : Nat) : cfg.give 13 d = false := by rfl
@[go_sem] theorem give_14 (d : Nat) : cfg.give 14 d = false := by rfl
@[go_sem] theorem give_15 (d : Nat) : cfg.give 15 d = false := by rfl
@[go_sem] theorem give_16 (d : Nat) : cfg.give 16 d = false := by rfl
@[go_sem] theorem give_17 (d : Nat) : cfg.give 17 d = false := by rfl
@[go_sem] theorem give_18 (d : Nat) : cfg.give 18 d = false := by rfl
@[go_sem] theorem give_19 (d : Nat) : cfg.give 19 d = false := by rfl
@[go_sem] theorem give_20 (d : Nat) : cfg.give 20 d = false := by rfl
@[go_sem] theorem give_21 (d : Nat) : cfg.give 21 d = false := by rfl
@[go_sem] theorem give_22 (d : Nat) : cfg.give 22 d = false := by rfl
@[go_sem] theorem give_23 (d : Nat) : cfg.give 23 d = false := by rfl
@[go_sem] theorem give_24 (d : Nat) : cfg.give 24 d = false := by rfl
@[go_sem] theorem give_25 (d : Nat) : cfg.give 25 d = false := by rfl
@[go_sem] theorem give_26 (d : Nat) : cfg.give 26 d = false := by rfl
@[go_sem] theorem give_27 (d : Nat) : cfg.give 27 d = false := by rfl
@[go_sem] theorem give_28 (d : Nat) : cfg.give 28 d = false := by rfl
@[go_sem] theorem give_29 (d : Nat) : cfg.give 29 d = false := by rfl
@[go_sem] theorem give_30 (d : Nat) : cfg.give 30 d = false := by rfl
@[go_sem] theorem give_31 (d : Nat) : cfg.give 31 d = false := by rfl
@[go_sem] theorem give_32 (d : Nat) : cfg.give 32 d = false := by rfl
@[go_sem] theorem give_33 (d : Nat) : cfg.give 33 d = false := by rfl
@[go_sem] theorem give_34 (d : Nat) : cfg.give 34 d = false := by rfl
@[go_sem] theorem give_35 (d : Nat) : cfg.give 35 d = false := by rfl
@[go_sem] theorem give_36 (d : Nat) : cfg.give 36 d = false := by rfl
@[go_sem] theorem give_37 (d : Nat) : cfg.give 37 d = false := by rfl
@[go_sem] theorem give_38 (d : Nat) : cfg.give 38 d = false := by rfl
@[go_sem] theorem give_39 (d : Nat) : cfg.give 39 d = false := by rfl
@[go_sem] theorem give_40 (d : Nat) : cfg.give 40 d = false := by rfl
@[go_sem] theorem give_41 (d : Nat) : cfg.give 41 d = false := by rfl
@[go_sem] theorem give_42 (d : Nat) : cfg.give 42 d = false := by rfl
@[go_sem] theorem give_43 (d : Nat) : cfg.give 43 d = false := by rfl
@[go_sem] theorem give_44 (d : Nat) : cfg.give 44 d = false := by rfl
@[go_sem] theorem give_45 (d : Nat) : cfg.give 45 d = false := by rfl
@[go_sem] theorem give_46 (d : Nat) : cfg.give 46 d = false := by rfl
@[go_sem] theorem give_47 (d : Nat) : cfg.give 47 d = false := by rfl
@[go_sem] theorem give_48 (d : Nat) : cfg.give 48 d = false := by rfl
@[go_sem] theorem give_49 (d : Nat) : cfg.give 49 d = false := by rfl
@[go_sem] theorem give_50 (d : Nat) : cfg.give 50 d = false := by rfl
@[go_sem] theorem give_51 (d : Nat) : cfg.give 51 d = false := by rfl
@[go_sem] theorem give_52 (d : Nat) : cfg.give 52 d = false := by rfl
@[go_sem] theorem give_53 (d : Nat) : cfg.give 53 d = false := by rfl
@[go_sem] theorem give_54 (d : Nat) : cfg.give 54 d = false := by rfl
@[go_sem] theorem give_55 (d : Nat) : cfg.give 55 d = false := by rfl
@[go_sem] theorem give_56 (d : Nat) : cfg.give 56 d = false := by rfl
@[go_sem] theorem give_57 (d : Nat) : cfg.give 57 d = false := by rfl
@[go_sem] theorem give_58 (d : Nat) : cfg.give 58 d = false := by rfl
@[go_sem] theorem give_59 (d : Nat) : cfg.give 59 d = false := by rfl
@[go_sem] theorem give_60 (d : Nat) : cfg.give 60 d = false := by rfl
@[go_sem] theorem give_61 (d : Nat) : cfg.give 61 d = false := by rfl
@[go_sem] theorem give_62 (d : Nat) : cfg.give 62 d = false := by rfl
@[go_sem] theorem give_63 (d : Nat) : cfg.give 63 d = false := by rfl
@[go_sem] theorem give_64 (d : Nat) : cfg.give 64 d = false := by rfl
@[go_sem] theorem give_65 (d : Nat) : cfg.give 65 d = false := by rfl
@[go_sem] theorem give_66 (d : Nat) : cfg.give 66 d = false := by rfl
@[go_sem] theorem give_67 (d : Nat) : cfg.give 67 d = false := by rfl
@[go_sem] theorem give_68 (d : Nat) : cfg.give 68 d = false := by rfl
@[go_sem] theorem give_69 (d : Nat) : cfg.give 69 d = false := by rfl
@[go_sem] theorem give_70 (d : Nat) : cfg.give 70 d = false := by rfl
@[go_sem] theorem give_71 (d : Nat) : cfg.give 71 d = false := by rfl
@[go_sem] theorem give_72 (d : Nat) : cfg.give 72 d = false := by rfl
@[go_sem] theorem give_73 (d : Nat) : cfg.give 73 d = false := by rfl
@[go_sem] theorem give_74 (d : Nat) : cfg.give 74 d = false := by rfl
@[go_sem] theorem give_75 (d : Nat) : cfg.give 75 d = false := by rfl
@[go_sem] theorem give_76 (d : Nat) : cfg.give 76 d = false := by rfl
@[go_sem] theorem give_77 (d : Nat) : cfg.give 77 d = false := by rfl
@[go_sem] theorem give_78 (d : Nat) : cfg.give 78 d = false := by rfl
@[go_sem] theorem give_79 (d : Nat) : cfg.give 79 d = false := by rfl
@[go_sem] theorem give_80 (d : Nat) : cfg.give 80 d = false := by rfl
@[go_sem] theorem give_81 (d : Nat) : cfg.give 81 d = false := by rfl
@[go_sem] theorem give_82 (d : Nat) : cfg.give 82 d = false := by rfl
@[go_sem] theorem give_83 (d : Nat) : cfg.give 83 d = false := by rfl
@[go_sem] theorem give_84 (d : Nat) : cfg.give 84 d = false := by rfl
@[go_sem] theorem give_85 (d : Nat) : cfg.give 85 d = false := by rfl
@[go_sem] theorem give_86 (d : Nat) : cfg.give 86 d = false := by rfl
@[go_sem] theorem give_87 (d : Nat) : cfg.give 87 d = false := by rfl
@[go_sem] theorem give_88 (d : Nat) : cfg.give 88 d = false := by rfl
@[go_sem] theorem give_89 (d : Nat) : cfg.give 89 d = false := by rfl
@[go_sem] theorem give_90 (d : Nat) : cfg.give 90 d = false := by rfl
@[go_sem] theorem give_91 (d : Nat) : cfg.give 91 d = false := by rfl
@[go_sem] theorem give_92 (d : Nat) : cfg.give 92 d = false := by rfl
@[go_sem] theorem give_93 (d : Nat) : cfg.give 93 d = false := by rfl
@[go_sem] theorem give_94 (d : Nat) : cfg.give 94 d = false := by rfl
@[go_sem] theorem give_95 (d : Nat) : cfg.give 95 d = false := by rfl
@[go_sem] theorem give_96 (d : Nat) : cfg.give 96 d = false := by rfl
@[go_sem] theorem give_97 (d : Nat) : cfg.give 97 d = false := by rfl
@[go_sem] theorem give_98 (d : Nat) : cfg.give 98 d = false := by rfl
@[go_sem] theorem give_99 (d : Nat) : cfg.give 99 d = false := by rfl
@[go_sem] theorem give_100 (d : Nat) : cfg.give 100 d = false := by rfl
@[go_sem] theorem give_101 (d : Nat) : cfg.give 101 d = false := by rfl
@[go_sem] theorem give_102 (d : Nat) : cfg.give 102 d = false := by rfl
@[go_sem] theorem give_103 (d : Nat) : cfg.give 103 d = false := by rfl
@[go_sem] theorem give_104 (d : Nat) : cfg.give 104 d = false := by rfl
@[go_sem] theorem give_105 (d : Nat) : cfg.give 105 d = false := by rfl
@[go_sem] theorem give_106 (d : Nat) : cfg.give 106 d = false := by rfl
@[go_sem] theorem give_107 (d : Nat) : cfg.give 107 d = false := by rfl
@[go_sem] theorem give_108 (d : Nat) : cfg.give 108 d = false := by rfl
@[go_sem] theorem give_109 (d : Nat) : cfg.give 109 d = false := by rfl
@[go_sem] theorem give_110 (d : Nat) : cfg.give 110 d = false := by rfl
@[go_sem] theorem give_111 (d : Nat) : cfg.give 111 d = false := by rfl
@[go_sem] theorem give_112 (d : Nat) : cfg.give 112 d = false := by rfl
@[go_sem] theorem give_113 (d : Nat) : cfg.give 113 d = (d == 14) := by rfl
@[go_sem] theorem give_114 (d : Nat) : cfg.give 114 d = false := by rfl
@[go_sem] theorem give_115 (d : Nat) : cfg.give 115 d = false := by rfl
@[go_sem] theorem give_116 (d : Nat) : cfg.give 116 d = false := by rfl
@[go_sem] theorem give_117 (d : Nat) : cfg.give 117 d = false := by rfl
@[go_sem] theorem give_118 (d : Nat) : cfg.give 118 d = false := by rfl
@[go_sem] theorem give_119 (d : Nat) : cfg.give 119 d = false := by rfl
@[go_sem] theorem give_120 (d : Nat) : cfg.give 120 d = false := by rfl
@[go_sem] theorem give_121 (d : Nat) : cfg.give 121 d = false := by rfl
@[go_sem] theorem give_122 (d : Nat) : cfg.give 122 d = false := by rfl
@[go_sem] theorem give_123 (d : Nat) : cfg.give 123 d = false := by rfl
@[go_sem] theorem give_124 (d : Nat) : cfg.give 124 d = false := by rfl
@[go_sem] theorem give_125 (d : Nat) : cfg.give 125 d = false := by rfl
@[go_sem] theorem give_126 (d : Nat) : cfg.give 126 d = false := by rfl
@[go_sem] theorem give_127 (d : Nat) : cfg.give 127 d = false := by rfl
@[go_sem] theorem give_128 (d : Nat) : cfg.give 128 d = false := by rfl
@[go_sem] theorem give_129 (d : Nat) : cfg.give 129 d = false := by rfl
@[go_sem] theorem give_130 (d : Nat) : cfg.give 130 d = false := by rfl
@[go_sem] theorem give_131 (d : Nat) : cfg.give 131 d = false := by rfl
@[go_sem] theorem give_132 (d : Nat) : cfg.give 132 d = false := by rfl
@[go_sem] theorem give_133 (d : Nat) : cfg.give 133 d = false := by rfl
@[go_sem] theorem give_134 (d : Nat) : cfg.give 134 d = false := by rfl
@[go_sem] theorem give_135 (d : Nat) : cfg.give 135 d = false := by rfl
@[go_sem] theorem give_136 (d : Nat) : cfg.give 136 d = false := by rfl
@[go_sem] theorem give_137 (d : Nat) : cfg.give 137 d = false := by rfl
@[go_sem] theorem give_138 (d : Nat) : cfg.give 138 d = false := by rfl
@[go_sem] theorem give_139 (d : Nat) : cfg.give 139 d = false := by rfl
@[go_sem] theorem give_140 (d : Nat) : cfg.give 140 d = false := by rfl
@[go_sem] theorem give_141 (d : Nat) : cfg.give 141 d = false := by rfl
@[go_sem] theorem give_142 (d : Nat) : cfg.give 142 d = false := by rfl
@[go_sem] theorem give_143 (d : Nat) : cfg.give 143 d = false := by rfl
@[go_sem] theorem give_144 (d : Nat) : cfg.give 144 d = false := by rfl
@[go_sem] theorem give_145 (d : Nat) : cfg.give 145 d = false := by rfl
@[go_sem] theorem give_146 (d : Nat) : cfg.give 146 d = false := by rfl
@[go_sem] theorem give_147 (d : Nat) : cfg.give 147 d = false := by rfl
@[go_sem] theorem give_148 (d : Nat) : cfg.give 148 d = (d == 8) := by rfl
@[go_sem] theorem give_149 (d : Nat) : cfg.give 149 d = false := by rfl
@[go_sem] theorem give_150 (d : Nat) : cfg.give 150 d = false := by rfl
@[go_sem] theorem give_151 (d : Nat) : cfg.give 151 d = false := by rfl
@[go_sem] theorem give_152 (d : Nat) : cfg.give 152 d = false := by rfl
@[go_sem] theorem give_153 (d : Nat) : cfg.give 153 d = false := by rfl
@[go_sem] theorem give_154 (d : Nat) : cfg.give 154 d = false := by rfl
@[go_sem] theorem give_155 (d : Nat) : cfg.give 155 d = false := by rfl
@[go_sem] theorem give_156 (d : Nat) : cfg.give 156 d = false := by rfl
@[go_sem] theorem give_157 (d : Nat) : cfg.give 157 d = false := by rfl
@[go_sem] theorem give_158 (d : Nat) : cfg.give 158 d = false := by rfl
@[go_sem] theorem give_159 (d : Nat) : cfg.give 159 d = false := by rfl
@[go_sem] theorem give_160 (d : Nat) : cfg.give 160 d = false := by rfl
@[go_sem] theorem give_161 (d : Nat) : cfg.give 161 d = false := by rfl
@[go_sem] theorem give_162 (d : Nat) : cfg.give 162 d = false := by rfl
@[go_sem] theorem give_163 (d : Nat) : cfg.give 163 d = false := by rfl
@[go_sem] theorem give_164 (d : Nat) : cfg.give 164 d = false := by rfl
@[go_sem] theorem give_165 (d : Nat) : cfg.give 165 d = false := by rfl
@[go_sem] theorem give_166 (d : Nat) : cfg.give 166 d = false := by rfl
@[go_sem] theorem give_167 (d : Nat) : cfg.give 167 d = false := by rfl
@[go_sem] theorem give_168 (d : Nat) : cfg.give 168 d = false := by rfl
@[go_sem] theorem give_169 (d : Nat) : cfg.give 169 d = false := by rfl
@[go_sem] theorem give_170 (d : Nat) : cfg.give 170 d = false := by rfl
@[go_sem] theorem give_171 (d : Nat) : cfg.give 171 d = false := by rfl
@[go_sem] theorem give_172 (d : Nat) : cfg.give 172 d = false := by rfl
@[go_sem] theorem give_173 (d : Nat) : cfg.give 173 d = false := by rfl
@[go_sem] theorem give_174 (d : Nat) : cfg.give 174 d = false := by rfl
@[go_sem] theorem give_175 (d : Nat) : cfg.give 175 d = false := by rfl
@[go_sem] theorem give_176 (d : Nat) : cfg.give 176 d = false := by rfl
@[go_sem] theorem give_177 (d : Nat) : cfg.give 177 d = false := by rfl
@[go_sem] theorem give_178 (d : Nat) : cfg.give 178 d = false := by rfl
@[go_sem] theorem give_179 (d : Nat) : cfg.give 179 d = false := by rfl
@[go_sem] theorem give_180 (d : Nat) : cfg.give 180 d = false := by rfl
@[go_sem] theorem give_181 (d : Nat) : cfg.give 181 d = false := by rfl
@[go_sem] theorem give_182 (d : Nat) : cfg.give 182 d = false := by rfl
@[go_sem] theorem give_183 (d : Nat) : cfg.give 183 d = false := by rfl
@[go_sem] theorem give_184 (d : Nat) : cfg.give 184 d = false := by rfl
@[go_sem] theorem give_185 (d : Nat) : cfg.give 185 d = false := by rfl
@[go_sem] theorem give_186 (d : Nat) : cfg.give 186 d = false := by rfl
@[go_sem] theorem give_187 (d : Nat) : cfg.give 187 d = false := by rfl
@[go_sem] theorem give_188 (d : Nat) : cfg.give 188 d = false := by rfl
@[go_sem] theorem give_189 (d : Nat) : cfg.give 189 d = false := by rfl
@[go_sem] theorem give_190 (d : Nat) : cfg.give 190 d = false := by rfl
@[go_sem] theorem give_191 (d : Nat) : cfg.give 191 d = false := by rfl
@[go_sem] theorem give_192 (d : Nat) : cfg.give 192 d = false := by rfl
@[go_sem] theorem give_193 (d : Nat) : cfg.give 193 d = false := by rfl
@[go_sem] theorem give_194 (d : Nat) : cfg.give 194 d = false := by rfl
@[go_sem] theorem give_195 (d : Nat) : cfg.give 195 d = false := by rfl
@[go_sem] theorem give_196 (d : Nat) : cfg.give 196 d = false := by rfl
@[go_sem] theorem give_197 (d : Nat) : cfg.give 197 d = false := by rfl
@[go_sem] theorem give_198 (d : Nat) : cfg.give 198 d = false := by rfl
@[go_sem] theorem give_199 (d : Nat) : cfg.give 199 d = false := by rfl
@[go_sem] theorem give_200 (d : Nat) : cfg.give 200 d = false := by rfl
@[go_sem] theorem give_201 (d : Nat) : cfg.give 201 d = false := by rfl
@[go_sem] theorem give_202 (d : Nat) : cfg.give 202 d = false := by rfl
@[go_sem] theorem give_203 (d : Nat) : cfg.give 203 d = false := by rfl
@[go_sem] theorem give_204 (d : Nat) : cfg.give 204 d = false := by rfl
@[go_sem] theorem give_205 (d : Nat) : cfg.give 205 d = false := by rfl
@[go_sem] theorem give_206 (d : Nat) : cfg.give 206 d = false := by rfl
@[go_sem] theorem give_207 (d : Nat) : cfg.give 207 d = false := by rfl
@[go_sem] theorem give_208 (d : Nat) : cfg.give 208 d = false := by rfl
@[go_sem] theorem give_209 (d : Nat) : cfg.give 209 d = false := by rfl
@[go_sem] theorem give_210 (d : Nat) : cfg.give 210 d = false := by rfl
@[go_sem] theorem give_211 (d : Nat) : cfg.give 211 d = false := by rfl
@[go_sem] theorem give_212 (d : Nat) : cfg.give 212 d = false := by rfl
@[go_sem] theorem give_213 (d : Nat) : cfg.give 213 d = false := by rfl
@[go_sem] theorem give_214 (d : Nat) : cfg.give 214 d = false := by rfl
@[go_sem] theorem give_215 (d : Nat) : cfg.give 215 d = false := by rfl
@[go_sem] theorem give_216 (d : Nat) : cfg.give 216 d = false := by rfl
@[go_sem] theorem give_217 (d : Nat) : cfg.give 217 d = false := by rfl
@[go_sem] theorem give_218 (d : Nat) : cfg.give 218 d = false := by rfl
@[go_sem] theorem give_219 (d : Nat) : cfg.give 219 d = false := by rfl
@[go_sem] theorem give_220 (d : Nat) : cfg.give 220 d = false := by rfl
@[go_sem] theorem give_221 (d : Nat) : cfg.give 221 d = false := by rfl
@[go_sem] theorem give_222 (d : Nat) : cfg.give 222 d = false := by rfl
@[go_sem] theorem give_223 (d : Nat) : cfg.give 223 d = false := by rfl
@[go_sem] theorem give_224 (d : Nat) : cfg.give 224 d = false := by rfl
@[go_sem] theorem give_225 (d : Nat) : cfg.give 225 d = false := by rfl
@[go_sem] theorem give_226 (d : Nat) : cfg.give 226 d = false := by rfl
@[go_sem] theorem give_227 (d : Nat) : cfg.give 227 d = false := by rfl
@[go_sem] theorem give_228 (d : Nat) : cfg.give 228 d = false := by rfl
@[go_sem] theorem give_229 (d : Nat) : cfg.give 229 d = false := by rfl
@[go_sem] theorem give_230 (d : Nat) : cfg.give 230 d = false := by rfl
@[go_sem] theorem give_231 (d : Nat) : cfg.give 231 d = false := by rfl
@[go_sem] theorem give_232 (d : Nat) : cfg.give 232 d = false := by rfl
@[go_sem] theorem mut_0 : cfg.mutF 0 = false := by rfl
@[go_sem] theorem mut_1 : cfg.mutF 1 = false := by rfl
@[go_sem] theorem mut_2 : cfg.mutF 2 = false := by rfl
@[go_sem] theorem mut_3 : cfg.mutF 3 = false := by rfl
@[go_sem] theorem mut_4 : cfg.mutF 4 = false := by rfl
@[go_sem] theorem mut_5 : cfg.mutF 5 = false := by rfl
@[go_sem] theorem mut_6 : cfg.mutF 6 = false := by rfl
@[go_sem] theorem mut_7 : cfg.mutF 7 = false := by rfl
@[go_sem] theorem mut_8 : cfg.mutF 8 = false := by rfl
@[go_sem] theorem mut_9 : cfg.mutF 9 = false := by rfl
@[go_sem] theorem mut_10 : cfg.mutF 10 = false := by rfl
@[go_sem] theorem mut_11 : cfg.mutF 11 = false := by rfl
@[go_sem] theorem mut_12 : cfg.mutF 12 = false := by rfl
@[go_sem] theorem mut_13 : cfg.mutF 13 = false := by rfl
@[go_sem] theorem mut_14 : cfg.mutF 14 = false := by rfl
@[go_sem] theorem mut_15 : cfg.mutF 15 = false := by rfl
@[go_sem] theorem mut_16 : cfg.mutF 16 = false := by rfl
@[go_sem] theorem mut_17 : cfg.mutF 17 = false := by rfl
@[go_sem] theorem mut_18 : cfg.mutF 18 = false := by rfl
@[go_sem] theorem mut_19 : cfg.mutF 19 = false := by rfl
@[go_sem] theorem mut_20 : cfg.mutF 20 = false := by rfl
@[go_sem] theorem mut_21 : cfg.mutF 21 = false := by rfl
@[go_sem] theorem mut_22 : cfg.mutF 22 = false := by rfl
@[go_sem] theorem mut_23 : cfg.mutF 23 = false := by rfl
@[go_sem] theorem mut_24 : cfg.mutF 24 = false := by rfl
@[go_sem] theorem mut_25 : cfg.mutF 25 = false := by rfl
@[go_sem] theorem mut_26 : cfg.mutF 26 = false := by rfl
@[go_sem] theorem mut_27 : cfg.mutF 27 = false := by rfl
@[go_sem] theorem mut_28 : cfg.mutF 28 = false := by rfl
@[go_sem] theorem mut_29 : cfg.mutF 29 = false := by rfl
@[go_sem] theorem mut_30 : cfg.mutF 30 = false := by rfl
@[go_sem] theorem mut_31 : cfg.mutF 31 = false := by rfl
@[go_sem] theorem mut_32 : cfg.mutF 32 = false := by rfl
@[go_sem] theorem mut_33 : cfg.mutF 33 = false := by rfl
@[go_sem] theorem mut_34 : cfg.mutF 34 = false := by rfl
@[go_sem] theorem mut_35 : cfg.mutF 35 = false := by rfl
@[go_sem] theorem mut_36 : cfg.mutF 36 = false := by rfl
@[go_sem] theorem mut_37 : cfg.mutF 37 = false := by rfl
@[go_sem] theorem mut_38 : cfg.mutF 38 = false := by rfl
@[go_sem] theorem mut_39 : cfg.mutF 39 = false := by rfl
@[go_sem] theorem mut_40 : cfg.mutF 40 = false := by rfl
@[go_sem] theorem mut_41 : cfg.mutF 41 = false := by rfl
@[go_sem] theorem mut_42 : cfg.mutF 42 = false := by rfl
@[go_sem] theorem mut_43 : cfg.mutF 43 = false := by rfl
@[go_sem] theorem mut_44 : cfg.mutF 44 = false := by rfl
@[go_sem] theorem mut_45 : cfg.mutF 45 = false := by rfl
@[go_sem] theorem mut_46 : cfg.mutF 46 = false := by rfl
@[go_sem] theorem mut_47 : cfg.mutF 47 = false := by rfl
@[go_sem] theorem mut_48 : cfg.mutF 48 = false := by rfl
@[go_sem] theorem mut_49 : cfg.mutF 49 = false := by rfl
@[go_sem] theorem mut_50 : cfg.mutF 50 = false := by rfl
@[go_sem] theorem mut_51 : cfg.mutF 51 = false := by rfl
@[go_sem] theorem mut_52 : cfg.mutF 52 = false := by rfl
@[go_sem] theorem mut_53 : cfg.mutF 53 = false := by rfl
@[go_sem] theorem mut_54 : cfg.mutF 54 = false := by rfl
@[go_sem] theorem mut_55 : cfg.mutF 55 = false := by rfl
@[go_sem] theorem mut_56 : cfg.mutF 56 = false := by rfl
@[go_sem] theorem mut_57 : cfg.mutF 57 = false := by rfl
@[go_sem] theorem mut_58 : cfg.mutF 58 = true := by rfl
@[go_sem] theorem mut_59 : cfg.mutF 59 = true := by rfl
@[go_sem] theorem mut_60 : cfg.mutF 60 = false := by rfl
@[go_sem] theorem mut_61 : cfg.mutF 61 = false := by rfl
@[go_sem] theorem mut_62 : cfg.mutF 62 = false := by rfl
@[go_sem] theorem mut_63 : cfg.mutF 63 = false := by rfl
@[go_sem] theorem mut_64 : cfg.mutF 64 = false := by rfl
@[go_sem] theorem mut_65 : cfg.mutF 65 = true := by rfl
@[go_sem] theorem mut_66 : cfg.mutF 66 = false := by rfl
@[go_sem] theorem mut_67 : cfg.mutF 67 = false := by rfl
@[go_sem] theorem mut_68 : cfg.mutF 68 = false := by rfl
@[go_sem] theorem mut_69 : cfg.mutF 69 = false := by rfl
@[go_sem] theorem mut_70 : cfg.mutF 70 = false := by rfl
@[go_sem] theorem mut_71 : cfg.mutF 71 = false := by rfl
@[go_sem] theorem mut_72 : cfg.mutF 72 = false := by rfl
@[go_sem] theorem mut_73 : cfg.mutF 73 = false := by rfl
@[go_sem] theorem mut_74 : cfg.mutF 74 = false := by rfl
@[go_sem] theorem mut_75 : cfg.mutF 75 = false := by rfl
@[go_sem] theorem mut_76 : cfg.mutF 76 = false := by rfl
@[go_sem] theorem mut_77 : cfg.mutF 77 = false := by rfl
@[go_sem] theorem mut_78 : cfg.mutF 78 = false := by rfl
@[go_sem] theorem mut_79 : cfg.mutF 79 = false := by rfl
@[go_sem] theorem mut_80 : cfg.mutF 80 = false := by rfl
@[go_sem] theorem mut_81 : cfg.mutF 81 = false := by rfl
@[go_sem] theorem mut_82 : cfg.mutF 82 = false := by rfl
@[go_sem] theorem mut_83 : cfg.mutF 83 = false := by rfl
@[go_sem] theorem mut_84 : cfg.mutF 84 = false := by rfl
@[go_sem] theorem mut_85 : cfg.mutF 85 = false := by rfl
@[go_sem] theorem mut_86 : cfg.mutF 86 = false := by rfl
@[go_sem] theorem mut_87 : cfg.mutF 87 = false := by rfl
@[go_sem] theorem mut_88 : cfg.mutF 88 = false := by rfl
@[go_sem] theorem mut_89 : cfg.mutF 89 = false := by rfl
@[go_sem] theorem mut_90 : cfg.mutF 90 = false := by rfl
@[go_sem] theorem mut_91 : cfg.mutF 91 = false := by rfl
@[go_sem] theorem mut_92 : cfg.mutF 92 = false := by rfl
@[go_sem] theorem mut_93 : cfg.mutF 93 = true := by rfl
@[go_sem] theorem mut_94 : cfg.mutF 94 = false := by rfl
@[go_sem] theorem mut_95 : cfg.mutF 95 = false := by rfl
@[go_sem] theorem mut_96 : cfg.mutF 96 = false := by rfl
@[go_sem] theorem mut_97 : cfg.mutF 97 = false := by rfl
@[go_sem] theorem mut_98 : cfg.mutF 98 = false := by rfl
@[go_sem] theorem mut_99 : cfg.mutF 99 = false := by rfl
@[go_sem] theorem mut_100 : cfg.mutF 100 = false := by rfl
@[go_sem] theorem mut_101 : cfg.mutF 101 = false := by rfl
@[go_sem] theorem mut_102 : cfg.mutF 102 = false := by rfl
@[go_sem] theorem mut_103 : cfg.mutF 103 = true := by rfl
@[go_sem] theorem mut_104 : cfg.mutF 104 = false := by rfl
@[go_sem] theorem mut_105 : cfg.mutF 105 = false := by rfl
@[go_sem] theorem mut_106 : cfg.mutF 106 = false := by rfl
@[go_sem] theorem mut_107 : cfg.mutF 107 = false := by rfl
@[go_sem] theorem mut_108 : cfg.mutF 108 = false := by rfl
@[go_sem] theorem mut_109 : cfg.mutF 109 = false := by rfl
@[go_sem] theorem mut_110 : cfg.mutF 110 = false := by rfl
@[go_sem] theorem mut_111 : cfg.mutF 111 = false := by rfl
@[go_sem] theorem mut_112 : cfg.mutF 112 = false := by rfl
@[go_sem] theorem mut_113 : cfg.mutF 113 = false := by rfl
@[go_sem] theorem mut_114 : cfg.mutF 114 = false := by rfl
@[go_sem] theorem mut_115 : cfg.mutF 115 = false := by rfl
@[go_sem] theorem mut_116 : cfg.mutF 116 = false := by rfl
@[go_sem] theorem mut_117 : cfg.mutF 117 = false := by rfl
@[go_sem] theorem mut_118 : cfg.mutF 118 = false := by rfl
@[go_sem] theorem mut_119 : cfg.mutF 119 = false := by rfl
@[go_sem] theorem mut_120 : cfg.mutF 120 = false := by rfl
@[go_sem] theorem mut_121 : cfg.mutF 121 = true := by rfl
@[go_sem] theorem mut_122 : cfg.mutF 122 = true := by rfl
@[go_sem] theorem mut_123 : cfg.mutF 123 = false := by rfl
@[go_sem] theorem mut_124 : cfg.mutF 124 = true := by rfl
@[go_sem] theorem mut_125 : cfg.mutF 125 = true := by rfl
@[go_sem] theorem mut_126 : cfg.mutF 126 = false := by rfl
@[go_sem] theorem mut_127 : cfg.mutF 127 = false := by rfl
@[go_sem] theorem mut_128 : cfg.mutF 128 = false := by rfl
@[go_sem] theorem mut_129 : cfg.mutF 129 = false := by rfl
@[go_sem] theorem mut_130 : cfg.mutF 130 = false := by rfl
@[go_sem] theorem mut_131 : cfg.mutF 131 = false := by rfl
@[go_sem] theorem mut_132 : cfg.mutF 132 = false := by rfl
@[go_sem] theorem mut_133 : cfg.mutF 133 = false := by rfl
@[go_sem] theorem mut_134 : cfg.mutF 134 = false := by rfl
@[go_sem] theorem mut_135 : cfg.mutF 135 = false := by rfl
@[go_sem] theorem mut_136 : cfg.mutF 136 = true := by rfl
@[go_sem] theorem mut_137 : cfg.mutF 137 = true := by rfl
@[go_sem] theorem mut_138 : cfg.mutF 138 = false := by rfl
@[go_sem] theorem mut_139 : cfg.mutF 139 = false := by rfl
@[go_sem] theorem mut_140 : cfg.mutF 140 = false := by rfl
@[go_sem] theorem mut_141 : cfg.mutF 141 = true := by rfl
@[go_sem] theorem mut_142 : cfg.mutF 142 = false := by rfl
@[go_sem] theorem mut_143 : cfg.mutF 143 = false := by rfl
@[go_sem] theorem mut_144 : cfg.mutF 144 = false := by rfl
@[go_sem] theorem mut_145 : cfg.mutF 145 = true := by rfl
@[go_sem] theorem mut_146 : cfg.mutF 146 = false := by rfl
@[go_sem] theorem mut_147 : cfg.mutF 147 = true := by rfl
@[go_sem] theorem mut_148 : cfg.mutF 148 = true := by rfl
@[go_sem] theorem mut_149 : cfg.mutF 149 = true := by rfl
@[go_sem] theorem mut_150 : cfg.mutF 150 = false := by rfl
@[go_sem] theorem mut_151 : cfg.mutF 151 = false := by rfl
@[go_sem] theorem mut_152 : cfg.mutF 152 = false := by rfl
@[go_sem] theorem mut_153 : cfg.mutF 153 = false := by rfl
@[go_sem] theorem mut_154 : cfg.mutF 154 = false := by rfl
@[go_sem] theorem mut_155 : cfg.mutF 155 = false := by rfl
@[go_sem] theorem mut_156 : cfg.mutF 156 = false := by rfl
@[go_sem] theorem mut_157 : cfg.mutF 157 = false := by rfl
@[go_sem] theorem mut_158 : cfg.mutF 158 = true := by rfl
@[go_sem] theorem mut_159 : cfg.mutF 159 = false := by rfl
@[go_sem] theorem mut_160 : cfg.mutF 160 = false := by rfl
@[go_sem] theorem mut_161 : cfg.mutF 161 = false := by rfl
@[go_sem] theorem mut_162 : cfg.mutF 162 = false := by rfl
@[go_sem] theorem mut_163 : cfg.mutF 163 = false := by rfl
@[go_sem] theorem mut_164 : cfg.mutF 164 = false := by rfl
@[go_sem] theorem mut_165 : cfg.mutF 165 = false := by rfl
@[go_sem] theorem mut_166 : cfg.mutF 166 = false := by rfl
@[go_sem] theorem mut_167 : cfg.mutF 167 = true := by rfl
@[go_sem] theorem mut_168 : cfg.mutF 168 = false := by rfl
@[go_sem] theorem mut_169 : cfg.mutF 169 = false := by rfl
@[go_sem] theorem mut_170 : cfg.mutF 170 = true := by rfl
@[go_sem] theorem mut_171 : cfg.mutF 171 = false := by rfl
@[go_sem] theorem mut_172 : cfg.mutF 172 = false := by rfl
@[go_sem] theorem mut_173 : cfg.mutF 173 = false := by rfl
@[go_sem] theorem mut_174 : cfg.mutF 174 = false := by rfl
@[go_sem] theorem mut_175 : cfg.mutF 175 = false := by rfl
@[go_sem] theorem mut_176 : cfg.mutF 176 = false := by rfl
@[go_sem] theorem mut_177 : cfg.mutF 177 = false := by rfl
@[go_sem] theorem mut_178 : cfg.mutF 178 = false := by rfl
@[go_sem] theorem mut_179 : cfg.mutF 179 = false := by rfl
@[go_sem] theorem mut_180 : cfg.mutF 180 = false := by rfl
@[go_sem] theorem mut_181 : cfg.mutF 181 = false := by rfl
@[go_sem] theorem mut_182 : cfg.mutF 182 = false := by rfl
@[go_sem] theorem mut_183 : cfg.mutF 183 = false := by rfl
@[go_sem] theorem mut_184 : cfg.mutF 184 = false := by rfl
@[go_sem] theorem mut_185 : cfg.mutF 185 = false := by rfl
@[go_sem] theorem mut_186 : cfg.mutF 186 = false := by rfl
@[go_sem] theorem mut_187 : cfg.mutF 187 = false := by rfl
@[go_sem] theorem mut_188 : cfg.mutF 188 = false := by rfl
@[go_sem] theorem mut_189 : cfg.mutF 189 = false := by rfl
@[go_sem] theorem mut_190 : cfg.mutF 190 = false := by rfl
@[go_sem] theorem mut_191 : cfg.mutF 191 = false := by rfl
@[go_sem] theorem mut_192 : cfg.mutF 192 = false := by rfl
@[go_sem] theorem mut_193 : cfg.mutF 193 = false := by rfl
@[go_sem] theorem mut_194 : cfg.mutF 194 = true := by rfl
@[go_sem] theorem mut_195 : cfg.mutF 195 = false := by rfl
@[go_sem] theorem mut_196 : cfg.mutF 196 = false := by rfl
@[go_sem] theorem mut_197 : cfg.mutF 197 = false := by rfl
@[go_sem] theorem mut_198 : cfg.mutF 198 = false := by rfl
@[go_sem] theorem mut_199 : cfg.mutF 199 = false := by rfl
@[go_sem] theorem mut_200 : cfg.mutF 200 = false := by rfl
@[go_sem] theorem mut_201 : cfg.mutF 201 = false := by rfl
@[go_sem] theorem mut_202 : cfg.mutF 202 = false := by rfl
@[go_sem] theorem mut_203 : cfg.mutF 203 = false := by rfl
@[go_sem] theorem mut_204 : cfg.mutF 204 = false := by rfl
@[go_sem] theorem mut_205 : cfg.mutF 205 = false := by rfl
@[go_sem] theorem mut_206 : cfg.mutF 206 = false := by rfl
@[go_sem] theorem mut_207 : cfg.mutF 207 = true := by rfl
@[go_sem] theorem mut_208 : cfg.mutF 208 = true := by rfl
@[go_sem] theorem mut_209 : cfg.mutF 209 = false := by rfl
@[go_sem] theorem mut_210 : cfg.mutF 210 = false := by rfl
@[go_sem] theorem mut_211 : cfg.mutF 211 = false := by rfl
@[go_sem] theorem mut_212 : cfg.mutF 212 = false := by rfl
@[go_sem] theorem mut_213 : cfg.mutF 213 = false := by rfl
@[go_sem] theorem mut_214 : cfg.mutF 214 = false := by rfl
@[go_sem] theorem mut_215 : cfg.mutF 215 = false := by rfl
@[go_sem] theorem mut_216 : cfg.mutF 216 = false := by rfl
@[go_sem] theorem mut_217 : cfg.mutF 217 = false := by rfl
@[go_sem] theorem mut_218 : cfg.mutF 218 = false := by rfl
@[go_sem] theorem mut_219 : cfg.mutF 219 = false := by rfl
@[go_sem] theorem mut_220 : cfg.mutF 220 = false := by rfl
@[go_sem] theorem mut_221 : cfg.mutF 221 = false := by rfl
@[go_sem] theorem mut_222 : cfg.mutF 222 = false := by rfl
@[go_sem] theorem mut_223 : cfg.mutF 223 = false := by rfl
@[go_sem] theorem mut_224 : cfg.mutF 224 = false := by rfl
@[go_sem] theorem mut_225 : cfg.mutF 225 = false := by rfl
@[go_sem] theorem mut_226 : cfg.mutF 226 = false := by rfl
@[go_sem] theorem mut_227 : cfg.mutF 227 = false := by rfl
@[go_sem] theorem mut_228 : cfg.mutF 228 = false := by rfl
@[go_sem] theorem mut_229 : cfg.mutF 229 = false := by rfl
@[go_sem] theorem mut_230 : cfg.mutF 230 = false := by rfl
@[go_sem] theorem mut_231 : cfg.mutF 231 = true := by rfl
@[go_sem] theorem mut_232 : cfg.mutF 232 = false := by rfl
@[go_sem] theorem own_2_0 : cfg.own 2 0 = false := by rfl
@[go_sem] theorem own_3_16 : cfg.own 3 16 = false := by rfl
@[go_sem] theorem own_3_19 : cfg.own 3 19 = false := by rfl
@[go_sem] theorem own_3_24 : cfg.own 3 24 = false := by rfl
@[go_sem] theorem own_3_29 : cfg.own 3 29 = false := by rfl
@[go_sem] theorem own_3_42 : cfg.own 3 42 = false := by rfl
@[go_sem] theorem own_3_53 : cfg.own 3 53 = false := by rfl
@[go_sem] theorem own_3_68 : cfg.own 3 68 = false := by rfl
@[go_sem] theorem own_3_78 : cfg.own 3 78 = false := by rfl
@[go_sem] theorem own_3_81 : cfg.own 3 81 = false := by rfl
@[go_sem] theorem own_3_86 : cfg.own 3 86 = false := by rfl
@[go_sem] theorem own_3_92 : cfg.own 3 92 = false := by rfl
@[go_sem] theorem own_4_20 : cfg.own 4 20 = false := by rfl
@[go_sem] theorem own_4_26 : cfg.own 4 26 = false := by rfl
@[go_sem] theorem own_4_32 : cfg.own 4 32 = false := by rfl
@[go_sem] theorem own_4_37 : cfg.own 4 37 = false := by rfl
@[go_sem] theorem own_4_50 : cfg.own 4 50 = false := by rfl
@[go_sem] theorem own_4_71 : cfg.own 4 71 = false := by rfl
@[go_sem] theorem own_4_78 : cfg.own 4 78 = false := by rfl
@[go_sem] theorem own_4_97 : cfg.own 4 97 = false := by rfl
@[go_sem] theorem own_5_19 : cfg.own 5 19 = false := by rfl
@[go_sem] theorem own_5_25 : cfg.own 5 25 = false := by rfl
@[go_sem] theorem own_5_31 : cfg.own 5 31 = false := by rfl
@[go_sem] theorem own_5_36 : cfg.own 5 36 = false := by rfl
@[go_sem] theorem own_5_49 : cfg.own 5 49 = false := by rfl
@[go_sem] theorem own_5_67 : cfg.own 5 67 = false := by rfl
@[go_sem] theorem own_5_99 : cfg.own 5 99 = false := by rfl
@[go_sem] theorem own_5_105 : cfg.own 5 105 = false := by rfl
@[go_sem] theorem own_5_110 : cfg.own 5 110 = false := by rfl
@[go_sem] theorem own_6_18 : cfg.own 6 18 = false := by rfl
@[go_sem] theorem own_6_20 : cfg.own 6 20 = false := by rfl
@[go_sem] theorem own_6_23 : cfg.own 6 23 = false := by rfl
@[go_sem] theorem own_6_24 : cfg.own 6 24 = false := by rfl
@[go_sem] theorem own_6_28 : cfg.own 6 28 = false := by rfl
@[go_sem] theorem own_6_33 : cfg.own 6 33 = false := by rfl
@[go_sem] theorem own_6_34 : cfg.own 6 34 = false := by rfl
@[go_sem] theorem own_6_61 : cfg.own 6 61 = false := by rfl
@[go_sem] theorem own_6_77 : cfg.own 6 77 = false := by rfl
@[go_sem] theorem own_6_91 : cfg.own 6 91 = false := by rfl
@[go_sem] theorem own_6_99 : cfg.own 6 99 = false := by rfl
@[go_sem] theorem own_7_15 : cfg.own 7 15 = false := by rfl
@[go_sem] theorem own_7_17 : cfg.own 7 17 = false := by rfl
@[go_sem] theorem own_7_20 : cfg.own 7 20 = false := by rfl
@[go_sem] theorem own_7_21 : cfg.own 7 21 = false := by rfl
@[go_sem] theorem own_7_25 : cfg.own 7 25 = false := by rfl
@[go_sem] theorem own_7_30 : cfg.own 7 30 = false := by rfl
@[go_sem] theorem own_7_31 : cfg.own 7 31 = false := by rfl
@[go_sem] theorem own_7_33 : cfg.own 7 33 = false := by rfl
@[go_sem] theorem own_7_54 : cfg.own 7 54 = false := by rfl
@[go_sem] theorem own_7_59 : cfg.own 7 59 = false := by rfl
@[go_sem] theorem own_7_64 : cfg.own 7 64 = false := by rfl
@[go_sem] theorem own_8_13 : cfg.own 8 13 = false := by rfl
@[go_sem] theorem own_8_15 : cfg.own 8 15 = false := by rfl
@[go_sem] theorem own_8_18 : cfg.own 8 18 = false := by rfl
@[go_sem] theorem own_8_19 : cfg.own 8 19 = false := by rfl
@[go_sem] theorem own_8_23 : cfg.own 8 23 = false := by rfl
@[go_sem] theorem own_8_28 : cfg.own 8 28 = false := by rfl
@[go_sem] theorem own_8_29 : cfg.own 8 29 = false := by rfl
@[go_sem] theorem own_8_31 : cfg.own 8 31 = false := by rfl
@[go_sem] theorem own_8_62 : cfg.own 8 62 = false := by rfl
@[go_sem] theorem own_9_13 : cfg.own 9 13 = false := by rfl
@[go_sem] theorem own_9_15 : cfg.own 9 15 = false := by rfl
@[go_sem] theorem own_9_18 : cfg.own 9 18 = false := by rfl
@[go_sem] theorem own_9_19 : cfg.own 9 19 = false := by rfl
@[go_sem] theorem own_9_23 : cfg.own 9 23 = false := by rfl
@[go_sem] theorem own_9_28 : cfg.own 9 28 = false := by rfl
@[go_sem] theorem own_9_29 : cfg.own 9 29 = false := by rfl
@[go_sem] theorem own_9_36 : cfg.own 9 36 = false := by rfl
@[go_sem] theorem own_9_69 : cfg.own 9 69 = false := by rfl
@[go_sem] theorem own_9_85 : cfg.own 9 85 = false := by rfl
@[go_sem] theorem own_10_18 : cfg.own 10 18 = false := by rfl
@[go_sem] theorem own_10_24 : cfg.own 10 24 = false := by rfl
@[go_sem] theorem own_10_30 : cfg.own 10 30 = false := by rfl
@[go_sem] theorem own_10_35 : cfg.own 10 35 = false := by rfl
@[go_sem] theorem own_10_48 : cfg.own 10 48 = false := by rfl
@[go_sem] theorem own_10_57 : cfg.own 10 57 = false := by rfl
@[go_sem] theorem own_10_66 : cfg.own 10 66 = false := by rfl
@[go_sem] theorem own_10_79 : cfg.own 10 79 = false := by rfl
@[go_sem] theorem own_10_85 : cfg.own 10 85 = false := by rfl
@[go_sem] theorem own_11_21 : cfg.own 11 21 = false := by rfl
@[go_sem] theorem own_11_29 : cfg.own 11 29 = false := by rfl
@[go_sem] theorem own_11_36 : cfg.own 11 36 = false := by rfl
@[go_sem] theorem own_11_62 : cfg.own 11 62 = false := by rfl
@[go_sem] theorem own_11_68 : cfg.own 11 68 = false := by rfl
@[go_sem] theorem own_11_77 : cfg.own 11 77 = false := by rfl
@[go_sem] theorem own_12_20 : cfg.own 12 20 = false := by rfl
@[go_sem] theorem own_12_25 : cfg.own 12 25 = false := by rfl
@[go_sem] theorem own_12_28 : cfg.own 12 28 = false := by rfl
@[go_sem] theorem own_12_32 : cfg.own 12 32 = true := by rfl
@[go_sem] theorem own_12_37 : cfg.own 12 37 = true := by rfl
@[go_sem] theorem own_12_42 : cfg.own 12 42 = false := by rfl
@[go_sem] theorem own_12_51 : cfg.own 12 51 = false := by rfl
@[go_sem] theorem own_12_52 : cfg.own 12 52 = false := by rfl
@[go_sem] theorem own_12_56 : cfg.own 12 56 = false := by rfl
@[go_sem] theorem own_12_62 : cfg.own 12 62 = false := by rfl
@[go_sem] theorem own_12_72 : cfg.own 12 72 = false := by rfl
@[go_sem] theorem own_12_75 : cfg.own 12 75 = false := by rfl
@[go_sem] theorem own_12_83 : cfg.own 12 83 = false := by rfl
@[go_sem] theorem own_12_86 : cfg.own 12 86 = true := by rfl
@[go_sem] theorem own_12_91 : cfg.own 12 91 = false := by rfl
@[go_sem] theorem own_12_100 : cfg.own 12 100 = false := by rfl
@[go_sem] theorem own_13_4 : cfg.own 13 4 = false := by rfl
@[go_sem] theorem own_14_11 : cfg.own 14 11 = false := by rfl
@[go_sem] theorem own_14_15 : cfg.own 14 15 = false := by rfl
@[go_sem] theorem own_14_19 : cfg.own 14 19 = false := by rfl
@[go_sem] theorem own_14_36 : cfg.own 14 36 = false := by rfl
@[go_sem] theorem own_14_45 : cfg.own 14 45 = false := by rfl
@[go_sem] theorem own_15_10 : cfg.own 15 10 = false := by rfl
@[go_sem] theorem own_15_14 : cfg.own 15 14 = false := by rfl
@[go_sem] theorem own_15_15 : cfg.own 15 15 = false := by rfl
@[go_sem] theorem own_15_17 : cfg.own 15 17 = false := by rfl
@[go_sem] theorem own_15_41 : cfg.own 15 41 = false := by rfl
@[go_sem] theorem own_15_42 : cfg.own 15 42 = false := by rfl
@[go_sem] theorem own_17_4 : cfg.own 17 4 = false := by rfl
@[go_sem] theorem own_17_7 : cfg.own 17 7 = false := by rfl
@[go_sem] theorem own_18_9 : cfg.own 18 9 = false := by rfl
@[go_sem] theorem own_18_13 : cfg.own 18 13 = false := by rfl
@[go_sem] theorem own_18_19 : cfg.own 18 19 = false := by rfl
@[go_sem] theorem own_19_55 : cfg.own 19 55 = false := by rfl
@[go_sem] theorem own_20_4 : cfg.own 20 4 = false := by rfl
@[go_sem] theorem own_20_9 : cfg.own 20 9 = false := by rfl
@[go_sem] theorem own_21_5 : cfg.own 21 5 = false := by rfl
@[go_sem] theorem own_22_12 : cfg.own 22 12 = false := by rfl
@[go_sem] theorem own_22_19 : cfg.own 22 19 = true := by rfl
@[go_sem] theorem own_22_21 : cfg.own 22 21 = false := by rfl
@[go_sem] theorem own_23_14 : cfg.own 23 14 = false := by rfl
@[go_sem] theorem own_23_48 : cfg.own 23 48 = false := by rfl
@[go_sem] theorem own_24_15 : cfg.own 24 15 = false := by rfl
@[go_sem] theorem own_25_13 : cfg.own 25 13 = false := by rfl
@[go_sem] theorem own_25_19 : cfg.own 25 19 = false := by rfl
@[go_sem] theorem own_26_9 : cfg.own 26 9 = false := by rfl
@[go_sem] theorem own_27_9 : cfg.own 27 9 = false := by rfl
@[go_sem] theorem own_27_12 : cfg.own 27 12 = false := by rfl
@[go_sem] theorem own_27_19 : cfg.own 27 19 = false := by rfl
@[go_sem] theorem own_27_22 : cfg.own 27 22 = false := by rfl
@[go_sem] theorem own_27_23 : cfg.own 27 23 = false := by rfl
@[go_sem] theorem own_28_10 : cfg.own 28 10 = false := by rfl
@[go_sem] theorem own_28_14 : cfg.own 28 14 = false := by rfl
@[go_sem] theorem own_28_26 : cfg.own 28 26 = false := by rfl
@[go_sem] theorem own_28_34 : cfg.own 28 34 = false := by rfl
@[go_sem] theorem own_30_8 : cfg.own 30 8 = false := by rfl
@[go_sem] theorem own_30_13 : cfg.own 30 13 = false := by rfl
@[go_sem] theorem own_32_4 : cfg.own 32 4 = true := by rfl
@[go_sem] theorem own_32_5 : cfg.own 32 5 = false := by rfl
@[go_sem] theorem own_33_8 : cfg.own 33 8 = false := by rfl
@[go_sem] theorem own_33_12 : cfg.own 33 12 = false := by rfl
@[go_sem] theorem own_33_27 : cfg.own 33 27 = false := by rfl
@[go_sem] theorem own_34_25 : cfg.own 34 25 = false := by rfl
@[go_sem] theorem own_35_4 : cfg.own 35 4 = false := by rfl
@[go_sem] theorem own_35_8 : cfg.own 35 8 = false := by rfl
@[go_sem] theorem own_36_7 : cfg.own 36 7 = false := by rfl
@[go_sem] theorem own_36_11 : cfg.own 36 11 = false := by rfl
@[go_sem] theorem own_37_4 : cfg.own 37 4 = true := by rfl
@[go_sem] theorem own_37_5 : cfg.own 37 5 = false := by rfl
@[go_sem] theorem own_38_11 : cfg.own 38 11 = false := by rfl
@[go_sem] theorem own_38_19 : cfg.own 38 19 = false := by rfl
@[go_sem] theorem own_38_27 : cfg.own 38 27 = false := by rfl
@[go_sem] theorem own_39_11 : cfg.own 39 11 = false := by rfl
@[go_sem] theorem own_39_15 : cfg.own 39 15 = false := by rfl
@[go_sem] theorem own_39_28 : cfg.own 39 28 = false := by rfl
@[go_sem] theorem own_39_40 : cfg.own 39 40 = false := by rfl
@[go_sem] theorem own_40_4 : cfg.own 40 4 = false := by rfl
@[go_sem] theorem own_41_8 : cfg.own 41 8 = false := by rfl
@[go_sem] theorem own_42_8 : cfg.own 42 8 = false := by rfl
@[go_sem] theorem own_43_11 : cfg.own 43 11 = false := by rfl
@[go_sem] theorem own_43_14 : cfg.own 43 14 = false := by rfl
@[go_sem] theorem own_43_21 : cfg.own 43 21 = false := by rfl
@[go_sem] theorem own_44_5 : cfg.own 44 5 = false := by rfl
@[go_sem] theorem own_45_10 : cfg.own 45 10 = false := by rfl
@[go_sem] theorem own_45_15 : cfg.own 45 15 = false := by rfl
@[go_sem] theorem own_45_22 : cfg.own 45 22 = false := by rfl
@[go_sem] theorem own_45_29 : cfg.own 45 29 = true := by rfl
@[go_sem] theorem own_45_33 : cfg.own 45 33 = false := by rfl
@[go_sem] theorem own_45_36 : cfg.own 45 36 = false := by rfl
@[go_sem] theorem own_46_8 : cfg.own 46 8 = false := by rfl
@[go_sem] theorem own_46_14 : cfg.own 46 14 = false := by rfl
@[go_sem] theorem own_46_23 : cfg.own 46 23 = false := by rfl
@[go_sem] theorem own_46_26 : cfg.own 46 26 = false := by rfl
@[go_sem] theorem own_47_11 : cfg.own 47 11 = false := by rfl
@[go_sem] theorem own_47_21 : cfg.own 47 21 = true := by rfl
@[go_sem] theorem own_48_15 : cfg.own 48 15 = false := by rfl
@[go_sem] theorem own_48_21 : cfg.own 48 21 = false := by rfl
@[go_sem] theorem own_48_27 : cfg.own 48 27 = false := by rfl
@[go_sem] theorem own_49_6 : cfg.own 49 6 = false := by rfl
@[go_sem] theorem own_50_13 : cfg.own 50 13 = false := by rfl
@[go_sem] theorem own_50_19 : cfg.own 50 19 = false := by rfl
@[go_sem] theorem own_51_11 : cfg.own 51 11 = false := by rfl
@[go_sem] theorem own_51_16 : cfg.own 51 16 = false := by rfl
@[go_sem] theorem own_52_8 : cfg.own 52 8 = false := by rfl
@[go_sem] theorem own_53_18 : cfg.own 53 18 = false := by rfl
@[go_sem] theorem own_53_25 : cfg.own 53 25 = false := by rfl
@[go_sem] theorem own_53_38 : cfg.own 53 38 = false := by rfl
@[go_sem] theorem own_53_55 : cfg.own 53 55 = false := by rfl
@[go_sem] theorem own_54_9 : cfg.own 54 9 = true := by rfl
@[go_sem] theorem own_55_19 : cfg.own 55 19 = false := by rfl
@[go_sem] theorem own_55_25 : cfg.own 55 25 = false := by rfl
@[go_sem] theorem own_55_36 : cfg.own 55 36 = false := by rfl
@[go_sem] theorem own_55_43 : cfg.own 55 43 = false := by rfl
@[go_sem] theorem own_56_25 : cfg.own 56 25 = false := by rfl
@[go_sem] theorem own_57_14 : cfg.own 57 14 = false := by rfl
@[go_sem] theorem own_58_8 : cfg.own 58 8 = false := by rfl
@[go_sem] theorem own_59_17 : cfg.own 59 17 = false := by rfl
@[go_sem] theorem own_60_17 : cfg.own 60 17 = false := by rfl
@[go_sem] theorem own_61_5 : cfg.own 61 5 = true := by rfl
@[go_sem] theorem own_61_10 : cfg.own 61 10 = false := by rfl
@[go_sem] theorem own_61_11 : cfg.own 61 11 = false := by rfl
@[go_sem] theorem own_61_12 : cfg.own 61 12 = false := by rfl
@[go_sem] theorem own_61_13 : cfg.own 61 13 = false := by rfl
@[go_sem] theorem own_62_6 : cfg.own 62 6 = false := by rfl
@[go_sem] theorem own_62_7 : cfg.own 62 7 = false := by rfl
@[go_sem] theorem own_63_7 : cfg.own 63 7 = true := by rfl
@[go_sem] theorem own_64_7 : cfg.own 64 7 = false := by rfl
@[go_sem] theorem own_64_12 : cfg.own 64 12 = false := by rfl
@[go_sem] theorem own_65_11 : cfg.own 65 11 = false := by rfl
@[go_sem] theorem own_65_13 : cfg.own 65 13 = false := by rfl
@[go_sem] theorem own_66_9 : cfg.own 66 9 = false := by rfl
@[go_sem] theorem own_66_14 : cfg.own 66 14 = false := by rfl
@[go_sem] theorem own_66_16 : cfg.own 66 16 = false := by rfl
@[go_sem] theorem own_67_59 : cfg.own 67 59 = false := by rfl
@[go_sem] theorem own_69_11 : cfg.own 69 11 = false := by rfl
@[go_sem] theorem own_69_25 : cfg.own 69 25 = false := by rfl
@[go_sem] theorem own_70_19 : cfg.own 70 19 = false := by rfl
@[go_sem] theorem own_71_23 : cfg.own 71 23 = false := by rfl
@[go_sem] theorem own_73_6 : cfg.own 73 6 = false := by rfl
@[go_sem] theorem own_74_9 : cfg.own 74 9 = false := by rfl
@[go_sem] theorem own_75_6 : cfg.own 75 6 = true := by rfl
@[go_sem] theorem own_75_9 : cfg.own 75 9 = false := by rfl
@[go_sem] theorem own_75_10 : cfg.own 75 10 = false := by rfl
@[go_sem] theorem own_75_13 : cfg.own 75 13 = false := by rfl
@[go_sem] theorem own_76_9 : cfg.own 76 9 = false := by rfl
@[go_sem] theorem own_76_24 : cfg.own 76 24 = false := by rfl
@[go_sem] theorem own_76_31 : cfg.own 76 31 = false := by rfl
@[go_sem] theorem own_77_24 : cfg.own 77 24 = true := by rfl
@[go_sem] theorem own_78_13 : cfg.own 78 13 = false := by rfl
@[go_sem] theorem own_78_34 : cfg.own 78 34 = false := by rfl
@[go_sem] theorem own_78_46 : cfg.own 78 46 = false := by rfl
@[go_sem] theorem own_80_9 : cfg.own 80 9 = false := by rfl
@[go_sem] theorem own_80_13 : cfg.own 80 13 = false := by rfl
@[go_sem] theorem own_81_22 : cfg.own 81 22 = false := by rfl
@[go_sem] theorem own_81_29 : cfg.own 81 29 = false := by rfl
@[go_sem] theorem own_82_10 : cfg.own 82 10 = true := by rfl
@[go_sem] theorem own_82_12 : cfg.own 82 12 = false := by rfl
@[go_sem] theorem own_82_26 : cfg.own 82 26 = false := by rfl
@[go_sem] theorem own_82_35 : cfg.own 82 35 = false := by rfl
@[go_sem] theorem own_82_39 : cfg.own 82 39 = false := by rfl
@[go_sem] theorem own_82_43 : cfg.own 82 43 = false := by rfl
@[go_sem] theorem own_82_46 : cfg.own 82 46 = false := by rfl
@[go_sem] theorem own_83_6 : cfg.own 83 6 = false := by rfl
@[go_sem] theorem own_83_10 : cfg.own 83 10 = false := by rfl
@[go_sem] theorem own_84_49 : cfg.own 84 49 = false := by rfl
@[go_sem] theorem own_84_70 : cfg.own 84 70 = false := by rfl
@[go_sem] theorem own_84_73 : cfg.own 84 73 = false := by rfl
@[go_sem] theorem own_85_22 : cfg.own 85 22 = false := by rfl
@[go_sem] theorem own_85_24 : cfg.own 85 24 = false := by rfl
@[go_sem] theorem own_85_25 : cfg.own 85 25 = false := by rfl
@[go_sem] theorem own_88_6 : cfg.own 88 6 = false := by rfl
@[go_sem] theorem own_88_11 : cfg.own 88 11 = false := by rfl
@[go_sem] theorem own_89_10 : cfg.own 89 10 = false := by rfl
@[go_sem] theorem own_92_7 : cfg.own 92 7 = false := by rfl
@[go_sem] theorem own_93_10 : cfg.own 93 10 = false := by rfl
@[go_sem] theorem own_93_19 : cfg.own 93 19 = false := by rfl
@[go_sem] theorem own_93_25 : cfg.own 93 25 = false := by rfl
@[go_sem] theorem own_93_27 : cfg.own 93 27 = false := by rfl
@[go_sem] theorem own_93_28 : cfg.own 93 28 = false := by rfl
@[go_sem] theorem own_93_32 : cfg.own 93 32 = false := by rfl
@[go_sem] theorem own_93_40 : cfg.own 93 40 = false := by rfl
@[go_sem] theorem own_93_44 : cfg.own 93 44 = false := by rfl
@[go_sem] theorem own_93_53 : cfg.own 93 53 = false := by rfl
@[go_sem] theorem own_93_54 : cfg.own 93 54 = false := by rfl
@[go_sem] theorem own_93_61 : cfg.own 93 61 = false := by rfl
@[go_sem] theorem own_93_62 : cfg.own 93 62 = false := by rfl
@[go_sem] theorem own_93_66 : cfg.own 93 66 = false := by rfl
@[go_sem] theorem own_95_9 : cfg.own 95 9 = false := by rfl
@[go_sem] theorem own_95_10 : cfg.own 95 10 = false := by rfl
@[go_sem] theorem own_95_13 : cfg.own 95 13 = false := by rfl
@[go_sem] theorem own_95_16 : cfg.own 95 16 = false := by rfl
@[go_sem] theorem own_96_10 : cfg.own 96 10 = false := by rfl
@[go_sem] theorem own_96_13 : cfg.own 96 13 = false := by rfl
@[go_sem] theorem own_96_28 : cfg.own 96 28 = false := by rfl
@[go_sem] theorem own_97_4 : cfg.own 97 4 = false := by rfl
@[go_sem] theorem own_97_8 : cfg.own 97 8 = false := by rfl
@[go_sem] theorem own_98_30 : cfg.own 98 30 = false := by rfl
@[go_sem] theorem own_99_39 : cfg.own 99 39 = false := by rfl
@[go_sem] theorem own_100_9 : cfg.own 100 9 = true := by rfl
@[go_sem] theorem own_100_11 : cfg.own 100 11 = false := by rfl
@[go_sem] theorem own_100_18 : cfg.own 100 18 = false := by rfl
@[go_sem] theorem own_100_23 : cfg.own 100 23 = false := by rfl
@[go_sem] theorem own_100_30 : cfg.own 100 30 = false := by rfl
@[go_sem] theorem own_100_34 : cfg.own 100 34 = false := by rfl
@[go_sem] theorem own_100_39 : cfg.own 100 39 = false := by rfl
@[go_sem] theorem own_100_42 : cfg.own 100 42 = false := by rfl
@[go_sem] theorem own_100_47 : cfg.own 100 47 = false := by rfl
@[go_sem] theorem own_100_51 : cfg.own 100 51 = false := by rfl
@[go_sem] theorem own_100_54 : cfg.own 100 54 = false := by rfl
@[go_sem] theorem own_100_57 : cfg.own 100 57 = false := by rfl
@[go_sem] theorem own_101_8 : cfg.own 101 8 = false := by rfl
@[go_sem] theorem own_102_30 : cfg.own 102 30 = false := by rfl
@[go_sem] theorem own_102_46 : cfg.own 102 46 = false := by rfl
@[go_sem] theorem own_103_67 : cfg.own 103 67 = false := by rfl
@[go_sem] theorem own_103_93 : cfg.own 103 93 = false := by rfl
@[go_sem] theorem own_105_8 : cfg.own 105 8 = false := by rfl
@[go_sem] theorem own_105_13 : cfg.own 105 13 = false := by rfl
@[go_sem] theorem own_106_13 : cfg.own 106 13 = true := by rfl
@[go_sem] theorem own_106_29 : cfg.own 106 29 = false := by rfl
@[go_sem] theorem own_107_37 : cfg.own 107 37 = false := by rfl
@[go_sem] theorem own_108_10 : cfg.own 108 10 = true := by rfl
@[go_sem] theorem own_108_12 : cfg.own 108 12 = false := by rfl
@[go_sem] theorem own_108_16 : cfg.own 108 16 = false := by rfl
@[go_sem] theorem own_108_20 : cfg.own 108 20 = false := by rfl
@[go_sem] theorem own_108_22 : cfg.own 108 22 = false := by rfl
@[go_sem] theorem own_108_26 : cfg.own 108 26 = false := by rfl
@[go_sem] theorem own_108_30 : cfg.own 108 30 = false := by rfl
@[go_sem] theorem own_108_37 : cfg.own 108 37 = false := by rfl
@[go_sem] theorem own_109_9 : cfg.own 109 9 = false := by rfl
@[go_sem] theorem own_109_13 : cfg.own 109 13 = false := by rfl
@[go_sem] theorem own_110_18 : cfg.own 110 18 = false := by rfl
@[go_sem] theorem own_110_38 : cfg.own 110 38 = false := by rfl
@[go_sem] theorem own_113_53 : cfg.own 113 53 = false := by rfl
@[go_sem] theorem own_115_20 : cfg.own 115 20 = false := by rfl
@[go_sem] theorem own_116_16 : cfg.own 116 16 = true := by rfl
@[go_sem] theorem own_116_34 : cfg.own 116 34 = false := by rfl
@[go_sem] theorem own_116_52 : cfg.own 116 52 = false := by rfl
@[go_sem] theorem own_118_28 : cfg.own 118 28 = false := by rfl
@[go_sem] theorem own_120_25 : cfg.own 120 25 = false := by rfl
@[go_sem] theorem own_124_8 : cfg.own 124 8 = true := by rfl
@[go_sem] theorem own_124_10 : cfg.own 124 10 = false := by rfl
@[go_sem] theorem own_124_23 : cfg.own 124 23 = false := by rfl
@[go_sem] theorem own_124_25 : cfg.own 124 25 = false := by rfl
@[go_sem] theorem own_124_33 : cfg.own 124 33 = false := by rfl
@[go_sem] theorem own_124_40 : cfg.own 124 40 = false := by rfl
@[go_sem] theorem own_125_10 : cfg.own 125 10 = false := by rfl
@[go_sem] theorem own_125_19 : cfg.own 125 19 = false := by rfl
@[go_sem] theorem own_125_25 : cfg.own 125 25 = false := by rfl
@[go_sem] theorem own_125_27 : cfg.own 125 27 = false := by rfl
@[go_sem] theorem own_125_28 : cfg.own 125 28 = false := by rfl
@[go_sem] theorem own_125_32 : cfg.own 125 32 = false := by rfl
@[go_sem] theorem own_125_40 : cfg.own 125 40 = false := by rfl
@[go_sem] theorem own_125_44 : cfg.own 125 44 = false := by rfl
@[go_sem] theorem own_125_53 : cfg.own 125 53 = false := by rfl
@[go_sem] theorem own_125_54 : cfg.own 125 54 = false := by rfl
@[go_sem] theorem own_125_61 : cfg.own 125 61 = false := by rfl
@[go_sem] theorem own_125_62 : cfg.own 125 62 = false := by rfl
@[go_sem] theorem own_126_9 : cfg.own 126 9 = true := by rfl
@[go_sem] theorem own_126_11 : cfg.own 126 11 = false := by rfl
@[go_sem] theorem own_128_6 : cfg.own 128 6 = false := by rfl
@[go_sem] theorem own_129_7 : cfg.own 129 7 = false := by rfl
@[go_sem] theorem own_130_30 : cfg.own 130 30 = false := by rfl
@[go_sem] theorem own_130_37 : cfg.own 130 37 = false := by rfl
@[go_sem] theorem own_130_44 : cfg.own 130 44 = false := by rfl
@[go_sem] theorem own_130_52 : cfg.own 130 52 = false := by rfl
@[go_sem] theorem own_130_61 : cfg.own 130 61 = false := by rfl
@[go_sem] theorem own_130_80 : cfg.own 130 80 = false := by rfl
@[go_sem] theorem own_130_94 : cfg.own 130 94 = false := by rfl
@[go_sem] theorem own_130_103 : cfg.own 130 103 = false := by rfl
@[go_sem] theorem own_130_111 : cfg.own 130 111 = false := by rfl
@[go_sem] theorem own_130_134 : cfg.own 130 134 = false := by rfl
@[go_sem] theorem own_130_146 : cfg.own 130 146 = false := by rfl
@[go_sem] theorem own_131_5 : cfg.own 131 5 = false := by rfl
@[go_sem] theorem own_131_7 : cfg.own 131 7 = false := by rfl
@[go_sem] theorem own_133_8 : cfg.own 133 8 = false := by rfl
@[go_sem] theorem own_133_10 : cfg.own 133 10 = false := by rfl
@[go_sem] theorem own_135_10 : cfg.own 135 10 = false := by rfl
@[go_sem] theorem own_135_16 : cfg.own 135 16 = false := by rfl
@[go_sem] theorem own_136_9 : cfg.own 136 9 = false := by rfl
@[go_sem] theorem own_136_13 : cfg.own 136 13 = false := by rfl
@[go_sem] theorem own_136_21 : cfg.own 136 21 = false := by rfl
@[go_sem] theorem own_136_25 : cfg.own 136 25 = false := by rfl
@[go_sem] theorem own_136_34 : cfg.own 136 34 = false := by rfl
@[go_sem] theorem own_136_35 : cfg.own 136 35 = false := by rfl
@[go_sem] theorem own_136_42 : cfg.own 136 42 = false := by rfl
@[go_sem] theorem own_136_43 : cfg.own 136 43 = false := by rfl
@[go_sem] theorem own_137_9 : cfg.own 137 9 = false := by rfl
@[go_sem] theorem own_138_21 : cfg.own 138 21 = false := by rfl
@[go_sem] theorem own_139_6 : cfg.own 139 6 = false := by rfl
@[go_sem] theorem own_140_7 : cfg.own 140 7 = false := by rfl
@[go_sem] theorem own_142_27 : cfg.own 142 27 = false := by rfl
@[go_sem] theorem own_147_9 : cfg.own 147 9 = false := by rfl
@[go_sem] theorem own_147_10 : cfg.own 147 10 = false := by rfl
@[go_sem] theorem own_150_54 : cfg.own 150 54 = false := by rfl
@[go_sem] theorem own_152_7 : cfg.own 152 7 = false := by rfl
@[go_sem] theorem own_154_22 : cfg.own 154 22 = false := by rfl
@[go_sem] theorem own_154_23 : cfg.own 154 23 = false := by rfl
@[go_sem] theorem own_156_9 : cfg.own 156 9 = false := by rfl
@[go_sem] theorem own_157_14 : cfg.own 157 14 = false := by rfl
@[go_sem] theorem own_157_19 : cfg.own 157 19 = false := by rfl
@[go_sem] theorem own_157_32 : cfg.own 157 32 = false := by rfl
@[go_sem] theorem own_158_38 : cfg.own 158 38 = false := by rfl
@[go_sem] theorem own_158_57 : cfg.own 158 57 = false := by rfl
@[go_sem] theorem own_160_9 : cfg.own 160 9 = false := by rfl
@[go_sem] theorem own_161_18 : cfg.own 161 18 = false := by rfl
@[go_sem] theorem own_162_6 : cfg.own 162 6 = false := by rfl
@[go_sem] theorem own_163_39 : cfg.own 163 39 = false := by rfl
@[go_sem] theorem own_163_61 : cfg.own 163 61 = false := by rfl
@[go_sem] theorem own_164_11 : cfg.own 164 11 = false := by rfl
@[go_sem] theorem own_164_15 : cfg.own 164 15 = true := by rfl
@[go_sem] theorem own_164_19 : cfg.own 164 19 = true := by rfl
@[go_sem] theorem own_170_10 : cfg.own 170 10 = false := by rfl
@[go_sem] theorem own_170_28 : cfg.own 170 28 = false := by rfl
@[go_sem] theorem own_172_32 : cfg.own 172 32 = false := by rfl
@[go_sem] theorem own_173_29 : cfg.own 173 29 = false := by rfl
@[go_sem] theorem own_173_59 : cfg.own 173 59 = false := by rfl
@[go_sem] theorem own_174_21 : cfg.own 174 21 = false := by rfl
@[go_sem] theorem own_174_38 : cfg.own 174 38 = false := by rfl
@[go_sem] theorem own_175_40 : cfg.own 175 40 = false := by rfl
@[go_sem] theorem own_175_44 : cfg.own 175 44 = false := by rfl
@[go_sem] theorem own_175_48 : cfg.own 175 48 = false := by rfl
@[go_sem] theorem own_175_54 : cfg.own 175 54 = false := by rfl
@[go_sem] theorem own_177_33 : cfg.own 177 33 = false := by rfl
@[go_sem] theorem own_177_82 : cfg.own 177 82 = false := by rfl
@[go_sem] theorem own_177_122 : cfg.own 177 122 = false := by rfl
@[go_sem] theorem own_178_44 : cfg.own 178 44 = false := by rfl
@[go_sem] theorem own_178_63 : cfg.own 178 63 = false := by rfl
@[go_sem] theorem own_179_45 : cfg.own 179 45 = false := by rfl
@[go_sem] theorem own_179_63 : cfg.own 179 63 = false := by rfl
@[go_sem] theorem own_179_118 : cfg.own 179 118 = false := by rfl
@[go_sem] theorem own_179_136 : cfg.own 179 136 = false := by rfl
@[go_sem] theorem own_183_27 : cfg.own 183 27 = false := by rfl
@[go_sem] theorem own_183_33 : cfg.own 183 33 = false := by rfl
@[go_sem] theorem own_183_39 : cfg.own 183 39 = false := by rfl
@[go_sem] theorem own_183_46 : cfg.own 183 46 = false := by rfl
@[go_sem] theorem own_183_54 : cfg.own 183 54 = false := by rfl
@[go_sem] theorem own_183_72 : cfg.own 183 72 = false := by rfl
@[go_sem] theorem own_183_85 : cfg.own 183 85 = false := by rfl
@[go_sem] theorem own_183_92 : cfg.own 183 92 = false := by rfl
@[go_sem] theorem own_183_99 : cfg.own 183 99 = false := by rfl
@[go_sem] theorem own_183_121 : cfg.own 183 121 = false := by rfl
@[go_sem] theorem own_183_132 : cfg.own 183 132 = false := by rfl
@[go_sem] theorem own_184_18 : cfg.own 184 18 = false := by rfl
@[go_sem] theorem own_184_21 : cfg.own 184 21 = false := by rfl
@[go_sem] theorem own_184_36 : cfg.own 184 36 = false := by rfl
@[go_sem] theorem own_184_39 : cfg.own 184 39 = false := by rfl
@[go_sem] theorem own_185_16 : cfg.own 185 16 = false := by rfl
@[go_sem] theorem own_186_33 : cfg.own 186 33 = false := by rfl
@[go_sem] theorem own_188_13 : cfg.own 188 13 = false := by rfl
@[go_sem] theorem own_189_7 : cfg.own 189 7 = false := by rfl
@[go_sem] theorem own_189_11 : cfg.own 189 11 = false := by rfl
@[go_sem] theorem own_189_13 : cfg.own 189 13 = false := by rfl
@[go_sem] theorem own_190_15 : cfg.own 190 15 = false := by rfl
@[go_sem] theorem own_190_25 : cfg.own 190 25 = false := by rfl
@[go_sem] theorem own_191_16 : cfg.own 191 16 = false := by rfl
@[go_sem] theorem own_192_38 : cfg.own 192 38 = false := by rfl
@[go_sem] theorem own_192_56 : cfg.own 192 56 = false := by rfl
@[go_sem] theorem own_193_5 : cfg.own 193 5 = false := by rfl
@[go_sem] theorem own_195_17 : cfg.own 195 17 = false := by rfl
@[go_sem] theorem own_196_19 : cfg.own 196 19 = false := by rfl
@[go_sem] theorem own_196_28 : cfg.own 196 28 = false := by rfl
@[go_sem] theorem own_196_37 : cfg.own 196 37 = false := by rfl
@[go_sem] theorem own_197_29 : cfg.own 197 29 = false := by rfl
@[go_sem] theorem own_198_26 : cfg.own 198 26 = false := by rfl
@[go_sem] theorem own_198_55 : cfg.own 198 55 = false := by rfl
@[go_sem] theorem own_199_19 : cfg.own 199 19 = false := by rfl
@[go_sem] theorem own_199_36 : cfg.own 199 36 = false := by rfl
@[go_sem] theorem own_200_37 : cfg.own 200 37 = false := by rfl
@[go_sem] theorem own_200_40 : cfg.own 200 40 = false := by rfl
@[go_sem] theorem own_200_43 : cfg.own 200 43 = false := by rfl
@[go_sem] theorem own_200_48 : cfg.own 200 48 = false := by rfl
@[go_sem] theorem own_202_30 : cfg.own 202 30 = false := by rfl
@[go_sem] theorem own_202_77 : cfg.own 202 77 = false := by rfl
@[go_sem] theorem own_202_115 : cfg.own 202 115 = false := by rfl
@[go_sem] theorem own_203_6 : cfg.own 203 6 = false := by rfl
@[go_sem] theorem own_203_9 : cfg.own 203 9 = false := by rfl
@[go_sem] theorem own_204_41 : cfg.own 204 41 = false := by rfl
@[go_sem] theorem own_204_58 : cfg.own 204 58 = false := by rfl
@[go_sem] theorem own_205_42 : cfg.own 205 42 = false := by rfl
@[go_sem] theorem own_205_58 : cfg.own 205 58 = false := by rfl
@[go_sem] theorem own_205_111 : cfg.own 205 111 = false := by rfl
@[go_sem] theorem own_205_127 : cfg.own 205 127 = false := by rfl
@[go_sem] theorem own_207_33 : cfg.own 207 33 = false := by rfl
@[go_sem] theorem own_207_64 : cfg.own 207 64 = false := by rfl
@[go_sem] theorem own_211_21 : cfg.own 211 21 = false := by rfl
@[go_sem] theorem own_212_35 : cfg.own 212 35 = false := by rfl
@[go_sem] theorem own_212_51 : cfg.own 212 51 = false := by rfl
@[go_sem] theorem own_213_14 : cfg.own 213 14 = false := by rfl
@[go_sem] theorem own_214_16 : cfg.own 214 16 = false := by rfl
@[go_sem] theorem own_214_24 : cfg.own 214 24 = false := by rfl
@[go_sem] theorem own_214_32 : cfg.own 214 32 = false := by rfl
@[go_sem] theorem own_215_18 : cfg.own 215 18 = false := by rfl
end Go.Proofs.Ytbaholclcfpknaa.X
