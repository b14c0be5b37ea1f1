/- How this program's calls are taken. -/
import Derived.Test.YtagpdfbgimnljaaTab
import Derived.Test.YtagpdfbgimnljaaPrim
namespace Go.Proofs.Ytagpdfbgimnljaa.X
open Go Go.Proofs
def cfg : Cfg where
  mutF f := mutL.contains f
  own me d := ownL.contains (me, d)
  prim f := if f = 96 then some (insP 1) else if f = 97 then some (cloneP) else if f = 98 then some (insP 1) else if f = 99 then some (cloneP) else if f = 138 then some (sortFP 139) else if f = 140 then some (sortP) else if f = 161 then some (insP 2) else if f = 162 then some (cloneP) else if f = 224 then some (mulP) else none
  give me d := if me = 62 then d == 5 else false
@[go_sem] theorem give_0 (d : Nat) : cfg.give 0 d = false := by rfl
@[go_sem] theorem give_1 (d : Nat) : cfg.give 1 d = false := by rfl
@[go_sem] theorem give_2 (d : Nat) : cfg.give 2 d = false := by rfl
@[go_sem] theorem give_3 (d : Nat) : cfg.give 3 d = false := by rfl
@[go_sem] theorem give_4 (d : Nat) : cfg.give 4 d = false := by rfl
@[go_sem] theorem give_5 (d : Nat) : cfg.give 5 d = false := by rfl
@[go_sem] theorem give_6 (d : Nat) : cfg.give 6 d = false := by rfl
@[go_sem] theorem give_7 (d : Nat) : cfg.give 7 d = false := by rfl
@[go_sem] theorem give_8 (d : Nat) : cfg.give 8 d = false := by rfl
@[go_sem] theorem give_9 (d : Nat) : cfg.give 9 d = false := by rfl
@[go_sem] theorem give_10 (d : Nat) : cfg.give 10 d = false := by rfl
@[go_sem] theorem give_11 (d : Nat) : cfg.give 11 d = false := by rfl
@[go_sem] theorem give_12 (d : Nat) : cfg.give 12 d = false := by rfl
@[go_sem] theorem give_13 (d : Nat) : cfg.give 13 d = false := by rfl
@[go_sem] theorem give_14 (d : Nat) : cfg.give 14 d = false := by rfl
@[go_sem] theorem give_15 (d : Nat) : cfg.give 15 d = false := by rfl
@[go_sem] theorem give_16 (d : Nat) : cfg.give 16 d = false := by rfl
@[go_sem] theorem give_17 (d : Nat) : cfg.give 17 d = false := by rfl
@[go_sem] theorem give_18 (d : Nat) : cfg.give 18 d = false := by rfl
@[go_sem] theorem give_19 (d : Nat) : cfg.give 19 d = false := by rfl
@[go_sem] theorem give_20 (d : Nat) : cfg.give 20 d = false := by rfl
@[go_sem] theorem give_21 (d : Nat) : cfg.give 21 d = false := by rfl
@[go_sem] theorem give_22 (d : Nat) : cfg.give 22 d = false := by rfl
@[go_sem] theorem give_23 (d : Nat) : cfg.give 23 d = false := by rfl
@[go_sem] theorem give_24 (d : Nat) : cfg.give 24 d = false := by rfl
@[go_sem] theorem give_25 (d : Nat) : cfg.give 25 d = false := by rfl
@[go_sem] theorem give_26 (d : Nat) : cfg.give 26 d = false := by rfl
@[go_sem] theorem give_27 (d : Nat) : cfg.give 27 d = false := by rfl
@[go_sem] theorem give_28 (d : Nat) : cfg.give 28 d = false := by rfl
@[go_sem] theorem give_29 (d : Nat) : cfg.give 29 d = false := by rfl
@[go_sem] theorem give_30 (d : Nat) : cfg.give 30 d = false := by rfl
@[go_sem] theorem give_31 (d : Nat) : cfg.give 31 d = false := by rfl
@[go_sem] theorem give_32 (d : Nat) : cfg.give 32 d = false := by rfl
@[go_sem] theorem give_33 (d : Nat) : cfg.give 33 d = false := by rfl
@[go_sem] theorem give_34 (d : Nat) : cfg.give 34 d = false := by rfl
@[go_sem] theorem give_35 (d : Nat) : cfg.give 35 d = false := by rfl
@[go_sem] theorem give_36 (d : Nat) : cfg.give 36 d = false := by rfl
@[go_sem] theorem give_37 (d : Nat) : cfg.give 37 d = false := by rfl
@[go_sem] theorem give_38 (d : Nat) : cfg.give 38 d = false := by rfl
@[go_sem] theorem give_39 (d : Nat) : cfg.give 39 d = false := by rfl
@[go_sem] theorem give_40 (d : Nat) : cfg.give 40 d = false := by rfl
@[go_sem] theorem give_41 (d : Nat) : cfg.give 41 d = false := by rfl
@[go_sem] theorem give_42 (d : Nat) : cfg.give 42 d = false := by rfl
@[go_sem] theorem give_43 (d : Nat) : cfg.give 43 d = false := by rfl
@[go_sem] theorem give_44 (d : Nat) : cfg.give 44 d = false := by rfl
@[go_sem] theorem give_45 (d : Nat) : cfg.give 45 d = false := by rfl
@[go_sem] theorem give_46 (d : Nat) : cfg.give 46 d = false := by rfl
@[go_sem] theorem give_47 (d : Nat) : cfg.give 47 d = false := by rfl
@[go_sem] theorem give_48 (d : Nat) : cfg.give 48 d = false := by rfl
@[go_sem] theorem give_49 (d : Nat) : cfg.give 49 d = false := by rfl
@[go_sem] theorem give_50 (d : Nat) : cfg.give 50 d = false := by rfl
@[go_sem] theorem give_51 (d : Nat) : cfg.give 51 d = false := by rfl
@[go_sem] theorem give_52 (d : Nat) : cfg.give 52 d = false := by rfl
@[go_sem] theorem give_53 (d : Nat) : cfg.give 53 d = false := by rfl
@[go_sem] theorem give_54 (d : Nat) : cfg.give 54 d = false := by rfl
@[go_sem] theorem give_55 (d : Nat) : cfg.give 55 d = false := by rfl
@[go_sem] theorem give_56 (d : Nat) : cfg.give 56 d = false := by rfl
@[go_sem] theorem give_57 (d : Nat) : cfg.give 57 d = false := by rfl
@[go_sem] theorem give_58 (d : Nat) : cfg.give 58 d = false := by rfl
@[go_sem] theorem give_59 (d : Nat) : cfg.give 59 d = false := by rfl
@[go_sem] theorem give_60 (d : Nat) : cfg.give 60 d = false := by rfl
@[go_sem] theorem give_61 (d : Nat) : cfg.give 61 d = false := by rfl
@[go_sem] theorem give_62 (d : Nat) : cfg.give 62 d = (d == 5) := by rfl
@[go_sem] theorem give_63 (d : Nat) : cfg.give 63 d = false := by rfl
@[go_sem] theorem give_64 (d : Nat) : cfg.give 64 d = false := by rfl
@[go_sem] theorem give_65 (d : Nat) : cfg.give 65 d = false := by rfl
@[go_sem] theorem give_66 (d : Nat) : cfg.give 66 d = false := by rfl
@[go_sem] theorem give_67 (d : Nat) : cfg.give 67 d = false := by rfl
@[go_sem] theorem give_68 (d : Nat) : cfg.give 68 d = false := by rfl
@[go_sem] theorem give_69 (d : Nat) : cfg.give 69 d = false := by rfl
@[go_sem] theorem give_70 (d : Nat) : cfg.give 70 d = false := by rfl
@[go_sem] theorem give_71 (d : Nat) : cfg.give 71 d = false := by rfl
@[go_sem] theorem give_72 (d : Nat) : cfg.give 72 d = false := by rfl
@[go_sem] theorem give_73 (d : Nat) : cfg.give 73 d = false := by rfl
@[go_sem] theorem give_74 (d : Nat) : cfg.give 74 d = false := by rfl
@[go_sem] theorem give_75 (d : Nat) : cfg.give 75 d = false := by rfl
@[go_sem] theorem give_76 (d : Nat) : cfg.give 76 d = false := by rfl
@[go_sem] theorem give_77 (d : Nat) : cfg.give 77 d = false := by rfl
@[go_sem] theorem give_78 (d : Nat) : cfg.give 78 d = false := by rfl
@[go_sem] theorem give_79 (d : Nat) : cfg.give 79 d = false := by rfl
@[go_sem] theorem give_80 (d : Nat) : cfg.give 80 d = false := by rfl
@[go_sem] theorem give_81 (d : Nat) : cfg.give 81 d = false := by rfl
@[go_sem] theorem give_82 (d : Nat) : cfg.give 82 d = false := by rfl
@[go_sem] theorem give_83 (d : Nat) : cfg.give 83 d = false := by rfl
@[go_sem] theorem give_84 (d : Nat) : cfg.give 84 d = false := by rfl
@[go_sem] theorem give_85 (d : Nat) : cfg.give 85 d = false := by rfl
@[go_sem] theorem give_86 (d : Nat) : cfg.give 86 d = false := by rfl
@[go_sem] theorem give_87 (d : Nat) : cfg.give 87 d = false := by rfl
@[go_sem] theorem give_88 (d : Nat) : cfg.give 88 d = false := by rfl
@[go_sem] theorem give_89 (d : Nat) : cfg.give 89 d = false := by rfl
@[go_sem] theorem give_90 (d : Nat) : cfg.give 90 d = false := by rfl
@[go_sem] theorem give_91 (d : Nat) : cfg.give 91 d = false := by rfl
@[go_sem] theorem give_92 (d : Nat) : cfg.give 92 d = false := by rfl
@[go_sem] theorem give_93 (d : Nat) : cfg.give 93 d = false := by rfl
@[go_sem] theorem give_94 (d : Nat) : cfg.give 94 d = false := by rfl
@[go_sem] theorem give_95 (d : Nat) : cfg.give 95 d = false := by rfl
@[go_sem] theorem give_96 (d : Nat) : cfg.give 96 d = false := by rfl
@[go_sem] theorem give_97 (d : Nat) : cfg.give 97 d = false := by rfl
@[go_sem] theorem give_98 (d : Nat) : cfg.give 98 d = false := by rfl
@[go_sem] theorem give_99 (d : Nat) : cfg.give 99 d = false := by rfl
@[go_sem] theorem give_100 (d : Nat) : cfg.give 100 d = false := by rfl
@[go_sem] theorem give_101 (d : Nat) : cfg.give 101 d = false := by rfl
@[go_sem] theorem give_102 (d : Nat) : cfg.give 102 d = false := by rfl
@[go_sem] theorem give_103 (d : Nat) : cfg.give 103 d = false := by rfl
@[go_sem] theorem give_104 (d : Nat) : cfg.give 104 d = false := by rfl
@[go_sem] theorem give_105 (d : Nat) : cfg.give 105 d = false := by rfl
@[go_sem] theorem give_106 (d : Nat) : cfg.give 106 d = false := by rfl
@[go_sem] theorem give_107 (d : Nat) : cfg.give 107 d = false := by rfl
@[go_sem] theorem give_108 (d : Nat) : cfg.give 108 d = false := by rfl
@[go_sem] theorem give_109 (d : Nat) : cfg.give 109 d = false := by rfl
@[go_sem] theorem give_110 (d : Nat) : cfg.give 110 d = false := by rfl
@[go_sem] theorem give_111 (d : Nat) : cfg.give 111 d = false := by rfl
@[go_sem] theorem give_112 (d : Nat) : cfg.give 112 d = false := by rfl
@[go_sem] theorem give_113 (d : Nat) : cfg.give 113 d = false := by rfl
@[go_sem] theorem give_114 (d : Nat) : cfg.give 114 d = false := by rfl
@[go_sem] theorem give_115 (d : Nat) : cfg.give 115 d = false := by rfl
@[go_sem] theorem give_116 (d : Nat) : cfg.give 116 d = false := by rfl
@[go_sem] theorem give_117 (d : Nat) : cfg.give 117 d = false := by rfl
@[go_sem] theorem give_118 (d : Nat) : cfg.give 118 d = false := by rfl
@[go_sem] theorem give_119 (d : Nat) : cfg.give 119 d = false := by rfl
@[go_sem] theorem give_120 (d : Nat) : cfg.give 120 d = false := by rfl
@[go_sem] theorem give_121 (d : Nat) : cfg.give 121 d = false := by rfl
@[go_sem] theorem give_122 (d : Nat) : cfg.give 122 d = false := by rfl
@[go_sem] theorem give_123 (d : Nat) : cfg.give 123 d = false := by rfl
@[go_sem] theorem give_124 (d : Nat) : cfg.give 124 d = false := by rfl
@[go_sem] theorem give_125 (d : Nat) : cfg.give 125 d = false := by rfl
@[go_sem] theorem give_126 (d : Nat) : cfg.give 126 d = false := by rfl
@[go_sem] theorem give_127 (d : Nat) : cfg.give 127 d = false := by rfl
@[go_sem] theorem give_128 (d : Nat) : cfg.give 128 d = false := by rfl
@[go_sem] theorem give_129 (d : Nat) : cfg.give 129 d = false := by rfl
@[go_sem] theorem give_130 (d : Nat) : cfg.give 130 d = false := by rfl
@[go_sem] theorem give_131 (d : Nat) : cfg.give 131 d = false := by rfl
@[go_sem] theorem give_132 (d : Nat) : cfg.give 132 d = false := by rfl
@[go_sem] theorem give_133 (d : Nat) : cfg.give 133 d = false := by rfl
@[go_sem] theorem give_134 (d : Nat) : cfg.give 134 d = false := by rfl
@[go_sem] theorem give_135 (d : Nat) : cfg.give 135 d = false := by rfl
@[go_sem] theorem give_136 (d : Nat) : cfg.give 136 d = false := by rfl
@[go_sem] theorem give_137 (d : Nat) : cfg.give 137 d = false := by rfl
@[go_sem] theorem give_138 (d : Nat) : cfg.give 138 d = false := by rfl
@[go_sem] theorem give_139 (d : Nat) : cfg.give 139 d = false := by rfl
@[go_sem] theorem give_140 (d : Nat) : cfg.give 140 d = false := by rfl
@[go_sem] theorem give_141 (d : Nat) : cfg.give 141 d = false := by rfl
@[go_sem] theorem give_142 (d : Nat) : cfg.give 142 d = false := by rfl
@[go_sem] theorem give_143 (d : Nat) : cfg.give 143 d = false := by rfl
@[go_sem] theorem give_144 (d : Nat) : cfg.give 144 d = false := by rfl
@[go_sem] theorem give_145 (d : Nat) : cfg.give 145 d = false := by rfl
@[go_sem] theorem give_146 (d : Nat) : cfg.give 146 d = false := by rfl
@[go_sem] theorem give_147 (d : Nat) : cfg.give 147 d = false := by rfl
@[go_sem] theorem give_148 (d : Nat) : cfg.give 148 d = false := by rfl
@[go_sem] theorem give_149 (d : Nat) : cfg.give 149 d = false := by rfl
@[go_sem] theorem give_150 (d : Nat) : cfg.give 150 d = false := by rfl
@[go_sem] theorem give_151 (d : Nat) : cfg.give 151 d = false := by rfl
@[go_sem] theorem give_152 (d : Nat) : cfg.give 152 d = false := by rfl
@[go_sem] theorem give_153 (d : Nat) : cfg.give 153 d = false := by rfl
@[go_sem] theorem give_154 (d : Nat) : cfg.give 154 d = false := by rfl
@[go_sem] theorem give_155 (d : Nat) : cfg.give 155 d = false := by rfl
@[go_sem] theorem give_156 (d : Nat) : cfg.give 156 d = false := by rfl
@[go_sem] theorem give_157 (d : Nat) : cfg.give 157 d = false := by rfl
@[go_sem] theorem give_158 (d : Nat) : cfg.give 158 d = false := by rfl
@[go_sem] theorem give_159 (d : Nat) : cfg.give 159 d = false := by rfl
@[go_sem] theorem give_160 (d : Nat) : cfg.give 160 d = false := by rfl
@[go_sem] theorem give_161 (d : Nat) : cfg.give 161 d = false := by rfl
@[go_sem] theorem give_162 (d : Nat) : cfg.give 162 d = false := by rfl
@[go_sem] theorem give_163 (d : Nat) : cfg.give 163 d = false := by rfl
@[go_sem] theorem give_164 (d : Nat) : cfg.give 164 d = false := by rfl
@[go_sem] theorem give_165 (d : Nat) : cfg.give 165 d = false := by rfl
@[go_sem] theorem give_166 (d : Nat) : cfg.give 166 d = false := by rfl
@[go_sem] theorem give_167 (d : Nat) : cfg.give 167 d = false := by rfl
@[go_sem] theorem give_168 (d : Nat) : cfg.give 168 d = false := by rfl
@[go_sem] theorem give_169 (d : Nat) : cfg.give 169 d = false := by rfl
@[go_sem] theorem give_170 (d : Nat) : cfg.give 170 d = false := by rfl
@[go_sem] theorem give_171 (d : Nat) : cfg.give 171 d = false := by rfl
@[go_sem] theorem give_172 (d : Nat) : cfg.give 172 d = false := by rfl
@[go_sem] theorem give_173 (d : Nat) : cfg.give 173 d = false := by rfl
@[go_sem] theorem give_174 (d : Nat) : cfg.give 174 d = false := by rfl
@[go_sem] theorem give_175 (d : Nat) : cfg.give 175 d = false := by rfl
@[go_sem] theorem give_176 (d : Nat) : cfg.give 176 d = false := by rfl
@[go_sem] theorem give_177 (d : Nat) : cfg.give 177 d = false := by rfl
@[go_sem] theorem give_178 (d : Nat) : cfg.give 178 d = false := by rfl
@[go_sem] theorem give_179 (d : Nat) : cfg.give 179 d = false := by rfl
@[go_sem] theorem give_180 (d : Nat) : cfg.give 180 d = false := by rfl
@[go_sem] theorem give_181 (d : Nat) : cfg.give 181 d = false := by rfl
@[go_sem] theorem give_182 (d : Nat) : cfg.give 182 d = false := by rfl
@[go_sem] theorem give_183 (d : Nat) : cfg.give 183 d = false := by rfl
@[go_sem] theorem give_184 (d : Nat) : cfg.give 184 d = false := by rfl
@[go_sem] theorem give_185 (d : Nat) : cfg.give 185 d = false := by rfl
@[go_sem] theorem give_186 (d : Nat) : cfg.give 186 d = false := by rfl
@[go_sem] theorem give_187 (d : Nat) : cfg.give 187 d = false := by rfl
@[go_sem] theorem give_188 (d : Nat) : cfg.give 188 d = false := by rfl
@[go_sem] theorem give_189 (d : Nat) : cfg.give 189 d = false := by rfl
@[go_sem] theorem give_190 (d : Nat) : cfg.give 190 d = false := by rfl
@[go_sem] theorem give_191 (d : Nat) : cfg.give 191 d = false := by rfl
@[go_sem] theorem give_192 (d : Nat) : cfg.give 192 d = false := by rfl
@[go_sem] theorem give_193 (d : Nat) : cfg.give 193 d = false := by rfl
@[go_sem] theorem give_194 (d : Nat) : cfg.give 194 d = false := by rfl
@[go_sem] theorem give_195 (d : Nat) : cfg.give 195 d = false := by rfl
@[go_sem] theorem give_196 (d : Nat) : cfg.give 196 d = false := by rfl
@[go_sem] theorem give_197 (d : Nat) : cfg.give 197 d = false := by rfl
@[go_sem] theorem give_198 (d : Nat) : cfg.give 198 d = false := by rfl
@[go_sem] theorem give_199 (d : Nat) : cfg.give 199 d = false := by rfl
@[go_sem] theorem give_200 (d : Nat) : cfg.give 200 d = false := by rfl
@[go_sem] theorem give_201 (d : Nat) : cfg.give 201 d = false := by rfl
@[go_sem] theorem give_202 (d : Nat) : cfg.give 202 d = false := by rfl
@[go_sem] theorem give_203 (d : Nat) : cfg.give 203 d = false := by rfl
@[go_sem] theorem give_204 (d : Nat) : cfg.give 204 d = false := by rfl
@[go_sem] theorem give_205 (d : Nat) : cfg.give 205 d = false := by rfl
@[go_sem] theorem give_206 (d : Nat) : cfg.give 206 d = false := by rfl
@[go_sem] theorem give_207 (d : Nat) : cfg.give 207 d = false := by rfl
@[go_sem] theorem give_208 (d : Nat) : cfg.give 208 d = false := by rfl
@[go_sem] theorem give_209 (d : Nat) : cfg.give 209 d = false := by rfl
@[go_sem] theorem give_210 (d : Nat) : cfg.give 210 d = false := by rfl
@[go_sem] theorem give_211 (d : Nat) : cfg.give 211 d = false := by rfl
@[go_sem] theorem give_212 (d : Nat) : cfg.give 212 d = false := by rfl
@[go_sem] theorem give_213 (d : Nat) : cfg.give 213 d = false := by rfl
@[go_sem] theorem give_214 (d : Nat) : cfg.give 214 d = false := by rfl
@[go_sem] theorem give_215 (d : Nat) : cfg.give 215 d = false := by rfl
@[go_sem] theorem give_216 (d : Nat) : cfg.give 216 d = false := by rfl
@[go_sem] theorem give_217 (d : Nat) : cfg.give 217 d = false := by rfl
@[go_sem] theorem give_218 (d : Nat) : cfg.give 218 d = false := by rfl
@[go_sem] theorem give_219 (d : Nat) : cfg.give 219 d = false := by rfl
@[go_sem] theorem give_220 (d : Nat) : cfg.give 220 d = false := by rfl
@[go_sem] theorem give_221 (d : Nat) : cfg.give 221 d = false := by rfl
@[go_sem] theorem give_222 (d : Nat) : cfg.give 222 d = false := by rfl
@[go_sem] theorem give_223 (d : Nat) : cfg.give 223 d = false := by rfl
@[go_sem] theorem give_224 (d : Nat) : cfg.give 224 d = false := by rfl
@[go_sem] theorem give_225 (d : Nat) : cfg.give 225 d = false := by rfl
@[go_sem] theorem give_226 (d : Nat) : cfg.give 226 d = false := by rfl
@[go_sem] theorem give_227 (d : Nat) : cfg.give 227 d = false := by rfl
@[go_sem] theorem give_228 (d : Nat) : cfg.give 228 d = false := by rfl
@[go_sem] theorem give_229 (d : Nat) : cfg.give 229 d = false := by rfl
@[go_sem] theorem give_230 (d : Nat) : cfg.give 230 d = false := by rfl
@[go_sem] theorem give_231 (d : Nat) : cfg.give 231 d = false := by rfl
@[go_sem] theorem give_232 (d : Nat) : cfg.give 232 d = false := by rfl
@[go_sem] theorem give_233 (d : Nat) : cfg.give 233 d = false := by rfl
@[go_sem] theorem give_234 (d : Nat) : cfg.give 234 d = false := by rfl
@[go_sem] theorem give_235 (d : Nat) : cfg.give 235 d = false := by rfl
@[go_sem] theorem give_236 (d : Nat) : cfg.give 236 d = false := by rfl
@[go_sem] theorem give_237 (d : Nat) : cfg.give 237 d = false := by rfl
@[go_sem] theorem give_238 (d : Nat) : cfg.give 238 d = false := by rfl
@[go_sem] theorem give_239 (d : Nat) : cfg.give 239 d = false := by rfl
@[go_sem] theorem give_240 (d : Nat) : cfg.give 240 d = false := by rfl
@[go_sem] theorem give_241 (d : Nat) : cfg.give 241 d = false := by rfl
@[go_sem] theorem give_242 (d : Nat) : cfg.give 242 d = false := by rfl
@[go_sem] theorem give_243 (d : Nat) : cfg.give 243 d = false := by rfl
@[go_sem] theorem give_244 (d : Nat) : cfg.give 244 d = false := by rfl
@[go_sem] theorem give_245 (d : Nat) : cfg.give 245 d = false := by rfl
@[go_sem] theorem give_246 (d : Nat) : cfg.give 246 d = false := by rfl
@[go_sem] theorem give_247 (d : Nat) : cfg.give 247 d = false := by rfl
@[go_sem] theorem give_248 (d : Nat) : cfg.give 248 d = false := by rfl
@[go_sem] theorem give_249 (d : Nat) : cfg.give 249 d = false := by rfl
@[go_sem] theorem give_250 (d : Nat) : cfg.give 250 d = false := by rfl
@[go_sem] theorem give_251 (d : Nat) : cfg.give 251 d = false := by rfl
@[go_sem] theorem give_252 (d : Nat) : cfg.give 252 d = false := by rfl
@[go_sem] theorem give_253 (d : Nat) : cfg.give 253 d = false := by rfl
@[go_sem] theorem give_254 (d : Nat) : cfg.give 254 d = false := by rfl
@[go_sem] theorem give_255 (d : Nat) : cfg.give 255 d = false := by rfl
@[go_sem] theorem give_256 (d : Nat) : cfg.give 256 d = false := by rfl
@[go_sem] theorem give_257 (d : Nat) : cfg.give 257 d = false := by rfl
@[go_sem] theorem give_258 (d : Nat) : cfg.give 258 d = false := by rfl
@[go_sem] theorem give_259 (d : Nat) : cfg.give 259 d = false := by rfl
@[go_sem] theorem give_260 (d : Nat) : cfg.give 260 d = false := by rfl
@[go_sem] theorem give_261 (d : Nat) : cfg.give 261 d = false := by rfl
@[go_sem] theorem give_262 (d : Nat) : cfg.give 262 d = false := by rfl
@[go_sem] theorem give_263 (d : Nat) : cfg.give 263 d = false := by rfl
@[go_sem] theorem mut_0 : cfg.mutF 0 = false := by rfl
@[go_sem] theorem mut_1 : cfg.mutF 1 = false := by rfl
@[go_sem] theorem mut_2 : cfg.mutF 2 = false := by rfl
@[go_sem] theorem mut_3 : cfg.mutF 3 = false := by rfl
@[go_sem] theorem mut_4 : cfg.mutF 4 = false := by rfl
@[go_sem] theorem mut_5 : cfg.mutF 5 = false := by rfl
@[go_sem] theorem mut_6 : cfg.mutF 6 = false := by rfl
@[go_sem] theorem mut_7 : cfg.mutF 7 = false := by rfl
@[go_sem] theorem mut_8 : cfg.mutF 8 = false := by rfl
@[go_sem] theorem mut_9 : cfg.mutF 9 = false := by rfl
@[go_sem] theorem mut_10 : cfg.mutF 10 = false := by rfl
@[go_sem] theorem mut_11 : cfg.mutF 11 = false := by rfl
@[go_sem] theorem mut_12 : cfg.mutF 12 = false := by rfl
@[go_sem] theorem mut_13 : cfg.mutF 13 = false := by rfl
@[go_sem] theorem mut_14 : cfg.mutF 14 = false := by rfl
@[go_sem] theorem mut_15 : cfg.mutF 15 = false := by rfl
@[go_sem] theorem mut_16 : cfg.mutF 16 = false := by rfl
@[go_sem] theorem mut_17 : cfg.mutF 17 = false := by rfl
@[go_sem] theorem mut_18 : cfg.mutF 18 = false := by rfl
@[go_sem] theorem mut_19 : cfg.mutF 19 = false := by rfl
@[go_sem] theorem mut_20 : cfg.mutF 20 = false := by rfl
@[go_sem] theorem mut_21 : cfg.mutF 21 = false := by rfl
@[go_sem] theorem mut_22 : cfg.mutF 22 = false := by rfl
@[go_sem] theorem mut_23 : cfg.mutF 23 = false := by rfl
@[go_sem] theorem mut_24 : cfg.mutF 24 = false := by rfl
@[go_sem] theorem mut_25 : cfg.mutF 25 = true := by rfl
@[go_sem] theorem mut_26 : cfg.mutF 26 = true := by rfl
@[go_sem] theorem mut_27 : cfg.mutF 27 = false := by rfl
@[go_sem] theorem mut_28 : cfg.mutF 28 = false := by rfl
@[go_sem] theorem mut_29 : cfg.mutF 29 = false := by rfl
@[go_sem] theorem mut_30 : cfg.mutF 30 = false := by rfl
@[go_sem] theorem mut_31 : cfg.mutF 31 = false := by rfl
@[go_sem] theorem mut_32 : cfg.mutF 32 = false := by rfl
@[go_sem] theorem mut_33 : cfg.mutF 33 = false := by rfl
@[go_sem] theorem mut_34 : cfg.mutF 34 = false := by rfl
@[go_sem] theorem mut_35 : cfg.mutF 35 = false := by rfl
@[go_sem] theorem mut_36 : cfg.mutF 36 = false := by rfl
@[go_sem] theorem mut_37 : cfg.mutF 37 = false := by rfl
@[go_sem] theorem mut_38 : cfg.mutF 38 = false := by rfl
@[go_sem] theorem mut_39 : cfg.mutF 39 = false := by rfl
@[go_sem] theorem mut_40 : cfg.mutF 40 = false := by rfl
@[go_sem] theorem mut_41 : cfg.mutF 41 = false := by rfl
@[go_sem] theorem mut_42 : cfg.mutF 42 = false := by rfl
@[go_sem] theorem mut_43 : cfg.mutF 43 = false := by rfl
@[go_sem] theorem mut_44 : cfg.mutF 44 = false := by rfl
@[go_sem] theorem mut_45 : cfg.mutF 45 = false := by rfl
@[go_sem] theorem mut_46 : cfg.mutF 46 = false := by rfl
@[go_sem] theorem mut_47 : cfg.mutF 47 = true := by rfl
@[go_sem] theorem mut_48 : cfg.mutF 48 = true := by rfl
@[go_sem] theorem mut_49 : cfg.mutF 49 = false := by rfl
@[go_sem] theorem mut_50 : cfg.mutF 50 = false := by rfl
@[go_sem] theorem mut_51 : cfg.mutF 51 = false := by rfl
@[go_sem] theorem mut_52 : cfg.mutF 52 = false := by rfl
@[go_sem] theorem mut_53 : cfg.mutF 53 = false := by rfl
@[go_sem] theorem mut_54 : cfg.mutF 54 = false := by rfl
@[go_sem] theorem mut_55 : cfg.mutF 55 = false := by rfl
@[go_sem] theorem mut_56 : cfg.mutF 56 = false := by rfl
@[go_sem] theorem mut_57 : cfg.mutF 57 = false := by rfl
@[go_sem] theorem mut_58 : cfg.mutF 58 = false := by rfl
@[go_sem] theorem mut_59 : cfg.mutF 59 = false := by rfl
@[go_sem] theorem mut_60 : cfg.mutF 60 = false := by rfl
@[go_sem] theorem mut_61 : cfg.mutF 61 = false := by rfl
@[go_sem] theorem mut_62 : cfg.mutF 62 = false := by rfl
@[go_sem] theorem mut_63 : cfg.mutF 63 = false := by rfl
@[go_sem] theorem mut_64 : cfg.mutF 64 = false := by rfl
@[go_sem] theorem mut_65 : cfg.mutF 65 = false := by rfl
@[go_sem] theorem mut_66 : cfg.mutF 66 = false := by rfl
@[go_sem] theorem mut_67 : cfg.mutF 67 = false := by rfl
@[go_sem] theorem mut_68 : cfg.mutF 68 = false := by rfl
@[go_sem] theorem mut_69 : cfg.mutF 69 = false := by rfl
@[go_sem] theorem mut_70 : cfg.mutF 70 = false := by rfl
@[go_sem] theorem mut_71 : cfg.mutF 71 = false := by rfl
@[go_sem] theorem mut_72 : cfg.mutF 72 = false := by rfl
@[go_sem] theorem mut_73 : cfg.mutF 73 = false := by rfl
@[go_sem] theorem mut_74 : cfg.mutF 74 = false := by rfl
@[go_sem] theorem mut_75 : cfg.mutF 75 = false := by rfl
@[go_sem] theorem mut_76 : cfg.mutF 76 = true := by rfl
@[go_sem] theorem mut_77 : cfg.mutF 77 = false := by rfl
@[go_sem] theorem mut_78 : cfg.mutF 78 = false := by rfl
@[go_sem] theorem mut_79 : cfg.mutF 79 = false := by rfl
@[go_sem] theorem mut_80 : cfg.mutF 80 = true := by rfl
@[go_sem] theorem mut_81 : cfg.mutF 81 = false := by rfl
@[go_sem] theorem mut_82 : cfg.mutF 82 = false := by rfl
@[go_sem] theorem mut_83 : cfg.mutF 83 = false := by rfl
@[go_sem] theorem mut_84 : cfg.mutF 84 = false := by rfl
@[go_sem] theorem mut_85 : cfg.mutF 85 = false := by rfl
@[go_sem] theorem mut_86 : cfg.mutF 86 = false := by rfl
@[go_sem] theorem mut_87 : cfg.mutF 87 = false := by rfl
@[go_sem] theorem mut_88 : cfg.mutF 88 = false := by rfl
@[go_sem] theorem mut_89 : cfg.mutF 89 = true := by rfl
@[go_sem] theorem mut_90 : cfg.mutF 90 = true := by rfl
@[go_sem] theorem mut_91 : cfg.mutF 91 = false := by rfl
@[go_sem] theorem mut_92 : cfg.mutF 92 = false := by rfl
@[go_sem] theorem mut_93 : cfg.mutF 93 = false := by rfl
@[go_sem] theorem mut_94 : cfg.mutF 94 = false := by rfl
@[go_sem] theorem mut_95 : cfg.mutF 95 = false := by rfl
@[go_sem] theorem mut_96 : cfg.mutF 96 = true := by rfl
@[go_sem] theorem mut_97 : cfg.mutF 97 = false := by rfl
@[go_sem] theorem mut_98 : cfg.mutF 98 = true := by rfl
@[go_sem] theorem mut_99 : cfg.mutF 99 = false := by rfl
@[go_sem] theorem mut_100 : cfg.mutF 100 = false := by rfl
@[go_sem] theorem mut_101 : cfg.mutF 101 = false := by rfl
@[go_sem] theorem mut_102 : cfg.mutF 102 = false := by rfl
@[go_sem] theorem mut_103 : cfg.mutF 103 = true := by rfl
@[go_sem] theorem mut_104 : cfg.mutF 104 = true := by rfl
@[go_sem] theorem mut_105 : cfg.mutF 105 = true := by rfl
@[go_sem] theorem mut_106 : cfg.mutF 106 = false := by rfl
@[go_sem] theorem mut_107 : cfg.mutF 107 = false := by rfl
@[go_sem] theorem mut_108 : cfg.mutF 108 = false := by rfl
@[go_sem] theorem mut_109 : cfg.mutF 109 = false := by rfl
@[go_sem] theorem mut_110 : cfg.mutF 110 = false := by rfl
@[go_sem] theorem mut_111 : cfg.mutF 111 = false := by rfl
@[go_sem] theorem mut_112 : cfg.mutF 112 = false := by rfl
@[go_sem] theorem mut_113 : cfg.mutF 113 = false := by rfl
@[go_sem] theorem mut_114 : cfg.mutF 114 = false := by rfl
@[go_sem] theorem mut_115 : cfg.mutF 115 = false := by rfl
@[go_sem] theorem mut_116 : cfg.mutF 116 = false := by rfl
@[go_sem] theorem mut_117 : cfg.mutF 117 = false := by rfl
@[go_sem] theorem mut_118 : cfg.mutF 118 = false := by rfl
@[go_sem] theorem mut_119 : cfg.mutF 119 = false := by rfl
@[go_sem] theorem mut_120 : cfg.mutF 120 = false := by rfl
@[go_sem] theorem mut_121 : cfg.mutF 121 = false := by rfl
@[go_sem] theorem mut_122 : cfg.mutF 122 = false := by rfl
@[go_sem] theorem mut_123 : cfg.mutF 123 = false := by rfl
@[go_sem] theorem mut_124 : cfg.mutF 124 = true := by rfl
@[go_sem] theorem mut_125 : cfg.mutF 125 = false := by rfl
@[go_sem] theorem mut_126 : cfg.mutF 126 = false := by rfl
@[go_sem] theorem mut_127 : cfg.mutF 127 = false := by rfl
@[go_sem] theorem mut_128 : cfg.mutF 128 = true := by rfl
@[go_sem] theorem mut_129 : cfg.mutF 129 = false := by rfl
@[go_sem] theorem mut_130 : cfg.mutF 130 = false := by rfl
@[go_sem] theorem mut_131 : cfg.mutF 131 = false := by rfl
@[go_sem] theorem mut_132 : cfg.mutF 132 = false := by rfl
@[go_sem] theorem mut_133 : cfg.mutF 133 = true := by rfl
@[go_sem] theorem mut_134 : cfg.mutF 134 = false := by rfl
@[go_sem] theorem mut_135 : cfg.mutF 135 = false := by rfl
@[go_sem] theorem mut_136 : cfg.mutF 136 = false := by rfl
@[go_sem] theorem mut_137 : cfg.mutF 137 = false := by rfl
@[go_sem] theorem mut_138 : cfg.mutF 138 = true := by rfl
@[go_sem] theorem mut_139 : cfg.mutF 139 = false := by rfl
@[go_sem] theorem mut_140 : cfg.mutF 140 = true := by rfl
@[go_sem] theorem mut_141 : cfg.mutF 141 = true := by rfl
@[go_sem] theorem mut_142 : cfg.mutF 142 = false := by rfl
@[go_sem] theorem mut_143 : cfg.mutF 143 = false := by rfl
@[go_sem] theorem mut_144 : cfg.mutF 144 = false := by rfl
@[go_sem] theorem mut_145 : cfg.mutF 145 = false := by rfl
@[go_sem] theorem mut_146 : cfg.mutF 146 = false := by rfl
@[go_sem] theorem mut_147 : cfg.mutF 147 = false := by rfl
@[go_sem] theorem mut_148 : cfg.mutF 148 = false := by rfl
@[go_sem] theorem mut_149 : cfg.mutF 149 = false := by rfl
@[go_sem] theorem mut_150 : cfg.mutF 150 = false := by rfl
@[go_sem] theorem mut_151 : cfg.mutF 151 = false := by rfl
@[go_sem] theorem mut_152 : cfg.mutF 152 = false := by rfl
@[go_sem] theorem mut_153 : cfg.mutF 153 = true := by rfl
@[go_sem] theorem mut_154 : cfg.mutF 154 = false := by rfl
@[go_sem] theorem mut_155 : cfg.mutF 155 = false := by rfl
@[go_sem] theorem mut_156 : cfg.mutF 156 = false := by rfl
@[go_sem] theorem mut_157 : cfg.mutF 157 = false := by rfl
@[go_sem] theorem mut_158 : cfg.mutF 158 = false := by rfl
@[go_sem] theorem mut_159 : cfg.mutF 159 = false := by rfl
@[go_sem] theorem mut_160 : cfg.mutF 160 = false := by rfl
@[go_sem] theorem mut_161 : cfg.mutF 161 = true := by rfl
@[go_sem] theorem mut_162 : cfg.mutF 162 = false := by rfl
@[go_sem] theorem mut_163 : cfg.mutF 163 = false := by rfl
@[go_sem] theorem mut_164 : cfg.mutF 164 = false := by rfl
@[go_sem] theorem mut_165 : cfg.mutF 165 = false := by rfl
@[go_sem] theorem mut_166 : cfg.mutF 166 = false := by rfl
@[go_sem] theorem mut_167 : cfg.mutF 167 = false := by rfl
@[go_sem] theorem mut_168 : cfg.mutF 168 = false := by rfl
@[go_sem] theorem mut_169 : cfg.mutF 169 = false := by rfl
@[go_sem] theorem mut_170 : cfg.mutF 170 = false := by rfl
@[go_sem] theorem mut_171 : cfg.mutF 171 = false := by rfl
@[go_sem] theorem mut_172 : cfg.mutF 172 = true := by rfl
@[go_sem] theorem mut_173 : cfg.mutF 173 = false := by rfl
@[go_sem] theorem mut_174 : cfg.mutF 174 = false := by rfl
@[go_sem] theorem mut_175 : cfg.mutF 175 = false := by rfl
@[go_sem] theorem mut_176 : cfg.mutF 176 = false := by rfl
@[go_sem] theorem mut_177 : cfg.mutF 177 = false := by rfl
@[go_sem] theorem mut_178 : cfg.mutF 178 = false := by rfl
@[go_sem] theorem mut_179 : cfg.mutF 179 = false := by rfl
@[go_sem] theorem mut_180 : cfg.mutF 180 = false := by rfl
@[go_sem] theorem mut_181 : cfg.mutF 181 = false := by rfl
@[go_sem] theorem mut_182 : cfg.mutF 182 = true := by rfl
@[go_sem] theorem mut_183 : cfg.mutF 183 = false := by rfl
@[go_sem] theorem mut_184 : cfg.mutF 184 = false := by rfl
@[go_sem] theorem mut_185 : cfg.mutF 185 = true := by rfl
@[go_sem] theorem mut_186 : cfg.mutF 186 = false := by rfl
@[go_sem] theorem mut_187 : cfg.mutF 187 = false := by rfl
@[go_sem] theorem mut_188 : cfg.mutF 188 = false := by rfl
@[go_sem] theorem mut_189 : cfg.mutF 189 = false := by rfl
@[go_sem] theorem mut_190 : cfg.mutF 190 = false := by rfl
@[go_sem] theorem mut_191 : cfg.mutF 191 = false := by rfl
@[go_sem] theorem mut_192 : cfg.mutF 192 = false := by rfl
@[go_sem] theorem mut_193 : cfg.mutF 193 = false := by rfl
@[go_sem] theorem mut_194 : cfg.mutF 194 = false := by rfl
@[go_sem] theorem mut_195 : cfg.mutF 195 = false := by rfl
@[go_sem] theorem mut_196 : cfg.mutF 196 = false := by rfl
@[go_sem] theorem mut_197 : cfg.mutF 197 = false := by rfl
@[go_sem] theorem mut_198 : cfg.mutF 198 = false := by rfl
@[go_sem] theorem mut_199 : cfg.mutF 199 = false := by rfl
@[go_sem] theorem mut_200 : cfg.mutF 200 = true := by rfl
@[go_sem] theorem mut_201 : cfg.mutF 201 = false := by rfl
@[go_sem] theorem mut_202 : cfg.mutF 202 = false := by rfl
@[go_sem] theorem mut_203 : cfg.mutF 203 = false := by rfl
@[go_sem] theorem mut_204 : cfg.mutF 204 = false := by rfl
@[go_sem] theorem mut_205 : cfg.mutF 205 = false := by rfl
@[go_sem] theorem mut_206 : cfg.mutF 206 = false := by rfl
@[go_sem] theorem mut_207 : cfg.mutF 207 = false := by rfl
@[go_sem] theorem mut_208 : cfg.mutF 208 = false := by rfl
@[go_sem] theorem mut_209 : cfg.mutF 209 = false := by rfl
@[go_sem] theorem mut_210 : cfg.mutF 210 = false := by rfl
@[go_sem] theorem mut_211 : cfg.mutF 211 = false := by rfl
@[go_sem] theorem mut_212 : cfg.mutF 212 = false := by rfl
@[go_sem] theorem mut_213 : cfg.mutF 213 = false := by rfl
@[go_sem] theorem mut_214 : cfg.mutF 214 = false := by rfl
@[go_sem] theorem mut_215 : cfg.mutF 215 = false := by rfl
@[go_sem] theorem mut_216 : cfg.mutF 216 = false := by rfl
@[go_sem] theorem mut_217 : cfg.mutF 217 = false := by rfl
@[go_sem] theorem mut_218 : cfg.mutF 218 = false := by rfl
@[go_sem] theorem mut_219 : cfg.mutF 219 = false := by rfl
@[go_sem] theorem mut_220 : cfg.mutF 220 = false := by rfl
@[go_sem] theorem mut_221 : cfg.mutF 221 = false := by rfl
@[go_sem] theorem mut_222 : cfg.mutF 222 = false := by rfl
@[go_sem] theorem mut_223 : cfg.mutF 223 = false := by rfl
@[go_sem] theorem mut_224 : cfg.mutF 224 = false := by rfl
@[go_sem] theorem mut_225 : cfg.mutF 225 = false := by rfl
@[go_sem] theorem mut_226 : cfg.mutF 226 = true := by rfl
@[go_sem] theorem mut_227 : cfg.mutF 227 = true := by rfl
@[go_sem] theorem mut_228 : cfg.mutF 228 = false := by rfl
@[go_sem] theorem mut_229 : cfg.mutF 229 = false := by rfl
@[go_sem] theorem mut_230 : cfg.mutF 230 = false := by rfl
@[go_sem] theorem mut_231 : cfg.mutF 231 = false := by rfl
@[go_sem] theorem mut_232 : cfg.mutF 232 = false := by rfl
@[go_sem] theorem mut_233 : cfg.mutF 233 = true := by rfl
@[go_sem] theorem mut_234 : cfg.mutF 234 = false := by rfl
@[go_sem] theorem mut_235 : cfg.mutF 235 = false := by rfl
@[go_sem] theorem mut_236 : cfg.mutF 236 = false := by rfl
@[go_sem] theorem mut_237 : cfg.mutF 237 = false := by rfl
@[go_sem] theorem mut_238 : cfg.mutF 238 = false := by rfl
@[go_sem] theorem mut_239 : cfg.mutF 239 = false := by rfl
@[go_sem] theorem mut_240 : cfg.mutF 240 = false := by rfl
@[go_sem] theorem mut_241 : cfg.mutF 241 = true := by rfl
@[go_sem] theorem mut_242 : cfg.mutF 242 = false := by rfl
@[go_sem] theorem mut_243 : cfg.mutF 243 = false := by rfl
@[go_sem] theorem mut_244 : cfg.mutF 244 = false := by rfl
@[go_sem] theorem mut_245 : cfg.mutF 245 = false := by rfl
@[go_sem] theorem mut_246 : cfg.mutF 246 = false := by rfl
@[go_sem] theorem mut_247 : cfg.mutF 247 = false := by rfl
@[go_sem] theorem mut_248 : cfg.mutF 248 = false := by rfl
@[go_sem] theorem mut_249 : cfg.mutF 249 = false := by rfl
@[go_sem] theorem mut_250 : cfg.mutF 250 = false := by rfl
@[go_sem] theorem mut_251 : cfg.mutF 251 = false := by rfl
@[go_sem] theorem mut_252 : cfg.mutF 252 = false := by rfl
@[go_sem] theorem mut_253 : cfg.mutF 253 = false := by rfl
@[go_sem] theorem mut_254 : cfg.mutF 254 = false := by rfl
@[go_sem] theorem mut_255 : cfg.mutF 255 = false := by rfl
@[go_sem] theorem mut_256 : cfg.mutF 256 = false := by rfl
@[go_sem] theorem mut_257 : cfg.mutF 257 = false := by rfl
@[go_sem] theorem mut_258 : cfg.mutF 258 = false := by rfl
@[go_sem] theorem mut_259 : cfg.mutF 259 = false := by rfl
@[go_sem] theorem mut_260 : cfg.mutF 260 = false := by rfl
@[go_sem] theorem mut_261 : cfg.mutF 261 = true := by rfl
@[go_sem] theorem mut_262 : cfg.mutF 262 = true := by rfl
@[go_sem] theorem mut_263 : cfg.mutF 263 = false := by rfl
@[go_sem] theorem own_2_0 : cfg.own 2 0 = false := by rfl
@[go_sem] theorem own_3_24 : cfg.own 3 24 = false := by rfl
@[go_sem] theorem own_3_30 : cfg.own 3 30 = false := by rfl
@[go_sem] theorem own_3_37 : cfg.own 3 37 = false := by rfl
@[go_sem] theorem own_3_43 : cfg.own 3 43 = false := by rfl
@[go_sem] theorem own_3_61 : cfg.own 3 61 = false := by rfl
@[go_sem] theorem own_3_75 : cfg.own 3 75 = false := by rfl
@[go_sem] theorem own_3_81 : cfg.own 3 81 = false := by rfl
@[go_sem] theorem own_3_103 : cfg.own 3 103 = false := by rfl
@[go_sem] theorem own_3_116 : cfg.own 3 116 = false := by rfl
@[go_sem] theorem own_4_21 : cfg.own 4 21 = false := by rfl
@[go_sem] theorem own_4_27 : cfg.own 4 27 = false := by rfl
@[go_sem] theorem own_4_28 : cfg.own 4 28 = false := by rfl
@[go_sem] theorem own_4_33 : cfg.own 4 33 = false := by rfl
@[go_sem] theorem own_4_37 : cfg.own 4 37 = true := by rfl
@[go_sem] theorem own_4_43 : cfg.own 4 43 = false := by rfl
@[go_sem] theorem own_4_57 : cfg.own 4 57 = false := by rfl
@[go_sem] theorem own_4_58 : cfg.own 4 58 = false := by rfl
@[go_sem] theorem own_4_62 : cfg.own 4 62 = false := by rfl
@[go_sem] theorem own_4_68 : cfg.own 4 68 = false := by rfl
@[go_sem] theorem own_4_83 : cfg.own 4 83 = false := by rfl
@[go_sem] theorem own_4_86 : cfg.own 4 86 = false := by rfl
@[go_sem] theorem own_4_95 : cfg.own 4 95 = false := by rfl
@[go_sem] theorem own_4_96 : cfg.own 4 96 = true := by rfl
@[go_sem] theorem own_4_102 : cfg.own 4 102 = false := by rfl
@[go_sem] theorem own_4_116 : cfg.own 4 116 = false := by rfl
@[go_sem] theorem own_5_20 : cfg.own 5 20 = false := by rfl
@[go_sem] theorem own_5_28 : cfg.own 5 28 = false := by rfl
@[go_sem] theorem own_5_35 : cfg.own 5 35 = false := by rfl
@[go_sem] theorem own_5_40 : cfg.own 5 40 = false := by rfl
@[go_sem] theorem own_5_53 : cfg.own 5 53 = false := by rfl
@[go_sem] theorem own_5_61 : cfg.own 5 61 = false := by rfl
@[go_sem] theorem own_5_83 : cfg.own 5 83 = false := by rfl
@[go_sem] theorem own_5_95 : cfg.own 5 95 = false := by rfl
@[go_sem] theorem own_5_109 : cfg.own 5 109 = false := by rfl
@[go_sem] theorem own_5_112 : cfg.own 5 112 = false := by rfl
@[go_sem] theorem own_5_119 : cfg.own 5 119 = false := by rfl
@[go_sem] theorem own_6_18 : cfg.own 6 18 = false := by rfl
@[go_sem] theorem own_6_24 : cfg.own 6 24 = false := by rfl
@[go_sem] theorem own_6_30 : cfg.own 6 30 = false := by rfl
@[go_sem] theorem own_6_35 : cfg.own 6 35 = false := by rfl
@[go_sem] theorem own_6_48 : cfg.own 6 48 = false := by rfl
@[go_sem] theorem own_6_57 : cfg.own 6 57 = false := by rfl
@[go_sem] theorem own_6_67 : cfg.own 6 67 = false := by rfl
@[go_sem] theorem own_6_80 : cfg.own 6 80 = false := by rfl
@[go_sem] theorem own_6_92 : cfg.own 6 92 = false := by rfl
@[go_sem] theorem own_6_96 : cfg.own 6 96 = false := by rfl
@[go_sem] theorem own_7_18 : cfg.own 7 18 = false := by rfl
@[go_sem] theorem own_7_23 : cfg.own 7 23 = false := by rfl
@[go_sem] theorem own_7_25 : cfg.own 7 25 = false := by rfl
@[go_sem] theorem own_7_29 : cfg.own 7 29 = true := by rfl
@[go_sem] theorem own_7_33 : cfg.own 7 33 = true := by rfl
@[go_sem] theorem own_7_38 : cfg.own 7 38 = false := by rfl
@[go_sem] theorem own_7_47 : cfg.own 7 47 = false := by rfl
@[go_sem] theorem own_7_48 : cfg.own 7 48 = false := by rfl
@[go_sem] theorem own_7_52 : cfg.own 7 52 = false := by rfl
@[go_sem] theorem own_7_58 : cfg.own 7 58 = false := by rfl
@[go_sem] theorem own_7_68 : cfg.own 7 68 = false := by rfl
@[go_sem] theorem own_7_71 : cfg.own 7 71 = false := by rfl
@[go_sem] theorem own_7_79 : cfg.own 7 79 = false := by rfl
@[go_sem] theorem own_7_81 : cfg.own 7 81 = true := by rfl
@[go_sem] theorem own_7_86 : cfg.own 7 86 = false := by rfl
@[go_sem] theorem own_7_95 : cfg.own 7 95 = false := by rfl
@[go_sem] theorem own_8_16 : cfg.own 8 16 = false := by rfl
@[go_sem] theorem own_8_19 : cfg.own 8 19 = false := by rfl
@[go_sem] theorem own_8_24 : cfg.own 8 24 = false := by rfl
@[go_sem] theorem own_8_29 : cfg.own 8 29 = false := by rfl
@[go_sem] theorem own_8_42 : cfg.own 8 42 = false := by rfl
@[go_sem] theorem own_8_55 : cfg.own 8 55 = false := by rfl
@[go_sem] theorem own_8_69 : cfg.own 8 69 = false := by rfl
@[go_sem] theorem own_9_19 : cfg.own 9 19 = false := by rfl
@[go_sem] theorem own_9_25 : cfg.own 9 25 = false := by rfl
@[go_sem] theorem own_9_31 : cfg.own 9 31 = false := by rfl
@[go_sem] theorem own_9_36 : cfg.own 9 36 = false := by rfl
@[go_sem] theorem own_9_49 : cfg.own 9 49 = false := by rfl
@[go_sem] theorem own_9_57 : cfg.own 9 57 = false := by rfl
@[go_sem] theorem own_9_60 : cfg.own 9 60 = false := by rfl
@[go_sem] theorem own_9_74 : cfg.own 9 74 = false := by rfl
@[go_sem] theorem own_9_87 : cfg.own 9 87 = false := by rfl
@[go_sem] theorem own_9_90 : cfg.own 9 90 = false := by rfl
@[go_sem] theorem own_10_18 : cfg.own 10 18 = false := by rfl
@[go_sem] theorem own_10_21 : cfg.own 10 21 = false := by rfl
@[go_sem] theorem own_10_26 : cfg.own 10 26 = false := by rfl
@[go_sem] theorem own_10_31 : cfg.own 10 31 = false := by rfl
@[go_sem] theorem own_10_44 : cfg.own 10 44 = false := by rfl
@[go_sem] theorem own_10_52 : cfg.own 10 52 = false := by rfl
@[go_sem] theorem own_10_72 : cfg.own 10 72 = false := by rfl
@[go_sem] theorem own_11_23 : cfg.own 11 23 = false := by rfl
@[go_sem] theorem own_11_26 : cfg.own 11 26 = false := by rfl
@[go_sem] theorem own_11_31 : cfg.own 11 31 = false := by rfl
@[go_sem] theorem own_11_36 : cfg.own 11 36 = false := by rfl
@[go_sem] theorem own_11_49 : cfg.own 11 49 = false := by rfl
@[go_sem] theorem own_11_58 : cfg.own 11 58 = false := by rfl
@[go_sem] theorem own_11_69 : cfg.own 11 69 = false := by rfl
@[go_sem] theorem own_11_75 : cfg.own 11 75 = false := by rfl
@[go_sem] theorem own_11_80 : cfg.own 11 80 = false := by rfl
@[go_sem] theorem own_11_86 : cfg.own 11 86 = false := by rfl
@[go_sem] theorem own_11_124 : cfg.own 11 124 = false := by rfl
@[go_sem] theorem own_12_18 : cfg.own 12 18 = false := by rfl
@[go_sem] theorem own_12_21 : cfg.own 12 21 = false := by rfl
@[go_sem] theorem own_12_26 : cfg.own 12 26 = false := by rfl
@[go_sem] theorem own_12_31 : cfg.own 12 31 = false := by rfl
@[go_sem] theorem own_12_44 : cfg.own 12 44 = false := by rfl
@[go_sem] theorem own_12_51 : cfg.own 12 51 = false := by rfl
@[go_sem] theorem own_12_61 : cfg.own 12 61 = false := by rfl
@[go_sem] theorem own_12_87 : cfg.own 12 87 = false := by rfl
@[go_sem] theorem own_12_94 : cfg.own 12 94 = false := by rfl
@[go_sem] theorem own_12_96 : cfg.own 12 96 = false := by rfl
@[go_sem] theorem own_12_100 : cfg.own 12 100 = false := by rfl
@[go_sem] theorem own_13_16 : cfg.own 13 16 = false := by rfl
@[go_sem] theorem own_13_21 : cfg.own 13 21 = false := by rfl
@[go_sem] theorem own_13_22 : cfg.own 13 22 = false := by rfl
@[go_sem] theorem own_13_26 : cfg.own 13 26 = true := by rfl
@[go_sem] theorem own_13_29 : cfg.own 13 29 = true := by rfl
@[go_sem] theorem own_13_34 : cfg.own 13 34 = false := by rfl
@[go_sem] theorem own_13_43 : cfg.own 13 43 = false := by rfl
@[go_sem] theorem own_13_44 : cfg.own 13 44 = false := by rfl
@[go_sem] theorem own_13_48 : cfg.own 13 48 = false := by rfl
@[go_sem] theorem own_13_54 : cfg.own 13 54 = false := by rfl
@[go_sem] theorem own_13_64 : cfg.own 13 64 = false := by rfl
@[go_sem] theorem own_13_67 : cfg.own 13 67 = false := by rfl
@[go_sem] theorem own_13_75 : cfg.own 13 75 = false := by rfl
@[go_sem] theorem own_13_76 : cfg.own 13 76 = true := by rfl
@[go_sem] theorem own_13_81 : cfg.own 13 81 = false := by rfl
@[go_sem] theorem own_13_90 : cfg.own 13 90 = false := by rfl
@[go_sem] theorem own_14_5 : cfg.own 14 5 = false := by rfl
@[go_sem] theorem own_15_19 : cfg.own 15 19 = false := by rfl
@[go_sem] theorem own_15_27 : cfg.own 15 27 = true := by rfl
@[go_sem] theorem own_15_43 : cfg.own 15 43 = false := by rfl
@[go_sem] theorem own_16_11 : cfg.own 16 11 = false := by rfl
@[go_sem] theorem own_16_21 : cfg.own 16 21 = true := by rfl
@[go_sem] theorem own_16_25 : cfg.own 16 25 = false := by rfl
@[go_sem] theorem own_16_27 : cfg.own 16 27 = false := by rfl
@[go_sem] theorem own_18_12 : cfg.own 18 12 = true := by rfl
@[go_sem] theorem own_19_12 : cfg.own 19 12 = false := by rfl
@[go_sem] theorem own_20_36 : cfg.own 20 36 = false := by rfl
@[go_sem] theorem own_22_20 : cfg.own 22 20 = false := by rfl
@[go_sem] theorem own_24_25 : cfg.own 24 25 = false := by rfl
@[go_sem] theorem own_28_10 : cfg.own 28 10 = false := by rfl
@[go_sem] theorem own_28_14 : cfg.own 28 14 = true := by rfl
@[go_sem] theorem own_28_16 : cfg.own 28 16 = false := by rfl
@[go_sem] theorem own_28_22 : cfg.own 28 22 = false := by rfl
@[go_sem] theorem own_28_29 : cfg.own 28 29 = false := by rfl
@[go_sem] theorem own_29_13 : cfg.own 29 13 = false := by rfl
@[go_sem] theorem own_29_31 : cfg.own 29 31 = false := by rfl
@[go_sem] theorem own_30_12 : cfg.own 30 12 = false := by rfl
@[go_sem] theorem own_30_29 : cfg.own 30 29 = false := by rfl
@[go_sem] theorem own_30_33 : cfg.own 30 33 = true := by rfl
@[go_sem] theorem own_31_15 : cfg.own 31 15 = false := by rfl
@[go_sem] theorem own_33_10 : cfg.own 33 10 = false := by rfl
@[go_sem] theorem own_33_17 : cfg.own 33 17 = false := by rfl
@[go_sem] theorem own_33_26 : cfg.own 33 26 = false := by rfl
@[go_sem] theorem own_33_30 : cfg.own 33 30 = true := by rfl
@[go_sem] theorem own_33_33 : cfg.own 33 33 = false := by rfl
@[go_sem] theorem own_33_36 : cfg.own 33 36 = true := by rfl
@[go_sem] theorem own_33_44 : cfg.own 33 44 = false := by rfl
@[go_sem] theorem own_33_47 : cfg.own 33 47 = false := by rfl
@[go_sem] theorem own_34_15 : cfg.own 34 15 = false := by rfl
@[go_sem] theorem own_34_21 : cfg.own 34 21 = false := by rfl
@[go_sem] theorem own_34_29 : cfg.own 34 29 = false := by rfl
@[go_sem] theorem own_34_33 : cfg.own 34 33 = false := by rfl
@[go_sem] theorem own_34_36 : cfg.own 34 36 = true := by rfl
@[go_sem] theorem own_34_40 : cfg.own 34 40 = false := by rfl
@[go_sem] theorem own_34_43 : cfg.own 34 43 = true := by rfl
@[go_sem] theorem own_34_47 : cfg.own 34 47 = false := by rfl
@[go_sem] theorem own_34_70 : cfg.own 34 70 = false := by rfl
@[go_sem] theorem own_35_8 : cfg.own 35 8 = false := by rfl
@[go_sem] theorem own_35_13 : cfg.own 35 13 = false := by rfl
@[go_sem] theorem own_35_19 : cfg.own 35 19 = false := by rfl
@[go_sem] theorem own_35_23 : cfg.own 35 23 = false := by rfl
@[go_sem] theorem own_35_26 : cfg.own 35 26 = false := by rfl
@[go_sem] theorem own_36_9 : cfg.own 36 9 = false := by rfl
@[go_sem] theorem own_36_13 : cfg.own 36 13 = false := by rfl
@[go_sem] theorem own_36_19 : cfg.own 36 19 = false := by rfl
@[go_sem] theorem own_37_9 : cfg.own 37 9 = false := by rfl
@[go_sem] theorem own_37_11 : cfg.own 37 11 = true := by rfl
@[go_sem] theorem own_37_16 : cfg.own 37 16 = false := by rfl
@[go_sem] theorem own_37_21 : cfg.own 37 21 = false := by rfl
@[go_sem] theorem own_37_25 : cfg.own 37 25 = false := by rfl
@[go_sem] theorem own_38_12 : cfg.own 38 12 = false := by rfl
@[go_sem] theorem own_38_19 : cfg.own 38 19 = false := by rfl
@[go_sem] theorem own_38_31 : cfg.own 38 31 = false := by rfl
@[go_sem] theorem own_38_33 : cfg.own 38 33 = true := by rfl
@[go_sem] theorem own_39_10 : cfg.own 39 10 = false := by rfl
@[go_sem] theorem own_39_17 : cfg.own 39 17 = false := by rfl
@[go_sem] theorem own_40_11 : cfg.own 40 11 = false := by rfl
@[go_sem] theorem own_40_35 : cfg.own 40 35 = false := by rfl
@[go_sem] theorem own_40_41 : cfg.own 40 41 = false := by rfl
@[go_sem] theorem own_40_44 : cfg.own 40 44 = false := by rfl
@[go_sem] theorem own_40_45 : cfg.own 40 45 = false := by rfl
@[go_sem] theorem own_40_47 : cfg.own 40 47 = false := by rfl
@[go_sem] theorem own_40_55 : cfg.own 40 55 = false := by rfl
@[go_sem] theorem own_40_57 : cfg.own 40 57 = false := by rfl
@[go_sem] theorem own_40_78 : cfg.own 40 78 = false := by rfl
@[go_sem] theorem own_41_8 : cfg.own 41 8 = false := by rfl
@[go_sem] theorem own_42_8 : cfg.own 42 8 = false := by rfl
@[go_sem] theorem own_42_12 : cfg.own 42 12 = false := by rfl
@[go_sem] theorem own_42_19 : cfg.own 42 19 = false := by rfl
@[go_sem] theorem own_43_9 : cfg.own 43 9 = true := by rfl
@[go_sem] theorem own_44_8 : cfg.own 44 8 = false := by rfl
@[go_sem] theorem own_44_12 : cfg.own 44 12 = false := by rfl
@[go_sem] theorem own_44_21 : cfg.own 44 21 = true := by rfl
@[go_sem] theorem own_46_14 : cfg.own 46 14 = false := by rfl
@[go_sem] theorem own_47_8 : cfg.own 47 8 = false := by rfl
@[go_sem] theorem own_50_4 : cfg.own 50 4 = false := by rfl
@[go_sem] theorem own_51_5 : cfg.own 51 5 = false := by rfl
@[go_sem] theorem own_51_8 : cfg.own 51 8 = false := by rfl
@[go_sem] theorem own_52_5 : cfg.own 52 5 = false := by rfl
@[go_sem] theorem own_52_9 : cfg.own 52 9 = false := by rfl
@[go_sem] theorem own_55_7 : cfg.own 55 7 = true := by rfl
@[go_sem] theorem own_55_9 : cfg.own 55 9 = false := by rfl
@[go_sem] theorem own_55_11 : cfg.own 55 11 = false := by rfl
@[go_sem] theorem own_55_14 : cfg.own 55 14 = false := by rfl
@[go_sem] theorem own_55_21 : cfg.own 55 21 = false := by rfl
@[go_sem] theorem own_57_10 : cfg.own 57 10 = false := by rfl
@[go_sem] theorem own_57_14 : cfg.own 57 14 = false := by rfl
@[go_sem] theorem own_58_6 : cfg.own 58 6 = false := by rfl
@[go_sem] theorem own_58_10 : cfg.own 58 10 = false := by rfl
@[go_sem] theorem own_59_19 : cfg.own 59 19 = false := by rfl
@[go_sem] theorem own_59_34 : cfg.own 59 34 = true := by rfl
@[go_sem] theorem own_59_40 : cfg.own 59 40 = false := by rfl
@[go_sem] theorem own_59_80 : cfg.own 59 80 = true := by rfl
@[go_sem] theorem own_59_82 : cfg.own 59 82 = false := by rfl
@[go_sem] theorem own_59_93 : cfg.own 59 93 = false := by rfl
@[go_sem] theorem own_60_4 : cfg.own 60 4 = false := by rfl
@[go_sem] theorem own_61_9 : cfg.own 61 9 = false := by rfl
@[go_sem] theorem own_61_21 : cfg.own 61 21 = false := by rfl
@[go_sem] theorem own_62_9 : cfg.own 62 9 = false := by rfl
@[go_sem] theorem own_63_15 : cfg.own 63 15 = false := by rfl
@[go_sem] theorem own_63_21 : cfg.own 63 21 = false := by rfl
@[go_sem] theorem own_63_27 : cfg.own 63 27 = false := by rfl
@[go_sem] theorem own_64_4 : cfg.own 64 4 = false := by rfl
@[go_sem] theorem own_65_11 : cfg.own 65 11 = false := by rfl
@[go_sem] theorem own_65_17 : cfg.own 65 17 = false := by rfl
@[go_sem] theorem own_65_21 : cfg.own 65 21 = false := by rfl
@[go_sem] theorem own_65_50 : cfg.own 65 50 = false := by rfl
@[go_sem] theorem own_66_10 : cfg.own 66 10 = false := by rfl
@[go_sem] theorem own_66_19 : cfg.own 66 19 = false := by rfl
@[go_sem] theorem own_66_22 : cfg.own 66 22 = false := by rfl
@[go_sem] theorem own_66_36 : cfg.own 66 36 = false := by rfl
@[go_sem] theorem own_67_9 : cfg.own 67 9 = false := by rfl
@[go_sem] theorem own_67_15 : cfg.own 67 15 = false := by rfl
@[go_sem] theorem own_68_4 : cfg.own 68 4 = false := by rfl
@[go_sem] theorem own_68_7 : cfg.own 68 7 = false := by rfl
@[go_sem] theorem own_69_8 : cfg.own 69 8 = false := by rfl
@[go_sem] theorem own_69_12 : cfg.own 69 12 = false := by rfl
@[go_sem] theorem own_70_8 : cfg.own 70 8 = false := by rfl
@[go_sem] theorem own_70_12 : cfg.own 70 12 = false := by rfl
@[go_sem] theorem own_71_4 : cfg.own 71 4 = false := by rfl
@[go_sem] theorem own_71_7 : cfg.own 71 7 = false := by rfl
@[go_sem] theorem own_72_11 : cfg.own 72 11 = false := by rfl
@[go_sem] theorem own_72_16 : cfg.own 72 16 = false := by rfl
@[go_sem] theorem own_74_78 : cfg.own 74 78 = false := by rfl
@[go_sem] theorem own_75_9 : cfg.own 75 9 = false := by rfl
@[go_sem] theorem own_75_15 : cfg.own 75 15 = false := by rfl
@[go_sem] theorem own_76_8 : cfg.own 76 8 = false := by rfl
@[go_sem] theorem own_76_12 : cfg.own 76 12 = false := by rfl
@[go_sem] theorem own_77_8 : cfg.own 77 8 = false := by rfl
@[go_sem] theorem own_77_14 : cfg.own 77 14 = false := by rfl
@[go_sem] theorem own_78_8 : cfg.own 78 8 = true := by rfl
@[go_sem] theorem own_78_11 : cfg.own 78 11 = false := by rfl
@[go_sem] theorem own_78_15 : cfg.own 78 15 = false := by rfl
@[go_sem] theorem own_78_19 : cfg.own 78 19 = false := by rfl
@[go_sem] theorem own_79_23 : cfg.own 79 23 = false := by rfl
@[go_sem] theorem own_80_49 : cfg.own 80 49 = false := by rfl
@[go_sem] theorem own_80_85 : cfg.own 80 85 = false := by rfl
@[go_sem] theorem own_80_93 : cfg.own 80 93 = false := by rfl
@[go_sem] theorem own_80_111 : cfg.own 80 111 = false := by rfl
@[go_sem] theorem own_80_121 : cfg.own 80 121 = false := by rfl
@[go_sem] theorem own_83_16 : cfg.own 83 16 = false := by rfl
@[go_sem] theorem own_83_38 : cfg.own 83 38 = false := by rfl
@[go_sem] theorem own_83_47 : cfg.own 83 47 = false := by rfl
@[go_sem] theorem own_83_64 : cfg.own 83 64 = false := by rfl
@[go_sem] theorem own_83_71 : cfg.own 83 71 = false := by rfl
@[go_sem] theorem own_83_83 : cfg.own 83 83 = false := by rfl
@[go_sem] theorem own_84_11 : cfg.own 84 11 = false := by rfl
@[go_sem] theorem own_85_40 : cfg.own 85 40 = true := by rfl
@[go_sem] theorem own_85_45 : cfg.own 85 45 = true := by rfl
@[go_sem] theorem own_86_9 : cfg.own 86 9 = false := by rfl
@[go_sem] theorem own_87_14 : cfg.own 87 14 = false := by rfl
@[go_sem] theorem own_90_9 : cfg.own 90 9 = false := by rfl
@[go_sem] theorem own_91_62 : cfg.own 91 62 = false := by rfl
@[go_sem] theorem own_91_74 : cfg.own 91 74 = false := by rfl
@[go_sem] theorem own_94_10 : cfg.own 94 10 = false := by rfl
@[go_sem] theorem own_94_15 : cfg.own 94 15 = false := by rfl
@[go_sem] theorem own_94_22 : cfg.own 94 22 = false := by rfl
@[go_sem] theorem own_94_29 : cfg.own 94 29 = true := by rfl
@[go_sem] theorem own_94_33 : cfg.own 94 33 = false := by rfl
@[go_sem] theorem own_94_36 : cfg.own 94 36 = false := by rfl
@[go_sem] theorem own_96_67 : cfg.own 96 67 = false := by rfl
@[go_sem] theorem own_96_93 : cfg.own 96 93 = false := by rfl
@[go_sem] theorem own_98_67 : cfg.own 98 67 = false := by rfl
@[go_sem] theorem own_98_93 : cfg.own 98 93 = false := by rfl
@[go_sem] theorem own_100_9 : cfg.own 100 9 = false := by rfl
@[go_sem] theorem own_101_8 : cfg.own 101 8 = false := by rfl
@[go_sem] theorem own_102_7 : cfg.own 102 7 = false := by rfl
@[go_sem] theorem own_105_22 : cfg.own 105 22 = false := by rfl
@[go_sem] theorem own_105_23 : cfg.own 105 23 = false := by rfl
@[go_sem] theorem own_105_36 : cfg.own 105 36 = false := by rfl
@[go_sem] theorem own_105_43 : cfg.own 105 43 = false := by rfl
@[go_sem] theorem own_106_6 : cfg.own 106 6 = false := by rfl
@[go_sem] theorem own_108_15 : cfg.own 108 15 = true := by rfl
@[go_sem] theorem own_108_17 : cfg.own 108 17 = false := by rfl
@[go_sem] theorem own_108_18 : cfg.own 108 18 = true := by rfl
@[go_sem] theorem own_108_20 : cfg.own 108 20 = false := by rfl
@[go_sem] theorem own_108_42 : cfg.own 108 42 = false := by rfl
@[go_sem] theorem own_108_45 : cfg.own 108 45 = true := by rfl
@[go_sem] theorem own_108_56 : cfg.own 108 56 = false := by rfl
@[go_sem] theorem own_108_61 : cfg.own 108 61 = false := by rfl
@[go_sem] theorem own_108_67 : cfg.own 108 67 = false := by rfl
@[go_sem] theorem own_108_74 : cfg.own 108 74 = false := by rfl
@[go_sem] theorem own_108_75 : cfg.own 108 75 = true := by rfl
@[go_sem] theorem own_108_86 : cfg.own 108 86 = false := by rfl
@[go_sem] theorem own_108_95 : cfg.own 108 95 = false := by rfl
@[go_sem] theorem own_108_98 : cfg.own 108 98 = false := by rfl
@[go_sem] theorem own_108_108 : cfg.own 108 108 = false := by rfl
@[go_sem] theorem own_108_110 : cfg.own 108 110 = false := by rfl
@[go_sem] theorem own_110_8 : cfg.own 110 8 = false := by rfl
@[go_sem] theorem own_110_14 : cfg.own 110 14 = false := by rfl
@[go_sem] theorem own_110_23 : cfg.own 110 23 = false := by rfl
@[go_sem] theorem own_110_26 : cfg.own 110 26 = false := by rfl
@[go_sem] theorem own_111_9 : cfg.own 111 9 = false := by rfl
@[go_sem] theorem own_111_58 : cfg.own 111 58 = false := by rfl
@[go_sem] theorem own_111_61 : cfg.own 111 61 = false := by rfl
@[go_sem] theorem own_111_63 : cfg.own 111 63 = false := by rfl
@[go_sem] theorem own_111_67 : cfg.own 111 67 = false := by rfl
@[go_sem] theorem own_111_69 : cfg.own 111 69 = false := by rfl
@[go_sem] theorem own_111_70 : cfg.own 111 70 = false := by rfl
@[go_sem] theorem own_111_78 : cfg.own 111 78 = false := by rfl
@[go_sem] theorem own_111_79 : cfg.own 111 79 = false := by rfl
@[go_sem] theorem own_112_17 : cfg.own 112 17 = true := by rfl
@[go_sem] theorem own_112_37 : cfg.own 112 37 = false := by rfl
@[go_sem] theorem own_113_9 : cfg.own 113 9 = false := by rfl
@[go_sem] theorem own_114_55 : cfg.own 114 55 = false := by rfl
@[go_sem] theorem own_115_7 : cfg.own 115 7 = false := by rfl
@[go_sem] theorem own_118_21 : cfg.own 118 21 = false := by rfl
@[go_sem] theorem own_122_6 : cfg.own 122 6 = false := by rfl
@[go_sem] theorem own_123_7 : cfg.own 123 7 = false := by rfl
@[go_sem] theorem own_124_17 : cfg.own 124 17 = false := by rfl
@[go_sem] theorem own_124_37 : cfg.own 124 37 = false := by rfl
@[go_sem] theorem own_125_20 : cfg.own 125 20 = false := by rfl
@[go_sem] theorem own_126_14 : cfg.own 126 14 = false := by rfl
@[go_sem] theorem own_126_27 : cfg.own 126 27 = false := by rfl
@[go_sem] theorem own_127_25 : cfg.own 127 25 = false := by rfl
@[go_sem] theorem own_129_7 : cfg.own 129 7 = true := by rfl
@[go_sem] theorem own_129_9 : cfg.own 129 9 = false := by rfl
@[go_sem] theorem own_129_14 : cfg.own 129 14 = false := by rfl
@[go_sem] theorem own_129_16 : cfg.own 129 16 = false := by rfl
@[go_sem] theorem own_129_22 : cfg.own 129 22 = false := by rfl
@[go_sem] theorem own_129_27 : cfg.own 129 27 = false := by rfl
@[go_sem] theorem own_129_33 : cfg.own 129 33 = false := by rfl
@[go_sem] theorem own_129_36 : cfg.own 129 36 = false := by rfl
@[go_sem] theorem own_130_7 : cfg.own 130 7 = true := by rfl
@[go_sem] theorem own_130_11 : cfg.own 130 11 = false := by rfl
@[go_sem] theorem own_130_13 : cfg.own 130 13 = false := by rfl
@[go_sem] theorem own_130_14 : cfg.own 130 14 = true := by rfl
@[go_sem] theorem own_131_61 : cfg.own 131 61 = false := by rfl
@[go_sem] theorem own_131_73 : cfg.own 131 73 = false := by rfl
@[go_sem] theorem own_131_78 : cfg.own 131 78 = false := by rfl
@[go_sem] theorem own_132_22 : cfg.own 132 22 = false := by rfl
@[go_sem] theorem own_132_25 : cfg.own 132 25 = false := by rfl
@[go_sem] theorem own_132_29 : cfg.own 132 29 = false := by rfl
@[go_sem] theorem own_133_5 : cfg.own 133 5 = false := by rfl
@[go_sem] theorem own_133_12 : cfg.own 133 12 = false := by rfl
@[go_sem] theorem own_134_8 : cfg.own 134 8 = true := by rfl
@[go_sem] theorem own_134_10 : cfg.own 134 10 = false := by rfl
@[go_sem] theorem own_134_14 : cfg.own 134 14 = false := by rfl
@[go_sem] theorem own_134_16 : cfg.own 134 16 = false := by rfl
@[go_sem] theorem own_134_20 : cfg.own 134 20 = false := by rfl
@[go_sem] theorem own_134_23 : cfg.own 134 23 = false := by rfl
@[go_sem] theorem own_135_4 : cfg.own 135 4 = false := by rfl
@[go_sem] theorem own_137_25 : cfg.own 137 25 = false := by rfl
@[go_sem] theorem own_138_11 : cfg.own 138 11 = false := by rfl
@[go_sem] theorem own_138_13 : cfg.own 138 13 = false := by rfl
@[go_sem] theorem own_139_9 : cfg.own 139 9 = false := by rfl
@[go_sem] theorem own_139_14 : cfg.own 139 14 = false := by rfl
@[go_sem] theorem own_139_16 : cfg.own 139 16 = false := by rfl
@[go_sem] theorem own_140_9 : cfg.own 140 9 = false := by rfl
@[go_sem] theorem own_140_10 : cfg.own 140 10 = false := by rfl
@[go_sem] theorem own_143_13 : cfg.own 143 13 = true := by rfl
@[go_sem] theorem own_143_29 : cfg.own 143 29 = false := by rfl
@[go_sem] theorem own_144_37 : cfg.own 144 37 = false := by rfl
@[go_sem] theorem own_145_5 : cfg.own 145 5 = true := by rfl
@[go_sem] theorem own_145_10 : cfg.own 145 10 = false := by rfl
@[go_sem] theorem own_145_11 : cfg.own 145 11 = false := by rfl
@[go_sem] theorem own_145_12 : cfg.own 145 12 = false := by rfl
@[go_sem] theorem own_145_13 : cfg.own 145 13 = false := by rfl
@[go_sem] theorem own_146_59 : cfg.own 146 59 = false := by rfl
@[go_sem] theorem own_147_27 : cfg.own 147 27 = false := by rfl
@[go_sem] theorem own_149_14 : cfg.own 149 14 = false := by rfl
@[go_sem] theorem own_149_28 : cfg.own 149 28 = false := by rfl
@[go_sem] theorem own_150_6 : cfg.own 150 6 = false := by rfl
@[go_sem] theorem own_151_10 : cfg.own 151 10 = false := by rfl
@[go_sem] theorem own_153_14 : cfg.own 153 14 = false := by rfl
@[go_sem] theorem own_153_19 : cfg.own 153 19 = false := by rfl
@[go_sem] theorem own_153_27 : cfg.own 153 27 = false := by rfl
@[go_sem] theorem own_153_31 : cfg.own 153 31 = false := by rfl
@[go_sem] theorem own_153_37 : cfg.own 153 37 = false := by rfl
@[go_sem] theorem own_153_40 : cfg.own 153 40 = false := by rfl
@[go_sem] theorem own_153_46 : cfg.own 153 46 = false := by rfl
@[go_sem] theorem own_153_71 : cfg.own 153 71 = false := by rfl
@[go_sem] theorem own_153_79 : cfg.own 153 79 = false := by rfl
@[go_sem] theorem own_153_90 : cfg.own 153 90 = false := by rfl
@[go_sem] theorem own_153_96 : cfg.own 153 96 = false := by rfl
@[go_sem] theorem own_153_101 : cfg.own 153 101 = false := by rfl
@[go_sem] theorem own_153_108 : cfg.own 153 108 = false := by rfl
@[go_sem] theorem own_154_11 : cfg.own 154 11 = true := by rfl
@[go_sem] theorem own_154_14 : cfg.own 154 14 = false := by rfl
@[go_sem] theorem own_154_17 : cfg.own 154 17 = false := by rfl
@[go_sem] theorem own_156_8 : cfg.own 156 8 = false := by rfl
@[go_sem] theorem own_156_13 : cfg.own 156 13 = false := by rfl
@[go_sem] theorem own_159_7 : cfg.own 159 7 = false := by rfl
@[go_sem] theorem own_159_13 : cfg.own 159 13 = false := by rfl
@[go_sem] theorem own_159_22 : cfg.own 159 22 = false := by rfl
@[go_sem] theorem own_160_30 : cfg.own 160 30 = false := by rfl
@[go_sem] theorem own_160_46 : cfg.own 160 46 = false := by rfl
@[go_sem] theorem own_161_67 : cfg.own 161 67 = false := by rfl
@[go_sem] theorem own_161_93 : cfg.own 161 93 = false := by rfl
@[go_sem] theorem own_164_9 : cfg.own 164 9 = false := by rfl
@[go_sem] theorem own_166_9 : cfg.own 166 9 = false := by rfl
@[go_sem] theorem own_167_7 : cfg.own 167 7 = false := by rfl
@[go_sem] theorem own_168_9 : cfg.own 168 9 = true := by rfl
@[go_sem] theorem own_168_11 : cfg.own 168 11 = false := by rfl
@[go_sem] theorem own_171_36 : cfg.own 171 36 = false := by rfl
@[go_sem] theorem own_171_38 : cfg.own 171 38 = true := by rfl
@[go_sem] theorem own_172_10 : cfg.own 172 10 = false := by rfl
@[go_sem] theorem own_172_19 : cfg.own 172 19 = false := by rfl
@[go_sem] theorem own_172_25 : cfg.own 172 25 = false := by rfl
@[go_sem] theorem own_172_27 : cfg.own 172 27 = false := by rfl
@[go_sem] theorem own_172_28 : cfg.own 172 28 = false := by rfl
@[go_sem] theorem own_172_32 : cfg.own 172 32 = false := by rfl
@[go_sem] theorem own_172_40 : cfg.own 172 40 = false := by rfl
@[go_sem] theorem own_172_44 : cfg.own 172 44 = false := by rfl
@[go_sem] theorem own_172_53 : cfg.own 172 53 = false := by rfl
@[go_sem] theorem own_172_54 : cfg.own 172 54 = false := by rfl
@[go_sem] theorem own_172_61 : cfg.own 172 61 = false := by rfl
@[go_sem] theorem own_172_62 : cfg.own 172 62 = false := by rfl
@[go_sem] theorem own_173_19 : cfg.own 173 19 = false := by rfl
@[go_sem] theorem own_173_24 : cfg.own 173 24 = false := by rfl
@[go_sem] theorem own_173_30 : cfg.own 173 30 = true := by rfl
@[go_sem] theorem own_173_54 : cfg.own 173 54 = true := by rfl
@[go_sem] theorem own_175_23 : cfg.own 175 23 = false := by rfl
@[go_sem] theorem own_178_10 : cfg.own 178 10 = false := by rfl
@[go_sem] theorem own_180_16 : cfg.own 180 16 = false := by rfl
@[go_sem] theorem own_181_22 : cfg.own 181 22 = false := by rfl
@[go_sem] theorem own_181_23 : cfg.own 181 23 = false := by rfl
@[go_sem] theorem own_183_22 : cfg.own 183 22 = false := by rfl
@[go_sem] theorem own_184_18 : cfg.own 184 18 = false := by rfl
@[go_sem] theorem own_185_8 : cfg.own 185 8 = true := by rfl
@[go_sem] theorem own_185_10 : cfg.own 185 10 = false := by rfl
@[go_sem] theorem own_185_23 : cfg.own 185 23 = false := by rfl
@[go_sem] theorem own_185_25 : cfg.own 185 25 = false := by rfl
@[go_sem] theorem own_185_33 : cfg.own 185 33 = false := by rfl
@[go_sem] theorem own_185_40 : cfg.own 185 40 = false := by rfl
@[go_sem] theorem own_186_30 : cfg.own 186 30 = false := by rfl
@[go_sem] theorem own_186_37 : cfg.own 186 37 = false := by rfl
@[go_sem] theorem own_186_44 : cfg.own 186 44 = false := by rfl
@[go_sem] theorem own_186_52 : cfg.own 186 52 = false := by rfl
@[go_sem] theorem own_186_61 : cfg.own 186 61 = false := by rfl
@[go_sem] theorem own_186_80 : cfg.own 186 80 = false := by rfl
@[go_sem] theorem own_186_94 : cfg.own 186 94 = false := by rfl
@[go_sem] theorem own_186_103 : cfg.own 186 103 = false := by rfl
@[go_sem] theorem own_186_111 : cfg.own 186 111 = false := by rfl
@[go_sem] theorem own_186_134 : cfg.own 186 134 = false := by rfl
@[go_sem] theorem own_186_146 : cfg.own 186 146 = false := by rfl
@[go_sem] theorem own_187_5 : cfg.own 187 5 = false := by rfl
@[go_sem] theorem own_187_7 : cfg.own 187 7 = false := by rfl
@[go_sem] theorem own_189_8 : cfg.own 189 8 = false := by rfl
@[go_sem] theorem own_189_10 : cfg.own 189 10 = false := by rfl
@[go_sem] theorem own_190_27 : cfg.own 190 27 = false := by rfl
@[go_sem] theorem own_190_33 : cfg.own 190 33 = false := by rfl
@[go_sem] theorem own_190_39 : cfg.own 190 39 = false := by rfl
@[go_sem] theorem own_190_46 : cfg.own 190 46 = false := by rfl
@[go_sem] theorem own_190_54 : cfg.own 190 54 = false := by rfl
@[go_sem] theorem own_190_72 : cfg.own 190 72 = false := by rfl
@[go_sem] theorem own_190_85 : cfg.own 190 85 = false := by rfl
@[go_sem] theorem own_190_92 : cfg.own 190 92 = false := by rfl
@[go_sem] theorem own_190_99 : cfg.own 190 99 = false := by rfl
@[go_sem] theorem own_190_121 : cfg.own 190 121 = false := by rfl
@[go_sem] theorem own_190_132 : cfg.own 190 132 = false := by rfl
@[go_sem] theorem own_191_18 : cfg.own 191 18 = false := by rfl
@[go_sem] theorem own_193_36 : cfg.own 193 36 = false := by rfl
@[go_sem] theorem own_197_9 : cfg.own 197 9 = false := by rfl
@[go_sem] theorem own_198_7 : cfg.own 198 7 = false := by rfl
@[go_sem] theorem own_198_11 : cfg.own 198 11 = false := by rfl
@[go_sem] theorem own_198_13 : cfg.own 198 13 = false := by rfl
@[go_sem] theorem own_199_7 : cfg.own 199 7 = false := by rfl
@[go_sem] theorem own_199_11 : cfg.own 199 11 = false := by rfl
@[go_sem] theorem own_199_13 : cfg.own 199 13 = false := by rfl
@[go_sem] theorem own_200_10 : cfg.own 200 10 = false := by rfl
@[go_sem] theorem own_200_28 : cfg.own 200 28 = false := by rfl
@[go_sem] theorem own_202_20 : cfg.own 202 20 = false := by rfl
@[go_sem] theorem own_202_23 : cfg.own 202 23 = false := by rfl
@[go_sem] theorem own_202_25 : cfg.own 202 25 = true := by rfl
@[go_sem] theorem own_202_57 : cfg.own 202 57 = false := by rfl
@[go_sem] theorem own_202_98 : cfg.own 202 98 = false := by rfl
@[go_sem] theorem own_202_104 : cfg.own 202 104 = false := by rfl
@[go_sem] theorem own_202_111 : cfg.own 202 111 = false := by rfl
@[go_sem] theorem own_202_116 : cfg.own 202 116 = false := by rfl
@[go_sem] theorem own_204_32 : cfg.own 204 32 = false := by rfl
@[go_sem] theorem own_205_29 : cfg.own 205 29 = false := by rfl
@[go_sem] theorem own_205_59 : cfg.own 205 59 = false := by rfl
@[go_sem] theorem own_206_21 : cfg.own 206 21 = false := by rfl
@[go_sem] theorem own_206_38 : cfg.own 206 38 = false := by rfl
@[go_sem] theorem own_207_40 : cfg.own 207 40 = false := by rfl
@[go_sem] theorem own_207_44 : cfg.own 207 44 = false := by rfl
@[go_sem] theorem own_207_48 : cfg.own 207 48 = false := by rfl
@[go_sem] theorem own_207_54 : cfg.own 207 54 = false := by rfl
@[go_sem] theorem own_209_33 : cfg.own 209 33 = false := by rfl
@[go_sem] theorem own_209_82 : cfg.own 209 82 = false := by rfl
@[go_sem] theorem own_209_122 : cfg.own 209 122 = false := by rfl
@[go_sem] theorem own_210_44 : cfg.own 210 44 = false := by rfl
@[go_sem] theorem own_210_63 : cfg.own 210 63 = false := by rfl
@[go_sem] theorem own_211_45 : cfg.own 211 45 = false := by rfl
@[go_sem] theorem own_211_63 : cfg.own 211 63 = false := by rfl
@[go_sem] theorem own_211_118 : cfg.own 211 118 = false := by rfl
@[go_sem] theorem own_211_136 : cfg.own 211 136 = false := by rfl
@[go_sem] theorem own_215_29 : cfg.own 215 29 = false := by rfl
@[go_sem] theorem own_216_26 : cfg.own 216 26 = false := by rfl
@[go_sem] theorem own_216_55 : cfg.own 216 55 = false := by rfl
@[go_sem] theorem own_217_19 : cfg.own 217 19 = false := by rfl
@[go_sem] theorem own_217_36 : cfg.own 217 36 = false := by rfl
@[go_sem] theorem own_218_37 : cfg.own 218 37 = false := by rfl
@[go_sem] theorem own_218_40 : cfg.own 218 40 = false := by rfl
@[go_sem] theorem own_218_43 : cfg.own 218 43 = false := by rfl
@[go_sem] theorem own_218_48 : cfg.own 218 48 = false := by rfl
@[go_sem] theorem own_220_30 : cfg.own 220 30 = false := by rfl
@[go_sem] theorem own_220_77 : cfg.own 220 77 = false := by rfl
@[go_sem] theorem own_220_115 : cfg.own 220 115 = false := by rfl
@[go_sem] theorem own_221_6 : cfg.own 221 6 = false := by rfl
@[go_sem] theorem own_221_9 : cfg.own 221 9 = false := by rfl
@[go_sem] theorem own_222_41 : cfg.own 222 41 = false := by rfl
@[go_sem] theorem own_222_58 : cfg.own 222 58 = false := by rfl
@[go_sem] theorem own_223_42 : cfg.own 223 42 = false := by rfl
@[go_sem] theorem own_223_58 : cfg.own 223 58 = false := by rfl
@[go_sem] theorem own_223_111 : cfg.own 223 111 = false := by rfl
@[go_sem] theorem own_223_127 : cfg.own 223 127 = false := by rfl
@[go_sem] theorem own_224_15 : cfg.own 224 15 = false := by rfl
@[go_sem] theorem own_224_25 : cfg.own 224 25 = false := by rfl
@[go_sem] theorem own_225_7 : cfg.own 225 7 = false := by rfl
@[go_sem] theorem own_225_11 : cfg.own 225 11 = false := by rfl
@[go_sem] theorem own_225_13 : cfg.own 225 13 = false := by rfl
@[go_sem] theorem own_228_16 : cfg.own 228 16 = false := by rfl
@[go_sem] theorem own_229_11 : cfg.own 229 11 = false := by rfl
@[go_sem] theorem own_229_14 : cfg.own 229 14 = false := by rfl
@[go_sem] theorem own_230_5 : cfg.own 230 5 = true := by rfl
@[go_sem] theorem own_231_38 : cfg.own 231 38 = false := by rfl
@[go_sem] theorem own_231_56 : cfg.own 231 56 = false := by rfl
@[go_sem] theorem own_232_5 : cfg.own 232 5 = false := by rfl
@[go_sem] theorem own_234_17 : cfg.own 234 17 = false := by rfl
@[go_sem] theorem own_235_19 : cfg.own 235 19 = false := by rfl
@[go_sem] theorem own_235_28 : cfg.own 235 28 = false := by rfl
@[go_sem] theorem own_235_37 : cfg.own 235 37 = false := by rfl
@[go_sem] theorem own_236_35 : cfg.own 236 35 = false := by rfl
@[go_sem] theorem own_236_51 : cfg.own 236 51 = false := by rfl
@[go_sem] theorem own_237_14 : cfg.own 237 14 = false := by rfl
@[go_sem] theorem own_238_16 : cfg.own 238 16 = false := by rfl
@[go_sem] theorem own_238_24 : cfg.own 238 24 = false := by rfl
@[go_sem] theorem own_238_32 : cfg.own 238 32 = false := by rfl
@[go_sem] theorem own_242_11 : cfg.own 242 11 = false := by rfl
@[go_sem] theorem own_242_15 : cfg.own 242 15 = false := by rfl
@[go_sem] theorem own_243_21 : cfg.own 243 21 = false := by rfl
@[go_sem] theorem own_244_18 : cfg.own 244 18 = false := by rfl
end Go.Proofs.Ytagpdfbgimnljaa.X
