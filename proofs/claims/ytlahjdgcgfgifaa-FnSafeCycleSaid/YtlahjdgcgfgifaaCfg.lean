/- How this program's calls are taken. -/
import Derived.Test.YtlahjdgcgfgifaaTab
import Derived.Test.YtlahjdgcgfgifaaPrim
namespace Go.Proofs.Ytlahjdgcgfgifaa.X
open Go Go.Proofs

def cfg : Cfg where
  mutF f := mutL.contains f
  own me d := ownL.contains (me, d)
  prim f := if f = 113 then some (cloneP) else if f = 130 then some (sortP) else if f = 161 then some (mulP) else none
  give me d := false

@[go_sem] theorem give_0 (d : Nat) : cfg.give 0 d = false := by rfl
@[go_sem] theorem give_1 (d : Nat) : cfg.give 1 d = false := by rfl
@[go_sem] theorem give_2 (d : Nat) : cfg.give 2 d = false := by rfl
@[go_sem] theorem give_3 (d : Nat) : cfg.give 3 d = false := by rfl
@[go_sem] theorem give_4 (d : Nat) : cfg.give 4 d = false := by rfl
@[go_sem] theorem give_5 (d : Nat) : cfg.give 5 d = false := by rfl
@[go_sem] theorem give_6 (d : Nat) : cfg.give 6 d = false := by rfl
@[go_sem] theorem give_7 (d : Nat) : cfg.give 7 d = false := by rfl
@[go_sem] theorem give_8 (d : Nat) : cfg.give 8 d = false := by rfl
@[go_sem] theorem give_9 (d : Nat) : cfg.give 9 d = false := by rfl
@[go_sem] theorem give_10 (d : Nat) : cfg.give 10 d = false := by rfl
@[go_sem] theorem give_11 (d : Nat) : cfg.give 11 d = false := by rfl
@[go_sem] theorem give_12 (d : Nat) : cfg.give 12 d = false := by rfl
@[go_sem] theorem give_13 (d : Nat) : cfg.give 13 d = false := by rfl
@[go_sem] theorem give_14 (d : Nat) : cfg.give 14 d = false := by rfl
@[go_sem] theorem give_15 (d : Nat) : cfg.give 15 d = false := by rfl
@[go_sem] theorem give_16 (d : Nat) : cfg.give 16 d = false := by rfl
@[go_sem] theorem give_17 (d : Nat) : cfg.give 17 d = false := by rfl
@[go_sem] theorem give_18 (d : Nat) : cfg.give 18 d = false := by rfl
@[go_sem] theorem give_19 (d : Nat) : cfg.give 19 d = false := by rfl
@[go_sem] theorem give_20 (d : Nat) : cfg.give 20 d = false := by rfl
@[go_sem] theorem give_21 (d : Nat) : cfg.give 21 d = false := by rfl
@[go_sem] theorem give_22 (d : Nat) : cfg.give 22 d = false := by rfl
@[go_sem] theorem give_23 (d : Nat) : cfg.give 23 d = false := by rfl
@[go_sem] theorem give_24 (d : Nat) : cfg.give 24 d = false := by rfl
@[go_sem] theorem give_25 (d : Nat) : cfg.give 25 d = false := by rfl
@[go_sem] theorem give_26 (d : Nat) : cfg.give 26 d = false := by rfl
@[go_sem] theorem give_27 (d : Nat) : cfg.give 27 d = false := by rfl
@[go_sem] theorem give_28 (d : Nat) : cfg.give 28 d = false := by rfl
@[go_sem] theorem give_29 (d : Nat) : cfg.give 29 d = false := by rfl
@[go_sem] theorem give_30 (d : Nat) : cfg.give 30 d = false := by rfl
@[go_sem] theorem give_31 (d : Nat) : cfg.give 31 d = false := by rfl
@[go_sem] theorem give_32 (d : Nat) : cfg.give 32 d = false := by rfl
@[go_sem] theorem give_33 (d : Nat) : cfg.give 33 d = false := by rfl
@[go_sem] theorem give_34 (d : Nat) : cfg.give 34 d = false := by rfl
@[go_sem] theorem give_35 (d : Nat) : cfg.give 35 d = false := by rfl
@[go_sem] theorem give_36 (d : Nat) : cfg.give 36 d = false := by rfl
@[go_sem] theorem give_37 (d : Nat) : cfg.give 37 d = false := by rfl
@[go_sem] theorem give_38 (d : Nat) : cfg.give 38 d = false := by rfl
@[go_sem] theorem give_39 (d : Nat) : cfg.give 39 d = false := by rfl
@[go_sem] theorem give_40 (d : Nat) : cfg.give 40 d = false := by rfl
@[go_sem] theorem give_41 (d : Nat) : cfg.give 41 d = false := by rfl
@[go_sem] theorem give_42 (d : Nat) : cfg.give 42 d = false := by rfl
@[go_sem] theorem give_43 (d : Nat) : cfg.give 43 d = false := by rfl
@[go_sem] theorem give_44 (d : Nat) : cfg.give 44 d = false := by rfl
@[go_sem] theorem give_45 (d : Nat) : cfg.give 45 d = false := by rfl
@[go_sem] theorem give_46 (d : Nat) : cfg.give 46 d = false := by rfl
@[go_sem] theorem give_47 (d : Nat) : cfg.give 47 d = false := by rfl
@[go_sem] theorem give_48 (d : Nat) : cfg.give 48 d = false := by rfl
@[go_sem] theorem give_49 (d : Nat) : cfg.give 49 d = false := by rfl
@[go_sem] theorem give_50 (d : Nat) : cfg.give 50 d = false := by rfl
@[go_sem] theorem give_51 (d : Nat) : cfg.give 51 d = false := by rfl
@[go_sem] theorem give_52 (d : Nat) : cfg.give 52 d = false := by rfl
@[go_sem] theorem give_53 (d : Nat) : cfg.give 53 d = false := by rfl
@[go_sem] theorem give_54 (d : Nat) : cfg.give 54 d = false := by rfl
@[go_sem] theorem give_55 (d : Nat) : cfg.give 55 d = false := by rfl
@[go_sem] theorem give_56 (d : Nat) : cfg.give 56 d = false := by rfl
@[go_sem] theorem give_57 (d : Nat) : cfg.give 57 d = false := by rfl
@[go_sem] theorem give_58 (d : Nat) : cfg.give 58 d = false := by rfl
@[go_sem] theorem give_59 (d : Nat) : cfg.give 59 d = false := by rfl
@[go_sem] theorem give_60 (d : Nat) : cfg.give 60 d = false := by rfl
@[go_sem] theorem give_61 (d : Nat) : cfg.give 61 d = false := by rfl
@[go_sem] theorem give_62 (d : Nat) : cfg.give 62 d = false := by rfl
@[go_sem] theorem give_63 (d : Nat) : cfg.give 63 d = false := by rfl
@[go_sem] theorem give_64 (d : Nat) : cfg.give 64 d = false := by rfl
@[go_sem] theorem give_65 (d : Nat) : cfg.give 65 d = false := by rfl
@[go_sem] theorem give_66 (d : Nat) : cfg.give 66 d = false := by rfl
@[go_sem] theorem give_67 (d : Nat) : cfg.give 67 d = false := by rfl
@[go_sem] theorem give_68 (d : Nat) : cfg.give 68 d = false := by rfl
@[go_sem] theorem give_69 (d : Nat) : cfg.give 69 d = false := by rfl
@[go_sem] theorem give_70 (d : Nat) : cfg.give 70 d = false := by rfl
@[go_sem] theorem give_71 (d : Nat) : cfg.give 71 d = false := by rfl
@[go_sem] theorem give_72 (d : Nat) : cfg.give 72 d = false := by rfl
@[go_sem] theorem give_73 (d : Nat) : cfg.give 73 d = false := by rfl
@[go_sem] theorem give_74 (d : Nat) : cfg.give 74 d = false := by rfl
@[go_sem] theorem give_75 (d : Nat) : cfg.give 75 d = false := by rfl
@[go_sem] theorem give_76 (d : Nat) : cfg.give 76 d = false := by rfl
@[go_sem] theorem give_77 (d : Nat) : cfg.give 77 d = false := by rfl
@[go_sem] theorem give_78 (d : Nat) : cfg.give 78 d = false := by rfl
@[go_sem] theorem give_79 (d : Nat) : cfg.give 79 d = false := by rfl
@[go_sem] theorem give_80 (d : Nat) : cfg.give 80 d = false := by rfl
@[go_sem] theorem give_81 (d : Nat) : cfg.give 81 d = false := by rfl
@[go_sem] theorem give_82 (d : Nat) : cfg.give 82 d = false := by rfl
@[go_sem] theorem give_83 (d : Nat) : cfg.give 83 d = false := by rfl
@[go_sem] theorem give_84 (d : Nat) : cfg.give 84 d = false := by rfl
@[go_sem] theorem give_85 (d : Nat) : cfg.give 85 d = false := by rfl
@[go_sem] theorem give_86 (d : Nat) : cfg.give 86 d = false := by rfl
@[go_sem] theorem give_87 (d : Nat) : cfg.give 87 d = false := by rfl
@[go_sem] theorem give_88 (d : Nat) : cfg.give 88 d = false := by rfl
@[go_sem] theorem give_89 (d : Nat) : cfg.give 89 d = false := by rfl
@[go_sem] theorem give_90 (d : Nat) : cfg.give 90 d = false := by rfl
@[go_sem] theorem give_91 (d : Nat) : cfg.give 91 d = false := by rfl
@[go_sem] theorem give_92 (d : Nat) : cfg.give 92 d = false := by rfl
@[go_sem] theorem give_93 (d : Nat) : cfg.give 93 d = false := by rfl
@[go_sem] theorem give_94 (d : Nat) : cfg.give 94 d = false := by rfl
@[go_sem] theorem give_95 (d : Nat) : cfg.give 95 d = false := by rfl
@[go_sem] theorem give_96 (d : Nat) : cfg.give 96 d = false := by rfl
@[go_sem] theorem give_97 (d : Nat) : cfg.give 97 d = false := by rfl
@[go_sem] theorem give_98 (d : Nat) : cfg.give 98 d = false := by rfl
@[go_sem] theorem give_99 (d : Nat) : cfg.give 99 d = false := by rfl
@[go_sem] theorem give_100 (d : Nat) : cfg.give 100 d = false := by rfl
@[go_sem] theorem give_101 (d : Nat) : cfg.give 101 d = false := by rfl
@[go_sem] theorem give_102 (d : Nat) : cfg.give 102 d = false := by rfl
@[go_sem] theorem give_103 (d : Nat) : cfg.give 103 d = false := by rfl
@[go_sem] theorem give_104 (d : Nat) : cfg.give 104 d = false := by rfl
@[go_sem] theorem give_105 (d : Nat) : cfg.give 105 d = false := by rfl
@[go_sem] theorem give_106 (d : Nat) : cfg.give 106 d = false := by rfl
@[go_sem] theorem give_107 (d : Nat) : cfg.give 107 d = false := by rfl
@[go_sem] theorem give_108 (d : Nat) : cfg.give 108 d = false := by rfl
@[go_sem] theorem give_109 (d : Nat) : cfg.give 109 d = false := by rfl
@[go_sem] theorem give_110 (d : Nat) : cfg.give 110 d = false := by rfl
@[go_sem] theorem give_111 (d : Nat) : cfg.give 111 d = false := by rfl
@[go_sem] theorem give_112 (d : Nat) : cfg.give 112 d = false := by rfl
@[go_sem] theorem give_113 (d : Nat) : cfg.give 113 d = false := by rfl
@[go_sem] theorem give_114 (d : Nat) : cfg.give 114 d = false := by rfl
@[go_sem] theorem give_115 (d : Nat) : cfg.give 115 d = false := by rfl
@[go_sem] theorem give_116 (d : Nat) : cfg.give 116 d = false := by rfl
@[go_sem] theorem give_117 (d : Nat) : cfg.give 117 d = false := by rfl
@[go_sem] theorem give_118 (d : Nat) : cfg.give 118 d = false := by rfl
@[go_sem] theorem give_119 (d : Nat) : cfg.give 119 d = false := by rfl
@[go_sem] theorem give_120 (d : Nat) : cfg.give 120 d = false := by rfl
@[go_sem] theorem give_121 (d : Nat) : cfg.give 121 d = false := by rfl
@[go_sem] theorem give_122 (d : Nat) : cfg.give 122 d = false := by rfl
@[go_sem] theorem give_123 (d : Nat) : cfg.give 123 d = false := by rfl
@[go_sem] theorem give_124 (d : Nat) : cfg.give 124 d = false := by rfl
@[go_sem] theorem give_125 (d : Nat) : cfg.give 125 d = false := by rfl
@[go_sem] theorem give_126 (d : Nat) : cfg.give 126 d = false := by rfl
@[go_sem] theorem give_127 (d : Nat) : cfg.give 127 d = false := by rfl
@[go_sem] theorem give_128 (d : Nat) : cfg.give 128 d = false := by rfl
@[go_sem] theorem give_129 (d : Nat) : cfg.give 129 d = false := by rfl
@[go_sem] theorem give_130 (d : Nat) : cfg.give 130 d = false := by rfl
@[go_sem] theorem give_131 (d : Nat) : cfg.give 131 d = false := by rfl
@[go_sem] theorem give_132 (d : Nat) : cfg.give 132 d = false := by rfl
@[go_sem] theorem give_133 (d : Nat) : cfg.give 133 d = false := by rfl
@[go_sem] theorem give_134 (d : Nat) : cfg.give 134 d = false := by rfl
@[go_sem] theorem give_135 (d : Nat) : cfg.give 135 d = false := by rfl
@[go_sem] theorem give_136 (d : Nat) : cfg.give 136 d = false := by rfl
@[go_sem] theorem give_137 (d : Nat) : cfg.give 137 d = false := by rfl
@[go_sem] theorem give_138 (d : Nat) : cfg.give 138 d = false := by rfl
@[go_sem] theorem give_139 (d : Nat) : cfg.give 139 d = false := by rfl
@[go_sem] theorem give_140 (d : Nat) : cfg.give 140 d = false := by rfl
@[go_sem] theorem give_141 (d : Nat) : cfg.give 141 d = false := by rfl
@[go_sem] theorem give_142 (d : Nat) : cfg.give 142 d = false := by rfl
@[go_sem] theorem give_143 (d : Nat) : cfg.give 143 d = false := by rfl
@[go_sem] theorem give_144 (d : Nat) : cfg.give 144 d = false := by rfl
@[go_sem] theorem give_145 (d : Nat) : cfg.give 145 d = false := by rfl
@[go_sem] theorem give_146 (d : Nat) : cfg.give 146 d = false := by rfl
@[go_sem] theorem give_147 (d : Nat) : cfg.give 147 d = false := by rfl
@[go_sem] theorem give_148 (d : Nat) : cfg.give 148 d = false := by rfl
@[go_sem] theorem give_149 (d : Nat) : cfg.give 149 d = false := by rfl
@[go_sem] theorem give_150 (d : Nat) : cfg.give 150 d = false := by rfl
@[go_sem] theorem give_151 (d : Nat) : cfg.give 151 d = false := by rfl
@[go_sem] theorem give_152 (d : Nat) : cfg.give 152 d = false := by rfl
@[go_sem] theorem give_153 (d : Nat) : cfg.give 153 d = false := by rfl
@[go_sem] theorem give_154 (d : Nat) : cfg.give 154 d = false := by rfl
@[go_sem] theorem give_155 (d : Nat) : cfg.give 155 d = false := by rfl
@[go_sem] theorem give_156 (d : Nat) : cfg.give 156 d = false := by rfl
@[go_sem] theorem give_157 (d : Nat) : cfg.give 157 d = false := by rfl
@[go_sem] theorem give_158 (d : Nat) : cfg.give 158 d = false := by rfl
@[go_sem] theorem give_159 (d : Nat) : cfg.give 159 d = false := by rfl
@[go_sem] theorem give_160 (d : Nat) : cfg.give 160 d = false := by rfl
@[go_sem] theorem give_161 (d : Nat) : cfg.give 161 d = false := by rfl
@[go_sem] theorem give_162 (d : Nat) : cfg.give 162 d = false := by rfl
@[go_sem] theorem give_163 (d : Nat) : cfg.give 163 d = false := by rfl
@[go_sem] theorem give_164 (d : Nat) : cfg.give 164 d = false := by rfl
@[go_sem] theorem give_165 (d : Nat) : cfg.give 165 d = false := by rfl
@[go_sem] theorem give_166 (d : Nat) : cfg.give 166 d = false := by rfl
@[go_sem] theorem give_167 (d : Nat) : cfg.give 167 d = false := by rfl
@[go_sem] theorem give_168 (d : Nat) : cfg.give 168 d = false := by rfl
@[go_sem] theorem give_169 (d : Nat) : cfg.give 169 d = false := by rfl
@[go_sem] theorem give_170 (d : Nat) : cfg.give 170 d = false := by rfl
@[go_sem] theorem give_171 (d : Nat) : cfg.give 171 d = false := by rfl
@[go_sem] theorem give_172 (d : Nat) : cfg.give 172 d = false := by rfl
@[go_sem] theorem give_173 (d : Nat) : cfg.give 173 d = false := by rfl
@[go_sem] theorem give_174 (d : Nat) : cfg.give 174 d = false := by rfl
@[go_sem] theorem give_175 (d : Nat) : cfg.give 175 d = false := by rfl
@[go_sem] theorem give_176 (d : Nat) : cfg.give 176 d = false := by rfl
@[go_sem] theorem give_177 (d : Nat) : cfg.give 177 d = false := by rfl
@[go_sem] theorem give_178 (d : Nat) : cfg.give 178 d = false := by rfl
@[go_sem] theorem give_179 (d : Nat) : cfg.give 179 d = false := by rfl
@[go_sem] theorem give_180 (d : Nat) : cfg.give 180 d = false := by rfl
@[go_sem] theorem give_181 (d : Nat) : cfg.give 181 d = false := by rfl
@[go_sem] theorem give_182 (d : Nat) : cfg.give 182 d = false := by rfl
@[go_sem] theorem give_183 (d : Nat) : cfg.give 183 d = false := by rfl
@[go_sem] theorem give_184 (d : Nat) : cfg.give 184 d = false := by rfl
@[go_sem] theorem give_185 (d : Nat) : cfg.give 185 d = false := by rfl
@[go_sem] theorem give_186 (d : Nat) : cfg.give 186 d = false := by rfl
@[go_sem] theorem give_187 (d : Nat) : cfg.give 187 d = false := by rfl
@[go_sem] theorem give_188 (d : Nat) : cfg.give 188 d = false := by rfl
@[go_sem] theorem give_189 (d : Nat) : cfg.give 189 d = false := by rfl
@[go_sem] theorem give_190 (d : Nat) : cfg.give 190 d = false := by rfl
@[go_sem] theorem give_191 (d : Nat) : cfg.give 191 d = false := by rfl
@[go_sem] theorem give_192 (d : Nat) : cfg.give 192 d = false := by rfl
@[go_sem] theorem give_193 (d : Nat) : cfg.give 193 d = false := by rfl
@[go_sem] theorem give_194 (d : Nat) : cfg.give 194 d = false := by rfl
@[go_sem] theorem give_195 (d : Nat) : cfg.give 195 d = false := by rfl
@[go_sem] theorem give_196 (d : Nat) : cfg.give 196 d = false := by rfl
@[go_sem] theorem give_197 (d : Nat) : cfg.give 197 d = false := by rfl
@[go_sem] theorem give_198 (d : Nat) : cfg.give 198 d = false := by rfl
@[go_sem] theorem give_199 (d : Nat) : cfg.give 199 d = false := by rfl
@[go_sem] theorem give_200 (d : Nat) : cfg.give 200 d = false := by rfl
@[go_sem] theorem give_201 (d : Nat) : cfg.give 201 d = false := by rfl
@[go_sem] theorem give_202 (d : Nat) : cfg.give 202 d = false := by rfl
@[go_sem] theorem give_203 (d : Nat) : cfg.give 203 d = false := by rfl
@[go_sem] theorem give_204 (d : Nat) : cfg.give 204 d = false := by rfl
@[go_sem] theorem give_205 (d : Nat) : cfg.give 205 d = false := by rfl
@[go_sem] theorem give_206 (d : Nat) : cfg.give 206 d = false := by rfl
@[go_sem] theorem mut_0 : cfg.mutF 0 = false := by rfl
@[go_sem] theorem mut_1 : cfg.mutF 1 = false := by rfl
@[go_sem] theorem mut_2 : cfg.mutF 2 = false := by rfl
@[go_sem] theorem mut_3 : cfg.mutF 3 = false := by rfl
@[go_sem] theorem mut_4 : cfg.mutF 4 = false := by rfl
@[go_sem] theorem mut_5 : cfg.mutF 5 = false := by rfl
@[go_sem] theorem mut_6 : cfg.mutF 6 = false := by rfl
@[go_sem] theorem mut_7 : cfg.mutF 7 = false := by rfl
@[go_sem] theorem mut_8 : cfg.mutF 8 = false := by rfl
@[go_sem] theorem mut_9 : cfg.mutF 9 = false := by rfl
@[go_sem] theorem mut_10 : cfg.mutF 10 = false := by rfl
@[go_sem] theorem mut_11 : cfg.mutF 11 = false := by rfl
@[go_sem] theorem mut_12 : cfg.mutF 12 = false := by rfl
@[go_sem] theorem mut_13 : cfg.mutF 13 = false := by rfl
@[go_sem] theorem mut_14 : cfg.mutF 14 = false := by rfl
@[go_sem] theorem mut_15 : cfg.mutF 15 = false := by rfl
@[go_sem] theorem mut_16 : cfg.mutF 16 = false := by rfl
@[go_sem] theorem mut_17 : cfg.mutF 17 = false := by rfl
@[go_sem] theorem mut_18 : cfg.mutF 18 = false := by rfl
@[go_sem] theorem mut_19 : cfg.mutF 19 = false := by rfl
@[go_sem] theorem mut_20 : cfg.mutF 20 = false := by rfl
@[go_sem] theorem mut_21 : cfg.mutF 21 = false := by rfl
@[go_sem] theorem mut_22 : cfg.mutF 22 = false := by rfl
@[go_sem] theorem mut_23 : cfg.mutF 23 = false := by rfl
@[go_sem] theorem mut_24 : cfg.mutF 24 = false := by rfl
@[go_sem] theorem mut_25 : cfg.mutF 25 = false := by rfl
@[go_sem] theorem mut_26 : cfg.mutF 26 = false := by rfl
@[go_sem] theorem mut_27 : cfg.mutF 27 = false := by rfl
@[go_sem] theorem mut_28 : cfg.mutF 28 = false := by rfl
@[go_sem] theorem mut_29 : cfg.mutF 29 = false := by rfl
@[go_sem] theorem mut_30 : cfg.mutF 30 = false := by rfl
@[go_sem] theorem mut_31 : cfg.mutF 31 = false := by rfl
@[go_sem] theorem mut_32 : cfg.mutF 32 = false := by rfl
@[go_sem] theorem mut_33 : cfg.mutF 33 = false := by rfl
@[go_sem] theorem mut_34 : cfg.mutF 34 = false := by rfl
@[go_sem] theorem mut_35 : cfg.mutF 35 = false := by rfl
@[go_sem] theorem mut_36 : cfg.mutF 36 = false := by rfl
@[go_sem] theorem mut_37 : cfg.mutF 37 = false := by rfl
@[go_sem] theorem mut_38 : cfg.mutF 38 = false := by rfl
@[go_sem] theorem mut_39 : cfg.mutF 39 = false := by rfl
@[go_sem] theorem mut_40 : cfg.mutF 40 = false := by rfl
@[go_sem] theorem mut_41 : cfg.mutF 41 = false := by rfl
@[go_sem] theorem mut_42 : cfg.mutF 42 = false := by rfl
@[go_sem] theorem mut_43 : cfg.mutF 43 = false := by rfl
@[go_sem] theorem mut_44 : cfg.mutF 44 = false := by rfl
@[go_sem] theorem mut_45 : cfg.mutF 45 = false := by rfl
@[go_sem] theorem mut_46 : cfg.mutF 46 = false := by rfl
@[go_sem] theorem mut_47 : cfg.mutF 47 = false := by rfl
@[go_sem] theorem mut_48 : cfg.mutF 48 = false := by rfl
@[go_sem] theorem mut_49 : cfg.mutF 49 = false := by rfl
@[go_sem] theorem mut_50 : cfg.mutF 50 = false := by rfl
@[go_sem] theorem mut_51 : cfg.mutF 51 = false := by rfl
@[go_sem] theorem mut_52 : cfg.mutF 52 = false := by rfl
@[go_sem] theorem mut_53 : cfg.mutF 53 = true := by rfl
@[go_sem] theorem mut_54 : cfg.mutF 54 = true := by rfl
@[go_sem] theorem mut_55 : cfg.mutF 55 = false := by rfl
@[go_sem] theorem mut_56 : cfg.mutF 56 = false := by rfl
@[go_sem] theorem mut_57 : cfg.mutF 57 = false := by rfl
@[go_sem] theorem mut_58 : cfg.mutF 58 = false := by rfl
@[go_sem] theorem mut_59 : cfg.mutF 59 = false := by rfl
@[go_sem] theorem mut_60 : cfg.mutF 60 = false := by rfl
@[go_sem] theorem mut_61 : cfg.mutF 61 = false := by rfl
@[go_sem] theorem mut_62 : cfg.mutF 62 = false := by rfl
@[go_sem] theorem mut_63 : cfg.mutF 63 = false := by rfl
@[go_sem] theorem mut_64 : cfg.mutF 64 = false := by rfl
@[go_sem] theorem mut_65 : cfg.mutF 65 = false := by rfl
@[go_sem] theorem mut_66 : cfg.mutF 66 = false := by rfl
@[go_sem] theorem mut_67 : cfg.mutF 67 = false := by rfl
@[go_sem] theorem mut_68 : cfg.mutF 68 = false := by rfl
@[go_sem] theorem mut_69 : cfg.mutF 69 = false := by rfl
@[go_sem] theorem mut_70 : cfg.mutF 70 = false := by rfl
@[go_sem] theorem mut_71 : cfg.mutF 71 = false := by rfl
@[go_sem] theorem mut_72 : cfg.mutF 72 = true := by rfl
@[go_sem] theorem mut_73 : cfg.mutF 73 = false := by rfl
@[go_sem] theorem mut_74 : cfg.mutF 74 = false := by rfl
@[go_sem] theorem mut_75 : cfg.mutF 75 = false := by rfl
@[go_sem] theorem mut_76 : cfg.mutF 76 = false := by rfl
@[go_sem] theorem mut_77 : cfg.mutF 77 = false := by rfl
@[go_sem] theorem mut_78 : cfg.mutF 78 = false := by rfl
@[go_sem] theorem mut_79 : cfg.mutF 79 = false := by rfl
@[go_sem] theorem mut_80 : cfg.mutF 80 = false := by rfl
@[go_sem] theorem mut_81 : cfg.mutF 81 = false := by rfl
@[go_sem] theorem mut_82 : cfg.mutF 82 = false := by rfl
@[go_sem] theorem mut_83 : cfg.mutF 83 = false := by rfl
@[go_sem] theorem mut_84 : cfg.mutF 84 = false := by rfl
@[go_sem] theorem mut_85 : cfg.mutF 85 = false := by rfl
@[go_sem] theorem mut_86 : cfg.mutF 86 = false := by rfl
@[go_sem] theorem mut_87 : cfg.mutF 87 = false := by rfl
@[go_sem] theorem mut_88 : cfg.mutF 88 = false := by rfl
@[go_sem] theorem mut_89 : cfg.mutF 89 = false := by rfl
@[go_sem] theorem mut_90 : cfg.mutF 90 = false := by rfl
@[go_sem] theorem mut_91 : cfg.mutF 91 = false := by rfl
@[go_sem] theorem mut_92 : cfg.mutF 92 = false := by rfl
@[go_sem] theorem mut_93 : cfg.mutF 93 = false := by rfl
@[go_sem] theorem mut_94 : cfg.mutF 94 = false := by rfl
@[go_sem] theorem mut_95 : cfg.mutF 95 = false := by rfl
@[go_sem] theorem mut_96 : cfg.mutF 96 = false := by rfl
@[go_sem] theorem mut_97 : cfg.mutF 97 = false := by rfl
@[go_sem] theorem mut_98 : cfg.mutF 98 = false := by rfl
@[go_sem] theorem mut_99 : cfg.mutF 99 = false := by rfl
@[go_sem] theorem mut_100 : cfg.mutF 100 = false := by rfl
@[go_sem] theorem mut_101 : cfg.mutF 101 = false := by rfl
@[go_sem] theorem mut_102 : cfg.mutF 102 = false := by rfl
@[go_sem] theorem mut_103 : cfg.mutF 103 = false := by rfl
@[go_sem] theorem mut_104 : cfg.mutF 104 = false := by rfl
@[go_sem] theorem mut_105 : cfg.mutF 105 = false := by rfl
@[go_sem] theorem mut_106 : cfg.mutF 106 = true := by rfl
@[go_sem] theorem mut_107 : cfg.mutF 107 = false := by rfl
@[go_sem] theorem mut_108 : cfg.mutF 108 = false := by rfl
@[go_sem] theorem mut_109 : cfg.mutF 109 = true := by rfl
@[go_sem] theorem mut_110 : cfg.mutF 110 = false := by rfl
@[go_sem] theorem mut_111 : cfg.mutF 111 = false := by rfl
@[go_sem] theorem mut_112 : cfg.mutF 112 = true := by rfl
@[go_sem] theorem mut_113 : cfg.mutF 113 = false := by rfl
@[go_sem] theorem mut_114 : cfg.mutF 114 = false := by rfl
@[go_sem] theorem mut_115 : cfg.mutF 115 = false := by rfl
@[go_sem] theorem mut_116 : cfg.mutF 116 = false := by rfl
@[go_sem] theorem mut_117 : cfg.mutF 117 = false := by rfl
@[go_sem] theorem mut_118 : cfg.mutF 118 = false := by rfl
@[go_sem] theorem mut_119 : cfg.mutF 119 = true := by rfl
@[go_sem] theorem mut_120 : cfg.mutF 120 = true := by rfl
@[go_sem] theorem mut_121 : cfg.mutF 121 = false := by rfl
@[go_sem] theorem mut_122 : cfg.mutF 122 = false := by rfl
@[go_sem] theorem mut_123 : cfg.mutF 123 = false := by rfl
@[go_sem] theorem mut_124 : cfg.mutF 124 = false := by rfl
@[go_sem] theorem mut_125 : cfg.mutF 125 = false := by rfl
@[go_sem] theorem mut_126 : cfg.mutF 126 = false := by rfl
@[go_sem] theorem mut_127 : cfg.mutF 127 = false := by rfl
@[go_sem] theorem mut_128 : cfg.mutF 128 = false := by rfl
@[go_sem] theorem mut_129 : cfg.mutF 129 = false := by rfl
@[go_sem] theorem mut_130 : cfg.mutF 130 = true := by rfl
@[go_sem] theorem mut_131 : cfg.mutF 131 = false := by rfl
@[go_sem] theorem mut_132 : cfg.mutF 132 = false := by rfl
@[go_sem] theorem mut_133 : cfg.mutF 133 = false := by rfl
@[go_sem] theorem mut_134 : cfg.mutF 134 = true := by rfl
@[go_sem] theorem mut_135 : cfg.mutF 135 = false := by rfl
@[go_sem] theorem mut_136 : cfg.mutF 136 = false := by rfl
@[go_sem] theorem mut_137 : cfg.mutF 137 = false := by rfl
@[go_sem] theorem mut_138 : cfg.mutF 138 = false := by rfl
@[go_sem] theorem mut_139 : cfg.mutF 139 = false := by rfl
@[go_sem] theorem mut_140 : cfg.mutF 140 = false := by rfl
@[go_sem] theorem mut_141 : cfg.mutF 141 = false := by rfl
@[go_sem] theorem mut_142 : cfg.mutF 142 = false := by rfl
@[go_sem] theorem mut_143 : cfg.mutF 143 = false := by rfl
@[go_sem] theorem mut_144 : cfg.mutF 144 = true := by rfl
@[go_sem] theorem mut_145 : cfg.mutF 145 = false := by rfl
@[go_sem] theorem mut_146 : cfg.mutF 146 = true := by rfl
@[go_sem] theorem mut_147 : cfg.mutF 147 = false := by rfl
@[go_sem] theorem mut_148 : cfg.mutF 148 = false := by rfl
@[go_sem] theorem mut_149 : cfg.mutF 149 = false := by rfl
@[go_sem] theorem mut_150 : cfg.mutF 150 = false := by rfl
@[go_sem] theorem mut_151 : cfg.mutF 151 = false := by rfl
@[go_sem] theorem mut_152 : cfg.mutF 152 = false := by rfl
@[go_sem] theorem mut_153 : cfg.mutF 153 = false := by rfl
@[go_sem] theorem mut_154 : cfg.mutF 154 = false := by rfl
@[go_sem] theorem mut_155 : cfg.mutF 155 = false := by rfl
@[go_sem] theorem mut_156 : cfg.mutF 156 = false := by rfl
@[go_sem] theorem mut_157 : cfg.mutF 157 = false := by rfl
@[go_sem] theorem mut_158 : cfg.mutF 158 = false := by rfl
@[go_sem] theorem mut_159 : cfg.mutF 159 = false := by rfl
@[go_sem] theorem mut_160 : cfg.mutF 160 = false := by rfl
@[go_sem] theorem mut_161 : cfg.mutF 161 = false := by rfl
@[go_sem] theorem mut_162 : cfg.mutF 162 = false := by rfl
@[go_sem] theorem mut_163 : cfg.mutF 163 = false := by rfl
@[go_sem] theorem mut_164 : cfg.mutF 164 = false := by rfl
@[go_sem] theorem mut_165 : cfg.mutF 165 = false := by rfl
@[go_sem] theorem mut_166 : cfg.mutF 166 = false := by rfl
@[go_sem] theorem mut_167 : cfg.mutF 167 = false := by rfl
@[go_sem] theorem mut_168 : cfg.mutF 168 = false := by rfl
@[go_sem] theorem mut_169 : cfg.mutF 169 = true := by rfl
@[go_sem] theorem mut_170 : cfg.mutF 170 = false := by rfl
@[go_sem] theorem mut_171 : cfg.mutF 171 = false := by rfl
@[go_sem] theorem mut_172 : cfg.mutF 172 = false := by rfl
@[go_sem] theorem mut_173 : cfg.mutF 173 = false := by rfl
@[go_sem] theorem mut_174 : cfg.mutF 174 = false := by rfl
@[go_sem] theorem mut_175 : cfg.mutF 175 = false := by rfl
@[go_sem] theorem mut_176 : cfg.mutF 176 = false := by rfl
@[go_sem] theorem mut_177 : cfg.mutF 177 = false := by rfl
@[go_sem] theorem mut_178 : cfg.mutF 178 = false := by rfl
@[go_sem] theorem mut_179 : cfg.mutF 179 = false := by rfl
@[go_sem] theorem mut_180 : cfg.mutF 180 = false := by rfl
@[go_sem] theorem mut_181 : cfg.mutF 181 = false := by rfl
@[go_sem] theorem mut_182 : cfg.mutF 182 = false := by rfl
@[go_sem] theorem mut_183 : cfg.mutF 183 = true := by rfl
@[go_sem] theorem mut_184 : cfg.mutF 184 = true := by rfl
@[go_sem] theorem mut_185 : cfg.mutF 185 = false := by rfl
@[go_sem] theorem mut_186 : cfg.mutF 186 = false := by rfl
@[go_sem] theorem mut_187 : cfg.mutF 187 = false := by rfl
@[go_sem] theorem mut_188 : cfg.mutF 188 = false := by rfl
@[go_sem] theorem mut_189 : cfg.mutF 189 = false := by rfl
@[go_sem] theorem mut_190 : cfg.mutF 190 = false := by rfl
@[go_sem] theorem mut_191 : cfg.mutF 191 = false := by rfl
@[go_sem] theorem mut_192 : cfg.mutF 192 = false := by rfl
@[go_sem] theorem mut_193 : cfg.mutF 193 = false := by rfl
@[go_sem] theorem mut_194 : cfg.mutF 194 = false := by rfl
@[go_sem] theorem mut_195 : cfg.mutF 195 = false := by rfl
@[go_sem] theorem mut_196 : cfg.mutF 196 = false := by rfl
@[go_sem] theorem mut_197 : cfg.mutF 197 = false := by rfl
@[go_sem] theorem mut_198 : cfg.mutF 198 = false := by rfl
@[go_sem] theorem mut_199 : cfg.mutF 199 = false := by rfl
@[go_sem] theorem mut_200 : cfg.mutF 200 = false := by rfl
@[go_sem] theorem mut_201 : cfg.mutF 201 = false := by rfl
@[go_sem] theorem mut_202 : cfg.mutF 202 = false := by rfl
@[go_sem] theorem mut_203 : cfg.mutF 203 = false := by rfl
@[go_sem] theorem mut_204 : cfg.mutF 204 = false := by rfl
@[go_sem] theorem mut_205 : cfg.mutF 205 = true := by rfl
@[go_sem] theorem mut_206 : cfg.mutF 206 = false := by rfl
@[go_sem] theorem own_2_0 : cfg.own 2 0 = false := by rfl
@[go_sem] theorem own_3_16 : cfg.own 3 16 = false := by rfl
@[go_sem] theorem own_3_19 : cfg.own 3 19 = false := by rfl
@[go_sem] theorem own_3_24 : cfg.own 3 24 = false := by rfl
@[go_sem] theorem own_3_29 : cfg.own 3 29 = false := by rfl
@[go_sem] theorem own_3_42 : cfg.own 3 42 = false := by rfl
@[go_sem] theorem own_3_53 : cfg.own 3 53 = false := by rfl
@[go_sem] theorem own_3_68 : cfg.own 3 68 = false := by rfl
@[go_sem] theorem own_3_78 : cfg.own 3 78 = false := by rfl
@[go_sem] theorem own_3_81 : cfg.own 3 81 = false := by rfl
@[go_sem] theorem own_3_86 : cfg.own 3 86 = false := by rfl
@[go_sem] theorem own_3_92 : cfg.own 3 92 = false := by rfl
@[go_sem] theorem own_4_12 : cfg.own 4 12 = false := by rfl
@[go_sem] theorem own_4_14 : cfg.own 4 14 = false := by rfl
@[go_sem] theorem own_4_17 : cfg.own 4 17 = false := by rfl
@[go_sem] theorem own_4_18 : cfg.own 4 18 = false := by rfl
@[go_sem] theorem own_4_22 : cfg.own 4 22 = false := by rfl
@[go_sem] theorem own_4_27 : cfg.own 4 27 = false := by rfl
@[go_sem] theorem own_4_28 : cfg.own 4 28 = false := by rfl
@[go_sem] theorem own_4_53 : cfg.own 4 53 = false := by rfl
@[go_sem] theorem own_4_56 : cfg.own 4 56 = false := by rfl
@[go_sem] theorem own_4_66 : cfg.own 4 66 = false := by rfl
@[go_sem] theorem own_5_15 : cfg.own 5 15 = false := by rfl
@[go_sem] theorem own_5_20 : cfg.own 5 20 = false := by rfl
@[go_sem] theorem own_5_24 : cfg.own 5 24 = false := by rfl
@[go_sem] theorem own_5_29 : cfg.own 5 29 = false := by rfl
@[go_sem] theorem own_5_35 : cfg.own 5 35 = false := by rfl
@[go_sem] theorem own_5_44 : cfg.own 5 44 = false := by rfl
@[go_sem] theorem own_5_50 : cfg.own 5 50 = false := by rfl
@[go_sem] theorem own_5_62 : cfg.own 5 62 = false := by rfl
@[go_sem] theorem own_5_64 : cfg.own 5 64 = false := by rfl
@[go_sem] theorem own_6_18 : cfg.own 6 18 = false := by rfl
@[go_sem] theorem own_6_26 : cfg.own 6 26 = false := by rfl
@[go_sem] theorem own_6_33 : cfg.own 6 33 = false := by rfl
@[go_sem] theorem own_6_38 : cfg.own 6 38 = false := by rfl
@[go_sem] theorem own_6_51 : cfg.own 6 51 = false := by rfl
@[go_sem] theorem own_6_61 : cfg.own 6 61 = false := by rfl
@[go_sem] theorem own_6_75 : cfg.own 6 75 = false := by rfl
@[go_sem] theorem own_6_84 : cfg.own 6 84 = false := by rfl
@[go_sem] theorem own_6_94 : cfg.own 6 94 = false := by rfl
@[go_sem] theorem own_7_18 : cfg.own 7 18 = false := by rfl
@[go_sem] theorem own_7_26 : cfg.own 7 26 = false := by rfl
@[go_sem] theorem own_7_33 : cfg.own 7 33 = false := by rfl
@[go_sem] theorem own_7_38 : cfg.own 7 38 = false := by rfl
@[go_sem] theorem own_7_51 : cfg.own 7 51 = false := by rfl
@[go_sem] theorem own_7_61 : cfg.own 7 61 = false := by rfl
@[go_sem] theorem own_7_75 : cfg.own 7 75 = false := by rfl
@[go_sem] theorem own_7_83 : cfg.own 7 83 = false := by rfl
@[go_sem] theorem own_7_90 : cfg.own 7 90 = false := by rfl
@[go_sem] theorem own_7_96 : cfg.own 7 96 = false := by rfl
@[go_sem] theorem own_8_13 : cfg.own 8 13 = false := by rfl
@[go_sem] theorem own_8_15 : cfg.own 8 15 = false := by rfl
@[go_sem] theorem own_8_18 : cfg.own 8 18 = false := by rfl
@[go_sem] theorem own_8_19 : cfg.own 8 19 = false := by rfl
@[go_sem] theorem own_8_23 : cfg.own 8 23 = false := by rfl
@[go_sem] theorem own_8_28 : cfg.own 8 28 = false := by rfl
@[go_sem] theorem own_8_29 : cfg.own 8 29 = false := by rfl
@[go_sem] theorem own_8_51 : cfg.own 8 51 = false := by rfl
@[go_sem] theorem own_8_61 : cfg.own 8 61 = false := by rfl
@[go_sem] theorem own_8_65 : cfg.own 8 65 = false := by rfl
@[go_sem] theorem own_8_68 : cfg.own 8 68 = false := by rfl
@[go_sem] theorem own_8_70 : cfg.own 8 70 = false := by rfl
@[go_sem] theorem own_8_71 : cfg.own 8 71 = false := by rfl
@[go_sem] theorem own_8_79 : cfg.own 8 79 = false := by rfl
@[go_sem] theorem own_9_18 : cfg.own 9 18 = false := by rfl
@[go_sem] theorem own_9_23 : cfg.own 9 23 = true := by rfl
@[go_sem] theorem own_9_25 : cfg.own 9 25 = false := by rfl
@[go_sem] theorem own_9_26 : cfg.own 9 26 = false := by rfl
@[go_sem] theorem own_9_30 : cfg.own 9 30 = true := by rfl
@[go_sem] theorem own_9_34 : cfg.own 9 34 = false := by rfl
@[go_sem] theorem own_9_35 : cfg.own 9 35 = true := by rfl
@[go_sem] theorem own_9_40 : cfg.own 9 40 = false := by rfl
@[go_sem] theorem own_9_49 : cfg.own 9 49 = true := by rfl
@[go_sem] theorem own_9_50 : cfg.own 9 50 = false := by rfl
@[go_sem] theorem own_9_54 : cfg.own 9 54 = false := by rfl
@[go_sem] theorem own_9_60 : cfg.own 9 60 = false := by rfl
@[go_sem] theorem own_9_70 : cfg.own 9 70 = false := by rfl
@[go_sem] theorem own_9_73 : cfg.own 9 73 = false := by rfl
@[go_sem] theorem own_9_81 : cfg.own 9 81 = true := by rfl
@[go_sem] theorem own_9_83 : cfg.own 9 83 = false := by rfl
@[go_sem] theorem own_9_84 : cfg.own 9 84 = true := by rfl
@[go_sem] theorem own_9_89 : cfg.own 9 89 = false := by rfl
@[go_sem] theorem own_9_98 : cfg.own 9 98 = false := by rfl
@[go_sem] theorem own_10_17 : cfg.own 10 17 = false := by rfl
@[go_sem] theorem own_10_23 : cfg.own 10 23 = false := by rfl
@[go_sem] theorem own_10_29 : cfg.own 10 29 = false := by rfl
@[go_sem] theorem own_10_34 : cfg.own 10 34 = false := by rfl
@[go_sem] theorem own_10_47 : cfg.own 10 47 = false := by rfl
@[go_sem] theorem own_10_69 : cfg.own 10 69 = false := by rfl
@[go_sem] theorem own_10_77 : cfg.own 10 77 = false := by rfl
@[go_sem] theorem own_11_16 : cfg.own 11 16 = false := by rfl
@[go_sem] theorem own_11_22 : cfg.own 11 22 = false := by rfl
@[go_sem] theorem own_11_28 : cfg.own 11 28 = false := by rfl
@[go_sem] theorem own_11_33 : cfg.own 11 33 = false := by rfl
@[go_sem] theorem own_11_46 : cfg.own 11 46 = false := by rfl
@[go_sem] theorem own_11_53 : cfg.own 11 53 = false := by rfl
@[go_sem] theorem own_11_83 : cfg.own 11 83 = false := by rfl
@[go_sem] theorem own_11_88 : cfg.own 11 88 = false := by rfl
@[go_sem] theorem own_11_89 : cfg.own 11 89 = false := by rfl
@[go_sem] theorem own_12_18 : cfg.own 12 18 = false := by rfl
@[go_sem] theorem own_12_24 : cfg.own 12 24 = false := by rfl
@[go_sem] theorem own_12_30 : cfg.own 12 30 = false := by rfl
@[go_sem] theorem own_12_35 : cfg.own 12 35 = false := by rfl
@[go_sem] theorem own_12_48 : cfg.own 12 48 = false := by rfl
@[go_sem] theorem own_12_57 : cfg.own 12 57 = false := by rfl
@[go_sem] theorem own_12_66 : cfg.own 12 66 = false := by rfl
@[go_sem] theorem own_12_79 : cfg.own 12 79 = false := by rfl
@[go_sem] theorem own_12_85 : cfg.own 12 85 = false := by rfl
@[go_sem] theorem own_13_13 : cfg.own 13 13 = false := by rfl
@[go_sem] theorem own_13_15 : cfg.own 13 15 = false := by rfl
@[go_sem] theorem own_13_18 : cfg.own 13 18 = false := by rfl
@[go_sem] theorem own_13_19 : cfg.own 13 19 = false := by rfl
@[go_sem] theorem own_13_23 : cfg.own 13 23 = false := by rfl
@[go_sem] theorem own_13_28 : cfg.own 13 28 = false := by rfl
@[go_sem] theorem own_13_29 : cfg.own 13 29 = false := by rfl
@[go_sem] theorem own_13_31 : cfg.own 13 31 = false := by rfl
@[go_sem] theorem own_13_62 : cfg.own 13 62 = false := by rfl
@[go_sem] theorem own_14_13 : cfg.own 14 13 = false := by rfl
@[go_sem] theorem own_14_15 : cfg.own 14 15 = false := by rfl
@[go_sem] theorem own_14_18 : cfg.own 14 18 = false := by rfl
@[go_sem] theorem own_14_19 : cfg.own 14 19 = false := by rfl
@[go_sem] theorem own_14_23 : cfg.own 14 23 = false := by rfl
@[go_sem] theorem own_14_28 : cfg.own 14 28 = false := by rfl
@[go_sem] theorem own_14_29 : cfg.own 14 29 = false := by rfl
@[go_sem] theorem own_14_36 : cfg.own 14 36 = false := by rfl
@[go_sem] theorem own_14_69 : cfg.own 14 69 = false := by rfl
@[go_sem] theorem own_14_85 : cfg.own 14 85 = false := by rfl
@[go_sem] theorem own_15_4 : cfg.own 15 4 = false := by rfl
@[go_sem] theorem own_16_11 : cfg.own 16 11 = false := by rfl
@[go_sem] theorem own_16_15 : cfg.own 16 15 = false := by rfl
@[go_sem] theorem own_16_19 : cfg.own 16 19 = false := by rfl
@[go_sem] theorem own_16_36 : cfg.own 16 36 = false := by rfl
@[go_sem] theorem own_16_45 : cfg.own 16 45 = false := by rfl
@[go_sem] theorem own_17_10 : cfg.own 17 10 = false := by rfl
@[go_sem] theorem own_17_14 : cfg.own 17 14 = false := by rfl
@[go_sem] theorem own_17_15 : cfg.own 17 15 = false := by rfl
@[go_sem] theorem own_17_17 : cfg.own 17 17 = false := by rfl
@[go_sem] theorem own_17_41 : cfg.own 17 41 = false := by rfl
@[go_sem] theorem own_17_42 : cfg.own 17 42 = false := by rfl
@[go_sem] theorem own_19_4 : cfg.own 19 4 = false := by rfl
@[go_sem] theorem own_19_7 : cfg.own 19 7 = false := by rfl
@[go_sem] theorem own_20_9 : cfg.own 20 9 = false := by rfl
@[go_sem] theorem own_20_13 : cfg.own 20 13 = false := by rfl
@[go_sem] theorem own_20_19 : cfg.own 20 19 = false := by rfl
@[go_sem] theorem own_21_55 : cfg.own 21 55 = false := by rfl
@[go_sem] theorem own_22_4 : cfg.own 22 4 = false := by rfl
@[go_sem] theorem own_22_9 : cfg.own 22 9 = false := by rfl
@[go_sem] theorem own_23_4 : cfg.own 23 4 = false := by rfl
@[go_sem] theorem own_24_4 : cfg.own 24 4 = false := by rfl
@[go_sem] theorem own_24_8 : cfg.own 24 8 = false := by rfl
@[go_sem] theorem own_25_7 : cfg.own 25 7 = false := by rfl
@[go_sem] theorem own_25_11 : cfg.own 25 11 = false := by rfl
@[go_sem] theorem own_26_7 : cfg.own 26 7 = false := by rfl
@[go_sem] theorem own_26_11 : cfg.own 26 11 = false := by rfl
@[go_sem] theorem own_27_7 : cfg.own 27 7 = false := by rfl
@[go_sem] theorem own_28_5 : cfg.own 28 5 = false := by rfl
@[go_sem] theorem own_29_7 : cfg.own 29 7 = false := by rfl
@[go_sem] theorem own_29_11 : cfg.own 29 11 = false := by rfl
@[go_sem] theorem own_30_7 : cfg.own 30 7 = false := by rfl
@[go_sem] theorem own_30_11 : cfg.own 30 11 = false := by rfl
@[go_sem] theorem own_31_6 : cfg.own 31 6 = false := by rfl
@[go_sem] theorem own_31_10 : cfg.own 31 10 = false := by rfl
@[go_sem] theorem own_32_11 : cfg.own 32 11 = false := by rfl
@[go_sem] theorem own_32_21 : cfg.own 32 21 = true := by rfl
@[go_sem] theorem own_33_8 : cfg.own 33 8 = false := by rfl
@[go_sem] theorem own_33_13 : cfg.own 33 13 = false := by rfl
@[go_sem] theorem own_34_6 : cfg.own 34 6 = false := by rfl
@[go_sem] theorem own_35_11 : cfg.own 35 11 = false := by rfl
@[go_sem] theorem own_35_15 : cfg.own 35 15 = false := by rfl
@[go_sem] theorem own_36_14 : cfg.own 36 14 = false := by rfl
@[go_sem] theorem own_36_33 : cfg.own 36 33 = false := by rfl
@[go_sem] theorem own_36_37 : cfg.own 36 37 = false := by rfl
@[go_sem] theorem own_37_15 : cfg.own 37 15 = false := by rfl
@[go_sem] theorem own_37_21 : cfg.own 37 21 = false := by rfl
@[go_sem] theorem own_37_27 : cfg.own 37 27 = false := by rfl
@[go_sem] theorem own_39_6 : cfg.own 39 6 = false := by rfl
@[go_sem] theorem own_40_11 : cfg.own 40 11 = false := by rfl
@[go_sem] theorem own_40_15 : cfg.own 40 15 = false := by rfl
@[go_sem] theorem own_41_14 : cfg.own 41 14 = false := by rfl
@[go_sem] theorem own_41_34 : cfg.own 41 34 = false := by rfl
@[go_sem] theorem own_41_37 : cfg.own 41 37 = false := by rfl
@[go_sem] theorem own_43_4 : cfg.own 43 4 = false := by rfl
@[go_sem] theorem own_44_4 : cfg.own 44 4 = false := by rfl
@[go_sem] theorem own_44_7 : cfg.own 44 7 = false := by rfl
@[go_sem] theorem own_45_4 : cfg.own 45 4 = false := by rfl
@[go_sem] theorem own_45_11 : cfg.own 45 11 = false := by rfl
@[go_sem] theorem own_46_4 : cfg.own 46 4 = false := by rfl
@[go_sem] theorem own_46_7 : cfg.own 46 7 = false := by rfl
@[go_sem] theorem own_47_8 : cfg.own 47 8 = false := by rfl
@[go_sem] theorem own_48_11 : cfg.own 48 11 = false := by rfl
@[go_sem] theorem own_48_22 : cfg.own 48 22 = false := by rfl
@[go_sem] theorem own_48_31 : cfg.own 48 31 = false := by rfl
@[go_sem] theorem own_49_9 : cfg.own 49 9 = true := by rfl
@[go_sem] theorem own_52_14 : cfg.own 52 14 = false := by rfl
@[go_sem] theorem own_53_8 : cfg.own 53 8 = false := by rfl
@[go_sem] theorem own_56_9 : cfg.own 56 9 = false := by rfl
@[go_sem] theorem own_56_13 : cfg.own 56 13 = true := by rfl
@[go_sem] theorem own_56_20 : cfg.own 56 20 = false := by rfl
@[go_sem] theorem own_56_30 : cfg.own 56 30 = false := by rfl
@[go_sem] theorem own_57_11 : cfg.own 57 11 = false := by rfl
@[go_sem] theorem own_57_16 : cfg.own 57 16 = false := by rfl
@[go_sem] theorem own_58_10 : cfg.own 58 10 = false := by rfl
@[go_sem] theorem own_58_15 : cfg.own 58 15 = false := by rfl
@[go_sem] theorem own_58_19 : cfg.own 58 19 = false := by rfl
@[go_sem] theorem own_59_4 : cfg.own 59 4 = false := by rfl
@[go_sem] theorem own_59_8 : cfg.own 59 8 = false := by rfl
@[go_sem] theorem own_59_9 : cfg.own 59 9 = false := by rfl
@[go_sem] theorem own_60_5 : cfg.own 60 5 = false := by rfl
@[go_sem] theorem own_61_10 : cfg.own 61 10 = false := by rfl
@[go_sem] theorem own_61_15 : cfg.own 61 15 = false := by rfl
@[go_sem] theorem own_61_22 : cfg.own 61 22 = false := by rfl
@[go_sem] theorem own_61_29 : cfg.own 61 29 = true := by rfl
@[go_sem] theorem own_61_33 : cfg.own 61 33 = false := by rfl
@[go_sem] theorem own_61_36 : cfg.own 61 36 = false := by rfl
@[go_sem] theorem own_62_8 : cfg.own 62 8 = false := by rfl
@[go_sem] theorem own_62_14 : cfg.own 62 14 = false := by rfl
@[go_sem] theorem own_62_23 : cfg.own 62 23 = false := by rfl
@[go_sem] theorem own_62_26 : cfg.own 62 26 = false := by rfl
@[go_sem] theorem own_63_15 : cfg.own 63 15 = false := by rfl
@[go_sem] theorem own_64_4 : cfg.own 64 4 = false := by rfl
@[go_sem] theorem own_65_8 : cfg.own 65 8 = false := by rfl
@[go_sem] theorem own_66_8 : cfg.own 66 8 = false := by rfl
@[go_sem] theorem own_67_11 : cfg.own 67 11 = false := by rfl
@[go_sem] theorem own_67_14 : cfg.own 67 14 = false := by rfl
@[go_sem] theorem own_67_21 : cfg.own 67 21 = false := by rfl
@[go_sem] theorem own_68_5 : cfg.own 68 5 = true := by rfl
@[go_sem] theorem own_68_10 : cfg.own 68 10 = false := by rfl
@[go_sem] theorem own_68_11 : cfg.own 68 11 = false := by rfl
@[go_sem] theorem own_68_12 : cfg.own 68 12 = false := by rfl
@[go_sem] theorem own_68_13 : cfg.own 68 13 = false := by rfl
@[go_sem] theorem own_69_6 : cfg.own 69 6 = false := by rfl
@[go_sem] theorem own_69_7 : cfg.own 69 7 = false := by rfl
@[go_sem] theorem own_70_7 : cfg.own 70 7 = true := by rfl
@[go_sem] theorem own_71_7 : cfg.own 71 7 = false := by rfl
@[go_sem] theorem own_71_12 : cfg.own 71 12 = false := by rfl
@[go_sem] theorem own_72_11 : cfg.own 72 11 = false := by rfl
@[go_sem] theorem own_72_13 : cfg.own 72 13 = false := by rfl
@[go_sem] theorem own_73_9 : cfg.own 73 9 = false := by rfl
@[go_sem] theorem own_73_14 : cfg.own 73 14 = false := by rfl
@[go_sem] theorem own_73_16 : cfg.own 73 16 = false := by rfl
@[go_sem] theorem own_74_59 : cfg.own 74 59 = false := by rfl
@[go_sem] theorem own_76_11 : cfg.own 76 11 = false := by rfl
@[go_sem] theorem own_76_25 : cfg.own 76 25 = false := by rfl
@[go_sem] theorem own_77_19 : cfg.own 77 19 = false := by rfl
@[go_sem] theorem own_78_23 : cfg.own 78 23 = false := by rfl
@[go_sem] theorem own_80_6 : cfg.own 80 6 = false := by rfl
@[go_sem] theorem own_81_9 : cfg.own 81 9 = false := by rfl
@[go_sem] theorem own_82_9 : cfg.own 82 9 = false := by rfl
@[go_sem] theorem own_82_10 : cfg.own 82 10 = false := by rfl
@[go_sem] theorem own_82_13 : cfg.own 82 13 = false := by rfl
@[go_sem] theorem own_82_16 : cfg.own 82 16 = false := by rfl
@[go_sem] theorem own_83_37 : cfg.own 83 37 = false := by rfl
@[go_sem] theorem own_84_6 : cfg.own 84 6 = false := by rfl
@[go_sem] theorem own_84_11 : cfg.own 84 11 = false := by rfl
@[go_sem] theorem own_85_10 : cfg.own 85 10 = false := by rfl
@[go_sem] theorem own_85_16 : cfg.own 85 16 = false := by rfl
@[go_sem] theorem own_86_8 : cfg.own 86 8 = false := by rfl
@[go_sem] theorem own_87_7 : cfg.own 87 7 = false := by rfl
@[go_sem] theorem own_88_11 : cfg.own 88 11 = false := by rfl
@[go_sem] theorem own_88_15 : cfg.own 88 15 = true := by rfl
@[go_sem] theorem own_88_18 : cfg.own 88 18 = false := by rfl
@[go_sem] theorem own_88_24 : cfg.own 88 24 = false := by rfl
@[go_sem] theorem own_88_30 : cfg.own 88 30 = false := by rfl
@[go_sem] theorem own_89_8 : cfg.own 89 8 = false := by rfl
@[go_sem] theorem own_89_11 : cfg.own 89 11 = false := by rfl
@[go_sem] theorem own_90_9 : cfg.own 90 9 = false := by rfl
@[go_sem] theorem own_90_13 : cfg.own 90 13 = false := by rfl
@[go_sem] theorem own_90_19 : cfg.own 90 19 = false := by rfl
@[go_sem] theorem own_91_9 : cfg.own 91 9 = false := by rfl
@[go_sem] theorem own_93_13 : cfg.own 93 13 = true := by rfl
@[go_sem] theorem own_93_29 : cfg.own 93 29 = false := by rfl
@[go_sem] theorem own_94_15 : cfg.own 94 15 = false := by rfl
@[go_sem] theorem own_95_17 : cfg.own 95 17 = false := by rfl
@[go_sem] theorem own_95_20 : cfg.own 95 20 = false := by rfl
@[go_sem] theorem own_96_7 : cfg.own 96 7 = false := by rfl
@[go_sem] theorem own_98_21 : cfg.own 98 21 = false := by rfl
@[go_sem] theorem own_99_27 : cfg.own 99 27 = false := by rfl
@[go_sem] theorem own_102_7 : cfg.own 102 7 = false := by rfl
@[go_sem] theorem own_102_13 : cfg.own 102 13 = false := by rfl
@[go_sem] theorem own_102_22 : cfg.own 102 22 = false := by rfl
@[go_sem] theorem own_103_14 : cfg.own 103 14 = false := by rfl
@[go_sem] theorem own_103_28 : cfg.own 103 28 = false := by rfl
@[go_sem] theorem own_104_20 : cfg.own 104 20 = false := by rfl
@[go_sem] theorem own_105_25 : cfg.own 105 25 = false := by rfl
@[go_sem] theorem own_107_9 : cfg.own 107 9 = true := by rfl
@[go_sem] theorem own_107_11 : cfg.own 107 11 = false := by rfl
@[go_sem] theorem own_107_18 : cfg.own 107 18 = false := by rfl
@[go_sem] theorem own_107_23 : cfg.own 107 23 = false := by rfl
@[go_sem] theorem own_107_30 : cfg.own 107 30 = false := by rfl
@[go_sem] theorem own_107_34 : cfg.own 107 34 = false := by rfl
@[go_sem] theorem own_107_39 : cfg.own 107 39 = false := by rfl
@[go_sem] theorem own_107_42 : cfg.own 107 42 = false := by rfl
@[go_sem] theorem own_107_47 : cfg.own 107 47 = false := by rfl
@[go_sem] theorem own_107_51 : cfg.own 107 51 = false := by rfl
@[go_sem] theorem own_107_54 : cfg.own 107 54 = false := by rfl
@[go_sem] theorem own_107_57 : cfg.own 107 57 = false := by rfl
@[go_sem] theorem own_111_30 : cfg.own 111 30 = false := by rfl
@[go_sem] theorem own_111_46 : cfg.own 111 46 = false := by rfl
@[go_sem] theorem own_112_67 : cfg.own 112 67 = false := by rfl
@[go_sem] theorem own_112_93 : cfg.own 112 93 = false := by rfl
@[go_sem] theorem own_116_4 : cfg.own 116 4 = false := by rfl
@[go_sem] theorem own_116_8 : cfg.own 116 8 = false := by rfl
@[go_sem] theorem own_117_30 : cfg.own 117 30 = false := by rfl
@[go_sem] theorem own_118_39 : cfg.own 118 39 = false := by rfl
@[go_sem] theorem own_119_8 : cfg.own 119 8 = true := by rfl
@[go_sem] theorem own_119_10 : cfg.own 119 10 = false := by rfl
@[go_sem] theorem own_119_23 : cfg.own 119 23 = false := by rfl
@[go_sem] theorem own_119_25 : cfg.own 119 25 = false := by rfl
@[go_sem] theorem own_119_33 : cfg.own 119 33 = false := by rfl
@[go_sem] theorem own_119_40 : cfg.own 119 40 = false := by rfl
@[go_sem] theorem own_120_10 : cfg.own 120 10 = false := by rfl
@[go_sem] theorem own_120_19 : cfg.own 120 19 = false := by rfl
@[go_sem] theorem own_120_25 : cfg.own 120 25 = false := by rfl
@[go_sem] theorem own_120_27 : cfg.own 120 27 = false := by rfl
@[go_sem] theorem own_120_28 : cfg.own 120 28 = false := by rfl
@[go_sem] theorem own_120_32 : cfg.own 120 32 = false := by rfl
@[go_sem] theorem own_120_40 : cfg.own 120 40 = false := by rfl
@[go_sem] theorem own_120_44 : cfg.own 120 44 = false := by rfl
@[go_sem] theorem own_120_53 : cfg.own 120 53 = false := by rfl
@[go_sem] theorem own_120_54 : cfg.own 120 54 = false := by rfl
@[go_sem] theorem own_120_61 : cfg.own 120 61 = false := by rfl
@[go_sem] theorem own_120_62 : cfg.own 120 62 = false := by rfl
@[go_sem] theorem own_121_9 : cfg.own 121 9 = true := by rfl
@[go_sem] theorem own_121_11 : cfg.own 121 11 = false := by rfl
@[go_sem] theorem own_122_6 : cfg.own 122 6 = false := by rfl
@[go_sem] theorem own_123_30 : cfg.own 123 30 = false := by rfl
@[go_sem] theorem own_123_37 : cfg.own 123 37 = false := by rfl
@[go_sem] theorem own_123_44 : cfg.own 123 44 = false := by rfl
@[go_sem] theorem own_123_52 : cfg.own 123 52 = false := by rfl
@[go_sem] theorem own_123_61 : cfg.own 123 61 = false := by rfl
@[go_sem] theorem own_123_80 : cfg.own 123 80 = false := by rfl
@[go_sem] theorem own_123_94 : cfg.own 123 94 = false := by rfl
@[go_sem] theorem own_123_103 : cfg.own 123 103 = false := by rfl
@[go_sem] theorem own_123_111 : cfg.own 123 111 = false := by rfl
@[go_sem] theorem own_123_134 : cfg.own 123 134 = false := by rfl
@[go_sem] theorem own_123_146 : cfg.own 123 146 = false := by rfl
@[go_sem] theorem own_124_5 : cfg.own 124 5 = false := by rfl
@[go_sem] theorem own_124_7 : cfg.own 124 7 = false := by rfl
@[go_sem] theorem own_126_8 : cfg.own 126 8 = false := by rfl
@[go_sem] theorem own_126_10 : cfg.own 126 10 = false := by rfl
@[go_sem] theorem own_128_7 : cfg.own 128 7 = false := by rfl
@[go_sem] theorem own_130_9 : cfg.own 130 9 = false := by rfl
@[go_sem] theorem own_130_10 : cfg.own 130 10 = false := by rfl
@[go_sem] theorem own_131_7 : cfg.own 131 7 = false := by rfl
@[go_sem] theorem own_133_8 : cfg.own 133 8 = true := by rfl
@[go_sem] theorem own_133_10 : cfg.own 133 10 = false := by rfl
@[go_sem] theorem own_133_14 : cfg.own 133 14 = false := by rfl
@[go_sem] theorem own_133_16 : cfg.own 133 16 = false := by rfl
@[go_sem] theorem own_133_20 : cfg.own 133 20 = false := by rfl
@[go_sem] theorem own_133_23 : cfg.own 133 23 = false := by rfl
@[go_sem] theorem own_134_9 : cfg.own 134 9 = false := by rfl
@[go_sem] theorem own_135_6 : cfg.own 135 6 = false := by rfl
@[go_sem] theorem own_136_18 : cfg.own 136 18 = false := by rfl
@[go_sem] theorem own_138_36 : cfg.own 138 36 = false := by rfl
@[go_sem] theorem own_139_22 : cfg.own 139 22 = false := by rfl
@[go_sem] theorem own_139_23 : cfg.own 139 23 = false := by rfl
@[go_sem] theorem own_142_9 : cfg.own 142 9 = false := by rfl
@[go_sem] theorem own_143_14 : cfg.own 143 14 = false := by rfl
@[go_sem] theorem own_143_19 : cfg.own 143 19 = false := by rfl
@[go_sem] theorem own_143_32 : cfg.own 143 32 = false := by rfl
@[go_sem] theorem own_144_38 : cfg.own 144 38 = false := by rfl
@[go_sem] theorem own_144_57 : cfg.own 144 57 = false := by rfl
@[go_sem] theorem own_146_10 : cfg.own 146 10 = false := by rfl
@[go_sem] theorem own_146_28 : cfg.own 146 28 = false := by rfl
@[go_sem] theorem own_147_32 : cfg.own 147 32 = false := by rfl
@[go_sem] theorem own_148_29 : cfg.own 148 29 = false := by rfl
@[go_sem] theorem own_148_59 : cfg.own 148 59 = false := by rfl
@[go_sem] theorem own_149_21 : cfg.own 149 21 = false := by rfl
@[go_sem] theorem own_149_38 : cfg.own 149 38 = false := by rfl
@[go_sem] theorem own_150_40 : cfg.own 150 40 = false := by rfl
@[go_sem] theorem own_150_44 : cfg.own 150 44 = false := by rfl
@[go_sem] theorem own_150_48 : cfg.own 150 48 = false := by rfl
@[go_sem] theorem own_150_54 : cfg.own 150 54 = false := by rfl
@[go_sem] theorem own_152_33 : cfg.own 152 33 = false := by rfl
@[go_sem] theorem own_152_82 : cfg.own 152 82 = false := by rfl
@[go_sem] theorem own_152_122 : cfg.own 152 122 = false := by rfl
@[go_sem] theorem own_153_44 : cfg.own 153 44 = false := by rfl
@[go_sem] theorem own_153_63 : cfg.own 153 63 = false := by rfl
@[go_sem] theorem own_154_45 : cfg.own 154 45 = false := by rfl
@[go_sem] theorem own_154_63 : cfg.own 154 63 = false := by rfl
@[go_sem] theorem own_154_118 : cfg.own 154 118 = false := by rfl
@[go_sem] theorem own_154_136 : cfg.own 154 136 = false := by rfl
@[go_sem] theorem own_158_16 : cfg.own 158 16 = false := by rfl
@[go_sem] theorem own_159_27 : cfg.own 159 27 = false := by rfl
@[go_sem] theorem own_159_33 : cfg.own 159 33 = false := by rfl
@[go_sem] theorem own_159_39 : cfg.own 159 39 = false := by rfl
@[go_sem] theorem own_159_46 : cfg.own 159 46 = false := by rfl
@[go_sem] theorem own_159_54 : cfg.own 159 54 = false := by rfl
@[go_sem] theorem own_159_72 : cfg.own 159 72 = false := by rfl
@[go_sem] theorem own_159_85 : cfg.own 159 85 = false := by rfl
@[go_sem] theorem own_159_92 : cfg.own 159 92 = false := by rfl
@[go_sem] theorem own_159_99 : cfg.own 159 99 = false := by rfl
@[go_sem] theorem own_159_121 : cfg.own 159 121 = false := by rfl
@[go_sem] theorem own_159_132 : cfg.own 159 132 = false := by rfl
@[go_sem] theorem own_161_15 : cfg.own 161 15 = false := by rfl
@[go_sem] theorem own_161_25 : cfg.own 161 25 = false := by rfl
@[go_sem] theorem own_162_7 : cfg.own 162 7 = false := by rfl
@[go_sem] theorem own_162_11 : cfg.own 162 11 = false := by rfl
@[go_sem] theorem own_162_13 : cfg.own 162 13 = false := by rfl
@[go_sem] theorem own_163_33 : cfg.own 163 33 = false := by rfl
@[go_sem] theorem own_165_13 : cfg.own 165 13 = false := by rfl
@[go_sem] theorem own_166_16 : cfg.own 166 16 = false := by rfl
@[go_sem] theorem own_167_38 : cfg.own 167 38 = false := by rfl
@[go_sem] theorem own_167_56 : cfg.own 167 56 = false := by rfl
@[go_sem] theorem own_168_5 : cfg.own 168 5 = false := by rfl
@[go_sem] theorem own_170_17 : cfg.own 170 17 = false := by rfl
@[go_sem] theorem own_171_19 : cfg.own 171 19 = false := by rfl
@[go_sem] theorem own_171_28 : cfg.own 171 28 = false := by rfl
@[go_sem] theorem own_171_37 : cfg.own 171 37 = false := by rfl
@[go_sem] theorem own_172_29 : cfg.own 172 29 = false := by rfl
@[go_sem] theorem own_173_26 : cfg.own 173 26 = false := by rfl
@[go_sem] theorem own_173_55 : cfg.own 173 55 = false := by rfl
@[go_sem] theorem own_174_19 : cfg.own 174 19 = false := by rfl
@[go_sem] theorem own_174_36 : cfg.own 174 36 = false := by rfl
@[go_sem] theorem own_175_37 : cfg.own 175 37 = false := by rfl
@[go_sem] theorem own_175_40 : cfg.own 175 40 = false := by rfl
@[go_sem] theorem own_175_43 : cfg.own 175 43 = false := by rfl
@[go_sem] theorem own_175_48 : cfg.own 175 48 = false := by rfl
@[go_sem] theorem own_177_30 : cfg.own 177 30 = false := by rfl
@[go_sem] theorem own_177_77 : cfg.own 177 77 = false := by rfl
@[go_sem] theorem own_177_115 : cfg.own 177 115 = false := by rfl
@[go_sem] theorem own_178_6 : cfg.own 178 6 = false := by rfl
@[go_sem] theorem own_178_9 : cfg.own 178 9 = false := by rfl
@[go_sem] theorem own_179_41 : cfg.own 179 41 = false := by rfl
@[go_sem] theorem own_179_58 : cfg.own 179 58 = false := by rfl
@[go_sem] theorem own_180_42 : cfg.own 180 42 = false := by rfl
@[go_sem] theorem own_180_58 : cfg.own 180 58 = false := by rfl
@[go_sem] theorem own_180_111 : cfg.own 180 111 = false := by rfl
@[go_sem] theorem own_180_127 : cfg.own 180 127 = false := by rfl
@[go_sem] theorem own_184_33 : cfg.own 184 33 = false := by rfl
@[go_sem] theorem own_184_64 : cfg.own 184 64 = false := by rfl
@[go_sem] theorem own_185_21 : cfg.own 185 21 = false := by rfl
@[go_sem] theorem own_186_35 : cfg.own 186 35 = false := by rfl
@[go_sem] theorem own_186_51 : cfg.own 186 51 = false := by rfl
@[go_sem] theorem own_187_14 : cfg.own 187 14 = false := by rfl
@[go_sem] theorem own_188_16 : cfg.own 188 16 = false := by rfl
@[go_sem] theorem own_188_24 : cfg.own 188 24 = false := by rfl
@[go_sem] theorem own_188_32 : cfg.own 188 32 = false := by rfl
@[go_sem] theorem own_189_18 : cfg.own 189 18 = false := by rfl
end Go.Proofs.Ytlahjdgcgfgifaa.X
