/- How this program's calls are taken. -/
import Derived.Test.YtdjdgnabcecdlaaGreatDoorTab
import Derived.Test.YtdjdgnabcecdlaaGreatDoorPrim
namespace Go.Proofs.YtdjdgnabcecdlaaGreatDoor.X
open Go Go.Proofs
def cfg : Cfg where
  mutF f := mutL.contains f
  own me d := ownL.contains (me, d)
  prim f := if f = 74 then some (itoaP) else if f = 83 then some (insP 2) else if f = 84 then some (cloneP) else if f = 156 then some (sortP) else if f = 170 then some (mulP) else if f = 172 then some (cntP) else if f = 205 then some (atoiP) else if f = 206 then some (insP 1) else if f = 207 then some (cloneP) else if f = 208 then some (insP 1) else if f = 209 then some (cloneP) else if f = 233 then some (idxP) else none
  give me d := if me = 68 then d == 14 else false
@[go_sem] theorem give_6 (d : Nat) : cfg.give 6 d = false := by rfl
@[go_sem] theorem give_17 (d : Nat) : cfg.give 17 d = false := by rfl
@[go_sem] theorem give_18 (d : Nat) : cfg.give 18 d = false := by rfl
@[go_sem] theorem give_19 (d : Nat) : cfg.give 19 d = false := by rfl
@[go_sem] theorem give_23 (d : Nat) : cfg.give 23 d = false := by rfl
@[go_sem] theorem give_25 (d : Nat) : cfg.give 25 d = false := by rfl
@[go_sem] theorem give_27 (d : Nat) : cfg.give 27 d = false := by rfl
@[go_sem] theorem give_28 (d : Nat) : cfg.give 28 d = false := by rfl
@[go_sem] theorem give_29 (d : Nat) : cfg.give 29 d = false := by rfl
@[go_sem] theorem give_30 (d : Nat) : cfg.give 30 d = false := by rfl
@[go_sem] theorem give_31 (d : Nat) : cfg.give 31 d = false := by rfl
@[go_sem] theorem give_32 (d : Nat) : cfg.give 32 d = false := by rfl
@[go_sem] theorem give_36 (d : Nat) : cfg.give 36 d = false := by rfl
@[go_sem] theorem give_70 (d : Nat) : cfg.give 70 d = false := by rfl
@[go_sem] theorem give_71 (d : Nat) : cfg.give 71 d = false := by rfl
@[go_sem] theorem give_72 (d : Nat) : cfg.give 72 d = false := by rfl
@[go_sem] theorem give_73 (d : Nat) : cfg.give 73 d = false := by rfl
@[go_sem] theorem give_76 (d : Nat) : cfg.give 76 d = false := by rfl
@[go_sem] theorem give_79 (d : Nat) : cfg.give 79 d = false := by rfl
@[go_sem] theorem give_80 (d : Nat) : cfg.give 80 d = false := by rfl
@[go_sem] theorem give_81 (d : Nat) : cfg.give 81 d = false := by rfl
@[go_sem] theorem give_82 (d : Nat) : cfg.give 82 d = false := by rfl
@[go_sem] theorem give_83 (d : Nat) : cfg.give 83 d = false := by rfl
@[go_sem] theorem give_84 (d : Nat) : cfg.give 84 d = false := by rfl
@[go_sem] theorem give_85 (d : Nat) : cfg.give 85 d = false := by rfl
@[go_sem] theorem give_86 (d : Nat) : cfg.give 86 d = false := by rfl
@[go_sem] theorem give_87 (d : Nat) : cfg.give 87 d = false := by rfl
@[go_sem] theorem give_89 (d : Nat) : cfg.give 89 d = false := by rfl
@[go_sem] theorem give_90 (d : Nat) : cfg.give 90 d = false := by rfl
@[go_sem] theorem give_91 (d : Nat) : cfg.give 91 d = false := by rfl
@[go_sem] theorem give_92 (d : Nat) : cfg.give 92 d = false := by rfl
@[go_sem] theorem give_93 (d : Nat) : cfg.give 93 d = false := by rfl
@[go_sem] theorem give_94 (d : Nat) : cfg.give 94 d = false := by rfl
@[go_sem] theorem give_96 (d : Nat) : cfg.give 96 d = false := by rfl
@[go_sem] theorem give_105 (d : Nat) : cfg.give 105 d = false := by rfl
@[go_sem] theorem give_126 (d : Nat) : cfg.give 126 d = false := by rfl
@[go_sem] theorem give_127 (d : Nat) : cfg.give 127 d = false := by rfl
@[go_sem] theorem give_135 (d : Nat) : cfg.give 135 d = false := by rfl
@[go_sem] theorem give_136 (d : Nat) : cfg.give 136 d = false := by rfl
@[go_sem] theorem give_137 (d : Nat) : cfg.give 137 d = false := by rfl
@[go_sem] theorem give_138 (d : Nat) : cfg.give 138 d = false := by rfl
@[go_sem] theorem give_139 (d : Nat) : cfg.give 139 d = false := by rfl
@[go_sem] theorem give_140 (d : Nat) : cfg.give 140 d = false := by rfl
@[go_sem] theorem give_142 (d : Nat) : cfg.give 142 d = false := by rfl
@[go_sem] theorem give_143 (d : Nat) : cfg.give 143 d = false := by rfl
@[go_sem] theorem give_144 (d : Nat) : cfg.give 144 d = false := by rfl
@[go_sem] theorem give_145 (d : Nat) : cfg.give 145 d = false := by rfl
@[go_sem] theorem give_146 (d : Nat) : cfg.give 146 d = false := by rfl
@[go_sem] theorem give_147 (d : Nat) : cfg.give 147 d = false := by rfl
@[go_sem] theorem give_150 (d : Nat) : cfg.give 150 d = false := by rfl
@[go_sem] theorem give_151 (d : Nat) : cfg.give 151 d = false := by rfl
@[go_sem] theorem give_152 (d : Nat) : cfg.give 152 d = false := by rfl
@[go_sem] theorem give_163 (d : Nat) : cfg.give 163 d = false := by rfl
@[go_sem] theorem give_169 (d : Nat) : cfg.give 169 d = false := by rfl
@[go_sem] theorem give_173 (d : Nat) : cfg.give 173 d = false := by rfl
@[go_sem] theorem give_174 (d : Nat) : cfg.give 174 d = false := by rfl
@[go_sem] theorem give_175 (d : Nat) : cfg.give 175 d = false := by rfl
@[go_sem] theorem give_180 (d : Nat) : cfg.give 180 d = false := by rfl
@[go_sem] theorem give_181 (d : Nat) : cfg.give 181 d = false := by rfl
@[go_sem] theorem give_182 (d : Nat) : cfg.give 182 d = false := by rfl
@[go_sem] theorem give_183 (d : Nat) : cfg.give 183 d = false := by rfl
@[go_sem] theorem give_184 (d : Nat) : cfg.give 184 d = false := by rfl
@[go_sem] theorem give_186 (d : Nat) : cfg.give 186 d = false := by rfl
@[go_sem] theorem give_187 (d : Nat) : cfg.give 187 d = false := by rfl
@[go_sem] theorem give_189 (d : Nat) : cfg.give 189 d = false := by rfl
@[go_sem] theorem give_193 (d : Nat) : cfg.give 193 d = false := by rfl
@[go_sem] theorem give_200 (d : Nat) : cfg.give 200 d = false := by rfl
@[go_sem] theorem give_201 (d : Nat) : cfg.give 201 d = false := by rfl
@[go_sem] theorem give_202 (d : Nat) : cfg.give 202 d = false := by rfl
@[go_sem] theorem give_204 (d : Nat) : cfg.give 204 d = false := by rfl
@[go_sem] theorem give_206 (d : Nat) : cfg.give 206 d = false := by rfl
@[go_sem] theorem give_207 (d : Nat) : cfg.give 207 d = false := by rfl
@[go_sem] theorem give_208 (d : Nat) : cfg.give 208 d = false := by rfl
@[go_sem] theorem give_209 (d : Nat) : cfg.give 209 d = false := by rfl
@[go_sem] theorem give_210 (d : Nat) : cfg.give 210 d = false := by rfl
@[go_sem] theorem give_211 (d : Nat) : cfg.give 211 d = false := by rfl
@[go_sem] theorem give_212 (d : Nat) : cfg.give 212 d = false := by rfl
@[go_sem] theorem give_213 (d : Nat) : cfg.give 213 d = false := by rfl
@[go_sem] theorem give_219 (d : Nat) : cfg.give 219 d = false := by rfl
@[go_sem] theorem give_237 (d : Nat) : cfg.give 237 d = false := by rfl
@[go_sem] theorem give_238 (d : Nat) : cfg.give 238 d = false := by rfl
@[go_sem] theorem give_239 (d : Nat) : cfg.give 239 d = false := by rfl
@[go_sem] theorem give_247 (d : Nat) : cfg.give 247 d = false := by rfl
@[go_sem] theorem mut_6 : cfg.mutF 6 = false := by rfl
@[go_sem] theorem mut_14 : cfg.mutF 14 = false := by rfl
@[go_sem] theorem mut_17 : cfg.mutF 17 = false := by rfl
@[go_sem] theorem mut_18 : cfg.mutF 18 = false := by rfl
@[go_sem] theorem mut_19 : cfg.mutF 19 = false := by rfl
@[go_sem] theorem mut_23 : cfg.mutF 23 = false := by rfl
@[go_sem] theorem mut_25 : cfg.mutF 25 = false := by rfl
@[go_sem] theorem mut_26 : cfg.mutF 26 = false := by rfl
@[go_sem] theorem mut_27 : cfg.mutF 27 = false := by rfl
@[go_sem] theorem mut_28 : cfg.mutF 28 = false := by rfl
@[go_sem] theorem mut_29 : cfg.mutF 29 = false := by rfl
@[go_sem] theorem mut_30 : cfg.mutF 30 = false := by rfl
@[go_sem] theorem mut_31 : cfg.mutF 31 = false := by rfl
@[go_sem] theorem mut_32 : cfg.mutF 32 = false := by rfl
@[go_sem] theorem mut_36 : cfg.mutF 36 = false := by rfl
@[go_sem] theorem mut_37 : cfg.mutF 37 = false := by rfl
@[go_sem] theorem mut_40 : cfg.mutF 40 = false := by rfl
@[go_sem] theorem mut_42 : cfg.mutF 42 = false := by rfl
@[go_sem] theorem mut_44 : cfg.mutF 44 = false := by rfl
@[go_sem] theorem mut_48 : cfg.mutF 48 = false := by rfl
@[go_sem] theorem mut_50 : cfg.mutF 50 = false := by rfl
@[go_sem] theorem mut_52 : cfg.mutF 52 = false := by rfl
@[go_sem] theorem mut_53 : cfg.mutF 53 = false := by rfl
@[go_sem] theorem mut_57 : cfg.mutF 57 = false := by rfl
@[go_sem] theorem mut_70 : cfg.mutF 70 = false := by rfl
@[go_sem] theorem mut_71 : cfg.mutF 71 = false := by rfl
@[go_sem] theorem mut_72 : cfg.mutF 72 = true := by rfl
@[go_sem] theorem mut_73 : cfg.mutF 73 = false := by rfl
@[go_sem] theorem mut_74 : cfg.mutF 74 = false := by rfl
@[go_sem] theorem mut_76 : cfg.mutF 76 = false := by rfl
@[go_sem] theorem mut_79 : cfg.mutF 79 = false := by rfl
@[go_sem] theorem mut_80 : cfg.mutF 80 = false := by rfl
@[go_sem] theorem mut_81 : cfg.mutF 81 = false := by rfl
@[go_sem] theorem mut_82 : cfg.mutF 82 = false := by rfl
@[go_sem] theorem mut_83 : cfg.mutF 83 = true := by rfl
@[go_sem] theorem mut_84 : cfg.mutF 84 = false := by rfl
@[go_sem] theorem mut_85 : cfg.mutF 85 = false := by rfl
@[go_sem] theorem mut_86 : cfg.mutF 86 = false := by rfl
@[go_sem] theorem mut_87 : cfg.mutF 87 = false := by rfl
@[go_sem] theorem mut_88 : cfg.mutF 88 = false := by rfl
@[go_sem] theorem mut_89 : cfg.mutF 89 = false := by rfl
@[go_sem] theorem mut_90 : cfg.mutF 90 = false := by rfl
@[go_sem] theorem mut_91 : cfg.mutF 91 = false := by rfl
@[go_sem] theorem mut_92 : cfg.mutF 92 = false := by rfl
@[go_sem] theorem mut_93 : cfg.mutF 93 = false := by rfl
@[go_sem] theorem mut_94 : cfg.mutF 94 = false := by rfl
@[go_sem] theorem mut_96 : cfg.mutF 96 = true := by rfl
@[go_sem] theorem mut_105 : cfg.mutF 105 = false := by rfl
@[go_sem] theorem mut_126 : cfg.mutF 126 = true := by rfl
@[go_sem] theorem mut_127 : cfg.mutF 127 = true := by rfl
@[go_sem] theorem mut_135 : cfg.mutF 135 = false := by rfl
@[go_sem] theorem mut_136 : cfg.mutF 136 = false := by rfl
@[go_sem] theorem mut_137 : cfg.mutF 137 = true := by rfl
@[go_sem] theorem mut_138 : cfg.mutF 138 = true := by rfl
@[go_sem] theorem mut_139 : cfg.mutF 139 = false := by rfl
@[go_sem] theorem mut_140 : cfg.mutF 140 = true := by rfl
@[go_sem] theorem mut_142 : cfg.mutF 142 = true := by rfl
@[go_sem] theorem mut_143 : cfg.mutF 143 = false := by rfl
@[go_sem] theorem mut_144 : cfg.mutF 144 = false := by rfl
@[go_sem] theorem mut_145 : cfg.mutF 145 = false := by rfl
@[go_sem] theorem mut_146 : cfg.mutF 146 = false := by rfl
@[go_sem] theorem mut_147 : cfg.mutF 147 = false := by rfl
@[go_sem] theorem mut_148 : cfg.mutF 148 = false := by rfl
@[go_sem] theorem mut_149 : cfg.mutF 149 = false := by rfl
@[go_sem] theorem mut_150 : cfg.mutF 150 = false := by rfl
@[go_sem] theorem mut_151 : cfg.mutF 151 = false := by rfl
@[go_sem] theorem mut_152 : cfg.mutF 152 = false := by rfl
@[go_sem] theorem mut_163 : cfg.mutF 163 = false := by rfl
@[go_sem] theorem mut_169 : cfg.mutF 169 = false := by rfl
@[go_sem] theorem mut_171 : cfg.mutF 171 = false := by rfl
@[go_sem] theorem mut_172 : cfg.mutF 172 = false := by rfl
@[go_sem] theorem mut_173 : cfg.mutF 173 = false := by rfl
@[go_sem] theorem mut_174 : cfg.mutF 174 = false := by rfl
@[go_sem] theorem mut_175 : cfg.mutF 175 = false := by rfl
@[go_sem] theorem mut_176 : cfg.mutF 176 = false := by rfl
@[go_sem] theorem mut_177 : cfg.mutF 177 = false := by rfl
@[go_sem] theorem mut_178 : cfg.mutF 178 = false := by rfl
@[go_sem] theorem mut_179 : cfg.mutF 179 = false := by rfl
@[go_sem] theorem mut_180 : cfg.mutF 180 = false := by rfl
@[go_sem] theorem mut_181 : cfg.mutF 181 = false := by rfl
@[go_sem] theorem mut_182 : cfg.mutF 182 = false := by rfl
@[go_sem] theorem mut_183 : cfg.mutF 183 = false := by rfl
@[go_sem] theorem mut_184 : cfg.mutF 184 = false := by rfl
@[go_sem] theorem mut_186 : cfg.mutF 186 = false := by rfl
@[go_sem] theorem mut_187 : cfg.mutF 187 = false := by rfl
@[go_sem] theorem mut_189 : cfg.mutF 189 = true := by rfl
@[go_sem] theorem mut_193 : cfg.mutF 193 = false := by rfl
@[go_sem] theorem mut_200 : cfg.mutF 200 = false := by rfl
@[go_sem] theorem mut_201 : cfg.mutF 201 = false := by rfl
@[go_sem] theorem mut_202 : cfg.mutF 202 = false := by rfl
@[go_sem] theorem mut_204 : cfg.mutF 204 = false := by rfl
@[go_sem] theorem mut_205 : cfg.mutF 205 = false := by rfl
@[go_sem] theorem mut_206 : cfg.mutF 206 = true := by rfl
@[go_sem] theorem mut_207 : cfg.mutF 207 = false := by rfl
@[go_sem] theorem mut_208 : cfg.mutF 208 = true := by rfl
@[go_sem] theorem mut_209 : cfg.mutF 209 = false := by rfl
@[go_sem] theorem mut_210 : cfg.mutF 210 = false := by rfl
@[go_sem] theorem mut_211 : cfg.mutF 211 = true := by rfl
@[go_sem] theorem mut_212 : cfg.mutF 212 = true := by rfl
@[go_sem] theorem mut_213 : cfg.mutF 213 = true := by rfl
@[go_sem] theorem mut_219 : cfg.mutF 219 = false := by rfl
@[go_sem] theorem mut_233 : cfg.mutF 233 = false := by rfl
@[go_sem] theorem mut_234 : cfg.mutF 234 = false := by rfl
@[go_sem] theorem mut_235 : cfg.mutF 235 = false := by rfl
@[go_sem] theorem mut_236 : cfg.mutF 236 = false := by rfl
@[go_sem] theorem mut_237 : cfg.mutF 237 = false := by rfl
@[go_sem] theorem mut_238 : cfg.mutF 238 = false := by rfl
@[go_sem] theorem mut_239 : cfg.mutF 239 = false := by rfl
@[go_sem] theorem mut_243 : cfg.mutF 243 = false := by rfl
@[go_sem] theorem mut_244 : cfg.mutF 244 = false := by rfl
@[go_sem] theorem mut_245 : cfg.mutF 245 = false := by rfl
@[go_sem] theorem mut_246 : cfg.mutF 246 = false := by rfl
@[go_sem] theorem mut_247 : cfg.mutF 247 = false := by rfl
@[go_sem] theorem own_6_18 : cfg.own 6 18 = false := by rfl
@[go_sem] theorem own_6_24 : cfg.own 6 24 = false := by rfl
@[go_sem] theorem own_6_30 : cfg.own 6 30 = false := by rfl
@[go_sem] theorem own_6_35 : cfg.own 6 35 = false := by rfl
@[go_sem] theorem own_6_48 : cfg.own 6 48 = false := by rfl
@[go_sem] theorem own_6_55 : cfg.own 6 55 = false := by rfl
@[go_sem] theorem own_6_63 : cfg.own 6 63 = false := by rfl
@[go_sem] theorem own_6_66 : cfg.own 6 66 = false := by rfl
@[go_sem] theorem own_6_68 : cfg.own 6 68 = false := by rfl
@[go_sem] theorem own_6_70 : cfg.own 6 70 = false := by rfl
@[go_sem] theorem own_6_75 : cfg.own 6 75 = false := by rfl
@[go_sem] theorem own_6_79 : cfg.own 6 79 = false := by rfl
@[go_sem] theorem own_18_12 : cfg.own 18 12 = false := by rfl
@[go_sem] theorem own_18_16 : cfg.own 18 16 = false := by rfl
@[go_sem] theorem own_18_36 : cfg.own 18 36 = false := by rfl
@[go_sem] theorem own_19_4 : cfg.own 19 4 = false := by rfl
@[go_sem] theorem own_19_8 : cfg.own 19 8 = false := by rfl
@[go_sem] theorem own_19_11 : cfg.own 19 11 = false := by rfl
@[go_sem] theorem own_23_10 : cfg.own 23 10 = false := by rfl
@[go_sem] theorem own_23_15 : cfg.own 23 15 = false := by rfl
@[go_sem] theorem own_23_22 : cfg.own 23 22 = false := by rfl
@[go_sem] theorem own_23_29 : cfg.own 23 29 = true := by rfl
@[go_sem] theorem own_23_33 : cfg.own 23 33 = false := by rfl
@[go_sem] theorem own_23_36 : cfg.own 23 36 = false := by rfl
@[go_sem] theorem own_25_15 : cfg.own 25 15 = false := by rfl
@[go_sem] theorem own_27_5 : cfg.own 27 5 = false := by rfl
@[go_sem] theorem own_28_8 : cfg.own 28 8 = false := by rfl
@[go_sem] theorem own_28_13 : cfg.own 28 13 = false := by rfl
@[go_sem] theorem own_29_7 : cfg.own 29 7 = false := by rfl
@[go_sem] theorem own_29_13 : cfg.own 29 13 = false := by rfl
@[go_sem] theorem own_29_22 : cfg.own 29 22 = false := by rfl
@[go_sem] theorem own_31_4 : cfg.own 31 4 = false := by rfl
@[go_sem] theorem own_31_7 : cfg.own 31 7 = false := by rfl
@[go_sem] theorem own_32_7 : cfg.own 32 7 = false := by rfl
@[go_sem] theorem own_32_11 : cfg.own 32 11 = false := by rfl
@[go_sem] theorem own_36_55 : cfg.own 36 55 = false := by rfl
@[go_sem] theorem own_71_7 : cfg.own 71 7 = false := by rfl
@[go_sem] theorem own_72_14 : cfg.own 72 14 = false := by rfl
@[go_sem] theorem own_72_22 : cfg.own 72 22 = false := by rfl
@[go_sem] theorem own_72_28 : cfg.own 72 28 = false := by rfl
@[go_sem] theorem own_72_37 : cfg.own 72 37 = false := by rfl
@[go_sem] theorem own_72_44 : cfg.own 72 44 = false := by rfl
@[go_sem] theorem own_72_49 : cfg.own 72 49 = false := by rfl
@[go_sem] theorem own_72_56 : cfg.own 72 56 = false := by rfl
@[go_sem] theorem own_73_16 : cfg.own 73 16 = false := by rfl
@[go_sem] theorem own_73_21 : cfg.own 73 21 = false := by rfl
@[go_sem] theorem own_76_59 : cfg.own 76 59 = false := by rfl
@[go_sem] theorem own_79_9 : cfg.own 79 9 = true := by rfl
@[go_sem] theorem own_79_11 : cfg.own 79 11 = false := by rfl
@[go_sem] theorem own_79_18 : cfg.own 79 18 = false := by rfl
@[go_sem] theorem own_79_23 : cfg.own 79 23 = false := by rfl
@[go_sem] theorem own_79_30 : cfg.own 79 30 = false := by rfl
@[go_sem] theorem own_79_34 : cfg.own 79 34 = false := by rfl
@[go_sem] theorem own_79_39 : cfg.own 79 39 = false := by rfl
@[go_sem] theorem own_79_42 : cfg.own 79 42 = false := by rfl
@[go_sem] theorem own_79_47 : cfg.own 79 47 = false := by rfl
@[go_sem] theorem own_79_51 : cfg.own 79 51 = false := by rfl
@[go_sem] theorem own_79_54 : cfg.own 79 54 = false := by rfl
@[go_sem] theorem own_79_57 : cfg.own 79 57 = false := by rfl
@[go_sem] theorem own_80_8 : cfg.own 80 8 = false := by rfl
@[go_sem] theorem own_81_30 : cfg.own 81 30 = false := by rfl
@[go_sem] theorem own_81_46 : cfg.own 81 46 = false := by rfl
@[go_sem] theorem own_82_9 : cfg.own 82 9 = false := by rfl
@[go_sem] theorem own_82_14 : cfg.own 82 14 = false := by rfl
@[go_sem] theorem own_82_16 : cfg.own 82 16 = false := by rfl
@[go_sem] theorem own_83_67 : cfg.own 83 67 = false := by rfl
@[go_sem] theorem own_83_93 : cfg.own 83 93 = false := by rfl
@[go_sem] theorem own_86_23 : cfg.own 86 23 = false := by rfl
@[go_sem] theorem own_89_6 : cfg.own 89 6 = false := by rfl
@[go_sem] theorem own_89_10 : cfg.own 89 10 = false := by rfl
@[go_sem] theorem own_90_7 : cfg.own 90 7 = false := by rfl
@[go_sem] theorem own_92_21 : cfg.own 92 21 = false := by rfl
@[go_sem] theorem own_93_7 : cfg.own 93 7 = false := by rfl
@[go_sem] theorem own_93_12 : cfg.own 93 12 = false := by rfl
@[go_sem] theorem own_105_9 : cfg.own 105 9 = false := by rfl
@[go_sem] theorem own_126_8 : cfg.own 126 8 = true := by rfl
@[go_sem] theorem own_126_10 : cfg.own 126 10 = false := by rfl
@[go_sem] theorem own_126_23 : cfg.own 126 23 = false := by rfl
@[go_sem] theorem own_126_25 : cfg.own 126 25 = false := by rfl
@[go_sem] theorem own_126_33 : cfg.own 126 33 = false := by rfl
@[go_sem] theorem own_126_40 : cfg.own 126 40 = false := by rfl
@[go_sem] theorem own_127_9 : cfg.own 127 9 = false := by rfl
@[go_sem] theorem own_135_18 : cfg.own 135 18 = false := by rfl
@[go_sem] theorem own_135_23 : cfg.own 135 23 = false := by rfl
@[go_sem] theorem own_135_39 : cfg.own 135 39 = false := by rfl
@[go_sem] theorem own_136_9 : cfg.own 136 9 = false := by rfl
@[go_sem] theorem own_137_23 : cfg.own 137 23 = false := by rfl
@[go_sem] theorem own_137_29 : cfg.own 137 29 = false := by rfl
@[go_sem] theorem own_137_30 : cfg.own 137 30 = false := by rfl
@[go_sem] theorem own_137_35 : cfg.own 137 35 = false := by rfl
@[go_sem] theorem own_137_36 : cfg.own 137 36 = false := by rfl
@[go_sem] theorem own_137_41 : cfg.own 137 41 = false := by rfl
@[go_sem] theorem own_137_42 : cfg.own 137 42 = false := by rfl
@[go_sem] theorem own_137_47 : cfg.own 137 47 = false := by rfl
@[go_sem] theorem own_137_48 : cfg.own 137 48 = false := by rfl
@[go_sem] theorem own_137_53 : cfg.own 137 53 = false := by rfl
@[go_sem] theorem own_137_61 : cfg.own 137 61 = false := by rfl
@[go_sem] theorem own_137_70 : cfg.own 137 70 = false := by rfl
@[go_sem] theorem own_137_71 : cfg.own 137 71 = false := by rfl
@[go_sem] theorem own_137_79 : cfg.own 137 79 = false := by rfl
@[go_sem] theorem own_137_84 : cfg.own 137 84 = false := by rfl
@[go_sem] theorem own_137_93 : cfg.own 137 93 = false := by rfl
@[go_sem] theorem own_137_98 : cfg.own 137 98 = false := by rfl
@[go_sem] theorem own_137_106 : cfg.own 137 106 = false := by rfl
@[go_sem] theorem own_137_112 : cfg.own 137 112 = false := by rfl
@[go_sem] theorem own_137_120 : cfg.own 137 120 = false := by rfl
@[go_sem] theorem own_138_13 : cfg.own 138 13 = false := by rfl
@[go_sem] theorem own_138_21 : cfg.own 138 21 = false := by rfl
@[go_sem] theorem own_138_34 : cfg.own 138 34 = false := by rfl
@[go_sem] theorem own_139_13 : cfg.own 139 13 = false := by rfl
@[go_sem] theorem own_139_23 : cfg.own 139 23 = false := by rfl
@[go_sem] theorem own_140_39 : cfg.own 140 39 = false := by rfl
@[go_sem] theorem own_140_44 : cfg.own 140 44 = false := by rfl
@[go_sem] theorem own_140_50 : cfg.own 140 50 = false := by rfl
@[go_sem] theorem own_140_60 : cfg.own 140 60 = false := by rfl
@[go_sem] theorem own_140_71 : cfg.own 140 71 = false := by rfl
@[go_sem] theorem own_140_85 : cfg.own 140 85 = false := by rfl
@[go_sem] theorem own_140_87 : cfg.own 140 87 = false := by rfl
@[go_sem] theorem own_140_95 : cfg.own 140 95 = false := by rfl
@[go_sem] theorem own_140_112 : cfg.own 140 112 = false := by rfl
@[go_sem] theorem own_140_115 : cfg.own 140 115 = false := by rfl
@[go_sem] theorem own_140_125 : cfg.own 140 125 = false := by rfl
@[go_sem] theorem own_140_130 : cfg.own 140 130 = false := by rfl
@[go_sem] theorem own_140_140 : cfg.own 140 140 = false := by rfl
@[go_sem] theorem own_140_151 : cfg.own 140 151 = false := by rfl
@[go_sem] theorem own_140_155 : cfg.own 140 155 = false := by rfl
@[go_sem] theorem own_140_158 : cfg.own 140 158 = false := by rfl
@[go_sem] theorem own_140_169 : cfg.own 140 169 = false := by rfl
@[go_sem] theorem own_140_176 : cfg.own 140 176 = false := by rfl
@[go_sem] theorem own_140_178 : cfg.own 140 178 = false := by rfl
@[go_sem] theorem own_142_10 : cfg.own 142 10 = false := by rfl
@[go_sem] theorem own_142_19 : cfg.own 142 19 = false := by rfl
@[go_sem] theorem own_142_25 : cfg.own 142 25 = false := by rfl
@[go_sem] theorem own_142_27 : cfg.own 142 27 = false := by rfl
@[go_sem] theorem own_142_28 : cfg.own 142 28 = false := by rfl
@[go_sem] theorem own_142_32 : cfg.own 142 32 = false := by rfl
@[go_sem] theorem own_142_40 : cfg.own 142 40 = false := by rfl
@[go_sem] theorem own_142_44 : cfg.own 142 44 = false := by rfl
@[go_sem] theorem own_142_53 : cfg.own 142 53 = false := by rfl
@[go_sem] theorem own_142_54 : cfg.own 142 54 = false := by rfl
@[go_sem] theorem own_142_61 : cfg.own 142 61 = false := by rfl
@[go_sem] theorem own_142_62 : cfg.own 142 62 = false := by rfl
@[go_sem] theorem own_145_7 : cfg.own 145 7 = false := by rfl
@[go_sem] theorem own_147_8 : cfg.own 147 8 = false := by rfl
@[go_sem] theorem own_147_10 : cfg.own 147 10 = false := by rfl
@[go_sem] theorem own_151_9 : cfg.own 151 9 = true := by rfl
@[go_sem] theorem own_151_11 : cfg.own 151 11 = false := by rfl
@[go_sem] theorem own_163_7 : cfg.own 163 7 = false := by rfl
@[go_sem] theorem own_173_7 : cfg.own 173 7 = false := by rfl
@[go_sem] theorem own_174_10 : cfg.own 174 10 = false := by rfl
@[go_sem] theorem own_175_15 : cfg.own 175 15 = false := by rfl
@[go_sem] theorem own_180_18 : cfg.own 180 18 = false := by rfl
@[go_sem] theorem own_180_23 : cfg.own 180 23 = false := by rfl
@[go_sem] theorem own_180_37 : cfg.own 180 37 = false := by rfl
@[go_sem] theorem own_180_43 : cfg.own 180 43 = false := by rfl
@[go_sem] theorem own_180_48 : cfg.own 180 48 = false := by rfl
@[go_sem] theorem own_180_79 : cfg.own 180 79 = false := by rfl
@[go_sem] theorem own_181_10 : cfg.own 181 10 = false := by rfl
@[go_sem] theorem own_181_17 : cfg.own 181 17 = false := by rfl
@[go_sem] theorem own_181_26 : cfg.own 181 26 = false := by rfl
@[go_sem] theorem own_181_30 : cfg.own 181 30 = true := by rfl
@[go_sem] theorem own_181_33 : cfg.own 181 33 = false := by rfl
@[go_sem] theorem own_181_36 : cfg.own 181 36 = true := by rfl
@[go_sem] theorem own_181_44 : cfg.own 181 44 = false := by rfl
@[go_sem] theorem own_181_47 : cfg.own 181 47 = false := by rfl
@[go_sem] theorem own_182_8 : cfg.own 182 8 = false := by rfl
@[go_sem] theorem own_182_25 : cfg.own 182 25 = false := by rfl
@[go_sem] theorem own_183_11 : cfg.own 183 11 = false := by rfl
@[go_sem] theorem own_183_16 : cfg.own 183 16 = false := by rfl
@[go_sem] theorem own_184_15 : cfg.own 184 15 = false := by rfl
@[go_sem] theorem own_184_21 : cfg.own 184 21 = false := by rfl
@[go_sem] theorem own_184_29 : cfg.own 184 29 = false := by rfl
@[go_sem] theorem own_184_33 : cfg.own 184 33 = false := by rfl
@[go_sem] theorem own_184_36 : cfg.own 184 36 = true := by rfl
@[go_sem] theorem own_184_40 : cfg.own 184 40 = false := by rfl
@[go_sem] theorem own_184_43 : cfg.own 184 43 = true := by rfl
@[go_sem] theorem own_184_47 : cfg.own 184 47 = false := by rfl
@[go_sem] theorem own_184_70 : cfg.own 184 70 = false := by rfl
@[go_sem] theorem own_189_10 : cfg.own 189 10 = false := by rfl
@[go_sem] theorem own_189_28 : cfg.own 189 28 = false := by rfl
@[go_sem] theorem own_193_16 : cfg.own 193 16 = false := by rfl
@[go_sem] theorem own_200_30 : cfg.own 200 30 = false := by rfl
@[go_sem] theorem own_200_47 : cfg.own 200 47 = false := by rfl
@[go_sem] theorem own_200_71 : cfg.own 200 71 = false := by rfl
@[go_sem] theorem own_200_105 : cfg.own 200 105 = false := by rfl
@[go_sem] theorem own_200_112 : cfg.own 200 112 = false := by rfl
@[go_sem] theorem own_200_137 : cfg.own 200 137 = false := by rfl
@[go_sem] theorem own_201_11 : cfg.own 201 11 = false := by rfl
@[go_sem] theorem own_201_35 : cfg.own 201 35 = false := by rfl
@[go_sem] theorem own_201_41 : cfg.own 201 41 = false := by rfl
@[go_sem] theorem own_201_44 : cfg.own 201 44 = false := by rfl
@[go_sem] theorem own_201_45 : cfg.own 201 45 = false := by rfl
@[go_sem] theorem own_201_47 : cfg.own 201 47 = false := by rfl
@[go_sem] theorem own_201_55 : cfg.own 201 55 = false := by rfl
@[go_sem] theorem own_201_57 : cfg.own 201 57 = false := by rfl
@[go_sem] theorem own_201_78 : cfg.own 201 78 = false := by rfl
@[go_sem] theorem own_204_10 : cfg.own 204 10 = false := by rfl
@[go_sem] theorem own_206_67 : cfg.own 206 67 = false := by rfl
@[go_sem] theorem own_206_93 : cfg.own 206 93 = false := by rfl
@[go_sem] theorem own_208_67 : cfg.own 208 67 = false := by rfl
@[go_sem] theorem own_208_93 : cfg.own 208 93 = false := by rfl
@[go_sem] theorem own_213_22 : cfg.own 213 22 = false := by rfl
@[go_sem] theorem own_213_23 : cfg.own 213 23 = false := by rfl
@[go_sem] theorem own_213_36 : cfg.own 213 36 = false := by rfl
@[go_sem] theorem own_213_43 : cfg.own 213 43 = false := by rfl
@[go_sem] theorem own_219_16 : cfg.own 219 16 = false := by rfl
end Go.Proofs.YtdjdgnabcecdlaaGreatDoor.X
