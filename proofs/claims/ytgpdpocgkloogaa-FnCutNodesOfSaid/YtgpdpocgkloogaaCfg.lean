/- How this program's calls are taken. -/
import Derived.Test.YtgpdpocgkloogaaTab
import Derived.Test.YtgpdpocgkloogaaPrim
namespace Go.Proofs.Ytgpdpocgkloogaa.X
open Go Go.Proofs

def cfg : Cfg where
  mutF f := mutL.contains f
  own me d := ownL.contains (me, d)
  prim f := if f = 101 then some (sortP) else if f = 122 then some (mulP) else if f = 129 then some (cloneP) else none
  give me d := false

@[go_sem] theorem give_0 (d : Nat) : cfg.give 0 d = false := by rfl
@[go_sem] theorem give_1 (d : Nat) : cfg.give 1 d = false := by rfl
@[go_sem] theorem give_2 (d : Nat) : cfg.give 2 d = false := by rfl
@[go_sem] theorem give_3 (d : Nat) : cfg.give 3 d = false := by rfl
@[go_sem] theorem give_4 (d : Nat) : cfg.give 4 d = false := by rfl
@[go_sem] theorem give_5 (d : Nat) : cfg.give 5 d = false := by rfl
@[go_sem] theorem give_6 (d : Nat) : cfg.give 6 d = false := by rfl
@[go_sem] theorem give_7 (d : Nat) : cfg.give 7 d = false := by rfl
@[go_sem] theorem give_8 (d : Nat) : cfg.give 8 d = false := by rfl
@[go_sem] theorem give_9 (d : Nat) : cfg.give 9 d = false := by rfl
@[go_sem] theorem give_10 (d : Nat) : cfg.give 10 d = false := by rfl
@[go_sem] theorem give_11 (d : Nat) : cfg.give 11 d = false := by rfl
@[go_sem] theorem give_12 (d : Nat) : cfg.give 12 d = false := by rfl
@[go_sem] theorem give_13 (d : Nat) : cfg.give 13 d = false := by rfl
@[go_sem] theorem give_14 (d : Nat) : cfg.give 14 d = false := by rfl
@[go_sem] theorem give_15 (d : Nat) : cfg.give 15 d = false := by rfl
@[go_sem] theorem give_16 (d : Nat) : cfg.give 16 d = false := by rfl
@[go_sem] theorem give_17 (d : Nat) : cfg.give 17 d = false := by rfl
@[go_sem] theorem give_18 (d : Nat) : cfg.give 18 d = false := by rfl
@[go_sem] theorem give_19 (d : Nat) : cfg.give 19 d = false := by rfl
@[go_sem] theorem give_20 (d : Nat) : cfg.give 20 d = false := by rfl
@[go_sem] theorem give_21 (d : Nat) : cfg.give 21 d = false := by rfl
@[go_sem] theorem give_22 (d : Nat) : cfg.give 22 d = false := by rfl
@[go_sem] theorem give_23 (d : Nat) : cfg.give 23 d = false := by rfl
@[go_sem] theorem give_24 (d : Nat) : cfg.give 24 d = false := by rfl
@[go_sem] theorem give_25 (d : Nat) : cfg.give 25 d = false := by rfl
@[go_sem] theorem give_26 (d : Nat) : cfg.give 26 d = false := by rfl
@[go_sem] theorem give_27 (d : Nat) : cfg.give 27 d = false := by rfl
@[go_sem] theorem give_28 (d : Nat) : cfg.give 28 d = false := by rfl
@[go_sem] theorem give_29 (d : Nat) : cfg.give 29 d = false := by rfl
@[go_sem] theorem give_30 (d : Nat) : cfg.give 30 d = false := by rfl
@[go_sem] theorem give_31 (d : Nat) : cfg.give 31 d = false := by rfl
@[go_sem] theorem give_32 (d : Nat) : cfg.give 32 d = false := by rfl
@[go_sem] theorem give_33 (d : Nat) : cfg.give 33 d = false := by rfl
@[go_sem] theorem give_34 (d : Nat) : cfg.give 34 d = false := by rfl
@[go_sem] theorem give_35 (d : Nat) : cfg.give 35 d = false := by rfl
@[go_sem] theorem give_36 (d : Nat) : cfg.give 36 d = false := by rfl
@[go_sem] theorem give_37 (d : Nat) : cfg.give 37 d = false := by rfl
@[go_sem] theorem give_38 (d : Nat) : cfg.give 38 d = false := by rfl
@[go_sem] theorem give_39 (d : Nat) : cfg.give 39 d = false := by rfl
@[go_sem] theorem give_40 (d : Nat) : cfg.give 40 d = false := by rfl
@[go_sem] theorem give_41 (d : Nat) : cfg.give 41 d = false := by rfl
@[go_sem] theorem give_42 (d : Nat) : cfg.give 42 d = false := by rfl
@[go_sem] theorem give_43 (d : Nat) : cfg.give 43 d = false := by rfl
@[go_sem] theorem give_44 (d : Nat) : cfg.give 44 d = false := by rfl
@[go_sem] theorem give_45 (d : Nat) : cfg.give 45 d = false := by rfl
@[go_sem] theorem give_46 (d : Nat) : cfg.give 46 d = false := by rfl
@[go_sem] theorem give_47 (d : Nat) : cfg.give 47 d = false := by rfl
@[go_sem] theorem give_48 (d : Nat) : cfg.give 48 d = false := by rfl
@[go_sem] theorem give_49 (d : Nat) : cfg.give 49 d = false := by rfl
@[go_sem] theorem give_50 (d : Nat) : cfg.give 50 d = false := by rfl
@[go_sem] theorem give_51 (d : Nat) : cfg.give 51 d = false := by rfl
@[go_sem] theorem give_52 (d : Nat) : cfg.give 52 d = false := by rfl
@[go_sem] theorem give_53 (d : Nat) : cfg.give 53 d = false := by rfl
@[go_sem] theorem give_54 (d : Nat) : cfg.give 54 d = false := by rfl
@[go_sem] theorem give_55 (d : Nat) : cfg.give 55 d = false := by rfl
@[go_sem] theorem give_56 (d : Nat) : cfg.give 56 d = false := by rfl
@[go_sem] theorem give_57 (d : Nat) : cfg.give 57 d = false := by rfl
@[go_sem] theorem give_58 (d : Nat) : cfg.give 58 d = false := by rfl
@[go_sem] theorem give_59 (d : Nat) : cfg.give 59 d = false := by rfl
@[go_sem] theorem give_60 (d : Nat) : cfg.give 60 d = false := by rfl
@[go_sem] theorem give_61 (d : Nat) : cfg.give 61 d = false := by rfl
@[go_sem] theorem give_62 (d : Nat) : cfg.give 62 d = false := by rfl
@[go_sem] theorem give_63 (d : Nat) : cfg.give 63 d = false := by rfl
@[go_sem] theorem give_64 (d : Nat) : cfg.give 64 d = false := by rfl
@[go_sem] theorem give_65 (d : Nat) : cfg.give 65 d = false := by rfl
@[go_sem] theorem give_66 (d : Nat) : cfg.give 66 d = false := by rfl
@[go_sem] theorem give_67 (d : Nat) : cfg.give 67 d = false := by rfl
@[go_sem] theorem give_68 (d : Nat) : cfg.give 68 d = false := by rfl
@[go_sem] theorem give_69 (d : Nat) : cfg.give 69 d = false := by rfl
@[go_sem] theorem give_70 (d : Nat) : cfg.give 70 d = false := by rfl
@[go_sem] theorem give_71 (d : Nat) : cfg.give 71 d = false := by rfl
@[go_sem] theorem give_72 (d : Nat) : cfg.give 72 d = false := by rfl
@[go_sem] theorem give_73 (d : Nat) : cfg.give 73 d = false := by rfl
@[go_sem] theorem give_74 (d : Nat) : cfg.give 74 d = false := by rfl
@[go_sem] theorem give_75 (d : Nat) : cfg.give 75 d = false := by rfl
@[go_sem] theorem give_76 (d : Nat) : cfg.give 76 d = false := by rfl
@[go_sem] theorem give_77 (d : Nat) : cfg.give 77 d = false := by rfl
@[go_sem] theorem give_78 (d : Nat) : cfg.give 78 d = false := by rfl
@[go_sem] theorem give_79 (d : Nat) : cfg.give 79 d = false := by rfl
@[go_sem] theorem give_80 (d : Nat) : cfg.give 80 d = false := by rfl
@[go_sem] theorem give_81 (d : Nat) : cfg.give 81 d = false := by rfl
@[go_sem] theorem give_82 (d : Nat) : cfg.give 82 d = false := by rfl
@[go_sem] theorem give_83 (d : Nat) : cfg.give 83 d = false := by rfl
@[go_sem] theorem give_84 (d : Nat) : cfg.give 84 d = false := by rfl
@[go_sem] theorem give_85 (d : Nat) : cfg.give 85 d = false := by rfl
@[go_sem] theorem give_86 (d : Nat) : cfg.give 86 d = false := by rfl
@[go_sem] theorem give_87 (d : Nat) : cfg.give 87 d = false := by rfl
@[go_sem] theorem give_88 (d : Nat) : cfg.give 88 d = false := by rfl
@[go_sem] theorem give_89 (d : Nat) : cfg.give 89 d = false := by rfl
@[go_sem] theorem give_90 (d : Nat) : cfg.give 90 d = false := by rfl
@[go_sem] theorem give_91 (d : Nat) : cfg.give 91 d = false := by rfl
@[go_sem] theorem give_92 (d : Nat) : cfg.give 92 d = false := by rfl
@[go_sem] theorem give_93 (d : Nat) : cfg.give 93 d = false := by rfl
@[go_sem] theorem give_94 (d : Nat) : cfg.give 94 d = false := by rfl
@[go_sem] theorem give_95 (d : Nat) : cfg.give 95 d = false := by rfl
@[go_sem] theorem give_96 (d : Nat) : cfg.give 96 d = false := by rfl
@[go_sem] theorem give_97 (d : Nat) : cfg.give 97 d = false := by rfl
@[go_sem] theorem give_98 (d : Nat) : cfg.give 98 d = false := by rfl
@[go_sem] theorem give_99 (d : Nat) : cfg.give 99 d = false := by rfl
@[go_sem] theorem give_100 (d : Nat) : cfg.give 100 d = false := by rfl
@[go_sem] theorem give_101 (d : Nat) : cfg.give 101 d = false := by rfl
@[go_sem] theorem give_102 (d : Nat) : cfg.give 102 d = false := by rfl
@[go_sem] theorem give_103 (d : Nat) : cfg.give 103 d = false := by rfl
@[go_sem] theorem give_104 (d : Nat) : cfg.give 104 d = false := by rfl
@[go_sem] theorem give_105 (d : Nat) : cfg.give 105 d = false := by rfl
@[go_sem] theorem give_106 (d : Nat) : cfg.give 106 d = false := by rfl
@[go_sem] theorem give_107 (d : Nat) : cfg.give 107 d = false := by rfl
@[go_sem] theorem give_108 (d : Nat) : cfg.give 108 d = false := by rfl
@[go_sem] theorem give_109 (d : Nat) : cfg.give 109 d = false := by rfl
@[go_sem] theorem give_110 (d : Nat) : cfg.give 110 d = false := by rfl
@[go_sem] theorem give_111 (d : Nat) : cfg.give 111 d = false := by rfl
@[go_sem] theorem give_112 (d : Nat) : cfg.give 112 d = false := by rfl
@[go_sem] theorem give_113 (d : Nat) : cfg.give 113 d = false := by rfl
@[go_sem] theorem give_114 (d : Nat) : cfg.give 114 d = false := by rfl
@[go_sem] theorem give_115 (d : Nat) : cfg.give 115 d = false := by rfl
@[go_sem] theorem give_116 (d : Nat) : cfg.give 116 d = false := by rfl
@[go_sem] theorem give_117 (d : Nat) : cfg.give 117 d = false := by rfl
@[go_sem] theorem give_118 (d : Nat) : cfg.give 118 d = false := by rfl
@[go_sem] theorem give_119 (d : Nat) : cfg.give 119 d = false := by rfl
@[go_sem] theorem give_120 (d : Nat) : cfg.give 120 d = false := by rfl
@[go_sem] theorem give_121 (d : Nat) : cfg.give 121 d = false := by rfl
@[go_sem] theorem give_122 (d : Nat) : cfg.give 122 d = false := by rfl
@[go_sem] theorem give_123 (d : Nat) : cfg.give 123 d = false := by rfl
@[go_sem] theorem give_124 (d : Nat) : cfg.give 124 d = false := by rfl
@[go_sem] theorem give_125 (d : Nat) : cfg.give 125 d = false := by rfl
@[go_sem] theorem give_126 (d : Nat) : cfg.give 126 d = false := by rfl
@[go_sem] theorem give_127 (d : Nat) : cfg.give 127 d = false := by rfl
@[go_sem] theorem give_128 (d : Nat) : cfg.give 128 d = false := by rfl
@[go_sem] theorem give_129 (d : Nat) : cfg.give 129 d = false := by rfl
@[go_sem] theorem give_130 (d : Nat) : cfg.give 130 d = false := by rfl
@[go_sem] theorem give_131 (d : Nat) : cfg.give 131 d = false := by rfl
@[go_sem] theorem give_132 (d : Nat) : cfg.give 132 d = false := by rfl
@[go_sem] theorem give_133 (d : Nat) : cfg.give 133 d = false := by rfl
@[go_sem] theorem give_134 (d : Nat) : cfg.give 134 d = false := by rfl
@[go_sem] theorem give_135 (d : Nat) : cfg.give 135 d = false := by rfl
@[go_sem] theorem give_136 (d : Nat) : cfg.give 136 d = false := by rfl
@[go_sem] theorem give_137 (d : Nat) : cfg.give 137 d = false := by rfl
@[go_sem] theorem give_138 (d : Nat) : cfg.give 138 d = false := by rfl
@[go_sem] theorem give_139 (d : Nat) : cfg.give 139 d = false := by rfl
@[go_sem] theorem give_140 (d : Nat) : cfg.give 140 d = false := by rfl
@[go_sem] theorem give_141 (d : Nat) : cfg.give 141 d = false := by rfl
@[go_sem] theorem give_142 (d : Nat) : cfg.give 142 d = false := by rfl
@[go_sem] theorem give_143 (d : Nat) : cfg.give 143 d = false := by rfl
@[go_sem] theorem give_144 (d : Nat) : cfg.give 144 d = false := by rfl
@[go_sem] theorem give_145 (d : Nat) : cfg.give 145 d = false := by rfl
@[go_sem] theorem give_146 (d : Nat) : cfg.give 146 d = false := by rfl
@[go_sem] theorem give_147 (d : Nat) : cfg.give 147 d = false := by rfl
@[go_sem] theorem give_148 (d : Nat) : cfg.give 148 d = false := by rfl
@[go_sem] theorem give_149 (d : Nat) : cfg.give 149 d = false := by rfl
@[go_sem] theorem give_150 (d : Nat) : cfg.give 150 d = false := by rfl
@[go_sem] theorem give_151 (d : Nat) : cfg.give 151 d = false := by rfl
@[go_sem] theorem give_152 (d : Nat) : cfg.give 152 d = false := by rfl
@[go_sem] theorem give_153 (d : Nat) : cfg.give 153 d = false := by rfl
@[go_sem] theorem give_154 (d : Nat) : cfg.give 154 d = false := by rfl
@[go_sem] theorem give_155 (d : Nat) : cfg.give 155 d = false := by rfl
@[go_sem] theorem give_156 (d : Nat) : cfg.give 156 d = false := by rfl
@[go_sem] theorem give_157 (d : Nat) : cfg.give 157 d = false := by rfl
@[go_sem] theorem give_158 (d : Nat) : cfg.give 158 d = false := by rfl
@[go_sem] theorem give_159 (d : Nat) : cfg.give 159 d = false := by rfl
@[go_sem] theorem give_160 (d : Nat) : cfg.give 160 d = false := by rfl
@[go_sem] theorem give_161 (d : Nat) : cfg.give 161 d = false := by rfl
@[go_sem] theorem give_162 (d : Nat) : cfg.give 162 d = false := by rfl
@[go_sem] theorem give_163 (d : Nat) : cfg.give 163 d = false := by rfl
@[go_sem] theorem give_164 (d : Nat) : cfg.give 164 d = false := by rfl
@[go_sem] theorem give_165 (d : Nat) : cfg.give 165 d = false := by rfl
@[go_sem] theorem give_166 (d : Nat) : cfg.give 166 d = false := by rfl
@[go_sem] theorem give_167 (d : Nat) : cfg.give 167 d = false := by rfl
@[go_sem] theorem mut_0 : cfg.mutF 0 = false := by rfl
@[go_sem] theorem mut_1 : cfg.mutF 1 = false := by rfl
@[go_sem] theorem mut_2 : cfg.mutF 2 = false := by rfl
@[go_sem] theorem mut_3 : cfg.mutF 3 = false := by rfl
@[go_sem] theorem mut_4 : cfg.mutF 4 = false := by rfl
@[go_sem] theorem mut_5 : cfg.mutF 5 = false := by rfl
@[go_sem] theorem mut_6 : cfg.mutF 6 = false := by rfl
@[go_sem] theorem mut_7 : cfg.mutF 7 = false := by rfl
@[go_sem] theorem mut_8 : cfg.mutF 8 = false := by rfl
@[go_sem] theorem mut_9 : cfg.mutF 9 = false := by rfl
@[go_sem] theorem mut_10 : cfg.mutF 10 = false := by rfl
@[go_sem] theorem mut_11 : cfg.mutF 11 = false := by rfl
@[go_sem] theorem mut_12 : cfg.mutF 12 = false := by rfl
@[go_sem] theorem mut_13 : cfg.mutF 13 = false := by rfl
@[go_sem] theorem mut_14 : cfg.mutF 14 = false := by rfl
@[go_sem] theorem mut_15 : cfg.mutF 15 = false := by rfl
@[go_sem] theorem mut_16 : cfg.mutF 16 = false := by rfl
@[go_sem] theorem mut_17 : cfg.mutF 17 = false := by rfl
@[go_sem] theorem mut_18 : cfg.mutF 18 = false := by rfl
@[go_sem] theorem mut_19 : cfg.mutF 19 = false := by rfl
@[go_sem] theorem mut_20 : cfg.mutF 20 = true := by rfl
@[go_sem] theorem mut_21 : cfg.mutF 21 = true := by rfl
@[go_sem] theorem mut_22 : cfg.mutF 22 = false := by rfl
@[go_sem] theorem mut_23 : cfg.mutF 23 = false := by rfl
@[go_sem] theorem mut_24 : cfg.mutF 24 = false := by rfl
@[go_sem] theorem mut_25 : cfg.mutF 25 = false := by rfl
@[go_sem] theorem mut_26 : cfg.mutF 26 = false := by rfl
@[go_sem] theorem mut_27 : cfg.mutF 27 = false := by rfl
@[go_sem] theorem mut_28 : cfg.mutF 28 = false := by rfl
@[go_sem] theorem mut_29 : cfg.mutF 29 = false := by rfl
@[go_sem] theorem mut_30 : cfg.mutF 30 = false := by rfl
@[go_sem] theorem mut_31 : cfg.mutF 31 = false := by rfl
@[go_sem] theorem mut_32 : cfg.mutF 32 = false := by rfl
@[go_sem] theorem mut_33 : cfg.mutF 33 = false := by rfl
@[go_sem] theorem mut_34 : cfg.mutF 34 = false := by rfl
@[go_sem] theorem mut_35 : cfg.mutF 35 = false := by rfl
@[go_sem] theorem mut_36 : cfg.mutF 36 = false := by rfl
@[go_sem] theorem mut_37 : cfg.mutF 37 = false := by rfl
@[go_sem] theorem mut_38 : cfg.mutF 38 = false := by rfl
@[go_sem] theorem mut_39 : cfg.mutF 39 = false := by rfl
@[go_sem] theorem mut_40 : cfg.mutF 40 = false := by rfl
@[go_sem] theorem mut_41 : cfg.mutF 41 = false := by rfl
@[go_sem] theorem mut_42 : cfg.mutF 42 = false := by rfl
@[go_sem] theorem mut_43 : cfg.mutF 43 = false := by rfl
@[go_sem] theorem mut_44 : cfg.mutF 44 = false := by rfl
@[go_sem] theorem mut_45 : cfg.mutF 45 = false := by rfl
@[go_sem] theorem mut_46 : cfg.mutF 46 = false := by rfl
@[go_sem] theorem mut_47 : cfg.mutF 47 = false := by rfl
@[go_sem] theorem mut_48 : cfg.mutF 48 = false := by rfl
@[go_sem] theorem mut_49 : cfg.mutF 49 = false := by rfl
@[go_sem] theorem mut_50 : cfg.mutF 50 = false := by rfl
@[go_sem] theorem mut_51 : cfg.mutF 51 = false := by rfl
@[go_sem] theorem mut_52 : cfg.mutF 52 = false := by rfl
@[go_sem] theorem mut_53 : cfg.mutF 53 = false := by rfl
@[go_sem] theorem mut_54 : cfg.mutF 54 = false := by rfl
@[go_sem] theorem mut_55 : cfg.mutF 55 = false := by rfl
@[go_sem] theorem mut_56 : cfg.mutF 56 = false := by rfl
@[go_sem] theorem mut_57 : cfg.mutF 57 = false := by rfl
@[go_sem] theorem mut_58 : cfg.mutF 58 = false := by rfl
@[go_sem] theorem mut_59 : cfg.mutF 59 = false := by rfl
@[go_sem] theorem mut_60 : cfg.mutF 60 = false := by rfl
@[go_sem] theorem mut_61 : cfg.mutF 61 = false := by rfl
@[go_sem] theorem mut_62 : cfg.mutF 62 = false := by rfl
@[go_sem] theorem mut_63 : cfg.mutF 63 = false := by rfl
@[go_sem] theorem mut_64 : cfg.mutF 64 = false := by rfl
@[go_sem] theorem mut_65 : cfg.mutF 65 = true := by rfl
@[go_sem] theorem mut_66 : cfg.mutF 66 = false := by rfl
@[go_sem] theorem mut_67 : cfg.mutF 67 = false := by rfl
@[go_sem] theorem mut_68 : cfg.mutF 68 = false := by rfl
@[go_sem] theorem mut_69 : cfg.mutF 69 = false := by rfl
@[go_sem] theorem mut_70 : cfg.mutF 70 = false := by rfl
@[go_sem] theorem mut_71 : cfg.mutF 71 = false := by rfl
@[go_sem] theorem mut_72 : cfg.mutF 72 = false := by rfl
@[go_sem] theorem mut_73 : cfg.mutF 73 = false := by rfl
@[go_sem] theorem mut_74 : cfg.mutF 74 = false := by rfl
@[go_sem] theorem mut_75 : cfg.mutF 75 = false := by rfl
@[go_sem] theorem mut_76 : cfg.mutF 76 = false := by rfl
@[go_sem] theorem mut_77 : cfg.mutF 77 = false := by rfl
@[go_sem] theorem mut_78 : cfg.mutF 78 = false := by rfl
@[go_sem] theorem mut_79 : cfg.mutF 79 = false := by rfl
@[go_sem] theorem mut_80 : cfg.mutF 80 = false := by rfl
@[go_sem] theorem mut_81 : cfg.mutF 81 = false := by rfl
@[go_sem] theorem mut_82 : cfg.mutF 82 = false := by rfl
@[go_sem] theorem mut_83 : cfg.mutF 83 = false := by rfl
@[go_sem] theorem mut_84 : cfg.mutF 84 = false := by rfl
@[go_sem] theorem mut_85 : cfg.mutF 85 = true := by rfl
@[go_sem] theorem mut_86 : cfg.mutF 86 = false := by rfl
@[go_sem] theorem mut_87 : cfg.mutF 87 = false := by rfl
@[go_sem] theorem mut_88 : cfg.mutF 88 = true := by rfl
@[go_sem] theorem mut_89 : cfg.mutF 89 = true := by rfl
@[go_sem] theorem mut_90 : cfg.mutF 90 = false := by rfl
@[go_sem] theorem mut_91 : cfg.mutF 91 = false := by rfl
@[go_sem] theorem mut_92 : cfg.mutF 92 = false := by rfl
@[go_sem] theorem mut_93 : cfg.mutF 93 = false := by rfl
@[go_sem] theorem mut_94 : cfg.mutF 94 = false := by rfl
@[go_sem] theorem mut_95 : cfg.mutF 95 = false := by rfl
@[go_sem] theorem mut_96 : cfg.mutF 96 = false := by rfl
@[go_sem] theorem mut_97 : cfg.mutF 97 = false := by rfl
@[go_sem] theorem mut_98 : cfg.mutF 98 = false := by rfl
@[go_sem] theorem mut_99 : cfg.mutF 99 = false := by rfl
@[go_sem] theorem mut_100 : cfg.mutF 100 = false := by rfl
@[go_sem] theorem mut_101 : cfg.mutF 101 = true := by rfl
@[go_sem] theorem mut_102 : cfg.mutF 102 = false := by rfl
@[go_sem] theorem mut_103 : cfg.mutF 103 = false := by rfl
@[go_sem] theorem mut_104 : cfg.mutF 104 = false := by rfl
@[go_sem] theorem mut_105 : cfg.mutF 105 = true := by rfl
@[go_sem] theorem mut_106 : cfg.mutF 106 = true := by rfl
@[go_sem] theorem mut_107 : cfg.mutF 107 = true := by rfl
@[go_sem] theorem mut_108 : cfg.mutF 108 = false := by rfl
@[go_sem] theorem mut_109 : cfg.mutF 109 = true := by rfl
@[go_sem] theorem mut_110 : cfg.mutF 110 = false := by rfl
@[go_sem] theorem mut_111 : cfg.mutF 111 = false := by rfl
@[go_sem] theorem mut_112 : cfg.mutF 112 = false := by rfl
@[go_sem] theorem mut_113 : cfg.mutF 113 = false := by rfl
@[go_sem] theorem mut_114 : cfg.mutF 114 = true := by rfl
@[go_sem] theorem mut_115 : cfg.mutF 115 = false := by rfl
@[go_sem] theorem mut_116 : cfg.mutF 116 = false := by rfl
@[go_sem] theorem mut_117 : cfg.mutF 117 = false := by rfl
@[go_sem] theorem mut_118 : cfg.mutF 118 = false := by rfl
@[go_sem] theorem mut_119 : cfg.mutF 119 = false := by rfl
@[go_sem] theorem mut_120 : cfg.mutF 120 = false := by rfl
@[go_sem] theorem mut_121 : cfg.mutF 121 = false := by rfl
@[go_sem] theorem mut_122 : cfg.mutF 122 = false := by rfl
@[go_sem] theorem mut_123 : cfg.mutF 123 = false := by rfl
@[go_sem] theorem mut_124 : cfg.mutF 124 = false := by rfl
@[go_sem] theorem mut_125 : cfg.mutF 125 = false := by rfl
@[go_sem] theorem mut_126 : cfg.mutF 126 = false := by rfl
@[go_sem] theorem mut_127 : cfg.mutF 127 = false := by rfl
@[go_sem] theorem mut_128 : cfg.mutF 128 = true := by rfl
@[go_sem] theorem mut_129 : cfg.mutF 129 = false := by rfl
@[go_sem] theorem mut_130 : cfg.mutF 130 = false := by rfl
@[go_sem] theorem mut_131 : cfg.mutF 131 = false := by rfl
@[go_sem] theorem mut_132 : cfg.mutF 132 = false := by rfl
@[go_sem] theorem mut_133 : cfg.mutF 133 = false := by rfl
@[go_sem] theorem mut_134 : cfg.mutF 134 = false := by rfl
@[go_sem] theorem mut_135 : cfg.mutF 135 = false := by rfl
@[go_sem] theorem mut_136 : cfg.mutF 136 = false := by rfl
@[go_sem] theorem mut_137 : cfg.mutF 137 = false := by rfl
@[go_sem] theorem mut_138 : cfg.mutF 138 = false := by rfl
@[go_sem] theorem mut_139 : cfg.mutF 139 = false := by rfl
@[go_sem] theorem mut_140 : cfg.mutF 140 = false := by rfl
@[go_sem] theorem mut_141 : cfg.mutF 141 = false := by rfl
@[go_sem] theorem mut_142 : cfg.mutF 142 = false := by rfl
@[go_sem] theorem mut_143 : cfg.mutF 143 = false := by rfl
@[go_sem] theorem mut_144 : cfg.mutF 144 = false := by rfl
@[go_sem] theorem mut_145 : cfg.mutF 145 = false := by rfl
@[go_sem] theorem mut_146 : cfg.mutF 146 = false := by rfl
@[go_sem] theorem mut_147 : cfg.mutF 147 = true := by rfl
@[go_sem] theorem mut_148 : cfg.mutF 148 = false := by rfl
@[go_sem] theorem mut_149 : cfg.mutF 149 = false := by rfl
@[go_sem] theorem mut_150 : cfg.mutF 150 = false := by rfl
@[go_sem] theorem mut_151 : cfg.mutF 151 = false := by rfl
@[go_sem] theorem mut_152 : cfg.mutF 152 = false := by rfl
@[go_sem] theorem mut_153 : cfg.mutF 153 = false := by rfl
@[go_sem] theorem mut_154 : cfg.mutF 154 = false := by rfl
@[go_sem] theorem mut_155 : cfg.mutF 155 = false := by rfl
@[go_sem] theorem mut_156 : cfg.mutF 156 = false := by rfl
@[go_sem] theorem mut_157 : cfg.mutF 157 = false := by rfl
@[go_sem] theorem mut_158 : cfg.mutF 158 = false := by rfl
@[go_sem] theorem mut_159 : cfg.mutF 159 = false := by rfl
@[go_sem] theorem mut_160 : cfg.mutF 160 = false := by rfl
@[go_sem] theorem mut_161 : cfg.mutF 161 = false := by rfl
@[go_sem] theorem mut_162 : cfg.mutF 162 = false := by rfl
@[go_sem] theorem mut_163 : cfg.mutF 163 = false := by rfl
@[go_sem] theorem mut_164 : cfg.mutF 164 = false := by rfl
@[go_sem] theorem mut_165 : cfg.mutF 165 = false := by rfl
@[go_sem] theorem mut_166 : cfg.mutF 166 = true := by rfl
@[go_sem] theorem mut_167 : cfg.mutF 167 = false := by rfl
@[go_sem] theorem own_2_0 : cfg.own 2 0 = false := by rfl
@[go_sem] theorem own_3_11 : cfg.own 3 11 = false := by rfl
@[go_sem] theorem own_3_15 : cfg.own 3 15 = false := by rfl
@[go_sem] theorem own_3_17 : cfg.own 3 17 = false := by rfl
@[go_sem] theorem own_3_19 : cfg.own 3 19 = true := by rfl
@[go_sem] theorem own_3_22 : cfg.own 3 22 = true := by rfl
@[go_sem] theorem own_3_28 : cfg.own 3 28 = false := by rfl
@[go_sem] theorem own_3_29 : cfg.own 3 29 = false := by rfl
@[go_sem] theorem own_4_20 : cfg.own 4 20 = false := by rfl
@[go_sem] theorem own_4_25 : cfg.own 4 25 = false := by rfl
@[go_sem] theorem own_4_28 : cfg.own 4 28 = false := by rfl
@[go_sem] theorem own_4_32 : cfg.own 4 32 = true := by rfl
@[go_sem] theorem own_4_37 : cfg.own 4 37 = true := by rfl
@[go_sem] theorem own_4_42 : cfg.own 4 42 = false := by rfl
@[go_sem] theorem own_4_51 : cfg.own 4 51 = false := by rfl
@[go_sem] theorem own_4_52 : cfg.own 4 52 = false := by rfl
@[go_sem] theorem own_4_56 : cfg.own 4 56 = false := by rfl
@[go_sem] theorem own_4_62 : cfg.own 4 62 = false := by rfl
@[go_sem] theorem own_4_72 : cfg.own 4 72 = false := by rfl
@[go_sem] theorem own_4_75 : cfg.own 4 75 = false := by rfl
@[go_sem] theorem own_4_83 : cfg.own 4 83 = false := by rfl
@[go_sem] theorem own_4_86 : cfg.own 4 86 = true := by rfl
@[go_sem] theorem own_4_91 : cfg.own 4 91 = false := by rfl
@[go_sem] theorem own_4_100 : cfg.own 4 100 = false := by rfl
@[go_sem] theorem own_5_18 : cfg.own 5 18 = false := by rfl
@[go_sem] theorem own_5_23 : cfg.own 5 23 = false := by rfl
@[go_sem] theorem own_5_25 : cfg.own 5 25 = false := by rfl
@[go_sem] theorem own_5_26 : cfg.own 5 26 = false := by rfl
@[go_sem] theorem own_5_30 : cfg.own 5 30 = true := by rfl
@[go_sem] theorem own_5_34 : cfg.own 5 34 = false := by rfl
@[go_sem] theorem own_5_35 : cfg.own 5 35 = true := by rfl
@[go_sem] theorem own_5_40 : cfg.own 5 40 = false := by rfl
@[go_sem] theorem own_5_49 : cfg.own 5 49 = false := by rfl
@[go_sem] theorem own_5_50 : cfg.own 5 50 = false := by rfl
@[go_sem] theorem own_5_54 : cfg.own 5 54 = false := by rfl
@[go_sem] theorem own_5_60 : cfg.own 5 60 = false := by rfl
@[go_sem] theorem own_5_70 : cfg.own 5 70 = false := by rfl
@[go_sem] theorem own_5_73 : cfg.own 5 73 = false := by rfl
@[go_sem] theorem own_5_81 : cfg.own 5 81 = false := by rfl
@[go_sem] theorem own_5_83 : cfg.own 5 83 = false := by rfl
@[go_sem] theorem own_5_84 : cfg.own 5 84 = true := by rfl
@[go_sem] theorem own_5_89 : cfg.own 5 89 = false := by rfl
@[go_sem] theorem own_5_98 : cfg.own 5 98 = false := by rfl
@[go_sem] theorem own_6_17 : cfg.own 6 17 = false := by rfl
@[go_sem] theorem own_6_20 : cfg.own 6 20 = false := by rfl
@[go_sem] theorem own_6_25 : cfg.own 6 25 = false := by rfl
@[go_sem] theorem own_6_30 : cfg.own 6 30 = false := by rfl
@[go_sem] theorem own_6_43 : cfg.own 6 43 = false := by rfl
@[go_sem] theorem own_6_62 : cfg.own 6 62 = false := by rfl
@[go_sem] theorem own_7_15 : cfg.own 7 15 = false := by rfl
@[go_sem] theorem own_7_17 : cfg.own 7 17 = false := by rfl
@[go_sem] theorem own_7_20 : cfg.own 7 20 = false := by rfl
@[go_sem] theorem own_7_21 : cfg.own 7 21 = false := by rfl
@[go_sem] theorem own_7_25 : cfg.own 7 25 = false := by rfl
@[go_sem] theorem own_7_30 : cfg.own 7 30 = false := by rfl
@[go_sem] theorem own_7_31 : cfg.own 7 31 = false := by rfl
@[go_sem] theorem own_7_39 : cfg.own 7 39 = false := by rfl
@[go_sem] theorem own_7_96 : cfg.own 7 96 = false := by rfl
@[go_sem] theorem own_7_102 : cfg.own 7 102 = false := by rfl
@[go_sem] theorem own_8_19 : cfg.own 8 19 = false := by rfl
@[go_sem] theorem own_8_25 : cfg.own 8 25 = false := by rfl
@[go_sem] theorem own_8_31 : cfg.own 8 31 = false := by rfl
@[go_sem] theorem own_8_36 : cfg.own 8 36 = false := by rfl
@[go_sem] theorem own_8_49 : cfg.own 8 49 = false := by rfl
@[go_sem] theorem own_8_67 : cfg.own 8 67 = false := by rfl
@[go_sem] theorem own_8_99 : cfg.own 8 99 = false := by rfl
@[go_sem] theorem own_8_105 : cfg.own 8 105 = false := by rfl
@[go_sem] theorem own_8_110 : cfg.own 8 110 = false := by rfl
@[go_sem] theorem own_9_18 : cfg.own 9 18 = false := by rfl
@[go_sem] theorem own_9_20 : cfg.own 9 20 = false := by rfl
@[go_sem] theorem own_9_23 : cfg.own 9 23 = false := by rfl
@[go_sem] theorem own_9_24 : cfg.own 9 24 = false := by rfl
@[go_sem] theorem own_9_28 : cfg.own 9 28 = false := by rfl
@[go_sem] theorem own_9_33 : cfg.own 9 33 = false := by rfl
@[go_sem] theorem own_9_34 : cfg.own 9 34 = false := by rfl
@[go_sem] theorem own_9_61 : cfg.own 9 61 = false := by rfl
@[go_sem] theorem own_9_77 : cfg.own 9 77 = false := by rfl
@[go_sem] theorem own_9_91 : cfg.own 9 91 = false := by rfl
@[go_sem] theorem own_9_99 : cfg.own 9 99 = false := by rfl
@[go_sem] theorem own_10_17 : cfg.own 10 17 = false := by rfl
@[go_sem] theorem own_10_24 : cfg.own 10 24 = false := by rfl
@[go_sem] theorem own_10_29 : cfg.own 10 29 = false := by rfl
@[go_sem] theorem own_10_34 : cfg.own 10 34 = false := by rfl
@[go_sem] theorem own_10_41 : cfg.own 10 41 = false := by rfl
@[go_sem] theorem own_10_46 : cfg.own 10 46 = false := by rfl
@[go_sem] theorem own_10_68 : cfg.own 10 68 = false := by rfl
@[go_sem] theorem own_10_74 : cfg.own 10 74 = false := by rfl
@[go_sem] theorem own_10_79 : cfg.own 10 79 = false := by rfl
@[go_sem] theorem own_11_15 : cfg.own 11 15 = false := by rfl
@[go_sem] theorem own_11_17 : cfg.own 11 17 = false := by rfl
@[go_sem] theorem own_11_20 : cfg.own 11 20 = false := by rfl
@[go_sem] theorem own_11_21 : cfg.own 11 21 = false := by rfl
@[go_sem] theorem own_11_25 : cfg.own 11 25 = false := by rfl
@[go_sem] theorem own_11_30 : cfg.own 11 30 = false := by rfl
@[go_sem] theorem own_11_31 : cfg.own 11 31 = false := by rfl
@[go_sem] theorem own_11_33 : cfg.own 11 33 = false := by rfl
@[go_sem] theorem own_11_54 : cfg.own 11 54 = false := by rfl
@[go_sem] theorem own_11_59 : cfg.own 11 59 = false := by rfl
@[go_sem] theorem own_11_64 : cfg.own 11 64 = false := by rfl
@[go_sem] theorem own_12_8 : cfg.own 12 8 = false := by rfl
@[go_sem] theorem own_13_7 : cfg.own 13 7 = false := by rfl
@[go_sem] theorem own_13_11 : cfg.own 13 11 = false := by rfl
@[go_sem] theorem own_14_9 : cfg.own 14 9 = true := by rfl
@[go_sem] theorem own_15_7 : cfg.own 15 7 = false := by rfl
@[go_sem] theorem own_15_11 : cfg.own 15 11 = false := by rfl
@[go_sem] theorem own_16_14 : cfg.own 16 14 = false := by rfl
@[go_sem] theorem own_17_11 : cfg.own 17 11 = false := by rfl
@[go_sem] theorem own_17_17 : cfg.own 17 17 = false := by rfl
@[go_sem] theorem own_18_15 : cfg.own 18 15 = false := by rfl
@[go_sem] theorem own_18_21 : cfg.own 18 21 = false := by rfl
@[go_sem] theorem own_18_27 : cfg.own 18 27 = false := by rfl
@[go_sem] theorem own_20_8 : cfg.own 20 8 = false := by rfl
@[go_sem] theorem own_23_11 : cfg.own 23 11 = false := by rfl
@[go_sem] theorem own_23_22 : cfg.own 23 22 = false := by rfl
@[go_sem] theorem own_23_31 : cfg.own 23 31 = false := by rfl
@[go_sem] theorem own_25_11 : cfg.own 25 11 = false := by rfl
@[go_sem] theorem own_25_21 : cfg.own 25 21 = true := by rfl
@[go_sem] theorem own_26_4 : cfg.own 26 4 = false := by rfl
@[go_sem] theorem own_27_5 : cfg.own 27 5 = false := by rfl
@[go_sem] theorem own_27_9 : cfg.own 27 9 = false := by rfl
@[go_sem] theorem own_28_5 : cfg.own 28 5 = false := by rfl
@[go_sem] theorem own_28_9 : cfg.own 28 9 = false := by rfl
@[go_sem] theorem own_29_9 : cfg.own 29 9 = false := by rfl
@[go_sem] theorem own_29_15 : cfg.own 29 15 = false := by rfl
@[go_sem] theorem own_29_22 : cfg.own 29 22 = false := by rfl
@[go_sem] theorem own_30_7 : cfg.own 30 7 = false := by rfl
@[go_sem] theorem own_30_11 : cfg.own 30 11 = false := by rfl
@[go_sem] theorem own_31_4 : cfg.own 31 4 = false := by rfl
@[go_sem] theorem own_32_4 : cfg.own 32 4 = false := by rfl
@[go_sem] theorem own_32_9 : cfg.own 32 9 = false := by rfl
@[go_sem] theorem own_34_12 : cfg.own 34 12 = false := by rfl
@[go_sem] theorem own_34_18 : cfg.own 34 18 = false := by rfl
@[go_sem] theorem own_35_55 : cfg.own 35 55 = false := by rfl
@[go_sem] theorem own_37_9 : cfg.own 37 9 = false := by rfl
@[go_sem] theorem own_38_9 : cfg.own 38 9 = false := by rfl
@[go_sem] theorem own_38_12 : cfg.own 38 12 = false := by rfl
@[go_sem] theorem own_38_19 : cfg.own 38 19 = false := by rfl
@[go_sem] theorem own_38_22 : cfg.own 38 22 = false := by rfl
@[go_sem] theorem own_38_23 : cfg.own 38 23 = false := by rfl
@[go_sem] theorem own_39_10 : cfg.own 39 10 = false := by rfl
@[go_sem] theorem own_39_14 : cfg.own 39 14 = false := by rfl
@[go_sem] theorem own_39_26 : cfg.own 39 26 = false := by rfl
@[go_sem] theorem own_39_34 : cfg.own 39 34 = false := by rfl
@[go_sem] theorem own_40_8 : cfg.own 40 8 = false := by rfl
@[go_sem] theorem own_40_13 : cfg.own 40 13 = false := by rfl
@[go_sem] theorem own_41_9 : cfg.own 41 9 = false := by rfl
@[go_sem] theorem own_41_13 : cfg.own 41 13 = false := by rfl
@[go_sem] theorem own_41_19 : cfg.own 41 19 = false := by rfl
@[go_sem] theorem own_42_4 : cfg.own 42 4 = true := by rfl
@[go_sem] theorem own_42_5 : cfg.own 42 5 = false := by rfl
@[go_sem] theorem own_43_8 : cfg.own 43 8 = false := by rfl
@[go_sem] theorem own_43_12 : cfg.own 43 12 = false := by rfl
@[go_sem] theorem own_43_27 : cfg.own 43 27 = false := by rfl
@[go_sem] theorem own_44_25 : cfg.own 44 25 = false := by rfl
@[go_sem] theorem own_45_4 : cfg.own 45 4 = false := by rfl
@[go_sem] theorem own_45_8 : cfg.own 45 8 = false := by rfl
@[go_sem] theorem own_46_10 : cfg.own 46 10 = true := by rfl
@[go_sem] theorem own_46_12 : cfg.own 46 12 = false := by rfl
@[go_sem] theorem own_46_26 : cfg.own 46 26 = false := by rfl
@[go_sem] theorem own_46_35 : cfg.own 46 35 = false := by rfl
@[go_sem] theorem own_46_39 : cfg.own 46 39 = false := by rfl
@[go_sem] theorem own_46_43 : cfg.own 46 43 = false := by rfl
@[go_sem] theorem own_46_46 : cfg.own 46 46 = false := by rfl
@[go_sem] theorem own_47_10 : cfg.own 47 10 = false := by rfl
@[go_sem] theorem own_47_15 : cfg.own 47 15 = false := by rfl
@[go_sem] theorem own_47_19 : cfg.own 47 19 = false := by rfl
@[go_sem] theorem own_47_24 : cfg.own 47 24 = false := by rfl
@[go_sem] theorem own_47_31 : cfg.own 47 31 = false := by rfl
@[go_sem] theorem own_48_10 : cfg.own 48 10 = false := by rfl
@[go_sem] theorem own_48_15 : cfg.own 48 15 = false := by rfl
@[go_sem] theorem own_48_19 : cfg.own 48 19 = false := by rfl
@[go_sem] theorem own_48_24 : cfg.own 48 24 = false := by rfl
@[go_sem] theorem own_48_31 : cfg.own 48 31 = false := by rfl
@[go_sem] theorem own_49_6 : cfg.own 49 6 = false := by rfl
@[go_sem] theorem own_49_10 : cfg.own 49 10 = false := by rfl
@[go_sem] theorem own_50_11 : cfg.own 50 11 = false := by rfl
@[go_sem] theorem own_50_16 : cfg.own 50 16 = false := by rfl
@[go_sem] theorem own_51_4 : cfg.own 51 4 = true := by rfl
@[go_sem] theorem own_51_5 : cfg.own 51 5 = false := by rfl
@[go_sem] theorem own_52_11 : cfg.own 52 11 = false := by rfl
@[go_sem] theorem own_52_19 : cfg.own 52 19 = false := by rfl
@[go_sem] theorem own_52_27 : cfg.own 52 27 = false := by rfl
@[go_sem] theorem own_53_11 : cfg.own 53 11 = false := by rfl
@[go_sem] theorem own_53_15 : cfg.own 53 15 = false := by rfl
@[go_sem] theorem own_53_28 : cfg.own 53 28 = false := by rfl
@[go_sem] theorem own_53_40 : cfg.own 53 40 = false := by rfl
@[go_sem] theorem own_55_6 : cfg.own 55 6 = false := by rfl
@[go_sem] theorem own_56_10 : cfg.own 56 10 = false := by rfl
@[go_sem] theorem own_56_13 : cfg.own 56 13 = false := by rfl
@[go_sem] theorem own_56_28 : cfg.own 56 28 = false := by rfl
@[go_sem] theorem own_57_20 : cfg.own 57 20 = false := by rfl
@[go_sem] theorem own_58_6 : cfg.own 58 6 = false := by rfl
@[go_sem] theorem own_59_9 : cfg.own 59 9 = false := by rfl
@[go_sem] theorem own_59_10 : cfg.own 59 10 = false := by rfl
@[go_sem] theorem own_59_13 : cfg.own 59 13 = false := by rfl
@[go_sem] theorem own_59_16 : cfg.own 59 16 = false := by rfl
@[go_sem] theorem own_60_25 : cfg.own 60 25 = false := by rfl
@[go_sem] theorem own_61_9 : cfg.own 61 9 = false := by rfl
@[go_sem] theorem own_61_13 : cfg.own 61 13 = false := by rfl
@[go_sem] theorem own_61_19 : cfg.own 61 19 = false := by rfl
@[go_sem] theorem own_62_14 : cfg.own 62 14 = false := by rfl
@[go_sem] theorem own_62_28 : cfg.own 62 28 = false := by rfl
@[go_sem] theorem own_63_13 : cfg.own 63 13 = true := by rfl
@[go_sem] theorem own_63_29 : cfg.own 63 29 = false := by rfl
@[go_sem] theorem own_64_37 : cfg.own 64 37 = false := by rfl
@[go_sem] theorem own_66_7 : cfg.own 66 7 = false := by rfl
@[go_sem] theorem own_66_13 : cfg.own 66 13 = false := by rfl
@[go_sem] theorem own_66_22 : cfg.own 66 22 = false := by rfl
@[go_sem] theorem own_67_9 : cfg.own 67 9 = false := by rfl
@[go_sem] theorem own_68_8 : cfg.own 68 8 = false := by rfl
@[go_sem] theorem own_68_13 : cfg.own 68 13 = false := by rfl
@[go_sem] theorem own_69_5 : cfg.own 69 5 = true := by rfl
@[go_sem] theorem own_69_10 : cfg.own 69 10 = false := by rfl
@[go_sem] theorem own_69_11 : cfg.own 69 11 = false := by rfl
@[go_sem] theorem own_69_12 : cfg.own 69 12 = false := by rfl
@[go_sem] theorem own_69_13 : cfg.own 69 13 = false := by rfl
@[go_sem] theorem own_70_30 : cfg.own 70 30 = false := by rfl
@[go_sem] theorem own_71_59 : cfg.own 71 59 = false := by rfl
@[go_sem] theorem own_72_33 : cfg.own 72 33 = false := by rfl
@[go_sem] theorem own_73_15 : cfg.own 73 15 = false := by rfl
@[go_sem] theorem own_74_9 : cfg.own 74 9 = false := by rfl
@[go_sem] theorem own_74_14 : cfg.own 74 14 = false := by rfl
@[go_sem] theorem own_74_16 : cfg.own 74 16 = false := by rfl
@[go_sem] theorem own_75_49 : cfg.own 75 49 = false := by rfl
@[go_sem] theorem own_75_70 : cfg.own 75 70 = false := by rfl
@[go_sem] theorem own_75_73 : cfg.own 75 73 = false := by rfl
@[go_sem] theorem own_76_22 : cfg.own 76 22 = false := by rfl
@[go_sem] theorem own_76_24 : cfg.own 76 24 = false := by rfl
@[go_sem] theorem own_76_25 : cfg.own 76 25 = false := by rfl
@[go_sem] theorem own_79_6 : cfg.own 79 6 = false := by rfl
@[go_sem] theorem own_79_11 : cfg.own 79 11 = false := by rfl
@[go_sem] theorem own_80_10 : cfg.own 80 10 = false := by rfl
@[go_sem] theorem own_83_7 : cfg.own 83 7 = false := by rfl
@[go_sem] theorem own_84_9 : cfg.own 84 9 = false := by rfl
@[go_sem] theorem own_85_10 : cfg.own 85 10 = false := by rfl
@[go_sem] theorem own_85_19 : cfg.own 85 19 = false := by rfl
@[go_sem] theorem own_85_25 : cfg.own 85 25 = false := by rfl
@[go_sem] theorem own_85_27 : cfg.own 85 27 = false := by rfl
@[go_sem] theorem own_85_28 : cfg.own 85 28 = false := by rfl
@[go_sem] theorem own_85_32 : cfg.own 85 32 = false := by rfl
@[go_sem] theorem own_85_40 : cfg.own 85 40 = false := by rfl
@[go_sem] theorem own_85_44 : cfg.own 85 44 = false := by rfl
@[go_sem] theorem own_85_53 : cfg.own 85 53 = false := by rfl
@[go_sem] theorem own_85_54 : cfg.own 85 54 = false := by rfl
@[go_sem] theorem own_85_61 : cfg.own 85 61 = false := by rfl
@[go_sem] theorem own_85_62 : cfg.own 85 62 = false := by rfl
@[go_sem] theorem own_85_66 : cfg.own 85 66 = false := by rfl
@[go_sem] theorem own_89_9 : cfg.own 89 9 = false := by rfl
@[go_sem] theorem own_90_54 : cfg.own 90 54 = false := by rfl
@[go_sem] theorem own_91_8 : cfg.own 91 8 = false := by rfl
@[go_sem] theorem own_93_22 : cfg.own 93 22 = false := by rfl
@[go_sem] theorem own_93_23 : cfg.own 93 23 = false := by rfl
@[go_sem] theorem own_96_7 : cfg.own 96 7 = false := by rfl
@[go_sem] theorem own_99_36 : cfg.own 99 36 = false := by rfl
@[go_sem] theorem own_100_18 : cfg.own 100 18 = false := by rfl
@[go_sem] theorem own_101_9 : cfg.own 101 9 = false := by rfl
@[go_sem] theorem own_101_10 : cfg.own 101 10 = false := by rfl
@[go_sem] theorem own_104_7 : cfg.own 104 7 = false := by rfl
@[go_sem] theorem own_105_8 : cfg.own 105 8 = true := by rfl
@[go_sem] theorem own_105_10 : cfg.own 105 10 = false := by rfl
@[go_sem] theorem own_105_23 : cfg.own 105 23 = false := by rfl
@[go_sem] theorem own_105_25 : cfg.own 105 25 = false := by rfl
@[go_sem] theorem own_105_33 : cfg.own 105 33 = false := by rfl
@[go_sem] theorem own_105_40 : cfg.own 105 40 = false := by rfl
@[go_sem] theorem own_106_10 : cfg.own 106 10 = false := by rfl
@[go_sem] theorem own_106_19 : cfg.own 106 19 = false := by rfl
@[go_sem] theorem own_106_25 : cfg.own 106 25 = false := by rfl
@[go_sem] theorem own_106_27 : cfg.own 106 27 = false := by rfl
@[go_sem] theorem own_106_28 : cfg.own 106 28 = false := by rfl
@[go_sem] theorem own_106_32 : cfg.own 106 32 = false := by rfl
@[go_sem] theorem own_106_40 : cfg.own 106 40 = false := by rfl
@[go_sem] theorem own_106_44 : cfg.own 106 44 = false := by rfl
@[go_sem] theorem own_106_53 : cfg.own 106 53 = false := by rfl
@[go_sem] theorem own_106_54 : cfg.own 106 54 = false := by rfl
@[go_sem] theorem own_106_61 : cfg.own 106 61 = false := by rfl
@[go_sem] theorem own_106_62 : cfg.own 106 62 = false := by rfl
@[go_sem] theorem own_107_38 : cfg.own 107 38 = false := by rfl
@[go_sem] theorem own_107_57 : cfg.own 107 57 = false := by rfl
@[go_sem] theorem own_109_33 : cfg.own 109 33 = false := by rfl
@[go_sem] theorem own_109_64 : cfg.own 109 64 = false := by rfl
@[go_sem] theorem own_111_8 : cfg.own 111 8 = false := by rfl
@[go_sem] theorem own_111_10 : cfg.own 111 10 = false := by rfl
@[go_sem] theorem own_115_9 : cfg.own 115 9 = true := by rfl
@[go_sem] theorem own_115_11 : cfg.own 115 11 = false := by rfl
@[go_sem] theorem own_117_23 : cfg.own 117 23 = false := by rfl
@[go_sem] theorem own_119_18 : cfg.own 119 18 = false := by rfl
@[go_sem] theorem own_119_21 : cfg.own 119 21 = false := by rfl
@[go_sem] theorem own_119_36 : cfg.own 119 36 = false := by rfl
@[go_sem] theorem own_119_39 : cfg.own 119 39 = false := by rfl
@[go_sem] theorem own_120_7 : cfg.own 120 7 = false := by rfl
@[go_sem] theorem own_121_16 : cfg.own 121 16 = false := by rfl
@[go_sem] theorem own_122_15 : cfg.own 122 15 = false := by rfl
@[go_sem] theorem own_122_25 : cfg.own 122 25 = false := by rfl
@[go_sem] theorem own_123_27 : cfg.own 123 27 = false := by rfl
@[go_sem] theorem own_123_33 : cfg.own 123 33 = false := by rfl
@[go_sem] theorem own_123_39 : cfg.own 123 39 = false := by rfl
@[go_sem] theorem own_123_46 : cfg.own 123 46 = false := by rfl
@[go_sem] theorem own_123_54 : cfg.own 123 54 = false := by rfl
@[go_sem] theorem own_123_72 : cfg.own 123 72 = false := by rfl
@[go_sem] theorem own_123_85 : cfg.own 123 85 = false := by rfl
@[go_sem] theorem own_123_92 : cfg.own 123 92 = false := by rfl
@[go_sem] theorem own_123_99 : cfg.own 123 99 = false := by rfl
@[go_sem] theorem own_123_121 : cfg.own 123 121 = false := by rfl
@[go_sem] theorem own_123_132 : cfg.own 123 132 = false := by rfl
@[go_sem] theorem own_124_5 : cfg.own 124 5 = false := by rfl
@[go_sem] theorem own_124_7 : cfg.own 124 7 = false := by rfl
@[go_sem] theorem own_128_10 : cfg.own 128 10 = false := by rfl
@[go_sem] theorem own_128_28 : cfg.own 128 28 = false := by rfl
@[go_sem] theorem own_133_29 : cfg.own 133 29 = false := by rfl
@[go_sem] theorem own_134_26 : cfg.own 134 26 = false := by rfl
@[go_sem] theorem own_134_55 : cfg.own 134 55 = false := by rfl
@[go_sem] theorem own_135_19 : cfg.own 135 19 = false := by rfl
@[go_sem] theorem own_135_36 : cfg.own 135 36 = false := by rfl
@[go_sem] theorem own_136_37 : cfg.own 136 37 = false := by rfl
@[go_sem] theorem own_136_40 : cfg.own 136 40 = false := by rfl
@[go_sem] theorem own_136_43 : cfg.own 136 43 = false := by rfl
@[go_sem] theorem own_136_48 : cfg.own 136 48 = false := by rfl
@[go_sem] theorem own_138_30 : cfg.own 138 30 = false := by rfl
@[go_sem] theorem own_138_77 : cfg.own 138 77 = false := by rfl
@[go_sem] theorem own_138_115 : cfg.own 138 115 = false := by rfl
@[go_sem] theorem own_139_6 : cfg.own 139 6 = false := by rfl
@[go_sem] theorem own_139_9 : cfg.own 139 9 = false := by rfl
@[go_sem] theorem own_140_41 : cfg.own 140 41 = false := by rfl
@[go_sem] theorem own_140_58 : cfg.own 140 58 = false := by rfl
@[go_sem] theorem own_141_42 : cfg.own 141 42 = false := by rfl
@[go_sem] theorem own_141_58 : cfg.own 141 58 = false := by rfl
@[go_sem] theorem own_141_111 : cfg.own 141 111 = false := by rfl
@[go_sem] theorem own_141_127 : cfg.own 141 127 = false := by rfl
@[go_sem] theorem own_144_16 : cfg.own 144 16 = false := by rfl
@[go_sem] theorem own_145_35 : cfg.own 145 35 = false := by rfl
@[go_sem] theorem own_145_51 : cfg.own 145 51 = false := by rfl
@[go_sem] theorem own_146_5 : cfg.own 146 5 = false := by rfl
@[go_sem] theorem own_148_14 : cfg.own 148 14 = false := by rfl
@[go_sem] theorem own_149_16 : cfg.own 149 16 = false := by rfl
@[go_sem] theorem own_149_24 : cfg.own 149 24 = false := by rfl
@[go_sem] theorem own_149_32 : cfg.own 149 32 = false := by rfl
@[go_sem] theorem own_150_18 : cfg.own 150 18 = false := by rfl
end Go.Proofs.Ytgpdpocgkloogaa.X
