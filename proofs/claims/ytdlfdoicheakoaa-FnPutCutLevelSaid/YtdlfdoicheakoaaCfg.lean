/- How this program's calls are taken. -/
import Derived.Test.YtdlfdoicheakoaaKAA
namespace Go.Proofs.Ytdlfdoicheakoaa.X
open Go Go.Proofs
def cfg : Cfg where
  mutF f := mutL.contains f
  own me d := ownL.contains (me, d)
  prim f := if f = 28 then some (insP 1) else if f = 29 then some (cloneP) else if f = 30 then some (insP 1) else if f = 31 then some (cloneP) else if f = 75 then some (insP 2) else if f = 76 then some (cloneP) else if f = 117 then some (mulP) else if f = 118 then some (sortP) else none
  give me d := if me = 56 then d == 14 else false
@[go_sem] theorem give_3 (d : Nat) : cfg.give 3 d = false := by rfl
@[go_sem] theorem give_5 (d : Nat) : cfg.give 5 d = false := by rfl
@[go_sem] theorem give_6 (d : Nat) : cfg.give 6 d = false := by rfl
@[go_sem] theorem give_7 (d : Nat) : cfg.give 7 d = false := by rfl
@[go_sem] theorem give_8 (d : Nat) : cfg.give 8 d = false := by rfl
@[go_sem] theorem give_9 (d : Nat) : cfg.give 9 d = false := by rfl
@[go_sem] theorem give_10 (d : Nat) : cfg.give 10 d = false := by rfl
@[go_sem] theorem give_11 (d : Nat) : cfg.give 11 d = false := by rfl
@[go_sem] theorem give_12 (d : Nat) : cfg.give 12 d = false := by rfl
@[go_sem] theorem give_22 (d : Nat) : cfg.give 22 d = false := by rfl
@[go_sem] theorem give_23 (d : Nat) : cfg.give 23 d = false := by rfl
@[go_sem] theorem give_24 (d : Nat) : cfg.give 24 d = false := by rfl
@[go_sem] theorem give_25 (d : Nat) : cfg.give 25 d = false := by rfl
@[go_sem] theorem give_26 (d : Nat) : cfg.give 26 d = false := by rfl
@[go_sem] theorem give_27 (d : Nat) : cfg.give 27 d = false := by rfl
@[go_sem] theorem give_28 (d : Nat) : cfg.give 28 d = false := by rfl
@[go_sem] theorem give_29 (d : Nat) : cfg.give 29 d = false := by rfl
@[go_sem] theorem give_30 (d : Nat) : cfg.give 30 d = false := by rfl
@[go_sem] theorem give_31 (d : Nat) : cfg.give 31 d = false := by rfl
@[go_sem] theorem give_32 (d : Nat) : cfg.give 32 d = false := by rfl
@[go_sem] theorem give_33 (d : Nat) : cfg.give 33 d = false := by rfl
@[go_sem] theorem give_34 (d : Nat) : cfg.give 34 d = false := by rfl
@[go_sem] theorem give_35 (d : Nat) : cfg.give 35 d = false := by rfl
@[go_sem] theorem give_36 (d : Nat) : cfg.give 36 d = false := by rfl
@[go_sem] theorem give_37 (d : Nat) : cfg.give 37 d = false := by rfl
@[go_sem] theorem give_38 (d : Nat) : cfg.give 38 d = false := by rfl
@[go_sem] theorem give_39 (d : Nat) : cfg.give 39 d = false := by rfl
@[go_sem] theorem give_40 (d : Nat) : cfg.give 40 d = false := by rfl
@[go_sem] theorem give_41 (d : Nat) : cfg.give 41 d = false := by rfl
@[go_sem] theorem give_42 (d : Nat) : cfg.give 42 d = false := by rfl
@[go_sem] theorem give_43 (d : Nat) : cfg.give 43 d = false := by rfl
@[go_sem] theorem give_44 (d : Nat) : cfg.give 44 d = false := by rfl
@[go_sem] theorem give_45 (d : Nat) : cfg.give 45 d = false := by rfl
@[go_sem] theorem give_46 (d : Nat) : cfg.give 46 d = false := by rfl
@[go_sem] theorem give_47 (d : Nat) : cfg.give 47 d = false := by rfl
@[go_sem] theorem give_48 (d : Nat) : cfg.give 48 d = false := by rfl
@[go_sem] theorem give_49 (d : Nat) : cfg.give 49 d = false := by rfl
@[go_sem] theorem give_50 (d : Nat) : cfg.give 50 d = false := by rfl
@[go_sem] theorem give_51 (d : Nat) : cfg.give 51 d = false := by rfl
@[go_sem] theorem give_52 (d : Nat) : cfg.give 52 d = false := by rfl
@[go_sem] theorem give_69 (d : Nat) : cfg.give 69 d = false := by rfl
@[go_sem] theorem give_70 (d : Nat) : cfg.give 70 d = false := by rfl
@[go_sem] theorem give_71 (d : Nat) : cfg.give 71 d = false := by rfl
@[go_sem] theorem give_72 (d : Nat) : cfg.give 72 d = false := by rfl
@[go_sem] theorem give_73 (d : Nat) : cfg.give 73 d = false := by rfl
@[go_sem] theorem give_74 (d : Nat) : cfg.give 74 d = false := by rfl
@[go_sem] theorem give_75 (d : Nat) : cfg.give 75 d = false := by rfl
@[go_sem] theorem give_76 (d : Nat) : cfg.give 76 d = false := by rfl
@[go_sem] theorem give_81 (d : Nat) : cfg.give 81 d = false := by rfl
@[go_sem] theorem give_82 (d : Nat) : cfg.give 82 d = false := by rfl
@[go_sem] theorem give_83 (d : Nat) : cfg.give 83 d = false := by rfl
@[go_sem] theorem give_84 (d : Nat) : cfg.give 84 d = false := by rfl
@[go_sem] theorem give_85 (d : Nat) : cfg.give 85 d = false := by rfl
@[go_sem] theorem give_86 (d : Nat) : cfg.give 86 d = false := by rfl
@[go_sem] theorem give_87 (d : Nat) : cfg.give 87 d = false := by rfl
@[go_sem] theorem give_88 (d : Nat) : cfg.give 88 d = false := by rfl
@[go_sem] theorem give_89 (d : Nat) : cfg.give 89 d = false := by rfl
@[go_sem] theorem give_90 (d : Nat) : cfg.give 90 d = false := by rfl
@[go_sem] theorem give_91 (d : Nat) : cfg.give 91 d = false := by rfl
@[go_sem] theorem give_92 (d : Nat) : cfg.give 92 d = false := by rfl
@[go_sem] theorem give_93 (d : Nat) : cfg.give 93 d = false := by rfl
@[go_sem] theorem give_94 (d : Nat) : cfg.give 94 d = false := by rfl
@[go_sem] theorem give_95 (d : Nat) : cfg.give 95 d = false := by rfl
@[go_sem] theorem give_105 (d : Nat) : cfg.give 105 d = false := by rfl
@[go_sem] theorem give_106 (d : Nat) : cfg.give 106 d = false := by rfl
@[go_sem] theorem give_107 (d : Nat) : cfg.give 107 d = false := by rfl
@[go_sem] theorem give_108 (d : Nat) : cfg.give 108 d = false := by rfl
@[go_sem] theorem give_113 (d : Nat) : cfg.give 113 d = false := by rfl
@[go_sem] theorem give_114 (d : Nat) : cfg.give 114 d = false := by rfl
@[go_sem] theorem give_115 (d : Nat) : cfg.give 115 d = false := by rfl
@[go_sem] theorem give_119 (d : Nat) : cfg.give 119 d = false := by rfl
@[go_sem] theorem give_120 (d : Nat) : cfg.give 120 d = false := by rfl
@[go_sem] theorem give_121 (d : Nat) : cfg.give 121 d = false := by rfl
@[go_sem] theorem give_122 (d : Nat) : cfg.give 122 d = false := by rfl
@[go_sem] theorem give_125 (d : Nat) : cfg.give 125 d = false := by rfl
@[go_sem] theorem give_130 (d : Nat) : cfg.give 130 d = false := by rfl
@[go_sem] theorem give_131 (d : Nat) : cfg.give 131 d = false := by rfl
@[go_sem] theorem mut_3 : cfg.mutF 3 = false := by rfl
@[go_sem] theorem mut_5 : cfg.mutF 5 = false := by rfl
@[go_sem] theorem mut_6 : cfg.mutF 6 = false := by rfl
@[go_sem] theorem mut_7 : cfg.mutF 7 = false := by rfl
@[go_sem] theorem mut_8 : cfg.mutF 8 = false := by rfl
@[go_sem] theorem mut_9 : cfg.mutF 9 = false := by rfl
@[go_sem] theorem mut_10 : cfg.mutF 10 = false := by rfl
@[go_sem] theorem mut_11 : cfg.mutF 11 = false := by rfl
@[go_sem] theorem mut_12 : cfg.mutF 12 = false := by rfl
@[go_sem] theorem mut_22 : cfg.mutF 22 = false := by rfl
@[go_sem] theorem mut_23 : cfg.mutF 23 = false := by rfl
@[go_sem] theorem mut_24 : cfg.mutF 24 = true := by rfl
@[go_sem] theorem mut_25 : cfg.mutF 25 = false := by rfl
@[go_sem] theorem mut_26 : cfg.mutF 26 = false := by rfl
@[go_sem] theorem mut_27 : cfg.mutF 27 = false := by rfl
@[go_sem] theorem mut_28 : cfg.mutF 28 = true := by rfl
@[go_sem] theorem mut_29 : cfg.mutF 29 = false := by rfl
@[go_sem] theorem mut_30 : cfg.mutF 30 = true := by rfl
@[go_sem] theorem mut_31 : cfg.mutF 31 = false := by rfl
@[go_sem] theorem mut_32 : cfg.mutF 32 = false := by rfl
@[go_sem] theorem mut_33 : cfg.mutF 33 = false := by rfl
@[go_sem] theorem mut_34 : cfg.mutF 34 = false := by rfl
@[go_sem] theorem mut_35 : cfg.mutF 35 = false := by rfl
@[go_sem] theorem mut_36 : cfg.mutF 36 = false := by rfl
@[go_sem] theorem mut_37 : cfg.mutF 37 = false := by rfl
@[go_sem] theorem mut_38 : cfg.mutF 38 = false := by rfl
@[go_sem] theorem mut_39 : cfg.mutF 39 = false := by rfl
@[go_sem] theorem mut_40 : cfg.mutF 40 = true := by rfl
@[go_sem] theorem mut_41 : cfg.mutF 41 = true := by rfl
@[go_sem] theorem mut_42 : cfg.mutF 42 = true := by rfl
@[go_sem] theorem mut_43 : cfg.mutF 43 = false := by rfl
@[go_sem] theorem mut_44 : cfg.mutF 44 = false := by rfl
@[go_sem] theorem mut_45 : cfg.mutF 45 = false := by rfl
@[go_sem] theorem mut_46 : cfg.mutF 46 = false := by rfl
@[go_sem] theorem mut_47 : cfg.mutF 47 = false := by rfl
@[go_sem] theorem mut_48 : cfg.mutF 48 = false := by rfl
@[go_sem] theorem mut_49 : cfg.mutF 49 = false := by rfl
@[go_sem] theorem mut_50 : cfg.mutF 50 = false := by rfl
@[go_sem] theorem mut_51 : cfg.mutF 51 = false := by rfl
@[go_sem] theorem mut_52 : cfg.mutF 52 = false := by rfl
@[go_sem] theorem mut_69 : cfg.mutF 69 = false := by rfl
@[go_sem] theorem mut_70 : cfg.mutF 70 = true := by rfl
@[go_sem] theorem mut_71 : cfg.mutF 71 = false := by rfl
@[go_sem] theorem mut_72 : cfg.mutF 72 = true := by rfl
@[go_sem] theorem mut_73 : cfg.mutF 73 = false := by rfl
@[go_sem] theorem mut_74 : cfg.mutF 74 = false := by rfl
@[go_sem] theorem mut_75 : cfg.mutF 75 = true := by rfl
@[go_sem] theorem mut_76 : cfg.mutF 76 = false := by rfl
@[go_sem] theorem mut_77 : cfg.mutF 77 = false := by rfl
@[go_sem] theorem mut_78 : cfg.mutF 78 = false := by rfl
@[go_sem] theorem mut_79 : cfg.mutF 79 = false := by rfl
@[go_sem] theorem mut_80 : cfg.mutF 80 = false := by rfl
@[go_sem] theorem mut_81 : cfg.mutF 81 = false := by rfl
@[go_sem] theorem mut_82 : cfg.mutF 82 = false := by rfl
@[go_sem] theorem mut_83 : cfg.mutF 83 = false := by rfl
@[go_sem] theorem mut_84 : cfg.mutF 84 = false := by rfl
@[go_sem] theorem mut_85 : cfg.mutF 85 = false := by rfl
@[go_sem] theorem mut_86 : cfg.mutF 86 = false := by rfl
@[go_sem] theorem mut_87 : cfg.mutF 87 = false := by rfl
@[go_sem] theorem mut_88 : cfg.mutF 88 = false := by rfl
@[go_sem] theorem mut_89 : cfg.mutF 89 = false := by rfl
@[go_sem] theorem mut_90 : cfg.mutF 90 = false := by rfl
@[go_sem] theorem mut_91 : cfg.mutF 91 = false := by rfl
@[go_sem] theorem mut_92 : cfg.mutF 92 = false := by rfl
@[go_sem] theorem mut_93 : cfg.mutF 93 = false := by rfl
@[go_sem] theorem mut_94 : cfg.mutF 94 = false := by rfl
@[go_sem] theorem mut_95 : cfg.mutF 95 = false := by rfl
@[go_sem] theorem mut_105 : cfg.mutF 105 = false := by rfl
@[go_sem] theorem mut_106 : cfg.mutF 106 = false := by rfl
@[go_sem] theorem mut_107 : cfg.mutF 107 = false := by rfl
@[go_sem] theorem mut_108 : cfg.mutF 108 = false := by rfl
@[go_sem] theorem mut_109 : cfg.mutF 109 = false := by rfl
@[go_sem] theorem mut_110 : cfg.mutF 110 = false := by rfl
@[go_sem] theorem mut_113 : cfg.mutF 113 = false := by rfl
@[go_sem] theorem mut_114 : cfg.mutF 114 = false := by rfl
@[go_sem] theorem mut_115 : cfg.mutF 115 = true := by rfl
@[go_sem] theorem mut_119 : cfg.mutF 119 = false := by rfl
@[go_sem] theorem mut_120 : cfg.mutF 120 = false := by rfl
@[go_sem] theorem mut_121 : cfg.mutF 121 = false := by rfl
@[go_sem] theorem mut_122 : cfg.mutF 122 = false := by rfl
@[go_sem] theorem mut_125 : cfg.mutF 125 = false := by rfl
@[go_sem] theorem mut_130 : cfg.mutF 130 = false := by rfl
@[go_sem] theorem mut_131 : cfg.mutF 131 = false := by rfl
@[go_sem] theorem own_3_18 : cfg.own 3 18 = false := by rfl
@[go_sem] theorem own_3_24 : cfg.own 3 24 = false := by rfl
@[go_sem] theorem own_3_30 : cfg.own 3 30 = false := by rfl
@[go_sem] theorem own_3_35 : cfg.own 3 35 = false := by rfl
@[go_sem] theorem own_3_48 : cfg.own 3 48 = false := by rfl
@[go_sem] theorem own_3_57 : cfg.own 3 57 = false := by rfl
@[go_sem] theorem own_3_67 : cfg.own 3 67 = false := by rfl
@[go_sem] theorem own_3_80 : cfg.own 3 80 = false := by rfl
@[go_sem] theorem own_3_92 : cfg.own 3 92 = false := by rfl
@[go_sem] theorem own_3_96 : cfg.own 3 96 = false := by rfl
@[go_sem] theorem own_5_9 : cfg.own 5 9 = false := by rfl
@[go_sem] theorem own_5_11 : cfg.own 5 11 = true := by rfl
@[go_sem] theorem own_5_16 : cfg.own 5 16 = false := by rfl
@[go_sem] theorem own_5_21 : cfg.own 5 21 = false := by rfl
@[go_sem] theorem own_5_25 : cfg.own 5 25 = false := by rfl
@[go_sem] theorem own_6_10 : cfg.own 6 10 = false := by rfl
@[go_sem] theorem own_6_17 : cfg.own 6 17 = false := by rfl
@[go_sem] theorem own_6_26 : cfg.own 6 26 = false := by rfl
@[go_sem] theorem own_6_30 : cfg.own 6 30 = true := by rfl
@[go_sem] theorem own_6_33 : cfg.own 6 33 = false := by rfl
@[go_sem] theorem own_6_36 : cfg.own 6 36 = true := by rfl
@[go_sem] theorem own_6_44 : cfg.own 6 44 = false := by rfl
@[go_sem] theorem own_6_47 : cfg.own 6 47 = false := by rfl
@[go_sem] theorem own_7_12 : cfg.own 7 12 = false := by rfl
@[go_sem] theorem own_7_19 : cfg.own 7 19 = false := by rfl
@[go_sem] theorem own_7_31 : cfg.own 7 31 = false := by rfl
@[go_sem] theorem own_7_33 : cfg.own 7 33 = true := by rfl
@[go_sem] theorem own_8_10 : cfg.own 8 10 = false := by rfl
@[go_sem] theorem own_8_17 : cfg.own 8 17 = false := by rfl
@[go_sem] theorem own_9_15 : cfg.own 9 15 = false := by rfl
@[go_sem] theorem own_9_21 : cfg.own 9 21 = false := by rfl
@[go_sem] theorem own_9_29 : cfg.own 9 29 = false := by rfl
@[go_sem] theorem own_9_33 : cfg.own 9 33 = false := by rfl
@[go_sem] theorem own_9_36 : cfg.own 9 36 = true := by rfl
@[go_sem] theorem own_9_40 : cfg.own 9 40 = false := by rfl
@[go_sem] theorem own_9_43 : cfg.own 9 43 = true := by rfl
@[go_sem] theorem own_9_47 : cfg.own 9 47 = false := by rfl
@[go_sem] theorem own_9_70 : cfg.own 9 70 = false := by rfl
@[go_sem] theorem own_10_8 : cfg.own 10 8 = false := by rfl
@[go_sem] theorem own_10_13 : cfg.own 10 13 = false := by rfl
@[go_sem] theorem own_10_19 : cfg.own 10 19 = false := by rfl
@[go_sem] theorem own_10_23 : cfg.own 10 23 = false := by rfl
@[go_sem] theorem own_10_26 : cfg.own 10 26 = false := by rfl
@[go_sem] theorem own_11_15 : cfg.own 11 15 = false := by rfl
@[go_sem] theorem own_12_11 : cfg.own 12 11 = false := by rfl
@[go_sem] theorem own_12_35 : cfg.own 12 35 = false := by rfl
@[go_sem] theorem own_12_41 : cfg.own 12 41 = false := by rfl
@[go_sem] theorem own_12_44 : cfg.own 12 44 = false := by rfl
@[go_sem] theorem own_12_45 : cfg.own 12 45 = false := by rfl
@[go_sem] theorem own_12_47 : cfg.own 12 47 = false := by rfl
@[go_sem] theorem own_12_55 : cfg.own 12 55 = false := by rfl
@[go_sem] theorem own_12_57 : cfg.own 12 57 = false := by rfl
@[go_sem] theorem own_12_78 : cfg.own 12 78 = false := by rfl
@[go_sem] theorem own_22_15 : cfg.own 22 15 = true := by rfl
@[go_sem] theorem own_22_17 : cfg.own 22 17 = false := by rfl
@[go_sem] theorem own_22_18 : cfg.own 22 18 = true := by rfl
@[go_sem] theorem own_22_20 : cfg.own 22 20 = false := by rfl
@[go_sem] theorem own_22_42 : cfg.own 22 42 = false := by rfl
@[go_sem] theorem own_22_45 : cfg.own 22 45 = true := by rfl
@[go_sem] theorem own_22_56 : cfg.own 22 56 = false := by rfl
@[go_sem] theorem own_22_61 : cfg.own 22 61 = false := by rfl
@[go_sem] theorem own_22_67 : cfg.own 22 67 = false := by rfl
@[go_sem] theorem own_22_74 : cfg.own 22 74 = false := by rfl
@[go_sem] theorem own_22_75 : cfg.own 22 75 = true := by rfl
@[go_sem] theorem own_22_86 : cfg.own 22 86 = false := by rfl
@[go_sem] theorem own_22_95 : cfg.own 22 95 = false := by rfl
@[go_sem] theorem own_22_98 : cfg.own 22 98 = false := by rfl
@[go_sem] theorem own_22_108 : cfg.own 22 108 = false := by rfl
@[go_sem] theorem own_22_110 : cfg.own 22 110 = false := by rfl
@[go_sem] theorem own_26_10 : cfg.own 26 10 = false := by rfl
@[go_sem] theorem own_26_15 : cfg.own 26 15 = false := by rfl
@[go_sem] theorem own_26_22 : cfg.own 26 22 = false := by rfl
@[go_sem] theorem own_26_29 : cfg.own 26 29 = true := by rfl
@[go_sem] theorem own_26_33 : cfg.own 26 33 = false := by rfl
@[go_sem] theorem own_26_36 : cfg.own 26 36 = false := by rfl
@[go_sem] theorem own_28_67 : cfg.own 28 67 = false := by rfl
@[go_sem] theorem own_28_93 : cfg.own 28 93 = false := by rfl
@[go_sem] theorem own_30_67 : cfg.own 30 67 = false := by rfl
@[go_sem] theorem own_30_93 : cfg.own 30 93 = false := by rfl
@[go_sem] theorem own_32_9 : cfg.own 32 9 = false := by rfl
@[go_sem] theorem own_33_8 : cfg.own 33 8 = false := by rfl
@[go_sem] theorem own_33_14 : cfg.own 33 14 = false := by rfl
@[go_sem] theorem own_33_23 : cfg.own 33 23 = false := by rfl
@[go_sem] theorem own_33_26 : cfg.own 33 26 = false := by rfl
@[go_sem] theorem own_34_9 : cfg.own 34 9 = false := by rfl
@[go_sem] theorem own_34_58 : cfg.own 34 58 = false := by rfl
@[go_sem] theorem own_34_61 : cfg.own 34 61 = false := by rfl
@[go_sem] theorem own_34_63 : cfg.own 34 63 = false := by rfl
@[go_sem] theorem own_34_67 : cfg.own 34 67 = false := by rfl
@[go_sem] theorem own_34_69 : cfg.own 34 69 = false := by rfl
@[go_sem] theorem own_34_70 : cfg.own 34 70 = false := by rfl
@[go_sem] theorem own_34_78 : cfg.own 34 78 = false := by rfl
@[go_sem] theorem own_34_79 : cfg.own 34 79 = false := by rfl
@[go_sem] theorem own_35_17 : cfg.own 35 17 = true := by rfl
@[go_sem] theorem own_35_37 : cfg.own 35 37 = false := by rfl
@[go_sem] theorem own_36_9 : cfg.own 36 9 = false := by rfl
@[go_sem] theorem own_38_8 : cfg.own 38 8 = false := by rfl
@[go_sem] theorem own_39_7 : cfg.own 39 7 = false := by rfl
@[go_sem] theorem own_42_22 : cfg.own 42 22 = false := by rfl
@[go_sem] theorem own_42_23 : cfg.own 42 23 = false := by rfl
@[go_sem] theorem own_42_36 : cfg.own 42 36 = false := by rfl
@[go_sem] theorem own_42_43 : cfg.own 42 43 = false := by rfl
@[go_sem] theorem own_43_6 : cfg.own 43 6 = false := by rfl
@[go_sem] theorem own_46_55 : cfg.own 46 55 = false := by rfl
@[go_sem] theorem own_47_7 : cfg.own 47 7 = false := by rfl
@[go_sem] theorem own_50_21 : cfg.own 50 21 = false := by rfl
@[go_sem] theorem own_69_36 : cfg.own 69 36 = false := by rfl
@[go_sem] theorem own_69_38 : cfg.own 69 38 = true := by rfl
@[go_sem] theorem own_70_10 : cfg.own 70 10 = false := by rfl
@[go_sem] theorem own_70_19 : cfg.own 70 19 = false := by rfl
@[go_sem] theorem own_70_25 : cfg.own 70 25 = false := by rfl
@[go_sem] theorem own_70_27 : cfg.own 70 27 = false := by rfl
@[go_sem] theorem own_70_28 : cfg.own 70 28 = false := by rfl
@[go_sem] theorem own_70_32 : cfg.own 70 32 = false := by rfl
@[go_sem] theorem own_70_40 : cfg.own 70 40 = false := by rfl
@[go_sem] theorem own_70_44 : cfg.own 70 44 = false := by rfl
@[go_sem] theorem own_70_53 : cfg.own 70 53 = false := by rfl
@[go_sem] theorem own_70_54 : cfg.own 70 54 = false := by rfl
@[go_sem] theorem own_70_61 : cfg.own 70 61 = false := by rfl
@[go_sem] theorem own_70_62 : cfg.own 70 62 = false := by rfl
@[go_sem] theorem own_71_19 : cfg.own 71 19 = false := by rfl
@[go_sem] theorem own_71_24 : cfg.own 71 24 = false := by rfl
@[go_sem] theorem own_71_30 : cfg.own 71 30 = true := by rfl
@[go_sem] theorem own_71_54 : cfg.own 71 54 = true := by rfl
@[go_sem] theorem own_72_9 : cfg.own 72 9 = false := by rfl
@[go_sem] theorem own_73_30 : cfg.own 73 30 = false := by rfl
@[go_sem] theorem own_73_46 : cfg.own 73 46 = false := by rfl
@[go_sem] theorem own_74_9 : cfg.own 74 9 = false := by rfl
@[go_sem] theorem own_74_14 : cfg.own 74 14 = false := by rfl
@[go_sem] theorem own_74_16 : cfg.own 74 16 = false := by rfl
@[go_sem] theorem own_75_67 : cfg.own 75 67 = false := by rfl
@[go_sem] theorem own_75_93 : cfg.own 75 93 = false := by rfl
@[go_sem] theorem own_81_59 : cfg.own 81 59 = false := by rfl
@[go_sem] theorem own_83_23 : cfg.own 83 23 = false := by rfl
@[go_sem] theorem own_85_7 : cfg.own 85 7 = false := by rfl
@[go_sem] theorem own_88_10 : cfg.own 88 10 = false := by rfl
@[go_sem] theorem own_90_7 : cfg.own 90 7 = false := by rfl
@[go_sem] theorem own_91_9 : cfg.own 91 9 = true := by rfl
@[go_sem] theorem own_91_11 : cfg.own 91 11 = false := by rfl
@[go_sem] theorem own_94_16 : cfg.own 94 16 = false := by rfl
@[go_sem] theorem own_95_6 : cfg.own 95 6 = false := by rfl
@[go_sem] theorem own_106_20 : cfg.own 106 20 = false := by rfl
@[go_sem] theorem own_106_23 : cfg.own 106 23 = false := by rfl
@[go_sem] theorem own_106_25 : cfg.own 106 25 = true := by rfl
@[go_sem] theorem own_106_57 : cfg.own 106 57 = false := by rfl
@[go_sem] theorem own_106_98 : cfg.own 106 98 = false := by rfl
@[go_sem] theorem own_106_104 : cfg.own 106 104 = false := by rfl
@[go_sem] theorem own_106_111 : cfg.own 106 111 = false := by rfl
@[go_sem] theorem own_106_116 : cfg.own 106 116 = false := by rfl
@[go_sem] theorem own_108_8 : cfg.own 108 8 = false := by rfl
@[go_sem] theorem own_108_10 : cfg.own 108 10 = false := by rfl
@[go_sem] theorem own_114_27 : cfg.own 114 27 = false := by rfl
@[go_sem] theorem own_115_10 : cfg.own 115 10 = false := by rfl
@[go_sem] theorem own_115_28 : cfg.own 115 28 = false := by rfl
@[go_sem] theorem own_119_11 : cfg.own 119 11 = false := by rfl
@[go_sem] theorem own_119_14 : cfg.own 119 14 = false := by rfl
@[go_sem] theorem own_120_5 : cfg.own 120 5 = true := by rfl
@[go_sem] theorem own_125_16 : cfg.own 125 16 = false := by rfl
@[go_sem] theorem own_130_11 : cfg.own 130 11 = false := by rfl
@[go_sem] theorem own_130_15 : cfg.own 130 15 = false := by rfl
end Go.Proofs.Ytdlfdoicheakoaa.X
