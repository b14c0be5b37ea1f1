/- How this program's calls are taken. -/
import Derived.Test.YtdlfdoicheakoaaGreatKAA
namespace Go.Proofs.YtdlfdoicheakoaaGreat.X
open Go Go.Proofs
def cfg : Cfg where
  mutF f := mutL.contains f
  own me d := ownL.contains (me, d)
  prim f := if f = 19 then some (cloneP) else if f = 21 then some (cloneP) else if f = 70 then some (cloneP) else if f = 77 then some (sortP) else if f = 82 then some (mulP) else none
  give me d := false
@[go_sem] theorem give_3 (d : Nat) : cfg.give 3 d = false := by rfl
@[go_sem] theorem give_4 (d : Nat) : cfg.give 4 d = false := by rfl
@[go_sem] theorem give_5 (d : Nat) : cfg.give 5 d = false := by rfl
@[go_sem] theorem give_6 (d : Nat) : cfg.give 6 d = false := by rfl
@[go_sem] theorem give_7 (d : Nat) : cfg.give 7 d = false := by rfl
@[go_sem] theorem give_8 (d : Nat) : cfg.give 8 d = false := by rfl
@[go_sem] theorem give_9 (d : Nat) : cfg.give 9 d = false := by rfl
@[go_sem] theorem give_10 (d : Nat) : cfg.give 10 d = false := by rfl
@[go_sem] theorem give_11 (d : Nat) : cfg.give 11 d = false := by rfl
@[go_sem] theorem give_12 (d : Nat) : cfg.give 12 d = false := by rfl
@[go_sem] theorem give_13 (d : Nat) : cfg.give 13 d = false := by rfl
@[go_sem] theorem give_14 (d : Nat) : cfg.give 14 d = false := by rfl
@[go_sem] theorem give_15 (d : Nat) : cfg.give 15 d = false := by rfl
@[go_sem] theorem give_16 (d : Nat) : cfg.give 16 d = false := by rfl
@[go_sem] theorem give_17 (d : Nat) : cfg.give 17 d = false := by rfl
@[go_sem] theorem give_18 (d : Nat) : cfg.give 18 d = false := by rfl
@[go_sem] theorem give_19 (d : Nat) : cfg.give 19 d = false := by rfl
@[go_sem] theorem give_20 (d : Nat) : cfg.give 20 d = false := by rfl
@[go_sem] theorem give_21 (d : Nat) : cfg.give 21 d = false := by rfl
@[go_sem] theorem give_22 (d : Nat) : cfg.give 22 d = false := by rfl
@[go_sem] theorem give_23 (d : Nat) : cfg.give 23 d = false := by rfl
@[go_sem] theorem give_24 (d : Nat) : cfg.give 24 d = false := by rfl
@[go_sem] theorem give_25 (d : Nat) : cfg.give 25 d = false := by rfl
@[go_sem] theorem give_26 (d : Nat) : cfg.give 26 d = false := by rfl
@[go_sem] theorem give_27 (d : Nat) : cfg.give 27 d = false := by rfl
@[go_sem] theorem give_28 (d : Nat) : cfg.give 28 d = false := by rfl
@[go_sem] theorem give_29 (d : Nat) : cfg.give 29 d = false := by rfl
@[go_sem] theorem give_30 (d : Nat) : cfg.give 30 d = false := by rfl
@[go_sem] theorem give_31 (d : Nat) : cfg.give 31 d = false := by rfl
@[go_sem] theorem give_32 (d : Nat) : cfg.give 32 d = false := by rfl
@[go_sem] theorem give_33 (d : Nat) : cfg.give 33 d = false := by rfl
@[go_sem] theorem give_34 (d : Nat) : cfg.give 34 d = false := by rfl
@[go_sem] theorem give_35 (d : Nat) : cfg.give 35 d = false := by rfl
@[go_sem] theorem give_36 (d : Nat) : cfg.give 36 d = false := by rfl
@[go_sem] theorem give_37 (d : Nat) : cfg.give 37 d = false := by rfl
@[go_sem] theorem give_38 (d : Nat) : cfg.give 38 d = false := by rfl
@[go_sem] theorem give_39 (d : Nat) : cfg.give 39 d = false := by rfl
@[go_sem] theorem give_40 (d : Nat) : cfg.give 40 d = false := by rfl
@[go_sem] theorem give_41 (d : Nat) : cfg.give 41 d = false := by rfl
@[go_sem] theorem give_42 (d : Nat) : cfg.give 42 d = false := by rfl
@[go_sem] theorem give_43 (d : Nat) : cfg.give 43 d = false := by rfl
@[go_sem] theorem give_44 (d : Nat) : cfg.give 44 d = false := by rfl
@[go_sem] theorem give_45 (d : Nat) : cfg.give 45 d = false := by rfl
@[go_sem] theorem give_46 (d : Nat) : cfg.give 46 d = false := by rfl
@[go_sem] theorem give_47 (d : Nat) : cfg.give 47 d = false := by rfl
@[go_sem] theorem give_48 (d : Nat) : cfg.give 48 d = false := by rfl
@[go_sem] theorem give_49 (d : Nat) : cfg.give 49 d = false := by rfl
@[go_sem] theorem give_50 (d : Nat) : cfg.give 50 d = false := by rfl
@[go_sem] theorem give_51 (d : Nat) : cfg.give 51 d = false := by rfl
@[go_sem] theorem give_52 (d : Nat) : cfg.give 52 d = false := by rfl
@[go_sem] theorem give_53 (d : Nat) : cfg.give 53 d = false := by rfl
@[go_sem] theorem give_54 (d : Nat) : cfg.give 54 d = false := by rfl
@[go_sem] theorem give_55 (d : Nat) : cfg.give 55 d = false := by rfl
@[go_sem] theorem give_56 (d : Nat) : cfg.give 56 d = false := by rfl
@[go_sem] theorem give_57 (d : Nat) : cfg.give 57 d = false := by rfl
@[go_sem] theorem give_58 (d : Nat) : cfg.give 58 d = false := by rfl
@[go_sem] theorem give_59 (d : Nat) : cfg.give 59 d = false := by rfl
@[go_sem] theorem give_60 (d : Nat) : cfg.give 60 d = false := by rfl
@[go_sem] theorem give_61 (d : Nat) : cfg.give 61 d = false := by rfl
@[go_sem] theorem give_62 (d : Nat) : cfg.give 62 d = false := by rfl
@[go_sem] theorem give_63 (d : Nat) : cfg.give 63 d = false := by rfl
@[go_sem] theorem give_64 (d : Nat) : cfg.give 64 d = false := by rfl
@[go_sem] theorem give_65 (d : Nat) : cfg.give 65 d = false := by rfl
@[go_sem] theorem give_66 (d : Nat) : cfg.give 66 d = false := by rfl
@[go_sem] theorem give_67 (d : Nat) : cfg.give 67 d = false := by rfl
@[go_sem] theorem give_68 (d : Nat) : cfg.give 68 d = false := by rfl
@[go_sem] theorem give_69 (d : Nat) : cfg.give 69 d = false := by rfl
@[go_sem] theorem give_70 (d : Nat) : cfg.give 70 d = false := by rfl
@[go_sem] theorem give_71 (d : Nat) : cfg.give 71 d = false := by rfl
@[go_sem] theorem give_72 (d : Nat) : cfg.give 72 d = false := by rfl
@[go_sem] theorem give_73 (d : Nat) : cfg.give 73 d = false := by rfl
@[go_sem] theorem give_74 (d : Nat) : cfg.give 74 d = false := by rfl
@[go_sem] theorem give_75 (d : Nat) : cfg.give 75 d = false := by rfl
@[go_sem] theorem give_76 (d : Nat) : cfg.give 76 d = false := by rfl
@[go_sem] theorem give_78 (d : Nat) : cfg.give 78 d = false := by rfl
@[go_sem] theorem give_79 (d : Nat) : cfg.give 79 d = false := by rfl
@[go_sem] theorem give_80 (d : Nat) : cfg.give 80 d = false := by rfl
@[go_sem] theorem give_81 (d : Nat) : cfg.give 81 d = false := by rfl
@[go_sem] theorem give_85 (d : Nat) : cfg.give 85 d = false := by rfl
@[go_sem] theorem mut_3 : cfg.mutF 3 = false := by rfl
@[go_sem] theorem mut_4 : cfg.mutF 4 = false := by rfl
@[go_sem] theorem mut_5 : cfg.mutF 5 = false := by rfl
@[go_sem] theorem mut_6 : cfg.mutF 6 = false := by rfl
@[go_sem] theorem mut_7 : cfg.mutF 7 = false := by rfl
@[go_sem] theorem mut_8 : cfg.mutF 8 = false := by rfl
@[go_sem] theorem mut_9 : cfg.mutF 9 = false := by rfl
@[go_sem] theorem mut_10 : cfg.mutF 10 = false := by rfl
@[go_sem] theorem mut_11 : cfg.mutF 11 = false := by rfl
@[go_sem] theorem mut_12 : cfg.mutF 12 = true := by rfl
@[go_sem] theorem mut_13 : cfg.mutF 13 = true := by rfl
@[go_sem] theorem mut_14 : cfg.mutF 14 = false := by rfl
@[go_sem] theorem mut_15 : cfg.mutF 15 = false := by rfl
@[go_sem] theorem mut_16 : cfg.mutF 16 = false := by rfl
@[go_sem] theorem mut_17 : cfg.mutF 17 = false := by rfl
@[go_sem] theorem mut_18 : cfg.mutF 18 = true := by rfl
@[go_sem] theorem mut_19 : cfg.mutF 19 = false := by rfl
@[go_sem] theorem mut_20 : cfg.mutF 20 = true := by rfl
@[go_sem] theorem mut_21 : cfg.mutF 21 = false := by rfl
@[go_sem] theorem mut_22 : cfg.mutF 22 = true := by rfl
@[go_sem] theorem mut_23 : cfg.mutF 23 = false := by rfl
@[go_sem] theorem mut_24 : cfg.mutF 24 = false := by rfl
@[go_sem] theorem mut_25 : cfg.mutF 25 = false := by rfl
@[go_sem] theorem mut_26 : cfg.mutF 26 = false := by rfl
@[go_sem] theorem mut_27 : cfg.mutF 27 = false := by rfl
@[go_sem] theorem mut_28 : cfg.mutF 28 = false := by rfl
@[go_sem] theorem mut_29 : cfg.mutF 29 = false := by rfl
@[go_sem] theorem mut_30 : cfg.mutF 30 = false := by rfl
@[go_sem] theorem mut_31 : cfg.mutF 31 = false := by rfl
@[go_sem] theorem mut_32 : cfg.mutF 32 = false := by rfl
@[go_sem] theorem mut_33 : cfg.mutF 33 = true := by rfl
@[go_sem] theorem mut_34 : cfg.mutF 34 = false := by rfl
@[go_sem] theorem mut_35 : cfg.mutF 35 = false := by rfl
@[go_sem] theorem mut_36 : cfg.mutF 36 = false := by rfl
@[go_sem] theorem mut_37 : cfg.mutF 37 = false := by rfl
@[go_sem] theorem mut_38 : cfg.mutF 38 = false := by rfl
@[go_sem] theorem mut_39 : cfg.mutF 39 = false := by rfl
@[go_sem] theorem mut_40 : cfg.mutF 40 = false := by rfl
@[go_sem] theorem mut_41 : cfg.mutF 41 = false := by rfl
@[go_sem] theorem mut_42 : cfg.mutF 42 = false := by rfl
@[go_sem] theorem mut_43 : cfg.mutF 43 = false := by rfl
@[go_sem] theorem mut_44 : cfg.mutF 44 = false := by rfl
@[go_sem] theorem mut_45 : cfg.mutF 45 = false := by rfl
@[go_sem] theorem mut_46 : cfg.mutF 46 = false := by rfl
@[go_sem] theorem mut_47 : cfg.mutF 47 = false := by rfl
@[go_sem] theorem mut_48 : cfg.mutF 48 = false := by rfl
@[go_sem] theorem mut_49 : cfg.mutF 49 = false := by rfl
@[go_sem] theorem mut_50 : cfg.mutF 50 = false := by rfl
@[go_sem] theorem mut_51 : cfg.mutF 51 = false := by rfl
@[go_sem] theorem mut_52 : cfg.mutF 52 = false := by rfl
@[go_sem] theorem mut_53 : cfg.mutF 53 = false := by rfl
@[go_sem] theorem mut_54 : cfg.mutF 54 = false := by rfl
@[go_sem] theorem mut_55 : cfg.mutF 55 = false := by rfl
@[go_sem] theorem mut_56 : cfg.mutF 56 = false := by rfl
@[go_sem] theorem mut_57 : cfg.mutF 57 = false := by rfl
@[go_sem] theorem mut_58 : cfg.mutF 58 = false := by rfl
@[go_sem] theorem mut_59 : cfg.mutF 59 = false := by rfl
@[go_sem] theorem mut_60 : cfg.mutF 60 = false := by rfl
@[go_sem] theorem mut_61 : cfg.mutF 61 = false := by rfl
@[go_sem] theorem mut_62 : cfg.mutF 62 = false := by rfl
@[go_sem] theorem mut_63 : cfg.mutF 63 = false := by rfl
@[go_sem] theorem mut_64 : cfg.mutF 64 = false := by rfl
@[go_sem] theorem mut_65 : cfg.mutF 65 = false := by rfl
@[go_sem] theorem mut_66 : cfg.mutF 66 = false := by rfl
@[go_sem] theorem mut_67 : cfg.mutF 67 = false := by rfl
@[go_sem] theorem mut_68 : cfg.mutF 68 = false := by rfl
@[go_sem] theorem mut_69 : cfg.mutF 69 = true := by rfl
@[go_sem] theorem mut_70 : cfg.mutF 70 = false := by rfl
@[go_sem] theorem mut_71 : cfg.mutF 71 = false := by rfl
@[go_sem] theorem mut_72 : cfg.mutF 72 = false := by rfl
@[go_sem] theorem mut_73 : cfg.mutF 73 = false := by rfl
@[go_sem] theorem mut_74 : cfg.mutF 74 = false := by rfl
@[go_sem] theorem mut_75 : cfg.mutF 75 = false := by rfl
@[go_sem] theorem mut_76 : cfg.mutF 76 = false := by rfl
@[go_sem] theorem mut_77 : cfg.mutF 77 = true := by rfl
@[go_sem] theorem mut_78 : cfg.mutF 78 = false := by rfl
@[go_sem] theorem mut_79 : cfg.mutF 79 = false := by rfl
@[go_sem] theorem mut_80 : cfg.mutF 80 = false := by rfl
@[go_sem] theorem mut_81 : cfg.mutF 81 = false := by rfl
@[go_sem] theorem mut_82 : cfg.mutF 82 = false := by rfl
@[go_sem] theorem mut_85 : cfg.mutF 85 = false := by rfl
@[go_sem] theorem own_3_26 : cfg.own 3 26 = false := by rfl
@[go_sem] theorem own_3_32 : cfg.own 3 32 = false := by rfl
@[go_sem] theorem own_3_40 : cfg.own 3 40 = false := by rfl
@[go_sem] theorem own_3_47 : cfg.own 3 47 = false := by rfl
@[go_sem] theorem own_3_65 : cfg.own 3 65 = false := by rfl
@[go_sem] theorem own_3_105 : cfg.own 3 105 = false := by rfl
@[go_sem] theorem own_3_110 : cfg.own 3 110 = false := by rfl
@[go_sem] theorem own_3_115 : cfg.own 3 115 = false := by rfl
@[go_sem] theorem own_4_7 : cfg.own 4 7 = false := by rfl
@[go_sem] theorem own_4_9 : cfg.own 4 9 = true := by rfl
@[go_sem] theorem own_4_17 : cfg.own 4 17 = false := by rfl
@[go_sem] theorem own_4_23 : cfg.own 4 23 = false := by rfl
@[go_sem] theorem own_4_34 : cfg.own 4 34 = false := by rfl
@[go_sem] theorem own_5_15 : cfg.own 5 15 = false := by rfl
@[go_sem] theorem own_5_21 : cfg.own 5 21 = false := by rfl
@[go_sem] theorem own_5_29 : cfg.own 5 29 = false := by rfl
@[go_sem] theorem own_5_33 : cfg.own 5 33 = false := by rfl
@[go_sem] theorem own_5_36 : cfg.own 5 36 = true := by rfl
@[go_sem] theorem own_5_40 : cfg.own 5 40 = false := by rfl
@[go_sem] theorem own_5_43 : cfg.own 5 43 = true := by rfl
@[go_sem] theorem own_5_47 : cfg.own 5 47 = false := by rfl
@[go_sem] theorem own_5_70 : cfg.own 5 70 = false := by rfl
@[go_sem] theorem own_6_19 : cfg.own 6 19 = false := by rfl
@[go_sem] theorem own_6_24 : cfg.own 6 24 = false := by rfl
@[go_sem] theorem own_6_30 : cfg.own 6 30 = true := by rfl
@[go_sem] theorem own_6_54 : cfg.own 6 54 = true := by rfl
@[go_sem] theorem own_7_10 : cfg.own 7 10 = false := by rfl
@[go_sem] theorem own_7_17 : cfg.own 7 17 = false := by rfl
@[go_sem] theorem own_8_11 : cfg.own 8 11 = false := by rfl
@[go_sem] theorem own_8_21 : cfg.own 8 21 = true := by rfl
@[go_sem] theorem own_9_7 : cfg.own 9 7 = false := by rfl
@[go_sem] theorem own_9_19 : cfg.own 9 19 = false := by rfl
@[go_sem] theorem own_10_15 : cfg.own 10 15 = true := by rfl
@[go_sem] theorem own_10_17 : cfg.own 10 17 = false := by rfl
@[go_sem] theorem own_10_18 : cfg.own 10 18 = true := by rfl
@[go_sem] theorem own_10_20 : cfg.own 10 20 = false := by rfl
@[go_sem] theorem own_10_42 : cfg.own 10 42 = false := by rfl
@[go_sem] theorem own_10_45 : cfg.own 10 45 = true := by rfl
@[go_sem] theorem own_10_56 : cfg.own 10 56 = false := by rfl
@[go_sem] theorem own_10_61 : cfg.own 10 61 = false := by rfl
@[go_sem] theorem own_10_67 : cfg.own 10 67 = false := by rfl
@[go_sem] theorem own_10_74 : cfg.own 10 74 = false := by rfl
@[go_sem] theorem own_10_75 : cfg.own 10 75 = true := by rfl
@[go_sem] theorem own_10_86 : cfg.own 10 86 = false := by rfl
@[go_sem] theorem own_10_95 : cfg.own 10 95 = false := by rfl
@[go_sem] theorem own_10_98 : cfg.own 10 98 = false := by rfl
@[go_sem] theorem own_10_108 : cfg.own 10 108 = false := by rfl
@[go_sem] theorem own_10_110 : cfg.own 10 110 = false := by rfl
@[go_sem] theorem own_13_9 : cfg.own 13 9 = false := by rfl
@[go_sem] theorem own_14_11 : cfg.own 14 11 = false := by rfl
@[go_sem] theorem own_14_35 : cfg.own 14 35 = false := by rfl
@[go_sem] theorem own_14_41 : cfg.own 14 41 = false := by rfl
@[go_sem] theorem own_14_44 : cfg.own 14 44 = false := by rfl
@[go_sem] theorem own_14_45 : cfg.own 14 45 = false := by rfl
@[go_sem] theorem own_14_47 : cfg.own 14 47 = false := by rfl
@[go_sem] theorem own_14_55 : cfg.own 14 55 = false := by rfl
@[go_sem] theorem own_14_57 : cfg.own 14 57 = false := by rfl
@[go_sem] theorem own_14_78 : cfg.own 14 78 = false := by rfl
@[go_sem] theorem own_15_8 : cfg.own 15 8 = false := by rfl
@[go_sem] theorem own_17_7 : cfg.own 17 7 = false := by rfl
@[go_sem] theorem own_22_22 : cfg.own 22 22 = false := by rfl
@[go_sem] theorem own_22_23 : cfg.own 22 23 = false := by rfl
@[go_sem] theorem own_22_36 : cfg.own 22 36 = false := by rfl
@[go_sem] theorem own_22_43 : cfg.own 22 43 = false := by rfl
@[go_sem] theorem own_24_9 : cfg.own 24 9 = false := by rfl
@[go_sem] theorem own_24_58 : cfg.own 24 58 = false := by rfl
@[go_sem] theorem own_24_61 : cfg.own 24 61 = false := by rfl
@[go_sem] theorem own_24_63 : cfg.own 24 63 = false := by rfl
@[go_sem] theorem own_24_67 : cfg.own 24 67 = false := by rfl
@[go_sem] theorem own_24_69 : cfg.own 24 69 = false := by rfl
@[go_sem] theorem own_24_70 : cfg.own 24 70 = false := by rfl
@[go_sem] theorem own_24_78 : cfg.own 24 78 = false := by rfl
@[go_sem] theorem own_24_79 : cfg.own 24 79 = false := by rfl
@[go_sem] theorem own_26_20 : cfg.own 26 20 = false := by rfl
@[go_sem] theorem own_26_23 : cfg.own 26 23 = false := by rfl
@[go_sem] theorem own_26_25 : cfg.own 26 25 = true := by rfl
@[go_sem] theorem own_26_57 : cfg.own 26 57 = false := by rfl
@[go_sem] theorem own_26_98 : cfg.own 26 98 = false := by rfl
@[go_sem] theorem own_26_104 : cfg.own 26 104 = false := by rfl
@[go_sem] theorem own_26_111 : cfg.own 26 111 = false := by rfl
@[go_sem] theorem own_26_116 : cfg.own 26 116 = false := by rfl
@[go_sem] theorem own_27_15 : cfg.own 27 15 = false := by rfl
@[go_sem] theorem own_29_8 : cfg.own 29 8 = false := by rfl
@[go_sem] theorem own_29_13 : cfg.own 29 13 = false := by rfl
@[go_sem] theorem own_30_15 : cfg.own 30 15 = false := by rfl
@[go_sem] theorem own_30_21 : cfg.own 30 21 = false := by rfl
@[go_sem] theorem own_30_27 : cfg.own 30 27 = false := by rfl
@[go_sem] theorem own_32_36 : cfg.own 32 36 = false := by rfl
@[go_sem] theorem own_32_38 : cfg.own 32 38 = true := by rfl
@[go_sem] theorem own_33_10 : cfg.own 33 10 = false := by rfl
@[go_sem] theorem own_33_19 : cfg.own 33 19 = false := by rfl
@[go_sem] theorem own_33_25 : cfg.own 33 25 = false := by rfl
@[go_sem] theorem own_33_27 : cfg.own 33 27 = false := by rfl
@[go_sem] theorem own_33_28 : cfg.own 33 28 = false := by rfl
@[go_sem] theorem own_33_32 : cfg.own 33 32 = false := by rfl
@[go_sem] theorem own_33_40 : cfg.own 33 40 = false := by rfl
@[go_sem] theorem own_33_44 : cfg.own 33 44 = false := by rfl
@[go_sem] theorem own_33_53 : cfg.own 33 53 = false := by rfl
@[go_sem] theorem own_33_54 : cfg.own 33 54 = false := by rfl
@[go_sem] theorem own_33_61 : cfg.own 33 61 = false := by rfl
@[go_sem] theorem own_33_62 : cfg.own 33 62 = false := by rfl
@[go_sem] theorem own_34_12 : cfg.own 34 12 = false := by rfl
@[go_sem] theorem own_34_19 : cfg.own 34 19 = false := by rfl
@[go_sem] theorem own_34_31 : cfg.own 34 31 = false := by rfl
@[go_sem] theorem own_34_33 : cfg.own 34 33 = true := by rfl
@[go_sem] theorem own_36_55 : cfg.own 36 55 = false := by rfl
@[go_sem] theorem own_37_7 : cfg.own 37 7 = false := by rfl
@[go_sem] theorem own_40_21 : cfg.own 40 21 = false := by rfl
@[go_sem] theorem own_43_7 : cfg.own 43 7 = false := by rfl
@[go_sem] theorem own_44_9 : cfg.own 44 9 = true := by rfl
@[go_sem] theorem own_44_11 : cfg.own 44 11 = false := by rfl
@[go_sem] theorem own_47_59 : cfg.own 47 59 = false := by rfl
@[go_sem] theorem own_49_7 : cfg.own 49 7 = false := by rfl
@[go_sem] theorem own_52_10 : cfg.own 52 10 = false := by rfl
@[go_sem] theorem own_54_11 : cfg.own 54 11 = false := by rfl
@[go_sem] theorem own_54_14 : cfg.own 54 14 = false := by rfl
@[go_sem] theorem own_55_5 : cfg.own 55 5 = true := by rfl
@[go_sem] theorem own_58_6 : cfg.own 58 6 = false := by rfl
@[go_sem] theorem own_58_10 : cfg.own 58 10 = false := by rfl
@[go_sem] theorem own_59_9 : cfg.own 59 9 = false := by rfl
@[go_sem] theorem own_59_13 : cfg.own 59 13 = false := by rfl
@[go_sem] theorem own_59_19 : cfg.own 59 19 = false := by rfl
@[go_sem] theorem own_60_13 : cfg.own 60 13 = true := by rfl
@[go_sem] theorem own_60_29 : cfg.own 60 29 = false := by rfl
@[go_sem] theorem own_61_37 : cfg.own 61 37 = false := by rfl
@[go_sem] theorem own_62_17 : cfg.own 62 17 = true := by rfl
@[go_sem] theorem own_62_37 : cfg.own 62 37 = false := by rfl
@[go_sem] theorem own_63_9 : cfg.own 63 9 = false := by rfl
@[go_sem] theorem own_64_23 : cfg.own 64 23 = false := by rfl
@[go_sem] theorem own_65_8 : cfg.own 65 8 = false := by rfl
@[go_sem] theorem own_65_14 : cfg.own 65 14 = false := by rfl
@[go_sem] theorem own_65_23 : cfg.own 65 23 = false := by rfl
@[go_sem] theorem own_65_26 : cfg.own 65 26 = false := by rfl
@[go_sem] theorem own_66_9 : cfg.own 66 9 = false := by rfl
@[go_sem] theorem own_66_14 : cfg.own 66 14 = false := by rfl
@[go_sem] theorem own_66_16 : cfg.own 66 16 = false := by rfl
@[go_sem] theorem own_67_16 : cfg.own 67 16 = false := by rfl
@[go_sem] theorem own_68_9 : cfg.own 68 9 = false := by rfl
@[go_sem] theorem own_69_10 : cfg.own 69 10 = false := by rfl
@[go_sem] theorem own_69_28 : cfg.own 69 28 = false := by rfl
@[go_sem] theorem own_72_27 : cfg.own 72 27 = false := by rfl
@[go_sem] theorem own_73_11 : cfg.own 73 11 = false := by rfl
@[go_sem] theorem own_73_15 : cfg.own 73 15 = false := by rfl
@[go_sem] theorem own_75_6 : cfg.own 75 6 = false := by rfl
@[go_sem] theorem own_76_18 : cfg.own 76 18 = false := by rfl
@[go_sem] theorem own_79_8 : cfg.own 79 8 = false := by rfl
@[go_sem] theorem own_79_10 : cfg.own 79 10 = false := by rfl
@[go_sem] theorem own_80_16 : cfg.own 80 16 = false := by rfl
@[go_sem] theorem own_81_6 : cfg.own 81 6 = false := by rfl
end Go.Proofs.YtdlfdoicheakoaaGreat.X
