/- How this program's calls are taken. -/
import Derived.Test.YtdjdgnabcecdlaaDoorTab
import Derived.Test.YtdjdgnabcecdlaaDoorPrim
namespace Go.Proofs.YtdjdgnabcecdlaaDoor.X
open Go Go.Proofs
def cfg : Cfg where
  mutF f := mutL.contains f
  own me d := ownL.contains (me, d)
  prim f := if f = 19 then some (insP 2) else if f = 20 then some (cloneP) else if f = 22 then some (itoaP) else if f = 24 then some (atoiP) else if f = 39 then some (sortP) else if f = 45 then some (cntP) else if f = 66 then some (idxP) else none
  give me d := false
@[go_sem] theorem give_3 (d : Nat) : cfg.give 3 d = false := by rfl
@[go_sem] theorem give_4 (d : Nat) : cfg.give 4 d = false := by rfl
@[go_sem] theorem give_5 (d : Nat) : cfg.give 5 d = false := by rfl
@[go_sem] theorem give_6 (d : Nat) : cfg.give 6 d = false := by rfl
@[go_sem] theorem give_7 (d : Nat) : cfg.give 7 d = false := by rfl
@[go_sem] theorem give_8 (d : Nat) : cfg.give 8 d = false := by rfl
@[go_sem] theorem give_9 (d : Nat) : cfg.give 9 d = false := by rfl
@[go_sem] theorem give_10 (d : Nat) : cfg.give 10 d = false := by rfl
@[go_sem] theorem give_11 (d : Nat) : cfg.give 11 d = false := by rfl
@[go_sem] theorem give_12 (d : Nat) : cfg.give 12 d = false := by rfl
@[go_sem] theorem give_13 (d : Nat) : cfg.give 13 d = false := by rfl
@[go_sem] theorem give_14 (d : Nat) : cfg.give 14 d = false := by rfl
@[go_sem] theorem give_15 (d : Nat) : cfg.give 15 d = false := by rfl
@[go_sem] theorem give_16 (d : Nat) : cfg.give 16 d = false := by rfl
@[go_sem] theorem give_17 (d : Nat) : cfg.give 17 d = false := by rfl
@[go_sem] theorem give_18 (d : Nat) : cfg.give 18 d = false := by rfl
@[go_sem] theorem give_19 (d : Nat) : cfg.give 19 d = false := by rfl
@[go_sem] theorem give_20 (d : Nat) : cfg.give 20 d = false := by rfl
@[go_sem] theorem give_21 (d : Nat) : cfg.give 21 d = false := by rfl
@[go_sem] theorem give_23 (d : Nat) : cfg.give 23 d = false := by rfl
@[go_sem] theorem give_25 (d : Nat) : cfg.give 25 d = false := by rfl
@[go_sem] theorem give_26 (d : Nat) : cfg.give 26 d = false := by rfl
@[go_sem] theorem give_27 (d : Nat) : cfg.give 27 d = false := by rfl
@[go_sem] theorem give_28 (d : Nat) : cfg.give 28 d = false := by rfl
@[go_sem] theorem give_29 (d : Nat) : cfg.give 29 d = false := by rfl
@[go_sem] theorem give_30 (d : Nat) : cfg.give 30 d = false := by rfl
@[go_sem] theorem give_31 (d : Nat) : cfg.give 31 d = false := by rfl
@[go_sem] theorem give_35 (d : Nat) : cfg.give 35 d = false := by rfl
@[go_sem] theorem give_38 (d : Nat) : cfg.give 38 d = false := by rfl
@[go_sem] theorem give_40 (d : Nat) : cfg.give 40 d = false := by rfl
@[go_sem] theorem give_41 (d : Nat) : cfg.give 41 d = false := by rfl
@[go_sem] theorem give_46 (d : Nat) : cfg.give 46 d = false := by rfl
@[go_sem] theorem give_52 (d : Nat) : cfg.give 52 d = false := by rfl
@[go_sem] theorem mut_3 : cfg.mutF 3 = false := by rfl
@[go_sem] theorem mut_4 : cfg.mutF 4 = false := by rfl
@[go_sem] theorem mut_5 : cfg.mutF 5 = false := by rfl
@[go_sem] theorem mut_6 : cfg.mutF 6 = false := by rfl
@[go_sem] theorem mut_7 : cfg.mutF 7 = false := by rfl
@[go_sem] theorem mut_8 : cfg.mutF 8 = false := by rfl
@[go_sem] theorem mut_9 : cfg.mutF 9 = false := by rfl
@[go_sem] theorem mut_10 : cfg.mutF 10 = false := by rfl
@[go_sem] theorem mut_11 : cfg.mutF 11 = false := by rfl
@[go_sem] theorem mut_12 : cfg.mutF 12 = true := by rfl
@[go_sem] theorem mut_13 : cfg.mutF 13 = false := by rfl
@[go_sem] theorem mut_14 : cfg.mutF 14 = false := by rfl
@[go_sem] theorem mut_15 : cfg.mutF 15 = false := by rfl
@[go_sem] theorem mut_16 : cfg.mutF 16 = false := by rfl
@[go_sem] theorem mut_17 : cfg.mutF 17 = false := by rfl
@[go_sem] theorem mut_18 : cfg.mutF 18 = false := by rfl
@[go_sem] theorem mut_19 : cfg.mutF 19 = true := by rfl
@[go_sem] theorem mut_20 : cfg.mutF 20 = false := by rfl
@[go_sem] theorem mut_21 : cfg.mutF 21 = false := by rfl
@[go_sem] theorem mut_22 : cfg.mutF 22 = false := by rfl
@[go_sem] theorem mut_23 : cfg.mutF 23 = false := by rfl
@[go_sem] theorem mut_24 : cfg.mutF 24 = false := by rfl
@[go_sem] theorem mut_25 : cfg.mutF 25 = false := by rfl
@[go_sem] theorem mut_26 : cfg.mutF 26 = false := by rfl
@[go_sem] theorem mut_27 : cfg.mutF 27 = false := by rfl
@[go_sem] theorem mut_28 : cfg.mutF 28 = true := by rfl
@[go_sem] theorem mut_29 : cfg.mutF 29 = false := by rfl
@[go_sem] theorem mut_30 : cfg.mutF 30 = false := by rfl
@[go_sem] theorem mut_31 : cfg.mutF 31 = false := by rfl
@[go_sem] theorem mut_32 : cfg.mutF 32 = false := by rfl
@[go_sem] theorem mut_33 : cfg.mutF 33 = false := by rfl
@[go_sem] theorem mut_35 : cfg.mutF 35 = false := by rfl
@[go_sem] theorem mut_38 : cfg.mutF 38 = false := by rfl
@[go_sem] theorem mut_39 : cfg.mutF 39 = true := by rfl
@[go_sem] theorem mut_40 : cfg.mutF 40 = false := by rfl
@[go_sem] theorem mut_41 : cfg.mutF 41 = false := by rfl
@[go_sem] theorem mut_44 : cfg.mutF 44 = false := by rfl
@[go_sem] theorem mut_45 : cfg.mutF 45 = false := by rfl
@[go_sem] theorem mut_46 : cfg.mutF 46 = false := by rfl
@[go_sem] theorem mut_52 : cfg.mutF 52 = false := by rfl
@[go_sem] theorem mut_66 : cfg.mutF 66 = false := by rfl
@[go_sem] theorem mut_67 : cfg.mutF 67 = false := by rfl
@[go_sem] theorem mut_68 : cfg.mutF 68 = false := by rfl
@[go_sem] theorem mut_69 : cfg.mutF 69 = false := by rfl
@[go_sem] theorem own_3_20 : cfg.own 3 20 = false := by rfl
@[go_sem] theorem own_3_26 : cfg.own 3 26 = false := by rfl
@[go_sem] theorem own_3_32 : cfg.own 3 32 = false := by rfl
@[go_sem] theorem own_3_58 : cfg.own 3 58 = false := by rfl
@[go_sem] theorem own_3_62 : cfg.own 3 62 = false := by rfl
@[go_sem] theorem own_3_65 : cfg.own 3 65 = false := by rfl
@[go_sem] theorem own_3_70 : cfg.own 3 70 = false := by rfl
@[go_sem] theorem own_4_6 : cfg.own 4 6 = true := by rfl
@[go_sem] theorem own_4_9 : cfg.own 4 9 = false := by rfl
@[go_sem] theorem own_4_12 : cfg.own 4 12 = false := by rfl
@[go_sem] theorem own_5_11 : cfg.own 5 11 = false := by rfl
@[go_sem] theorem own_5_16 : cfg.own 5 16 = false := by rfl
@[go_sem] theorem own_6_28 : cfg.own 6 28 = false := by rfl
@[go_sem] theorem own_7_10 : cfg.own 7 10 = false := by rfl
@[go_sem] theorem own_7_15 : cfg.own 7 15 = false := by rfl
@[go_sem] theorem own_7_22 : cfg.own 7 22 = false := by rfl
@[go_sem] theorem own_7_29 : cfg.own 7 29 = true := by rfl
@[go_sem] theorem own_7_33 : cfg.own 7 33 = false := by rfl
@[go_sem] theorem own_7_36 : cfg.own 7 36 = false := by rfl
@[go_sem] theorem own_8_4 : cfg.own 8 4 = false := by rfl
@[go_sem] theorem own_8_8 : cfg.own 8 8 = false := by rfl
@[go_sem] theorem own_8_11 : cfg.own 8 11 = false := by rfl
@[go_sem] theorem own_9_18 : cfg.own 9 18 = false := by rfl
@[go_sem] theorem own_9_23 : cfg.own 9 23 = false := by rfl
@[go_sem] theorem own_9_37 : cfg.own 9 37 = false := by rfl
@[go_sem] theorem own_9_43 : cfg.own 9 43 = false := by rfl
@[go_sem] theorem own_9_48 : cfg.own 9 48 = false := by rfl
@[go_sem] theorem own_9_79 : cfg.own 9 79 = false := by rfl
@[go_sem] theorem own_10_7 : cfg.own 10 7 = false := by rfl
@[go_sem] theorem own_10_11 : cfg.own 10 11 = false := by rfl
@[go_sem] theorem own_12_9 : cfg.own 12 9 = false := by rfl
@[go_sem] theorem own_15_55 : cfg.own 15 55 = false := by rfl
@[go_sem] theorem own_16_8 : cfg.own 16 8 = false := by rfl
@[go_sem] theorem own_17_30 : cfg.own 17 30 = false := by rfl
@[go_sem] theorem own_17_46 : cfg.own 17 46 = false := by rfl
@[go_sem] theorem own_18_9 : cfg.own 18 9 = false := by rfl
@[go_sem] theorem own_18_14 : cfg.own 18 14 = false := by rfl
@[go_sem] theorem own_18_16 : cfg.own 18 16 = false := by rfl
@[go_sem] theorem own_19_67 : cfg.own 19 67 = false := by rfl
@[go_sem] theorem own_19_93 : cfg.own 19 93 = false := by rfl
@[go_sem] theorem own_21_16 : cfg.own 21 16 = false := by rfl
@[go_sem] theorem own_21_21 : cfg.own 21 21 = false := by rfl
@[go_sem] theorem own_23_10 : cfg.own 23 10 = false := by rfl
@[go_sem] theorem own_25_9 : cfg.own 25 9 = false := by rfl
@[go_sem] theorem own_26_6 : cfg.own 26 6 = false := by rfl
@[go_sem] theorem own_27_37 : cfg.own 27 37 = false := by rfl
@[go_sem] theorem own_29_7 : cfg.own 29 7 = false := by rfl
@[go_sem] theorem own_31_8 : cfg.own 31 8 = false := by rfl
@[go_sem] theorem own_31_10 : cfg.own 31 10 = false := by rfl
@[go_sem] theorem own_35_18 : cfg.own 35 18 = false := by rfl
@[go_sem] theorem own_35_23 : cfg.own 35 23 = false := by rfl
@[go_sem] theorem own_35_39 : cfg.own 35 39 = false := by rfl
@[go_sem] theorem own_38_10 : cfg.own 38 10 = false := by rfl
@[go_sem] theorem own_46_7 : cfg.own 46 7 = false := by rfl
@[go_sem] theorem own_52_30 : cfg.own 52 30 = false := by rfl
@[go_sem] theorem own_52_47 : cfg.own 52 47 = false := by rfl
@[go_sem] theorem own_52_71 : cfg.own 52 71 = false := by rfl
@[go_sem] theorem own_52_105 : cfg.own 52 105 = false := by rfl
@[go_sem] theorem own_52_112 : cfg.own 52 112 = false := by rfl
@[go_sem] theorem own_52_137 : cfg.own 52 137 = false := by rfl
end Go.Proofs.YtdjdgnabcecdlaaDoor.X
