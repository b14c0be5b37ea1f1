/- What functions answer, and the plain laws behind it. -/
import Derived.Test.YtnaaceooknghjaaGreatDoorPrimS
import Derived.Test.YtnaaceooknghjaaGreatDoorShelf
import Derived.Test.YtnaaceooknghjaaGreatDoorInsW
import Derived.WalkKit
import Derived.ProofKit
import Derived.OwnWalk
set_option linter.unusedVariables false
namespace Go.Proofs.YtnaaceooknghjaaGreatDoor.X
open Go Go.Proofs Go.RowKit Tryz
set_option maxRecDepth 100000 in
theorem jzn (ao:Option Addr) (cap:Nat) (w:World):Calls prog 133 #[.slice ao 0 cap] w fun e w'=>∃a',e=.returned (.slice a' 0 0)∧Below w.heap.size w w':=by
 have he:∀w,(binOp .eql 30 (.slice ao 0 cap) (.slice none 0 0)).run prog w=.ok (.bool ao.isNone) w:=fun w=>jd9 ao 0 cap underlying30 w
 cases ao with
 | none=>
  simp only[Option.isNone_none] at he
  go_enter func133,Tryz.ntmps133
  go_wp2
  go_ret
  exact⟨_,rfl,Below.refl _ _⟩
 | some a=>
  simp only[Option.isNone_some] at he
  go_enter func133,Tryz.ntmps133
  go_wp2
  go_ret
  exact⟨_,rfl,(Below.refl _ _).alloc (Nat.le_refl _) _⟩
set_option maxRecDepth 100000 in
theorem jzo (ao:Option Addr) (cap:Nat) (w:World):Calls prog 135 #[.slice ao 0 cap] w fun e w'=>∃a',e=.returned (.slice a' 0 0)∧Below w.heap.size w w':=by
 have he:∀w,(binOp .eql 31 (.slice ao 0 cap) (.slice none 0 0)).run prog w=.ok (.bool ao.isNone) w:=fun w=>jd9 ao 0 cap underlying31 w
 cases ao with
 | none=>
  simp only[Option.isNone_none] at he
  go_enter func135,Tryz.ntmps135
  go_wp2
  go_ret
  exact⟨_,rfl,Below.refl _ _⟩
 | some a=>
  simp only[Option.isNone_some] at he
  go_enter func135,Tryz.ntmps135
  go_wp2
  go_ret
  exact⟨_,rfl,(Below.refl _ _).alloc (Nat.le_refl _) _⟩
set_option maxRecDepth 100000 in
theorem jzp (ao:Option Addr) (cap:Nat) (w:World):Calls prog 198 #[.slice ao 0 cap] w fun e w'=>∃a',e=.returned (.slice a' 0 0)∧Below w.heap.size w w':=by
 have he:∀w,(binOp .eql 27 (.slice ao 0 cap) (.slice none 0 0)).run prog w=.ok (.bool ao.isNone) w:=fun w=>jd9 ao 0 cap underlying27 w
 cases ao with
 | none=>
  simp only[Option.isNone_none] at he
  go_enter func198,Tryz.ntmps198
  go_wp2
  go_ret
  exact⟨_,rfl,Below.refl _ _⟩
 | some a=>
  simp only[Option.isNone_some] at he
  go_enter func198,Tryz.ntmps198
  go_wp2
  go_ret
  exact⟨_,rfl,(Below.refl _ _).alloc (Nat.le_refl _) _⟩
theorem prims_ok:CallOK prog (primC cfg):=by
 intro f args ps r ps' own h hps
 have h0:primC cfg f args ps=some (r,ps',own):=h
 simp only[primC,cfg] at h0
 by_cases h57:f=57
 ·rw[if_pos h57] at h0
  subst h57
  exact⟨enters_of func57 rfl rfl,fun γ F w vals hi hl hv=>kfk Tryz.strings_Count_one h0 hi hl hv⟩
 rw[if_neg h57] at h0
 by_cases h113:f=113
 ·rw[if_pos h113] at h0
  subst h113
  exact⟨enters_of func113 rfl rfl,fun γ F w vals hi hl hv=>j83 (fun n h0 h1 w hw=>(Tryz.strconv_Itoa n h0 h1 w hw.pow).mono fun e w' he=>⟨he.1,by obtain⟨_,k,os,rfl⟩:=he;exact j6q _ _ _⟩) h0 hi hl hv⟩
 rw[if_neg h113] at h0
 by_cases h129:f=129
 ·rw[if_pos h129] at h0
  subst h129
  exact⟨enters_of func129 rfl rfl,fun γ F w vals hi hl hv=>j6o (fun s v hs h w=>(Any.strconv_Atoi_ok Tryz.laysC172 s (by omega) v h w).mono fun e w' he=>⟨he.1,by obtain⟨_,h | ⟨t,h⟩⟩:=he<;>subst h;exact Below.refl _ _;exact Lib.bytesWorld_below _ _ _⟩)
   (fun s hs hno hnr w hw=>by obtain⟨tp,p,hv⟩:=hw.syn;exact(Any.strconv_Atoi_syntax_var Tryz.laysC172 s (by omega) (by cases hq:Lib.atoiAll s.data.toList with|ok v=>exact absurd hq (hno v)|range=>exact absurd hq hnr|_=>rfl) tp p w hv).mono fun e w' he=>by obtain⟨N,rfl,_,_,hb⟩:=he;exact⟨⟨_,_,rfl⟩,hb⟩)
   (fun s hs hr w hw=>by obtain⟨tp,p,hv⟩:=hw.rng;exact(Any.strconv_Atoi_range_var Tryz.laysC172 s (by omega) hr tp p w hv).mono fun e w' he=>by obtain⟨N,rfl,_,_,hb⟩:=he;exact⟨⟨_,_,rfl⟩,hb⟩) h0 hi hl hv⟩
 rw[if_neg h129] at h0
 by_cases h132:f=132
 ·rw[if_pos h132] at h0
  subst h132
  exact⟨enters_of func132 rfl rfl,fun γ F w vals hi hl hv=>j4y (by decide) jr7 jr4 h0 hi hl hv⟩
 rw[if_neg h132] at h0
 by_cases h133:f=133
 ·rw[if_pos h133] at h0
  subst h133
  exact⟨enters_of func133 rfl rfl,fun γ F w vals hi hl hv=>jpb jzn h0 hi hl hv⟩
 rw[if_neg h133] at h0
 by_cases h134:f=134
 ·rw[if_pos h134] at h0
  subst h134
  exact⟨enters_of func134 rfl rfl,fun γ F w vals hi hl hv=>j4y (by decide) jr8 jr5 h0 hi hl hv⟩
 rw[if_neg h134] at h0
 by_cases h135:f=135
 ·rw[if_pos h135] at h0
  subst h135
  exact⟨enters_of func135 rfl rfl,fun γ F w vals hi hl hv=>jpb jzo h0 hi hl hv⟩
 rw[if_neg h135] at h0
 by_cases h177:f=177
 ·rw[if_pos h177] at h0
  subst h177
  exact⟨enters_of func177 rfl rfl,fun γ F w vals hi hl hv=>kfw Tryz.stringslite_IndexByte h0 hi hl hv⟩
 rw[if_neg h177] at h0
 by_cases h197:f=197
 ·rw[if_pos h197] at h0
  subst h197
  exact⟨enters_of func197 rfl rfl,fun γ F w vals hi hl hv=>j4y (by decide) jr9 jr6 h0 hi hl hv⟩
 rw[if_neg h197] at h0
 by_cases h198:f=198
 ·rw[if_pos h198] at h0
  subst h198
  exact⟨enters_of func198 rfl rfl,fun γ F w vals hi hl hv=>jpb jzp h0 hi hl hv⟩
 rw[if_neg h198] at h0
 by_cases h207:f=207
 ·rw[if_pos h207] at h0
  subst h207
  exact⟨enters_of func207 rfl rfl,fun γ F w vals hi hl hv=>kd7 Tryz.slices_Sort_int Tryz.slices_Sort_int_none h0 hi hl hv⟩
 rw[if_neg h207] at h0
 by_cases h236:f=236
 ·rw[if_pos h236] at h0
  subst h236
  exact⟨enters_of func236 rfl rfl,fun γ F w vals hi hl hv=>kf2 Tryz.bits_Mul h0 hi hl hv⟩
 rw[if_neg h236] at h0
 cases h0
theorem KP_ok:CallOK prog KP:=kg4 (by kernel_rfl) prims_ok
end Go.Proofs.YtnaaceooknghjaaGreatDoor.X
