/- What functions answer, and the plain laws behind it. -/
import Derived.Test.YtmocnnknnbalkaaGreatDoorKAC
/- What functions compute: small numbers as texts, and back. -/
set_option linter.unusedSimpArgs false
set_option linter.unusedVariables false
set_option maxHeartbeats 8000000
set_option maxRecDepth 100000
namespace Go.Proofs.YtmocnnknnbalkaaGreatDoor.X
open Go Go.Proofs
@[go_sem] theorem c_itoa (n : Int) (h0 : 0 ≤ n) (h1 : n < 100) : KP 25 [I n] [] = some (S (dgt n), [], []) := by
  refine KK_prim rfl ?_
  simp [itoaP, h0, h1]
theorem c_atoi (n : Int) (h0 : 0 ≤ n) (h1 : n < 100) : KP 105 [S (dgt n)] [] = some (.tup [I n, .i (.v .nilIface)], [], []) := by
  refine KK_prim rfl ?_
  have h2 : Lib.atoi (dgt n) = some n := by
    have h := dec2_atoi (show n.toNat < 100 by omega)
    have e : ((n.toNat : Nat) : Int) = n := by omega
    show Lib.atoi (dec2 n.toNat) = some n
    rw [← e]
    exact h
  have h3 : (ByteArray.mk (dgt n).toArray).size ≤ 18 := by rw [bs_size]; have := (dec2_len (n := n.toNat)).2; show (dec2 n.toNat).length ≤ 18; omega
  show (if (ByteArray.mk (dgt n).toArray).size ≤ 18 then (Lib.atoi (dgt n)).map _ else none) = _
  rw [if_pos h3, h2]
  rfl
end Go.Proofs.YtmocnnknnbalkaaGreatDoor.X

/- What functions compute: numbers, edges and graphs as texts. -/
set_option linter.unusedSimpArgs false
set_option linter.unusedVariables false
set_option maxHeartbeats 8000000
set_option maxRecDepth 100000
namespace Go.Proofs.YtmocnnknnbalkaaGreatDoor.X
open Go Go.Proofs
theorem wr8 {n : Int} (h1 : 0 ≤ n) (h2 : n < 256) : IntKind.u8.wrap n = n := by rw [IntKind.wrap_u8]; omega
theorem dig_mod {k : Nat} : ((k : Int)).tmod 10 = ((k % 10 : Nat) : Int) := by rw [Int.tmod_eq_emod_of_nonneg (by omega)]; omega
theorem dig_div {k : Nat} : ((k : Int)).tdiv 10 = ((k / 10 : Nat) : Int) := by rw [Int.tdiv_eq_ediv_of_nonneg (by omega)]; omega
theorem dig_48 {k : Nat} : (48 + (k : Int)).toNat = 48 + k := by omega
theorem dgt_lo {k : Nat} (h : k < 10) : dgt (k : Int) = [UInt8.ofNat (48 + k % 10)] := by
  show dec2 ((k : Int)).toNat = _
  rw [Int.toNat_natCast, dec2, if_pos h, Nat.mod_eq_of_lt h]
theorem dgt_hi {k : Nat} (h : ¬ k < 10) (h2 : k < 100) : dgt (k : Int) = [UInt8.ofNat (48 + k / 10 % 10), UInt8.ofNat (48 + k % 10)] := by
  show dec2 ((k : Int)).toNat = _
  rw [Int.toNat_natCast, dec2, if_neg h, Nat.mod_eq_of_lt (show k / 10 < 10 by omega)]
theorem c_dyNumbers (xs : List Int) (hs : smallL xs) (hl : xs.length ≤ 1000) : KP 9 [LI xs] [] = some (S (numsT xs), [], []) := by
  refine xw_call (fn := Tryz.f9) rfl Tryz.func9 rfl ⟨Nat.le_of_ble_eq_true rfl, rfl, rfl⟩ ?_
  repeat'(first|(refine na ?_;constructor)|(refine ite_two ?_ ?_<;>intro _<;>first|(exfalso;omega)|skip)|refine ord_split (by kernel_rfl) ?_|((first|(refine nb ?_;constructor)|refine pn rfl ?_|refine pe rfl ?_|((first|refine at2 ?_|refine at_cond ?_);split<;>first|(exfalso;omega;done)|skip))<;>try simp(config:={maxSteps:=3000000})(disch:=first|assumption|omega|exact VG.okg (by assumption)|(simp only[List.length_set,List.length_append,List.length_cons,List.length_nil,List.length_replicate];omega))only[go_sem,simprocAttr,Tryz.results9]))
  refine xw_loopR (fun (i : Int) s => s.ρ 0 = LI xs ∧ s.ρ 3 = S (numsT (xs.take i.toNat)) ∧ s.ρ 4 = I i ∧ 0 ≤ i ∧ i ≤ xs.length) (fun i => (xs.length - i).toNat) 0 ?_ ?_
  · refine ⟨rfl, ?_, rfl, by omega, by omega⟩
    simp [upd, numsT]
  rintro i ⟨ρ, m⟩ ⟨h0, h3, h4, g0, g1⟩
  simp only at h0 h3 h4 g0 g1
  have hnl := numsT_len (xs.take i.toNat)
  rw [List.length_take] at hnl
  by_cases hi : i < xs.length
  rotate_left
  · rw [take_all (by omega)] at h3
    repeat'(first|(refine na ?_;constructor)|(refine ite_two ?_ ?_<;>intro _<;>first|(exfalso;omega)|skip)|refine ord_split (by kernel_rfl) ?_|((first|(refine nb ?_;constructor)|refine pn rfl ?_|refine pe rfl ?_|((first|refine at2 ?_|refine at_cond ?_);split<;>first|(exfalso;omega;done)|skip))<;>try simp(config:={maxSteps:=3000000})(disch:=first|assumption|omega|exact VG.okg (by assumption)|(simp only[List.length_set,List.length_append,List.length_cons,List.length_nil,List.length_replicate];omega))only[go_sem,simprocAttr,Tryz.results9, h0, h3, h4]))
  have hgi := getI xs i.toNat (by omega)
  have hsm := hs _ (getD_mem (d := 0) (show i.toNat < xs.length by omega))
  have hnx : numsT (xs.take (i + 1).toNat) = numsT (xs.take i.toNat) ++ 32 :: dgt (xs.getD i.toNat 0) := by
    rw [take_int 0 g0 hi, numsT_snoc]
  generalize numsT (xs.take i.toNat) = T at *
  obtain ⟨k, hk⟩ := Int.eq_ofNat_of_zero_le hsm.1
  rw [hk] at hsm hgi hnx
  have hk2 : k < 100 := by omega
  repeat'(first|(refine na ?_;constructor)|(refine ite_two ?_ ?_<;>intro _<;>first|(exfalso;omega)|skip)|refine ord_split (by kernel_rfl) ?_|((first|(refine nb ?_;constructor)|refine pn rfl ?_|refine pe rfl ?_|((first|refine at2 ?_|refine at_cond ?_);split<;>first|(exfalso;omega;done)|skip))<;>try simp(config:={maxSteps:=3000000})(disch:=first|assumption|omega|exact VG.okg (by assumption)|(simp only[List.length_set,List.length_append,List.length_cons,List.length_nil,List.length_replicate];omega))only[go_sem,simprocAttr,Tryz.results9, h0, h3, h4, hgi]))
  refine xw_loopR (fun (b : Bool) s => s.ρ 0 = LI xs ∧ s.ρ 3 = S T ∧ s.ρ 4 = I i ∧ (b = false → s.ρ 5 = I k ∧ s.ρ 6 = S []) ∧ (b = true → s.ρ 5 = I ((k / 10 : Nat) : Int) ∧ s.ρ 6 = S [UInt8.ofNat (48 + k % 10)] ∧ ¬ k < 10)) (fun b => if b = true then 0 else 1) false ?_ ?_
  · refine ⟨?_, ?_, ?_, fun _ => ⟨?_, ?_⟩, fun h => by cases h⟩
    all_goals (simp [upd, h0, h3, h4]; done)
  clear h0 h3 h4
  rintro b ⟨ρ, m⟩ ⟨h0, h3, h4, hb1, hb2⟩
  simp only at h0 h3 h4 hb1 hb2
  have hmod := @dig_mod
  have hdiv := @dig_div
  have h48 := @dig_48
  cases b with
  | false =>
    obtain ⟨h5, h6⟩ := hb1 rfl
    have hw8 : IntKind.u8.wrap (48 + ((k % 10 : Nat) : Int)) = 48 + ((k % 10 : Nat) : Int) := wr8 (by omega) (by omega)
    by_cases hk1 : k < 10
    · have hd0 : k / 10 = 0 := by omega
      rw [dgt_lo hk1] at hnx
      repeat'(first|(refine na ?_;constructor)|(refine ite_two ?_ ?_<;>intro _<;>first|(exfalso;omega)|skip)|refine ord_split (by kernel_rfl) ?_|((first|(refine nb ?_;constructor)|refine pn rfl ?_|refine pe rfl ?_|((first|refine at2 ?_|refine at_cond ?_);split<;>first|(exfalso;omega;done)|skip))<;>try simp(config:={maxSteps:=3000000})(disch:=first|assumption|omega|exact VG.okg (by assumption)|(simp only[List.length_set,List.length_append,List.length_cons,List.length_nil,List.length_replicate];omega))only[go_sem,simprocAttr,Tryz.results9, h0, h3, h4, h5, h6, hmod, hdiv, h48, hw8, hd0]))
      exact ⟨i + 1, by rw [hnx]; simp, rfl, by omega, by omega, by omega⟩
    · have hd0 : ¬ ((k / 10 : Nat) : Int) = 0 := by omega
      repeat'(first|(refine na ?_;constructor)|(refine ite_two ?_ ?_<;>intro _<;>first|(exfalso;omega)|skip)|refine ord_split (by kernel_rfl) ?_|((first|(refine nb ?_;constructor)|refine pn rfl ?_|refine pe rfl ?_|((first|refine at2 ?_|refine at_cond ?_);split<;>first|(exfalso;omega;done)|skip))<;>try simp(config:={maxSteps:=3000000})(disch:=first|assumption|omega|exact VG.okg (by assumption)|(simp only[List.length_set,List.length_append,List.length_cons,List.length_nil,List.length_replicate];omega))only[go_sem,simprocAttr,Tryz.results9, h0, h3, h4, h5, h6, hmod, hdiv, h48, hw8, hd0]))
      exact ⟨true, (fun h => by cases h), fun _ => hk1, by simp⟩
  | true =>
    obtain ⟨h5, h6, hk1⟩ := hb2 rfl
    have hw8 : IntKind.u8.wrap (48 + ((k / 10 % 10 : Nat) : Int)) = 48 + ((k / 10 % 10 : Nat) : Int) := wr8 (by omega) (by omega)
    have hd0 : k / 10 / 10 = 0 := by omega
    rw [dgt_hi hk1 hk2] at hnx
    repeat'(first|(refine na ?_;constructor)|(refine ite_two ?_ ?_<;>intro _<;>first|(exfalso;omega)|skip)|refine ord_split (by kernel_rfl) ?_|((first|(refine nb ?_;constructor)|refine pn rfl ?_|refine pe rfl ?_|((first|refine at2 ?_|refine at_cond ?_);split<;>first|(exfalso;omega;done)|skip))<;>try simp(config:={maxSteps:=3000000})(disch:=first|assumption|omega|exact VG.okg (by assumption)|(simp only[List.length_set,List.length_append,List.length_cons,List.length_nil,List.length_replicate];omega))only[go_sem,simprocAttr,Tryz.results9, h0, h3, h4, h5, h6, hmod, hdiv, h48, hw8, hd0]))
    exact ⟨i + 1, by rw [hnx]; simp, rfl, by omega, by omega, by omega⟩
theorem VG.small {n : Int} {es : List (Int × Int)} (h : VG n es) : smallE es ∧ 0 ≤ n ∧ n < 100 := by
  refine ⟨fun e he => ?_, by have := h.1; omega, by have := h.2.1; omega⟩
  have h1 := h.2.2.2.1 e he
  have h2 := h.2.1
  unfold okE at h1
  omega
theorem c_edgesText (D : List UInt8) (es : List (Int × Int)) (hs : smallE es) (hD : D.length ≤ 100000) (hl : es.length ≤ 1000) : KP 24 [S D, LE es] [] = some (S (D ++ edsT es), [], []) := by
  refine xw_call (fn := Tryz.f24) rfl Tryz.func24 rfl ⟨Nat.le_of_ble_eq_true rfl, rfl, rfl⟩ ?_
  repeat'(first|(refine na ?_;constructor)|(refine ite_two ?_ ?_<;>intro _<;>first|(exfalso;omega)|skip)|refine ord_split (by kernel_rfl) ?_|((first|(refine nb ?_;constructor)|refine pn rfl ?_|refine pe rfl ?_|((first|refine at2 ?_|refine at_cond ?_);split<;>first|(exfalso;omega;done)|skip))<;>try simp(config:={maxSteps:=3000000})(disch:=first|assumption|omega|exact VG.okg (by assumption)|(simp only[List.length_set,List.length_append,List.length_cons,List.length_nil,List.length_replicate];omega))only[go_sem,simprocAttr,Tryz.results24]))
  refine xw_loopR (fun (i : Int) s => s.ρ 7 = LE es ∧ s.ρ 8 = I es.length ∧ s.ρ 0 = S (D ++ edsT (es.take i.toNat)) ∧ s.ρ 9 = I i ∧ 0 ≤ i ∧ i ≤ es.length) (fun i => (es.length - i).toNat) 0 ?_ ?_
  · refine ⟨rfl, rfl, ?_, rfl, by omega, by omega⟩
    simp [upd, edsT]
  rintro i ⟨ρ, m⟩ ⟨h7, h8, h0, h9, g0, g1⟩
  simp only at h7 h8 h0 h9 g0 g1
  have hnl := edsT_len (es.take i.toNat)
  rw [List.length_take] at hnl
  by_cases hi : i < es.length
  rotate_left
  · rw [take_all (by omega)] at h0
    repeat'(first|(refine na ?_;constructor)|(refine ite_two ?_ ?_<;>intro _<;>first|(exfalso;omega)|skip)|refine ord_split (by kernel_rfl) ?_|((first|(refine nb ?_;constructor)|refine pn rfl ?_|refine pe rfl ?_|((first|refine at2 ?_|refine at_cond ?_);split<;>first|(exfalso;omega;done)|skip))<;>try simp(config:={maxSteps:=3000000})(disch:=first|assumption|omega|exact VG.okg (by assumption)|(simp only[List.length_set,List.length_append,List.length_cons,List.length_nil,List.length_replicate];omega))only[go_sem,simprocAttr,Tryz.results24, h7, h8, h0, h9]))
  have hgi := getE es i.toNat (by omega)
  have hsm := hs _ (getD_mem (d := (0, 0)) (show i.toNat < es.length by omega))
  have hnx : edsT (es.take (i + 1).toNat) = edsT (es.take i.toNat) ++ 32 :: edT (es.getD i.toNat (0, 0)) := by
    rw [take_int (0, 0) g0 hi, edsT_snoc]
  generalize edsT (es.take i.toNat) = T at *
  generalize es.getD i.toNat (0, 0) = e at hgi hsm hnx
  obtain ⟨a, b⟩ := e
  simp only at hgi hsm
  have hta := c_itoa a hsm.1.1 hsm.1.2
  have htb := c_itoa b hsm.2.1 hsm.2.2
  have la : 1 ≤ (dgt a).length ∧ (dgt a).length ≤ 2 := dec2_len (n := a.toNat)
  have lb : 1 ≤ (dgt b).length ∧ (dgt b).length ≤ 2 := dec2_len (n := b.toNat)
  unfold edT at hnx
  simp only at hnx
  generalize dgt a = A at *
  generalize dgt b = B' at *
  repeat'(first|(refine na ?_;constructor)|(refine ite_two ?_ ?_<;>intro _<;>first|(exfalso;omega)|skip)|refine ord_split (by kernel_rfl) ?_|((first|(refine nb ?_;constructor)|refine pn rfl ?_|refine pe rfl ?_|((first|refine at2 ?_|refine at_cond ?_);split<;>first|(exfalso;omega;done)|skip))<;>try simp(config:={maxSteps:=3000000})(disch:=first|assumption|omega|exact VG.okg (by assumption)|(simp only[List.length_set,List.length_append,List.length_cons,List.length_nil,List.length_replicate];omega))only[go_sem,simprocAttr,Tryz.results24, h7, h8, h0, h9, hgi, hta, htb]))
  exact ⟨i + 1, by rw [hnx]; simp, rfl, by omega, by omega, by omega⟩
theorem c_FormatGraph (n : Int) (es : List (Int × Int)) (hl : es.length ≤ 1048576) : KP 12 [GL n es] [] = some (S (if VG n es then fmtG n es else []), [], []) := by
  have hgv := c_GraphValid n es hl
  by_cases hV : VG n es
  rotate_left
  · rw [if_neg hV]
    rw [decide_eq_false hV] at hgv
    refine xw_call (fn := Tryz.f12) rfl Tryz.func12 rfl ⟨Nat.le_of_ble_eq_true rfl, rfl, rfl⟩ ?_
    repeat'(first|(refine na ?_;constructor)|(refine ite_two ?_ ?_<;>intro _<;>first|(exfalso;omega)|skip)|refine ord_split (by kernel_rfl) ?_|((first|(refine nb ?_;constructor)|refine pn rfl ?_|refine pe rfl ?_|((first|refine at2 ?_|refine at_cond ?_);split<;>first|(exfalso;omega;done)|skip))<;>try simp(config:={maxSteps:=3000000})(disch:=first|assumption|omega|exact VG.okg (by assumption)|(simp only[List.length_set,List.length_append,List.length_cons,List.length_nil,List.length_replicate];omega))only[go_sem,simprocAttr,Tryz.results12, hgv]))
  rw [if_pos hV]
  rw [decide_eq_true hV] at hgv
  obtain ⟨hs, n0, n1⟩ := hV.small
  have hel := hV.2.2.1
  have hd := c_itoa n n0 n1
  have ln : 1 ≤ (dgt n).length ∧ (dgt n).length ≤ 2 := dec2_len (n := n.toNat)
  have het := c_edgesText (dgt n) es hs (by omega) (by omega)
  unfold fmtG
  generalize dgt n = D at *
  refine xw_call (fn := Tryz.f12) rfl Tryz.func12 rfl ⟨Nat.le_of_ble_eq_true rfl, rfl, rfl⟩ ?_
  repeat'(first|(refine na ?_;constructor)|(refine ite_two ?_ ?_<;>intro _<;>first|(exfalso;omega)|skip)|refine ord_split (by kernel_rfl) ?_|((first|(refine nb ?_;constructor)|refine pn rfl ?_|refine pe rfl ?_|((first|refine at2 ?_|refine at_cond ?_);split<;>first|(exfalso;omega;done)|skip))<;>try simp(config:={maxSteps:=3000000})(disch:=first|assumption|omega|exact VG.okg (by assumption)|(simp only[List.length_set,List.length_append,List.length_cons,List.length_nil,List.length_replicate];omega))only[go_sem,simprocAttr,Tryz.results12, hgv, hd, het]))
end Go.Proofs.YtmocnnknnbalkaaGreatDoor.X
