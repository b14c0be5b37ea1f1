/- The law: scripts tell chains. -/
import Derived.Test.YtmocnnknnbalkaaGreatDoorKAQ
import Derived.Test.YtmocnnknnbalkaaGreatDoorKAO
set_option linter.unusedSimpArgs false
set_option linter.unusedVariables false
set_option maxHeartbeats 8000000
set_option maxRecDepth 100000
namespace Go.Proofs.YtmocnnknnbalkaaGreatDoor.X
open Go Go.Proofs
/-- Two orders, the first one with a long answer. -/
theorem script2L {n : Int} {es : List (Int × Int)} (hV : VG n es) {w1 t1 w2 t2 : List UInt8} (h10 : (10 : UInt8) ∉ w1) (hne : w1 ≠ []) (hl : w1.length ≤ 1000) (ht : t1.length ≤ 39990) (h10' : (10 : UInt8) ∉ w2) (hne' : w2 ≠ []) (hl' : w2.length ≤ 1000) (ht' : t2.length ≤ 30000)
    {n' : Int} {x' y' z' : IV} {n'' : Int} {x'' y'' z'' : IV}
    (h : LineOK w1 n (exI es.length (ldT es)) (eyI es.length (ldT es)) (ezI es.length (ldT es)) t1 n' x' y' z') (h' : LineOK w2 n' x' y' z' t2 n'' x'' y'' z'') :
    KP 11 [S (103 :: 114 :: 97 :: 112 :: 104 :: 32 :: (fmtG n es ++ 10 :: (w1 ++ 10 :: (w2 ++ [10]))))] [] = some (S (111 :: 107 :: 10 :: (t1 ++ t2)), [], []) := by
  have hel := hV.2.2.1
  have hlen := fmtG_len n es
  have e : (103 :: 114 :: 97 :: 112 :: 104 :: 32 :: (fmtG n es ++ 10 :: (w1 ++ 10 :: (w2 ++ [10]))) : List UInt8) = (([103, 114, 97, 112, 104, 32] : List UInt8) ++ fmtG n es) ++ 10 :: (w1 ++ 10 :: (w2 ++ 10 :: [])) := by simp
  have hp : pcs 10 ((([103, 114, 97, 112, 104, 32] : List UInt8) ++ fmtG n es) ++ 10 :: (w1 ++ 10 :: (w2 ++ 10 :: []))) = [([103, 114, 97, 112, 104, 32] : List UInt8) ++ fmtG n es, w1, w2, []] := by
    rw [pcs_app _ (gr_no hV), pcs_app _ h10, pcs_app _ h10']; rfl
  rw [e]
  refine c_RunScript _ _ _ hp (by simp only [List.length_append, List.length_cons, List.length_nil]; omega) (by simp) ?_
  exact .line (by simp) (by simp) (by simp) (gr_line hV) (.line hne (by simp) (by omega) h (.line hne' (by simp; omega) (by omega) h' (.skip .nil)))
theorem c_DrawChainsOf (bs : List Int) (hb : ∀ b ∈ bs, 0 ≤ b ∧ b < 256) (hl : bs.length ≤ 1000000000) :
    ∃ (n : Int) (es : List (Int × Int)), 0 ≤ n ∧ n ≤ 17 ∧ es.length ≤ 40 ∧ KP 4 [LB bs] [] = some (GL n es, [], []) := by
  obtain ⟨n, es, h1, h2, h3, h4⟩ := c_DrawGraphValid bs hb hl
  refine ⟨n, es, h1, h2, h3, xw_call (fn := Tryz.f4) rfl Tryz.func4 rfl ⟨Nat.le_of_ble_eq_true rfl, rfl, rfl⟩ ?_⟩
  repeat'(first|(refine na ?_;constructor)|(refine ite_two ?_ ?_<;>intro _<;>first|(exfalso;omega)|skip)|refine ord_split (by kernel_rfl) ?_|((first|(refine nb ?_;constructor)|refine pn rfl ?_|refine pe rfl ?_|((first|refine at2 ?_|refine at_cond ?_);split<;>first|(exfalso;omega;done)|skip))<;>try simp(config:={maxSteps:=3000000})(disch:=first|assumption|omega|exact VG.okg (by assumption)|(simp only[List.length_set,List.length_append,List.length_cons,List.length_nil,List.length_replicate];omega))only[go_sem,simprocAttr,Tryz.results4, h4]))
theorem law_ScriptChains (bs : List Int) (hb : ∀ b ∈ bs, 0 ≤ b ∧ b < 256) : KP 3 [LB bs] [] = some (B true, [], []) := by
  by_cases hbig : (1048576 : Int) < bs.length
  · refine xw_call (fn := Tryz.f3) rfl Tryz.func3 rfl ⟨Nat.le_of_ble_eq_true rfl, rfl, rfl⟩ ?_
    repeat'(first|(refine na ?_;constructor)|(refine ite_two ?_ ?_<;>intro _<;>first|(exfalso;omega)|skip)|refine ord_split (by kernel_rfl) ?_|((first|(refine nb ?_;constructor)|refine pn rfl ?_|refine pe rfl ?_|((first|refine at2 ?_|refine at_cond ?_);split<;>first|(exfalso;omega;done)|skip))<;>try simp(config:={maxSteps:=3000000})(disch:=first|assumption|omega|exact VG.okg (by assumption)|(simp only[List.length_set,List.length_append,List.length_cons,List.length_nil,List.length_replicate];omega))only[go_sem,simprocAttr,Tryz.results3]))
  obtain ⟨n, es, n0, n1, hl, hdraw⟩ := c_DrawChainsOf bs hb (by omega)
  have hp := c_ChainsOf n es (by omega)
  have hs := c_sChainsOf n es (by omega)
  have hg := c_GraphValid n es (by omega)
  by_cases hV : VG n es
  rotate_left
  · rw [if_neg hV] at hp hs
    rw [decide_eq_false hV] at hg
    have hd := c_dyListsA_nil
    refine xw_call (fn := Tryz.f3) rfl Tryz.func3 rfl ⟨Nat.le_of_ble_eq_true rfl, rfl, rfl⟩ ?_
    repeat'(first|(refine na ?_;constructor)|(refine ite_two ?_ ?_<;>intro _<;>first|(exfalso;omega)|skip)|refine ord_split (by kernel_rfl) ?_|((first|(refine nb ?_;constructor)|refine pn rfl ?_|refine pe rfl ?_|((first|refine at2 ?_|refine at_cond ?_);split<;>first|(exfalso;omega;done)|skip))<;>try simp(config:={maxSteps:=3000000})(disch:=first|assumption|omega|exact VG.okg (by assumption)|(simp only[List.length_set,List.length_append,List.length_cons,List.length_nil,List.length_replicate];omega))only[go_sem,simprocAttr,Tryz.results3, hdraw, hp, hs, hg, hd, List.map_nil]))
  rw [if_pos hV] at hp hs
  rw [decide_eq_true hV] at hg
  have hf := c_FormatGraph n es (by omega)
  rw [if_pos hV] at hf
  have hn16 := hV.2.1
  have hel := hV.2.2.1
  have hld := ld hV
  have hV' : VG n (esT (ldT es)) := by rw [hld.es']; exact hV
  have h1 := line_word _ (by decide) (by simp) (c_wl_chains n _ _ _ (ldT es) (ld3 hV) hV')
  have h2 := line_word _ (by decide) (by simp) (c_wl_safe n _ _ _ (ldT es) (ld3 hV) hV')
  rw [hld.es'] at h1 h2
  obtain ⟨hsk, hk⟩ := chains_small hV
  have hsp := c_SafeParts n es (by omega)
  rw [if_pos hV] at hsp
  have hin : ∀ v ∈ lab n (bare es), 0 ≤ v ∧ v < n := fun v hv => by
    rw [lab_map] at hv
    obtain ⟨i, hi, rfl⟩ := List.mem_map.1 hv
    have := lbl_spec (es := bare es) (mem_iota.1 hi)
    exact this.1
  have hcl : (lab n (bare es)).length ≤ 16 := by rw [lab_length]; omega
  have hdn := c_dyNumbers (lab n (bare es)) (small_in hn16 hin) (by omega)
  have l6 := numsT_len (lab n (bare es))
  have l4 := fmtG_len n es
  have hd := c_dyListsA (chainsL n es) (chainsL n es) (by omega) (fun p hp => by have := (hsk p hp).2; omega)
  generalize chainsL n es = ps at *
  generalize lab n (bare es) = Sf at *
  have hb1 := fun k : Nat => linesT_len [99, 104, 97, 105, 110] 18 (ps.take k) (fun p hp => (hsk p (List.mem_of_mem_take hp)).2)
  have hb2 : ∀ k : Nat, (linesT [99, 104, 97, 105, 110] (ps.take k)).length ≤ 640 * 60 := fun k => Nat.le_trans (hb1 k) (Nat.mul_le_mul (by rw [List.length_take]; omega) (by simp))
  have hb3 := hb2 ps.length
  rw [List.take_length] at hb3
  have hr := script2L hV (by decide) (by simp) (by simp) (by simp only [List.length_append, List.length_cons, List.length_nil]; omega) (by decide) (by simp) (by simp) (by simp; omega) h1 h2
  have hdp : ∀ p ∈ ps, KP 9 [LI p] [] = some (S (numsT p), [], []) := fun p hp => c_dyNumbers p (hsk p hp).1 (by have := (hsk p hp).2; omega)
  generalize fmtG n es = F at *
  generalize numsT Sf = M at *
  have e1 : (103 :: 114 :: 97 :: 112 :: 104 :: 32 :: (F ++ 10 :: ([99, 104, 97, 105, 110, 115] ++ 10 :: ([115, 97, 102, 101] ++ [10]))) : List UInt8) = 103 :: 114 :: 97 :: 112 :: 104 :: 32 :: (F ++ [10, 99, 104, 97, 105, 110, 115, 10, 115, 97, 102, 101, 10]) := by simp
  have e2 : (111 :: 107 :: 10 :: (linesT [99, 104, 97, 105, 110] ps ++ [101, 110, 100, 10] ++ ([115, 97, 102, 101] ++ M ++ [10])) : List UInt8) = 111 :: 107 :: 10 :: (linesT [99, 104, 97, 105, 110] ps ++ [101, 110, 100, 10] ++ 115 :: 97 :: 102 :: 101 :: (M ++ [10])) := by simp
  rw [e1, e2] at hr
  refine xw_call (fn := Tryz.f3) rfl Tryz.func3 rfl ⟨Nat.le_of_ble_eq_true rfl, rfl, rfl⟩ ?_
  repeat'(first|(refine na ?_;constructor)|(refine ite_two ?_ ?_<;>intro _<;>first|(exfalso;omega)|skip)|refine ord_split (by kernel_rfl) ?_|((first|(refine nb ?_;constructor)|refine pn rfl ?_|refine pe rfl ?_|((first|refine at2 ?_|refine at_cond ?_);split<;>first|(exfalso;omega;done)|skip))<;>try simp(config:={maxSteps:=3000000})(disch:=first|assumption|omega|exact VG.okg (by assumption)|(simp only[List.length_set,List.length_append,List.length_cons,List.length_nil,List.length_replicate];omega))only[go_sem,simprocAttr,Tryz.results3, hdraw, hp, hs, hg, hd, decide_true]))
  refine xw_loopR (fun (i : Int) s => s.m 3 = some (.box 0 [I n, LE es]) ∧ s.ρ 3 = .ptr 3 0 0 0 ∧ s.ρ 4 = LL ps ∧ s.ρ 5 = S (linesT [99, 104, 97, 105, 110] (ps.take i.toNat)) ∧ s.ρ 6 = I i ∧ 0 ≤ i ∧ i ≤ ps.length) (fun i => (ps.length - i).toNat) 0 ?_ ?_
  · refine ⟨?_, ?_, ?_, ?_, ?_, by omega, by omega⟩
    all_goals (simp [upd, linesT]; done)
  rintro i ⟨ρ, m⟩ ⟨m3, e3, e4, e5, e6, g0, g1⟩
  simp only at m3 e3 e4 e5 e6 g0 g1
  have hbi := hb2 i.toNat
  by_cases hi : i < ps.length
  rotate_left
  · rw [take_all (by omega)] at e5 hbi
    repeat'(first|(refine na ?_;constructor)|(refine ite_two ?_ ?_<;>intro _<;>first|(exfalso;omega)|skip)|refine ord_split (by kernel_rfl) ?_|((first|(refine nb ?_;constructor)|refine pn rfl ?_|refine pe rfl ?_|((first|refine at2 ?_|refine at_cond ?_);split<;>first|(exfalso;omega;done)|skip))<;>try simp(config:={maxSteps:=3000000})(disch:=first|assumption|omega|exact VG.okg (by assumption)|(simp only[List.length_set,List.length_append,List.length_cons,List.length_nil,List.length_replicate];omega))only[go_sem,simprocAttr,Tryz.results3, m3, e3, e4, e5, e6, hf, hsp, hdn, hr]))
  have hm := getD_mem (d := []) (show i.toNat < ps.length by omega)
  have hgi : (ps.map encL)[i.toNat]? = some [.lst ((ps.getD i.toNat []).map encI)] := by
    have : i.toNat < ps.length := by omega
    simp [encL, this]
  have hnx : linesT [99, 104, 97, 105, 110] (ps.take (i + 1).toNat) = linesT [99, 104, 97, 105, 110] (ps.take i.toNat) ++ ([99, 104, 97, 105, 110] ++ numsT (ps.getD i.toNat []) ++ [10]) := by
    rw [take_int [] g0 hi, linesT_snoc]
  have hdn' := hdp _ hm
  have hl7 := numsT_len (ps.getD i.toNat [])
  have hl8 := (hsk _ hm).2
  generalize linesT [99, 104, 97, 105, 110] (ps.take i.toNat) = T at *
  generalize ps.getD i.toNat [] = p at *
  generalize numsT p = Q at *
  repeat'(first|(refine na ?_;constructor)|(refine ite_two ?_ ?_<;>intro _<;>first|(exfalso;omega)|skip)|refine ord_split (by kernel_rfl) ?_|((first|(refine nb ?_;constructor)|refine pn rfl ?_|refine pe rfl ?_|((first|refine at2 ?_|refine at_cond ?_);split<;>first|(exfalso;omega;done)|skip))<;>try simp(config:={maxSteps:=3000000})(disch:=first|assumption|omega|exact VG.okg (by assumption)|(simp only[List.length_set,List.length_append,List.length_cons,List.length_nil,List.length_replicate];omega))only[go_sem,simprocAttr,Tryz.results3, m3, e3, e4, e5, e6, hgi, hdn']))
  exact ⟨i + 1, by rw [hnx]; simp, rfl, by omega, by omega, by omega⟩
end Go.Proofs.YtmocnnknnbalkaaGreatDoor.X
