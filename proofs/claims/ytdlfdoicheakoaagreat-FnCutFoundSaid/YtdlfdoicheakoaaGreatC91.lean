/- What functions compute: whether a graph with levels is valid, as the reference has it. -/
import Derived.Test.YtdlfdoicheakoaaGreatKAN
import Derived.Test.YtdlfdoicheakoaaGreatKAK
set_option linter.unusedSimpArgs false
set_option linter.unusedVariables false
set_option maxHeartbeats 8000000
set_option maxRecDepth 100000
namespace Go.Proofs.YtdlfdoicheakoaaGreat.X
open Go Go.Proofs
theorem c_l7Ints (xs ys : List Int) (h1 : xs.length ≤ 1000) (h2 : ys.length ≤ 1000) : KP 50 [LI xs, LI ys] [] = some (B (decide (xs = ys)), [], []) := by
  by_cases hl : (xs.length : Int) = ys.length
  rotate_left
  · have hne : xs ≠ ys := fun h => hl (by rw [h])
    rw [decide_eq_false hne]
    refine xw_call (fn := Tryz.f50) rfl Tryz.func50 rfl ⟨Nat.le_of_ble_eq_true rfl, rfl, rfl⟩ ?_
    repeat'(first|(refine na ?_;constructor)|(refine ite_two ?_ ?_<;>intro _<;>first|(exfalso;omega)|skip)|refine ord_split (by kernel_rfl) ?_|((first|(refine nb ?_;constructor)|refine pn rfl ?_|refine pe rfl ?_|((first|refine at2 ?_|refine at_cond ?_);split<;>first|(exfalso;omega;done)|skip))<;>try simp(config:={maxSteps:=3000000})(disch:=first|assumption|omega|exact VG.okg (by assumption)|(simp only[List.length_set,List.length_append,List.length_cons,List.length_nil,List.length_replicate];omega))only[go_sem,simprocAttr,Tryz.results50, hl]))
  refine xw_call (fn := Tryz.f50) rfl Tryz.func50 rfl ⟨Nat.le_of_ble_eq_true rfl, rfl, rfl⟩ ?_
  repeat'(first|(refine na ?_;constructor)|(refine ite_two ?_ ?_<;>intro _<;>first|(exfalso;omega)|skip)|refine ord_split (by kernel_rfl) ?_|((first|(refine nb ?_;constructor)|refine pn rfl ?_|refine pe rfl ?_|((first|refine at2 ?_|refine at_cond ?_);split<;>first|(exfalso;omega;done)|skip))<;>try simp(config:={maxSteps:=3000000})(disch:=first|assumption|omega|exact VG.okg (by assumption)|(simp only[List.length_set,List.length_append,List.length_cons,List.length_nil,List.length_replicate];omega))only[go_sem,simprocAttr,Tryz.results50, hl]))
  refine xw_loopR (fun (i : Int) s => s.ρ 0 = LI xs ∧ s.ρ 1 = LI ys ∧ s.ρ 5 = I i ∧ 0 ≤ i ∧ i ≤ xs.length ∧ xs.take i.toNat = ys.take i.toNat) (fun i => (xs.length - i).toNat) 0 ⟨rfl, rfl, rfl, by omega, by omega, by simp⟩ ?_
  rintro i ⟨ρ, m⟩ ⟨e0, e1, e5, g0, g1, hp⟩
  simp only at e0 e1 e5 g0 g1 hp
  by_cases hi : i < xs.length
  rotate_left
  · rw [take_all (by omega), take_all (by omega)] at hp
    rw [decide_eq_true hp]
    repeat'(first|(refine na ?_;constructor)|(refine ite_two ?_ ?_<;>intro _<;>first|(exfalso;omega)|skip)|refine ord_split (by kernel_rfl) ?_|((first|(refine nb ?_;constructor)|refine pn rfl ?_|refine pe rfl ?_|((first|refine at2 ?_|refine at_cond ?_);split<;>first|(exfalso;omega;done)|skip))<;>try simp(config:={maxSteps:=3000000})(disch:=first|assumption|omega|exact VG.okg (by assumption)|(simp only[List.length_set,List.length_append,List.length_cons,List.length_nil,List.length_replicate];omega))only[go_sem,simprocAttr,Tryz.results50, e0, e1, e5, hl]))
  have ha := getI xs i.toNat (by omega)
  have hb := getI ys i.toNat (by omega)
  have ht1 := take_int 0 g0 hi
  have ht2 := take_int 0 g0 (show i < ys.length by omega)
  by_cases hq : xs.getD i.toNat 0 = ys.getD i.toNat 0
  · rw [← hq] at hb ht2
    have hp2 : xs.take (i + 1).toNat = ys.take (i + 1).toNat := by rw [ht1, ht2, hp]
    generalize xs.getD i.toNat 0 = x at *
    repeat'(first|(refine na ?_;constructor)|(refine ite_two ?_ ?_<;>intro _<;>first|(exfalso;omega)|skip)|refine ord_split (by kernel_rfl) ?_|((first|(refine nb ?_;constructor)|refine pn rfl ?_|refine pe rfl ?_|((first|refine at2 ?_|refine at_cond ?_);split<;>first|(exfalso;omega;done)|skip))<;>try simp(config:={maxSteps:=3000000})(disch:=first|assumption|omega|exact VG.okg (by assumption)|(simp only[List.length_set,List.length_append,List.length_cons,List.length_nil,List.length_replicate];omega))only[go_sem,simprocAttr,Tryz.results50, e0, e1, e5, ha, hb]))
    exact ⟨by omega, by omega, hp2, by omega⟩
  · have hne : xs ≠ ys := fun h => hq (by rw [h])
    rw [decide_eq_false hne]
    generalize xs.getD i.toNat 0 = x at *
    generalize ys.getD i.toNat 0 = y at *
    repeat'(first|(refine na ?_;constructor)|(refine ite_two ?_ ?_<;>intro _<;>first|(exfalso;omega)|skip)|refine ord_split (by kernel_rfl) ?_|((first|(refine nb ?_;constructor)|refine pn rfl ?_|refine pe rfl ?_|((first|refine at2 ?_|refine at_cond ?_);split<;>first|(exfalso;omega;done)|skip))<;>try simp(config:={maxSteps:=3000000})(disch:=first|assumption|omega|exact VG.okg (by assumption)|(simp only[List.length_set,List.length_append,List.length_cons,List.length_nil,List.length_replicate];omega))only[go_sem,simprocAttr,Tryz.results50, e0, e1, e5, ha, hb, hq]))
/-- No part has too many nodes. -/
def smL (n most : Int) (es : List (Int × Int)) : Prop := ∀ x, inN n x → ¬ (1 < szC n es x ∧ most < szC n es x)
noncomputable instance decSmL (n most : Int) (es : List (Int × Int)) : Decidable (smL n most es) := Classical.propDecidable _
theorem c_l7Small (n most : Int) (es : List (Int × Int)) (h : OKG n es) : KP 52 [GL n es, I most] [] = some (B (decide (smL n most es)), [], []) := by
  have hp := c_l2Labels n es h
  have hll := lab_length n es
  obtain ⟨n0, n1, hel, ho⟩ := id h
  refine xw_call (fn := Tryz.f52) rfl Tryz.func52 rfl ⟨Nat.le_of_ble_eq_true rfl, rfl, rfl⟩ ?_
  repeat'(first|(refine na ?_;constructor)|(refine ite_two ?_ ?_<;>intro _<;>first|(exfalso;omega)|skip)|refine ord_split (by kernel_rfl) ?_|((first|(refine nb ?_;constructor)|refine pn rfl ?_|refine pe rfl ?_|((first|refine at2 ?_|refine at_cond ?_);split<;>first|(exfalso;omega;done)|skip))<;>try simp(config:={maxSteps:=3000000})(disch:=first|assumption|omega|exact VG.okg (by assumption)|(simp only[List.length_set,List.length_append,List.length_cons,List.length_nil,List.length_replicate];omega))only[go_sem,simprocAttr,Tryz.results52, hp]))
  refine xw_loopR (fun (i : Int) s => s.m 2 = some (.box 0 [I n, LE es]) ∧ s.ρ 2 = .ptr 2 0 0 0 ∧ s.ρ 1 = I most ∧ s.ρ 5 = LI (lab n es) ∧ s.ρ 6 = I i ∧ 0 ≤ i ∧ i ≤ n ∧ ∀ x, 0 ≤ x → x < i → ¬ (1 < szC n es x ∧ most < szC n es x)) (fun i => (n - i).toNat) 0 ?_ ?_
  · refine ⟨?_, ?_, ?_, ?_, ?_, by omega, by omega, fun x h0 h1 => by omega⟩
    all_goals rfl
  rintro i ⟨ρ, m⟩ ⟨m2, e2, e1, e5, e6, g0, g1, hall⟩
  simp only at m2 e2 e1 e5 e6 g0 g1 hall
  by_cases hi : i < n
  rotate_left
  · rw [decide_eq_true (show smL n most es from fun x hx => hall x hx.1 (by have := hx.2; omega))]
    repeat'(first|(refine na ?_;constructor)|(refine ite_two ?_ ?_<;>intro _<;>first|(exfalso;omega)|skip)|refine ord_split (by kernel_rfl) ?_|((first|(refine nb ?_;constructor)|refine pn rfl ?_|refine pe rfl ?_|((first|refine at2 ?_|refine at_cond ?_);split<;>first|(exfalso;omega;done)|skip))<;>try simp(config:={maxSteps:=3000000})(disch:=first|assumption|omega|exact VG.okg (by assumption)|(simp only[List.length_set,List.length_append,List.length_cons,List.length_nil,List.length_replicate];omega))only[go_sem,simprocAttr,Tryz.results52, m2, e2, e1, e5, e6]))
  have hgi : ((lab n es).map encI)[i.toNat]? = some [.v (.int .i64 (lbl es i))] := by rw [getI _ _ (by omega), lbl_at ⟨g0, hi⟩]
  have hsz := cntI_lab (es := es) (n := n) (x := i) ⟨g0, hi⟩
  repeat'(first|(refine na ?_;constructor)|(refine ite_two ?_ ?_<;>intro _<;>first|(exfalso;omega)|skip)|refine ord_split (by kernel_rfl) ?_|((first|(refine nb ?_;constructor)|refine pn rfl ?_|refine pe rfl ?_|((first|refine at2 ?_|refine at_cond ?_);split<;>first|(exfalso;omega;done)|skip))<;>try simp(config:={maxSteps:=3000000})(disch:=first|assumption|omega|exact VG.okg (by assumption)|(simp only[List.length_set,List.length_append,List.length_cons,List.length_nil,List.length_replicate];omega))only[go_sem,simprocAttr,Tryz.results52, m2, e2, e1, e5, e6]))
  refine xw_loopR (fun (k : Int) s => s.m 2 = some (.box 0 [I n, LE es]) ∧ s.ρ 2 = .ptr 2 0 0 0 ∧ s.ρ 1 = I most ∧ s.ρ 5 = LI (lab n es) ∧ s.ρ 6 = I i ∧ s.ρ 7 = I (cntI ((lab n es).take k.toNat) (lbl es i)) ∧ s.ρ 8 = I k ∧ 0 ≤ k ∧ k ≤ n) (fun k => (n - k).toNat) 0 ?_ ?_
  · refine ⟨?_, ?_, ?_, ?_, ?_, ?_, ?_, by omega, by omega⟩
    all_goals first | rfl | assumption
  clear m2 e2 e1 e5 e6
  rintro k ⟨ρ, m⟩ ⟨m2, e2, e1, e5, e6, e7, e8, f0, f1⟩
  simp only at m2 e2 e1 e5 e6 e7 e8 f0 f1
  have hcl := cntI_len ((lab n es).take k.toNat) (lbl es i)
  rw [List.length_take] at hcl
  by_cases hk : k < n
  · have hgk := getI (lab n es) k.toNat (by omega)
    have hsn := cntI_snoc (x := lbl es i) f0 (show k < (lab n es).length by omega)
    generalize (lab n es).getD k.toNat 0 = y at *
    generalize lbl es i = z at *
    generalize cntI ((lab n es).take k.toNat) z = c at *
    by_cases hq : y = z
    · rw [if_pos hq] at hsn
      subst hq
      repeat'(first|(refine na ?_;constructor)|(refine ite_two ?_ ?_<;>intro _<;>first|(exfalso;omega)|skip)|refine ord_split (by kernel_rfl) ?_|((first|(refine nb ?_;constructor)|refine pn rfl ?_|refine pe rfl ?_|((first|refine at2 ?_|refine at_cond ?_);split<;>first|(exfalso;omega;done)|skip))<;>try simp(config:={maxSteps:=3000000})(disch:=first|assumption|omega|exact VG.okg (by assumption)|(simp only[List.length_set,List.length_append,List.length_cons,List.length_nil,List.length_replicate];omega))only[go_sem,simprocAttr,Tryz.results52, m2, e2, e1, e5, e6, e7, e8, hgi, hgk]))
      exact ⟨k + 1, by rw [hsn], rfl, by omega, by omega, by omega⟩
    · rw [if_neg hq] at hsn
      repeat'(first|(refine na ?_;constructor)|(refine ite_two ?_ ?_<;>intro _<;>first|(exfalso;omega)|skip)|refine ord_split (by kernel_rfl) ?_|((first|(refine nb ?_;constructor)|refine pn rfl ?_|refine pe rfl ?_|((first|refine at2 ?_|refine at_cond ?_);split<;>first|(exfalso;omega;done)|skip))<;>try simp(config:={maxSteps:=3000000})(disch:=first|assumption|omega|exact VG.okg (by assumption)|(simp only[List.length_set,List.length_append,List.length_cons,List.length_nil,List.length_replicate];omega))only[go_sem,simprocAttr,Tryz.results52, m2, e2, e1, e5, e6, e7, e8, hgi, hgk, hq]))
      exact ⟨k + 1, by rw [hsn]; omega, rfl, by omega, by omega, by omega⟩
  rw [take_all (by omega), hsz] at e7
  have hz0 : 0 ≤ szC n es i := by unfold szC; omega
  by_cases hbad : 1 < szC n es i ∧ most < szC n es i
  · rw [decide_eq_false (show ¬ smL n most es from fun hh => hh i ⟨g0, hi⟩ hbad)]
    generalize szC n es i = c at *
    obtain ⟨b1, b2⟩ := hbad
    repeat'(first|(refine na ?_;constructor)|(refine ite_two ?_ ?_<;>intro _<;>first|(exfalso;omega)|skip)|refine ord_split (by kernel_rfl) ?_|((first|(refine nb ?_;constructor)|refine pn rfl ?_|refine pe rfl ?_|((first|refine at2 ?_|refine at_cond ?_);split<;>first|(exfalso;omega;done)|skip))<;>try simp(config:={maxSteps:=3000000})(disch:=first|assumption|omega|exact VG.okg (by assumption)|(simp only[List.length_set,List.length_append,List.length_cons,List.length_nil,List.length_replicate];omega))only[go_sem,simprocAttr,Tryz.results52, m2, e2, e1, e5, e6, e7, e8, b1, b2]))
  · have hnx : ∀ x, 0 ≤ x → x < i + 1 → ¬ (1 < szC n es x ∧ most < szC n es x) := fun x x0 x1 => by
      by_cases hxi : x = i
      · rw [hxi]; exact hbad
      · exact hall x x0 (by omega)
    generalize hc : szC n es i = c at e7 hbad hz0
    repeat'(first|(refine na ?_;constructor)|(refine ite_two ?_ ?_<;>intro _<;>first|(exfalso;omega)|skip)|refine ord_split (by kernel_rfl) ?_|((first|(refine nb ?_;constructor)|refine pn rfl ?_|refine pe rfl ?_|((first|refine at2 ?_|refine at_cond ?_);split<;>first|(exfalso;omega;done)|skip))<;>try simp(config:={maxSteps:=3000000})(disch:=first|assumption|omega|exact VG.okg (by assumption)|(simp only[List.length_set,List.length_append,List.length_cons,List.length_nil,List.length_replicate];omega))only[go_sem,simprocAttr,Tryz.results52, m2, e2, e1, e5, e6, e7, e8]))
    all_goals exact ⟨by omega, by omega, hnx, by omega⟩
theorem c_sLevelsValid (n : Int) (ts : List Tl) (hV : VG n (esT ts)) : KP 24 [LvP n ts] [] = some (B (decide (LV n ts)), [], []) := by
  have l1 := esT_len' ts
  have l2 := lvT_len ts
  have l3 := trT_len ts
  have hn1 := hV.1
  have hn16 := hV.2.1
  have hel := hV.2.2.1
  have hgv := c_sGraphValid n (esT ts) (by omega)
  rw [decide_eq_true hV] at hgv
  have hlen : ((lvT ts).length : Int) = (esT ts).length := by omega
  have hlen2 : ((trT ts).length : Int) = (esT ts).length := by omega
  refine xw_call (fn := Tryz.f24) rfl Tryz.func24 rfl ⟨Nat.le_of_ble_eq_true rfl, rfl, rfl⟩ ?_
  repeat'(first|(refine na ?_;constructor)|(refine ite_two ?_ ?_<;>intro _<;>first|(exfalso;omega)|skip)|refine ord_split (by kernel_rfl) ?_|((first|(refine nb ?_;constructor)|refine pn rfl ?_|refine pe rfl ?_|((first|refine at2 ?_|refine at_cond ?_);split<;>first|(exfalso;omega;done)|skip))<;>try simp(config:={maxSteps:=3000000})(disch:=first|assumption|omega|exact VG.okg (by assumption)|(simp only[List.length_set,List.length_append,List.length_cons,List.length_nil,List.length_replicate];omega))only[go_sem,simprocAttr,Tryz.results24, hgv, hlen, hlen2]))
  refine xw_loopR (fun (i : Int) s => s.m 1 = some (.box 0 [I n, LE (esT ts), LI (lvT ts), LT (trT ts)]) ∧ s.ρ 1 = .ptr 1 0 0 0 ∧ s.ρ 3 = I i ∧ 0 ≤ i ∧ i ≤ ts.length ∧ ∀ j : Nat, (j : Int) < i → 0 ≤ (ts.getD j dT).2.1 ∧ (ts.getD j dT).2.1 ≤ 4) (fun i => (ts.length - i).toNat) 0 ?_ ?_
  · exact ⟨rfl, rfl, rfl, by omega, by omega, fun j h0 => by omega⟩
  rintro i ⟨ρ, m⟩ ⟨m1, e1, e3, g0, g1, hj⟩
  simp only at m1 e1 e3 g0 g1 hj
  by_cases hi : i < ts.length
  · have hg := getI (lvT ts) i.toNat (by omega)
    rw [lvT_get (by omega)] at hg
    by_cases hb : 0 ≤ (ts.getD i.toNat dT).2.1 ∧ (ts.getD i.toNat dT).2.1 ≤ 4
    · have hnx : ∀ j : Nat, (j : Int) < i + 1 → 0 ≤ (ts.getD j dT).2.1 ∧ (ts.getD j dT).2.1 ≤ 4 := fun j h => by
        by_cases hji : (j : Int) = i
        · rw [show j = i.toNat by omega]; exact hb
        · exact hj j (by omega)
      generalize (ts.getD i.toNat dT).2.1 = l at hg hb
      obtain ⟨b1, b2⟩ := hb
      repeat'(first|(refine na ?_;constructor)|(refine ite_two ?_ ?_<;>intro _<;>first|(exfalso;omega)|skip)|refine ord_split (by kernel_rfl) ?_|((first|(refine nb ?_;constructor)|refine pn rfl ?_|refine pe rfl ?_|((first|refine at2 ?_|refine at_cond ?_);split<;>first|(exfalso;omega;done)|skip))<;>try simp(config:={maxSteps:=3000000})(disch:=first|assumption|omega|exact VG.okg (by assumption)|(simp only[List.length_set,List.length_append,List.length_cons,List.length_nil,List.length_replicate];omega))only[go_sem,simprocAttr,Tryz.results24, m1, e1, e3, hg, l2]))
      exact ⟨by omega, by omega, hnx, by omega⟩
    · have hno : ¬ LV n ts := fun h => hb (h.lv _ (getD_mem (by omega)))
      rw [decide_eq_false hno]
      generalize (ts.getD i.toNat dT).2.1 = l at hg hb
      by_cases b1 : l < 0
      · repeat'(first|(refine na ?_;constructor)|(refine ite_two ?_ ?_<;>intro _<;>first|(exfalso;omega)|skip)|refine ord_split (by kernel_rfl) ?_|((first|(refine nb ?_;constructor)|refine pn rfl ?_|refine pe rfl ?_|((first|refine at2 ?_|refine at_cond ?_);split<;>first|(exfalso;omega;done)|skip))<;>try simp(config:={maxSteps:=3000000})(disch:=first|assumption|omega|exact VG.okg (by assumption)|(simp only[List.length_set,List.length_append,List.length_cons,List.length_nil,List.length_replicate];omega))only[go_sem,simprocAttr,Tryz.results24, m1, e1, e3, hg, l2, b1]))
      · have b2 : 4 < l := by omega
        repeat'(first|(refine na ?_;constructor)|(refine ite_two ?_ ?_<;>intro _<;>first|(exfalso;omega)|skip)|refine ord_split (by kernel_rfl) ?_|((first|(refine nb ?_;constructor)|refine pn rfl ?_|refine pe rfl ?_|((first|refine at2 ?_|refine at_cond ?_);split<;>first|(exfalso;omega;done)|skip))<;>try simp(config:={maxSteps:=3000000})(disch:=first|assumption|omega|exact VG.okg (by assumption)|(simp only[List.length_set,List.length_append,List.length_cons,List.length_nil,List.length_replicate];omega))only[go_sem,simprocAttr,Tryz.results24, m1, e1, e3, hg, l2, b1, b2]))
  have hb : ∀ t ∈ ts, 0 ≤ t.2.1 ∧ t.2.1 ≤ 4 := fun t ht => by
    obtain ⟨j, hjl, rfl⟩ := List.getElem_of_mem ht
    have := hj j (by omega)
    simpa [List.getD, hjl] using this
  repeat'(first|(refine na ?_;constructor)|(refine ite_two ?_ ?_<;>intro _<;>first|(exfalso;omega)|skip)|refine ord_split (by kernel_rfl) ?_|((first|(refine nb ?_;constructor)|refine pn rfl ?_|refine pe rfl ?_|((first|refine at2 ?_|refine at_cond ?_);split<;>first|(exfalso;omega;done)|skip))<;>try simp(config:={maxSteps:=3000000})(disch:=first|assumption|omega|exact VG.okg (by assumption)|(simp only[List.length_set,List.length_append,List.length_cons,List.length_nil,List.length_replicate];omega))only[go_sem,simprocAttr,Tryz.results24, m1, e1, e3, l2]))
  clear hj e3
  refine xw_loopR (fun (k : Int) s => s.m 1 = some (.box 0 [I n, LE (esT ts), LI (lvT ts), LT (trT ts)]) ∧ s.ρ 1 = .ptr 1 0 0 0 ∧ s.ρ 4 = I k ∧ 0 ≤ k ∧ k ≤ 5 ∧ ∀ j : Int, 0 ≤ j → j < k → lvAt n ts j) (fun k => (5 - k).toNat) 0 ?_ ?_
  · refine ⟨?_, ?_, ?_, by omega, by omega, fun j h0 h1 => by omega⟩
    all_goals first | rfl | assumption
  clear m1 e1
  rintro k ⟨ρ, m⟩ ⟨m1, e1, e4, g0, g1, hj⟩
  simp only at m1 e1 e4 g0 g1 hj
  by_cases hk : k ≤ 4
  rotate_left
  · have hyes : LV n ts := (LV_iff hV).2 ⟨hb, fun j j0 j1 => hj j j0 (by omega)⟩
    rw [decide_eq_true hyes]
    repeat'(first|(refine na ?_;constructor)|(refine ite_two ?_ ?_<;>intro _<;>first|(exfalso;omega)|skip)|refine ord_split (by kernel_rfl) ?_|((first|(refine nb ?_;constructor)|refine pn rfl ?_|refine pe rfl ?_|((first|refine at2 ?_|refine at_cond ?_);split<;>first|(exfalso;omega;done)|skip))<;>try simp(config:={maxSteps:=3000000})(disch:=first|assumption|omega|exact VG.okg (by assumption)|(simp only[List.length_set,List.length_append,List.length_cons,List.length_nil,List.length_replicate];omega))only[go_sem,simprocAttr,Tryz.results24, m1, e1, e4]))
  have ha1 := c_l7At n k false ts (by omega)
  have ha2 := c_l7At n k true ts (by omega)
  have hF : OKG n (abT ts k true) := abT_okg hV
  have hA : OKG n (abT ts k false) := abT_okg hV
  have hff := c_l6Forest n (abT ts k true) hF
  have hp1 := c_l2Labels n (abT ts k true) hF
  have hp2 := c_l2Labels n (abT ts k false) hA
  have hll1 := lab_length n (abT ts k true)
  have hll2 := lab_length n (abT ts k false)
  have heq := c_l7Ints (lab n (abT ts k false)) (lab n (abT ts k true)) (by omega) (by omega)
  have hmo := c_l7Most n k ⟨by omega, by omega⟩ ⟨by omega, by omega⟩
  have hsm := c_l7Small n (n / 2 ^ k.toNat) (abT ts k false) hA
  have hsz : smL n (n / 2 ^ k.toNat) (abT ts k false) ↔ szOk n k (abT ts k false) := by
    unfold smL szOk
    refine forall_congr' fun x => forall_congr' fun _ => ?_
    omega
  have hlvk : lvAt n ts k ↔ Tree n (abT ts k true) ∧ lab n (abT ts k false) = lab n (abT ts k true) ∧ smL n (n / 2 ^ k.toNat) (abT ts k false) := by
    rw [hsz]; unfold lvAt
    exact ⟨fun h => ⟨h.1, h.2.1.symm, h.2.2⟩, fun h => ⟨h.1, h.2.1.symm, h.2.2⟩⟩
  have hno : ¬ lvAt n ts k → decide (LV n ts) = false := fun h => decide_eq_false fun q => h ((LV_iff hV).1 q |>.2 k g0 (by omega))
  generalize n / 2 ^ k.toNat = most at *
  by_cases hT : Tree n (abT ts k true)
  rotate_left
  · rw [hno fun h => hT (hlvk.1 h).1]
    rw [decide_eq_false hT] at hff
    repeat'(first|(refine na ?_;constructor)|(refine ite_two ?_ ?_<;>intro _<;>first|(exfalso;omega)|skip)|refine ord_split (by kernel_rfl) ?_|((first|(refine nb ?_;constructor)|refine pn rfl ?_|refine pe rfl ?_|((first|refine at2 ?_|refine at_cond ?_);split<;>first|(exfalso;omega;done)|skip))<;>try simp(config:={maxSteps:=3000000})(disch:=first|assumption|omega|exact VG.okg (by assumption)|(simp only[List.length_set,List.length_append,List.length_cons,List.length_nil,List.length_replicate];omega))only[go_sem,simprocAttr,Tryz.results24, m1, e1, e4, ha1, ha2, hff]))
  rw [decide_eq_true hT] at hff
  by_cases hlab : lab n (abT ts k false) = lab n (abT ts k true)
  rotate_left
  · rw [hno fun h => hlab (hlvk.1 h).2.1]
    rw [decide_eq_false hlab] at heq
    repeat'(first|(refine na ?_;constructor)|(refine ite_two ?_ ?_<;>intro _<;>first|(exfalso;omega)|skip)|refine ord_split (by kernel_rfl) ?_|((first|(refine nb ?_;constructor)|refine pn rfl ?_|refine pe rfl ?_|((first|refine at2 ?_|refine at_cond ?_);split<;>first|(exfalso;omega;done)|skip))<;>try simp(config:={maxSteps:=3000000})(disch:=first|assumption|omega|exact VG.okg (by assumption)|(simp only[List.length_set,List.length_append,List.length_cons,List.length_nil,List.length_replicate];omega))only[go_sem,simprocAttr,Tryz.results24, m1, e1, e4, ha1, ha2, hff, hp1, hp2, heq]))
  rw [decide_eq_true hlab] at heq
  by_cases hs : smL n most (abT ts k false)
  · rw [decide_eq_true hs] at hsm
    have hnx : ∀ j : Int, 0 ≤ j → j < k + 1 → lvAt n ts j := fun j j0 j1 => by
      by_cases hjk : j = k
      · rw [hjk]; exact hlvk.2 ⟨hT, hlab, hs⟩
      · exact hj j j0 (by omega)
    repeat'(first|(refine na ?_;constructor)|(refine ite_two ?_ ?_<;>intro _<;>first|(exfalso;omega)|skip)|refine ord_split (by kernel_rfl) ?_|((first|(refine nb ?_;constructor)|refine pn rfl ?_|refine pe rfl ?_|((first|refine at2 ?_|refine at_cond ?_);split<;>first|(exfalso;omega;done)|skip))<;>try simp(config:={maxSteps:=3000000})(disch:=first|assumption|omega|exact VG.okg (by assumption)|(simp only[List.length_set,List.length_append,List.length_cons,List.length_nil,List.length_replicate];omega))only[go_sem,simprocAttr,Tryz.results24, m1, e1, e4, ha1, ha2, hff, hp1, hp2, heq, hmo, hsm]))
    exact ⟨by omega, by omega, hnx, by omega⟩
  · rw [hno fun h => hs (hlvk.1 h).2.2]
    rw [decide_eq_false hs] at hsm
    repeat'(first|(refine na ?_;constructor)|(refine ite_two ?_ ?_<;>intro _<;>first|(exfalso;omega)|skip)|refine ord_split (by kernel_rfl) ?_|((first|(refine nb ?_;constructor)|refine pn rfl ?_|refine pe rfl ?_|((first|refine at2 ?_|refine at_cond ?_);split<;>first|(exfalso;omega;done)|skip))<;>try simp(config:={maxSteps:=3000000})(disch:=first|assumption|omega|exact VG.okg (by assumption)|(simp only[List.length_set,List.length_append,List.length_cons,List.length_nil,List.length_replicate];omega))only[go_sem,simprocAttr,Tryz.results24, m1, e1, e4, ha1, ha2, hff, hp1, hp2, heq, hmo, hsm]))
end Go.Proofs.YtdlfdoicheakoaaGreat.X
