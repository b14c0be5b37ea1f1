/- What functions answer, and the plain laws behind it. -/
import Derived.Test.YtdlfdoicheakoaaGreatKAD
import Derived.Test.YtdlfdoicheakoaaGreatM1
/- What functions compute: labels of parts. -/
set_option linter.unusedSimpArgs false
set_option linter.unusedVariables false
set_option maxHeartbeats 2000000
namespace Go.Proofs.YtdlfdoicheakoaaGreat.X
open Go Go.Proofs
theorem iota_length (n : Int) : (iota n).length = n.toNat := by simp [iota]
theorem iota_snoc {i : Int} (h : 0 ≤ i) : iota (i + 1) = iota i ++ [i] := by
  have e : (i + 1).toNat = i.toNat + 1 := by omega
  unfold iota
  rw [e, List.range_succ, List.map_append]
  simp; omega
@[go_sem] theorem c_parts (n : Int) (es : List (Int × Int)) (h : OKG n es) : KP 39 [GL n es] [] = some (.ref 2000 0 0 (lab n es).length, [], [.arr 0 1 ((lab n es).map encI)]) := by
  obtain ⟨n0, n1, hl, ho⟩ := h
  rw [← rounds_lab ho]
  refine xw_call (fn := Tryz.f39) rfl Tryz.func39 rfl ⟨Nat.le_of_ble_eq_true rfl, rfl, rfl⟩ ?_
  repeat'(first|(refine na ?_;constructor)|(refine ite_two ?_ ?_<;>intro _<;>first|(exfalso;omega)|skip)|refine ord_split (by kernel_rfl) ?_|((first|(refine nb ?_;constructor)|refine pn rfl ?_|refine pe rfl ?_|((first|refine at2 ?_|refine at_cond ?_);split<;>first|(exfalso;omega;done)|skip))<;>try simp(config:={maxSteps:=3000000})(disch:=first|assumption|omega|exact VG.okg (by assumption)|(simp only[List.length_set,List.length_append,List.length_cons,List.length_nil,List.length_replicate];omega))only[go_sem,simprocAttr,Tryz.results39]))
  refine xw_loopR (fun (x : Int × Nat × List Int) s => s.m 8 = some (.arr x.2.1 1 (x.2.2.map encI)) ∧ s.ρ 3 = .ref 8 x.2.1 0 x.2.2.length ∧ s.ρ 11 = I x.1 ∧ s.ρ 10 = I n ∧ s.ρ 1 = .ptr 1 0 0 0 ∧ s.m 1 = some (.box 0 [I n, LE es]) ∧
    0 ≤ x.1 ∧ x.1 ≤ n ∧ x.2.2.length = x.1.toNat ∧ x.2.2 = iota x.1) (fun x => (n - x.1).toNat) (0, 0, []) (by simp [upd, iota, n0]) ?_
  rintro ⟨i, w, xs⟩ ⟨ρ, m⟩ ⟨m8, h3, h11, h10, h1, m1, g0, g1, g2, g3⟩
  simp only at m8 h3 h11 h10 h1 m1 g0 g1 g2 g3
  repeat'(first|(refine na ?_;constructor)|(refine ite_two ?_ ?_<;>intro _<;>first|(exfalso;omega)|skip)|refine ord_split (by kernel_rfl) ?_|((first|(refine nb ?_;constructor)|refine pn rfl ?_|refine pe rfl ?_|((first|refine at2 ?_|refine at_cond ?_);split<;>first|(exfalso;omega;done)|skip))<;>try simp(config:={maxSteps:=3000000})(disch:=first|assumption|omega|exact VG.okg (by assumption)|(simp only[List.length_set,List.length_append,List.length_cons,List.length_nil,List.length_replicate];omega))only[go_sem,simprocAttr,Tryz.results39, m8, h3, h11, h10, h1, m1]))
  · refine ⟨by omega, by omega, by omega, ?_, by omega⟩
    rw [iota_snoc g0, g3]
  · have hin : i = n := by omega
    subst hin
    refine xw_loopR (fun (x : Int × List Int) s => s.m 8 = some (.arr w 1 (x.2.map encI)) ∧ s.ρ 3 = .ref 8 w 0 x.2.length ∧ s.ρ 21 = I x.1 ∧ s.ρ 20 = I i ∧ s.ρ 1 = .ptr 1 0 0 0 ∧ s.m 1 = some (.box 0 [I i, LE es]) ∧
      0 ≤ x.1 ∧ x.1 ≤ i ∧ x.2.length = i.toNat ∧ x.2 = rounds es x.1.toNat (iota i)) (fun x => (i - x.1).toNat) (0, xs) (by simp [upd, rounds, m8, h3, h1, m1, g0, g2, ← g3]) ?_
    rintro ⟨k, out⟩ ⟨ρ, m⟩ ⟨m8, h3, h21, h20, h1, m1, f0, f1, f2, f3⟩
    simp only at m8 h3 h21 h20 h1 m1 f0 f1 f2 f3
    repeat'(first|(refine na ?_;constructor)|(refine ite_two ?_ ?_<;>intro _<;>first|(exfalso;omega)|skip)|refine ord_split (by kernel_rfl) ?_|((first|(refine nb ?_;constructor)|refine pn rfl ?_|refine pe rfl ?_|((first|refine at2 ?_|refine at_cond ?_);split<;>first|(exfalso;omega;done)|skip))<;>try simp(config:={maxSteps:=3000000})(disch:=first|assumption|omega|exact VG.okg (by assumption)|(simp only[List.length_set,List.length_append,List.length_cons,List.length_nil,List.length_replicate];omega))only[go_sem,simprocAttr,Tryz.results39, m8, h3, h21, h20, h1, m1]))
    · refine xw_loopR (fun (x : Int × List Int) s => s.m 8 = some (.arr w 1 (x.2.map encI)) ∧ s.ρ 3 = .ref 8 w 0 x.2.length ∧ s.ρ 21 = I k ∧ s.ρ 20 = I i ∧ s.ρ 1 = .ptr 1 0 0 0 ∧ s.m 1 = some (.box 0 [I i, LE es]) ∧ s.ρ 24 = LE es ∧ s.ρ 25 = I es.length ∧ s.ρ 26 = I x.1 ∧
        0 ≤ x.1 ∧ x.1 ≤ es.length ∧ x.2.length = i.toNat ∧ x.2 = (es.take x.1.toNat).foldl stepE out) (fun x => (es.length - x.1).toNat) (0, out) (by simp [upd, m8, h3, h1, m1, h21, h20, f2]) ?_
      rintro ⟨j, ou⟩ ⟨ρ, m⟩ ⟨m8, h3, h21, h20, h1, m1, h24, h25, h26, e0, e1, e2, e3⟩
      simp only at m8 h3 h21 h20 h1 m1 h24 h25 h26 e0 e1 e2 e3
      by_cases hj : j < es.length
      · have he := ho _ (getD_mem (d := (0, 0)) (show j.toNat < es.length by omega))
        unfold okE at he
        repeat'(first|(refine na ?_;constructor)|(refine ite_two ?_ ?_<;>intro _<;>first|(exfalso;omega)|skip)|refine ord_split (by kernel_rfl) ?_|((first|(refine nb ?_;constructor)|refine pn rfl ?_|refine pe rfl ?_|((first|refine at2 ?_|refine at_cond ?_);split<;>first|(exfalso;omega;done)|skip))<;>try simp(config:={maxSteps:=3000000})(disch:=first|assumption|omega|exact VG.okg (by assumption)|(simp only[List.length_set,List.length_append,List.length_cons,List.length_nil,List.length_replicate];omega))only[go_sem,simprocAttr,Tryz.results39, m8, h3, h21, h20, h1, m1, h24, h25, h26]))
        refine ⟨by omega, by omega, e2, ?_, by omega⟩
        rw [take_int (0, 0) e0 hj, List.foldl_append, ← e3]
        rfl
      · repeat'(first|(refine na ?_;constructor)|(refine ite_two ?_ ?_<;>intro _<;>first|(exfalso;omega)|skip)|refine ord_split (by kernel_rfl) ?_|((first|(refine nb ?_;constructor)|refine pn rfl ?_|refine pe rfl ?_|((first|refine at2 ?_|refine at_cond ?_);split<;>first|(exfalso;omega;done)|skip))<;>try simp(config:={maxSteps:=3000000})(disch:=first|assumption|omega|exact VG.okg (by assumption)|(simp only[List.length_set,List.length_append,List.length_cons,List.length_nil,List.length_replicate];omega))only[go_sem,simprocAttr,Tryz.results39, m8, h3, h21, h20, h1, m1, h24, h25, h26]))
        refine ⟨by omega, by omega, e2, ?_, by omega⟩
        rw [take_all (by omega)] at e3
        rw [e3, f3, show (k + 1).toNat = k.toNat + 1 by omega]
        rfl
    · have hk : k = i := by omega
      subst hk
      rw [← f3]
      exact ⟨rfl, rfl⟩
@[go_sem] theorem c_connected (n x y : Int) (es : List (Int × Int)) (h : OKG n es) (hx : 0 ≤ x ∧ x < n) (hy : 0 ≤ y ∧ y < n) : KP 68 [GL n es, I x, I y] [] = some (B (decide (Conn es x y)), [], []) := by
  have hp := c_parts n es h
  have hl := lab_length n es
  refine xw_call (fn := Tryz.f68) rfl Tryz.func68 rfl ⟨Nat.le_of_ble_eq_true rfl, rfl, rfl⟩ ?_
  repeat'(first|(refine na ?_;constructor)|(refine ite_two ?_ ?_<;>intro _<;>first|(exfalso;omega)|skip)|refine ord_split (by kernel_rfl) ?_|((first|(refine nb ?_;constructor)|refine pn rfl ?_|refine pe rfl ?_|((first|refine at2 ?_|refine at_cond ?_);split<;>first|(exfalso;omega;done)|skip))<;>try simp(config:={maxSteps:=3000000})(disch:=first|assumption|omega|exact VG.okg (by assumption)|(simp only[List.length_set,List.length_append,List.length_cons,List.length_nil,List.length_replicate];omega))only[go_sem,simprocAttr,Tryz.results68, hp]))
  exact lab_beq hx hy
@[go_sem] theorem c_l2Labels (n : Int) (es : List (Int × Int)) (h : OKG n es) : KP 51 [GL n es] [] = some (.ref 2000 0 0 (lab n es).length, [], [.arr 0 1 ((lab n es).map encI)]) := by
  obtain ⟨n0, n1, hl, ho⟩ := h
  refine xw_call (fn := Tryz.f51) rfl Tryz.func51 rfl ⟨Nat.le_of_ble_eq_true rfl, rfl, rfl⟩ ?_
  repeat'(first|(refine na ?_;constructor)|(refine ite_two ?_ ?_<;>intro _<;>first|(exfalso;omega)|skip)|refine ord_split (by kernel_rfl) ?_|((first|(refine nb ?_;constructor)|refine pn rfl ?_|refine pe rfl ?_|((first|refine at2 ?_|refine at_cond ?_);split<;>first|(exfalso;omega;done)|skip))<;>try simp(config:={maxSteps:=3000000})(disch:=first|assumption|omega|exact VG.okg (by assumption)|(simp only[List.length_set,List.length_append,List.length_cons,List.length_nil,List.length_replicate];omega))only[go_sem,simprocAttr,Tryz.results51]))
  refine xw_loopR (fun (x : Int × Nat × List Int) s => s.m 9 = some (.arr x.2.1 1 (x.2.2.map encI)) ∧ s.ρ 3 = .ref 9 x.2.1 0 x.2.2.length ∧ s.ρ 4 = I x.1 ∧ s.ρ 1 = .ptr 1 0 0 0 ∧ s.m 1 = some (.box 0 [I n, LE es]) ∧
    0 ≤ x.1 ∧ x.1 ≤ n ∧ x.2.2.length = x.1.toNat ∧ x.2.2 = iota x.1) (fun x => (n - x.1).toNat) (0, 0, []) (by simp [upd, iota, n0]) ?_
  rintro ⟨i, w, xs⟩ ⟨ρ, m⟩ ⟨m9, h3, h4, h1, m1, g0, g1, g2, g3⟩
  simp only at m9 h3 h4 h1 m1 g0 g1 g2 g3
  repeat'(first|(refine na ?_;constructor)|(refine ite_two ?_ ?_<;>intro _<;>first|(exfalso;omega)|skip)|refine ord_split (by kernel_rfl) ?_|((first|(refine nb ?_;constructor)|refine pn rfl ?_|refine pe rfl ?_|((first|refine at2 ?_|refine at_cond ?_);split<;>first|(exfalso;omega;done)|skip))<;>try simp(config:={maxSteps:=3000000})(disch:=first|assumption|omega|exact VG.okg (by assumption)|(simp only[List.length_set,List.length_append,List.length_cons,List.length_nil,List.length_replicate];omega))only[go_sem,simprocAttr,Tryz.results51, m9, h3, h4, h1, m1]))
  · refine ⟨by omega, by omega, by omega, ?_, by omega⟩
    rw [iota_snoc g0, g3]
  · have hin : i = n := by omega
    subst hin
    have hsn : Snd i es xs := by rw [g3]; exact iota_snd i es
    refine xw_loopR (fun (x : Bool × List Int) s => s.m 9 = some (.arr w 1 (x.2.map encI)) ∧ s.ρ 3 = .ref 9 w 0 x.2.length ∧ s.ρ 5 = B x.1 ∧ s.ρ 1 = .ptr 1 0 0 0 ∧ s.m 1 = some (.box 0 [I i, LE es]) ∧
      x.2.length = i.toNat ∧ Snd i es x.2 ∧ (x.1 = false → x.2 = lab i es)) (fun x => (2 * x.2.sum).toNat + x.1.toNat) (true, xs) (by simp [upd, m9, h3, h1, m1, g0, g2, ← g3, hsn]) ?_
    rintro ⟨b, out⟩ ⟨ρ, m⟩ ⟨m9, h3, h5, h1, m1, f0, f1, f2⟩
    simp only at m9 h3 h5 h1 m1 f0 f1 f2
    repeat'(first|(refine na ?_;constructor)|(refine ite_two ?_ ?_<;>intro _<;>first|(exfalso;omega)|skip)|refine ord_split (by kernel_rfl) ?_|((first|(refine nb ?_;constructor)|refine pn rfl ?_|refine pe rfl ?_|((first|refine at2 ?_|refine at_cond ?_);split<;>first|(exfalso;omega;done)|skip))<;>try simp(config:={maxSteps:=3000000})(disch:=first|assumption|omega|exact VG.okg (by assumption)|(simp only[List.length_set,List.length_append,List.length_cons,List.length_nil,List.length_replicate];omega))only[go_sem,simprocAttr,Tryz.results51, m9, h3, h5, h1, m1]))
    · have hb : b = true := by assumption
      subst hb
      refine xw_loopR (fun (x : Int × Bool × List Int) s => s.m 9 = some (.arr w 1 (x.2.2.map encI)) ∧ s.ρ 3 = .ref 9 w 0 x.2.2.length ∧ s.ρ 5 = B x.2.1 ∧ s.ρ 6 = I x.1 ∧ s.ρ 1 = .ptr 1 0 0 0 ∧ s.m 1 = some (.box 0 [I i, LE es]) ∧
        0 ≤ x.1 ∧ x.1 ≤ es.length ∧ x.2.2.length = i.toNat ∧ Snd i es x.2.2 ∧ (x.2.1 = false → x.2.2 = out ∧ ∀ e ∈ es.take x.1.toNat, out.getD e.1.toNat 0 = out.getD e.2.toNat 0) ∧ (x.2.1 = true → x.2.2.sum < out.sum))
        (fun x => (es.length - x.1).toNat) (0, false, out) (by simp [upd, m9, h3, h1, m1, f0, f1]) ?_
      rintro ⟨j, a, ou⟩ ⟨ρ, m⟩ ⟨m9, h3, h5, h6, h1, m1, e0, e1, e2, e3, e4, e5⟩
      simp only at m9 h3 h5 h6 h1 m1 e0 e1 e2 e3 e4 e5
      by_cases hj : j < es.length
      · have hmem := getD_mem (d := (0, 0)) (show j.toNat < es.length by omega)
        have he := ho _ hmem
        have he' := he
        unfold okE at he
        repeat'(first|(refine na ?_;constructor)|(refine ite_two ?_ ?_<;>intro _<;>first|(exfalso;omega)|skip)|refine ord_split (by kernel_rfl) ?_|((first|(refine nb ?_;constructor)|refine pn rfl ?_|refine pe rfl ?_|((first|refine at2 ?_|refine at_cond ?_);split<;>first|(exfalso;omega;done)|skip))<;>try simp(config:={maxSteps:=3000000})(disch:=first|assumption|omega|exact VG.okg (by assumption)|(simp only[List.length_set,List.length_append,List.length_cons,List.length_nil,List.length_replicate];omega))only[go_sem,simprocAttr,Tryz.results51, m9, h3, h5, h6, h1, m1]))
        · refine ⟨by omega, by omega, e2, e3.set1 he' hmem, by simp, fun _ => ?_, by omega⟩
          rw [sum_set (by omega)]
          cases a with
          | false => have e := (e4 rfl).1; subst e; omega
          | true => have := e5 rfl; omega
        · refine ⟨by omega, by omega, e2, e3.set2 he' hmem (by omega), by simp, fun _ => ?_, by omega⟩
          rw [sum_set (by omega)]
          cases a with
          | false => have e := (e4 rfl).1; subst e; omega
          | true => have := e5 rfl; omega
        · refine ⟨by omega, by omega, e2, e3, fun ha => ⟨(e4 ha).1, fun e hm => ?_⟩, e5, by omega⟩
          rw [take_int (0, 0) e0 hj] at hm
          rcases List.mem_append.1 hm with hm | hm
          · exact (e4 ha).2 e hm
          · rw [List.mem_singleton.1 hm, ← (e4 ha).1]; omega
      · repeat'(first|(refine na ?_;constructor)|(refine ite_two ?_ ?_<;>intro _<;>first|(exfalso;omega)|skip)|refine ord_split (by kernel_rfl) ?_|((first|(refine nb ?_;constructor)|refine pn rfl ?_|refine pe rfl ?_|((first|refine at2 ?_|refine at_cond ?_);split<;>first|(exfalso;omega;done)|skip))<;>try simp(config:={maxSteps:=3000000})(disch:=first|assumption|omega|exact VG.okg (by assumption)|(simp only[List.length_set,List.length_append,List.length_cons,List.length_nil,List.length_replicate];omega))only[go_sem,simprocAttr,Tryz.results51, m9, h3, h5, h6, h1, m1]))
        rw [take_all (by omega)] at e4
        have hs1 := e3.sum
        have hs2 := f1.sum
        refine ⟨e2, e3, fun ha => ?_, ?_⟩
        · obtain ⟨rfl, h⟩ := e4 ha
          exact lab_of ho e3 h
        · cases a with
          | false => rw [(e4 rfl).1]; simp
          | true => have := e5 rfl; simp; omega
    · have hb : b = false := by simpa using ‹¬b = true›
      have := f2 hb
      subst this
      exact ⟨rfl, rfl⟩
@[go_sem] theorem c_l2Joined (n x y : Int) (es : List (Int × Int)) (h : OKG n es) (hx : 0 ≤ x ∧ x < n) (hy : 0 ≤ y ∧ y < n) : KP 63 [GL n es, I x, I y] [] = some (B (decide (Conn es x y)), [], []) := by
  have hp := c_l2Labels n es h
  have hl := lab_length n es
  refine xw_call (fn := Tryz.f63) rfl Tryz.func63 rfl ⟨Nat.le_of_ble_eq_true rfl, rfl, rfl⟩ ?_
  repeat'(first|(refine na ?_;constructor)|(refine ite_two ?_ ?_<;>intro _<;>first|(exfalso;omega)|skip)|refine ord_split (by kernel_rfl) ?_|((first|(refine nb ?_;constructor)|refine pn rfl ?_|refine pe rfl ?_|((first|refine at2 ?_|refine at_cond ?_);split<;>first|(exfalso;omega;done)|skip))<;>try simp(config:={maxSteps:=3000000})(disch:=first|assumption|omega|exact VG.okg (by assumption)|(simp only[List.length_set,List.length_append,List.length_cons,List.length_nil,List.length_replicate];omega))only[go_sem,simprocAttr,Tryz.results63, hp]))
  exact lab_beq hx hy
@[go_sem] theorem c_l2Node (n v : Int) (es : List (Int × Int)) (hl : es.length ≤ 1048576) : KP 81 [GL n es, I v] [] = some (B (decide (VG n es ∧ 0 ≤ v ∧ v < n)), [], []) := by
  refine xw_call (fn := Tryz.f81) rfl Tryz.func81 rfl ⟨Nat.le_of_ble_eq_true rfl, rfl, rfl⟩ ?_
  repeat'(first|(refine na ?_;constructor)|(refine ite_two ?_ ?_<;>intro _<;>first|(exfalso;omega)|skip)|refine ord_split (by kernel_rfl) ?_|((first|(refine nb ?_;constructor)|refine pn rfl ?_|refine pe rfl ?_|((first|refine at2 ?_|refine at_cond ?_);split<;>first|(exfalso;omega;done)|skip))<;>try simp(config:={maxSteps:=3000000})(disch:=first|assumption|omega|exact VG.okg (by assumption)|(simp only[List.length_set,List.length_append,List.length_cons,List.length_nil,List.length_replicate];omega))only[go_sem,simprocAttr,Tryz.results81]))
  all_goals grind
@[go_sem] theorem c_Connected (n x y : Int) (es : List (Int × Int)) (hl : es.length ≤ 1048576) : KP 59 [GL n es, I x, I y] [] = some (B (decide (VG n es ∧ 0 ≤ x ∧ x < n ∧ 0 ≤ y ∧ y < n ∧ Conn es x y)), [], []) := by
  refine xw_call (fn := Tryz.f59) rfl Tryz.func59 rfl ⟨Nat.le_of_ble_eq_true rfl, rfl, rfl⟩ ?_
  repeat'(first|(refine na ?_;constructor)|(refine ite_two ?_ ?_<;>intro _<;>first|(exfalso;omega)|skip)|refine ord_split (by kernel_rfl) ?_|((first|(refine nb ?_;constructor)|refine pn rfl ?_|refine pe rfl ?_|((first|refine at2 ?_|refine at_cond ?_);split<;>first|(exfalso;omega;done)|skip))<;>try simp(config:={maxSteps:=3000000})(disch:=first|assumption|omega|exact VG.okg (by assumption)|(simp only[List.length_set,List.length_append,List.length_cons,List.length_nil,List.length_replicate];omega))only[go_sem,simprocAttr,Tryz.results59]))
  all_goals grind
end Go.Proofs.YtdlfdoicheakoaaGreat.X

/- Neighbors: plain law. -/
set_option linter.unusedVariables false
namespace Go.Proofs.YtdlfdoicheakoaaGreat.X
open Go
theorem VG.alone {n v : Int} {es : List (Int × Int)} (h : VG n es) : VG n (alone v es) := by
  obtain ⟨h1, h2, h3, h4, h5⟩ := h
  have hl : (X.alone v es).length ≤ es.length := List.length_filter_le _ _
  exact ⟨h1, h2, by omega, fun e he => h4 e (List.mem_filter.1 he).1, h5.filter _⟩
theorem alone_cons (v : Int) (e : Int × Int) (es : List (Int × Int)) : alone v (e :: es) = if v = e.1 ∨ v = e.2 then alone v es else e :: alone v es := by
  unfold alone
  by_cases h1 : v = e.1
  · have : ¬ (e.1 ≠ v ∧ e.2 ≠ v) := fun h => h.1 h1.symm
    rw [List.filter_cons_of_neg (by simpa using fun h => absurd h1.symm h), if_pos (.inl h1)]
  · by_cases h2 : v = e.2
    · rw [List.filter_cons_of_neg (by simpa using fun _ => h2.symm), if_pos (.inr h2)]
    · rw [List.filter_cons_of_pos (by simpa using ⟨fun h => h1 h.symm, fun h => h2 h.symm⟩), if_neg (by simp [h1, h2])]
theorem nbL_cons (v : Int) (e : Int × Int) (es : List (Int × Int)) : nbL v (e :: es) = if v = e.1 then e.2 :: nbL v es else if v = e.2 then e.1 :: nbL v es else nbL v es := by
  unfold nbL
  by_cases h1 : v = e.1
  · rw [List.filterMap_cons, if_pos h1, if_pos h1]
  · by_cases h2 : v = e.2
    · rw [List.filterMap_cons, if_neg h1, if_neg h1, if_pos h2, if_pos h2]
    · rw [List.filterMap_cons, if_neg h1, if_neg h1, if_neg h2, if_neg h2]
theorem nbS_length (v : Int) (es : List (Int × Int)) : (nbS v es).length = (nbL v es).length := sortI_length _
theorem alone_length (v : Int) (es : List (Int × Int)) : (alone v es).length + (nbS v es).length = es.length := by
  rw [nbS_length]
  induction es with
  | nil => rfl
  | cons e es ih =>
    rw [alone_cons, nbL_cons]
    by_cases h1 : v = e.1
    · rw [if_pos (.inl h1), if_pos h1]; simp only [List.length_cons]; omega
    · by_cases h2 : v = e.2
      · rw [if_pos (.inr h2), if_neg h1, if_pos h2]; simp only [List.length_cons]; omega
      · rw [if_neg (by simp [h1, h2]), if_neg h1, if_neg h2]; simp only [List.length_cons]; omega
theorem sorted_ext : ∀ {l r : List Int}, l.Pairwise (· < ·) → r.Pairwise (· < ·) → (∀ x, x ∈ l ↔ x ∈ r) → l = r
  | [], [], _, _, _ => rfl
  | [], y :: r, _, _, h => by have := (h y).2 (by simp); simp at this
  | x :: l, [], _, _, h => by have := (h x).1 (by simp); simp at this
  | x :: l, y :: r, hl, hr, h => by
    rw [List.pairwise_cons] at hl hr
    have hxy : x = y := by
      rcases List.mem_cons.1 ((h x).1 (by simp)) with e | e
      · exact e
      · rcases List.mem_cons.1 ((h y).2 (by simp)) with e' | e'
        · exact e'.symm
        · have := hl.1 y e'; have := hr.1 x e; omega
    subst hxy
    rw [sorted_ext hl.2 hr.2 fun z => ?_]
    constructor
    · intro hz
      rcases List.mem_cons.1 ((h z).1 (by simp [hz])) with e | e
      · have := hl.1 z hz; omega
      · exact e
    · intro hz
      rcases List.mem_cons.1 ((h z).2 (by simp [hz])) with e | e
      · have := hr.1 z hz; omega
      · exact e
theorem Ord.nodup {es : List (Int × Int)} (h : Ord es) : es.Nodup := by
  refine List.Pairwise.imp (fun {a b} hab e => ?_) h
  subst e
  rw [lessE_iff] at hab; omega
theorem mem_nbL {n : Int} {es : List (Int × Int)} (ho : ∀ e ∈ es, okE n e) {v x : Int} : x ∈ nbL v es ↔ Adj es v x := by
  unfold nbL Adj
  rw [List.mem_filterMap]
  constructor
  · rintro ⟨e, he, h⟩
    split at h
    · rename_i h1; cases h; subst h1; exact .inl he
    · split at h
      · rename_i h2; cases h; subst h2; exact .inr he
      · cases h
  · rintro (h | h)
    · exact ⟨_, h, by simp⟩
    · have := ho _ h
      unfold okE at this
      exact ⟨_, h, by rw [if_neg (by simp only; omega), if_pos rfl]⟩
theorem mem_nbS {n : Int} {es : List (Int × Int)} (ho : ∀ e ∈ es, okE n e) {v x : Int} : x ∈ nbS v es ↔ Adj es v x := by
  unfold nbS sortI
  rw [List.mem_mergeSort]
  exact mem_nbL ho
theorem sorted_iota (n : Int) : (iota n).Pairwise (· < ·) := by
  unfold iota
  rw [List.pairwise_map]
  refine List.Pairwise.imp (fun {a b} h => ?_) (List.pairwise_lt_range)
  omega
theorem mem_iota {n x : Int} : x ∈ iota n ↔ 0 ≤ x ∧ x < n := by
  unfold iota
  rw [List.mem_map]
  constructor
  · rintro ⟨y, hy, rfl⟩
    have := List.mem_range.1 hy
    omega
  · rintro ⟨h1, h2⟩
    exact ⟨x.toNat, List.mem_range.2 (by omega), by omega⟩
theorem mem_edgeOf {n : Int} {es : List (Int × Int)} (ho : ∀ e ∈ es, okE n e) {x v : Int} : (x ≠ v ∧ edgeOf x v ∈ es) ↔ Adj es v x := by
  unfold edgeOf Adj
  constructor
  · rintro ⟨h1, h2⟩
    split at h2
    · exact .inr h2
    · exact .inl h2
  · rintro (h | h)
    · have := ho _ h; unfold okE at this; simp only at this
      rw [if_neg (by omega)]; exact ⟨by omega, h⟩
    · have := ho _ h; unfold okE at this; simp only at this
      rw [if_pos (by omega)]; exact ⟨by omega, h⟩
end Go.Proofs.YtdlfdoicheakoaaGreat.X

/- What functions compute: neighbors node by node, cut nodes. -/
set_option linter.unusedSimpArgs false
set_option linter.unusedVariables false
set_option maxHeartbeats 2000000
namespace Go.Proofs.YtdlfdoicheakoaaGreat.X
open Go Go.Proofs
/-- A function value that tells something of a number. -/
structure CloI (c : IV) (dom : Int → Prop) (p : Int → Bool) : Prop where
  frz : ∀ n, X.frz n (.i c) = .ret c
  flat : c.flat = true
  call : ∀ me d x, dom x → dynP cfg (KK Tryz.prog cfg) me (some d) (.i c) [I x] = .ret (B (p x), [])
def fidxI (p : Int → Bool) (xs : List Int) : Int := if xs.findIdx p < xs.length then (xs.findIdx p : Int) else -1
theorem fidxI_at {p : Int → Bool} {xs : List Int} {i : Int} (h0 : 0 ≤ i) (h : i < xs.length) (hp : p (xs.getD i.toNat 0) = true) (hn : ∀ e ∈ xs.take i.toNat, p e = false) : fidxI p xs = i := by
  have hi : i.toNat < xs.length := by omega
  have : xs.findIdx p = i.toNat := by
    rw [List.findIdx_eq hi]
    refine ⟨by simpa [hi] using hp, fun j hj => hn _ ?_⟩
    rw [List.mem_take_iff_getElem]
    exact ⟨j, by omega, rfl⟩
  unfold fidxI
  rw [this, if_pos hi]; omega
theorem fidxI_none {p : Int → Bool} {xs : List Int} (hn : ∀ e ∈ xs, p e = false) : fidxI p xs = -1 := by
  have : xs.findIdx p = xs.length := List.findIdx_eq_length.2 hn
  unfold fidxI
  rw [this, if_neg (by omega)]
theorem fidxI_any {p : Int → Bool} {xs : List Int} : decide (0 ≤ fidxI p xs) = xs.any p := by
  cases h : xs.any p with
  | true =>
    obtain ⟨x, hx, hp⟩ := List.any_eq_true.1 h
    have : xs.findIdx p < xs.length := List.findIdx_lt_length_of_exists ⟨x, hx, hp⟩
    unfold fidxI
    rw [if_pos this]; simp
  | false =>
    rw [fidxI_none fun e he => by simpa using List.any_eq_false.1 h e he]; rfl
theorem c_indexFuncI {c : IV} {dom : Int → Prop} {p : Int → Bool} (hc : CloI c dom p) (xs : List Int) (hd : ∀ x ∈ xs, dom x) (hl : xs.length ≤ 1048576) : KP 67 [LI xs, .i c] [] = some (I (fidxI p xs), [], []) := by
  obtain ⟨hc1, hc2, hc3⟩ := hc
  refine xw_call (fn := Tryz.f67) rfl Tryz.func67 rfl ⟨Nat.le_of_ble_eq_true rfl, rfl, rfl⟩ ?_
  have Fz:=fz1 Tryz.results67
  repeat'(first|exact trivial|refine go1 ?_|(refine go2 ?_ ?_<;>intro _<;>try(exfalso;omega))|(refine go4 ?_;split<;>(try(exfalso;omega);try refine go3 ?_)))
  refine xw_loopR (fun (i : Int) s => s.ρ 0 = LI xs ∧ s.ρ 1 = .i c ∧ s.ρ 7 = I xs.length ∧ s.ρ 8 = I i ∧ 0 ≤ i ∧ i ≤ xs.length ∧ ∀ e ∈ xs.take i.toNat, p e = false) (fun i => (xs.length - i).toNat) 0 (by simp [upd]) ?_
  rintro i ⟨ρ, m⟩ ⟨h0, h1, h7, h8, hi0, hi, hp⟩
  simp only at h0 h1 h7 h8
  by_cases hj : i < xs.length
  · have hm : dom (xs.getD i.toNat 0) := hd _ (getD_mem (by omega))
    have Fz:=fz7 Tryz.results67 h0 h1 h7 h8 hc3 hc1
    repeat'(first|exact trivial|refine go1 ?_|(refine go2 ?_ ?_<;>intro _<;>try(exfalso;omega))|(refine go4 ?_;split<;>(try(exfalso;omega);try refine go3 ?_)))
    · exact (fidxI_at hi0 ‹_› ‹_› hp).symm
    · refine ⟨by omega, by omega, ?_, by omega⟩
      rw [take_int 0 hi0 ‹_›]
      grind
  · have Fz:=fz7 Tryz.results67 h0 h1 h7 h8 hc3 hc1
    repeat'(first|exact trivial|refine go1 ?_|(refine go2 ?_ ?_<;>intro _<;>try(exfalso;omega))|(refine go4 ?_;split<;>(try(exfalso;omega);try refine go3 ?_)))
    rw [fidxI_none (by rwa [take_all (by omega)] at hp)]
theorem c_containsFuncI {c : IV} {dom : Int → Prop} {p : Int → Bool} (hc : CloI c dom p) (xs : List Int) (hd : ∀ x ∈ xs, dom x) (hl : xs.length ≤ 1048576) : KP 37 [LI xs, .i c] [] = some (B (xs.any p), [], []) := by
  have hx := c_indexFuncI hc xs hd hl
  obtain ⟨hc1, hc2, hc3⟩ := hc
  refine xw_call (fn := Tryz.f37) rfl Tryz.func37 rfl ⟨Nat.le_of_ble_eq_true rfl, rfl, rfl⟩ ?_
  have Fz:=fz4 Tryz.results37 hc1 hc2 hx
  repeat'(first|exact trivial|refine go1 ?_|(refine go2 ?_ ?_<;>intro _<;>try(exfalso;omega))|(refine go4 ?_;split<;>(try(exfalso;omega);try refine go3 ?_)))
  exact fidxI_any
/-- A cut node: not all of its neighbors are connected without it. -/
def CutN (es : List (Int × Int)) (v : Int) : Prop := ∃ x ∈ nbS v es, ¬ Conn (alone v es) ((nbS v es).getD 0 0) x
noncomputable instance decCutN (es : List (Int × Int)) (v : Int) : Decidable (CutN es v) := Classical.propDecidable _
theorem OKG.alone {n : Int} {es : List (Int × Int)} (h : OKG n es) (v : Int) : OKG n (alone v es) :=
  ⟨h.n0, h.n1, Nat.le_trans (List.length_filter_le _ _) h.len, fun e he => h.ok e (List.mem_filter.1 he).1⟩
theorem VG.nodup {n : Int} {es : List (Int × Int)} (h : VG n es) : es.Nodup := Ord.nodup h.2.2.2.2
end Go.Proofs.YtdlfdoicheakoaaGreat.X

/- What functions compute: edges, cutting one. -/
set_option linter.unusedSimpArgs false
set_option linter.unusedVariables false
set_option maxHeartbeats 2000000
namespace Go.Proofs.YtdlfdoicheakoaaGreat.X
open Go Go.Proofs
/-- Two nodes that an edge can join. -/
def eOk (x y : Int) : Prop := 0 ≤ x ∧ x < 16 ∧ 0 ≤ y ∧ y < 16 ∧ x ≠ y
instance (x y : Int) : Decidable (eOk x y) := by unfold eOk; infer_instance
/-- Edges without one. -/
def cutE (e0 : Int × Int) (es : List (Int × Int)) : List (Int × Int) := es.filter fun e => decide (e ≠ e0)
theorem cut_del (a b : Int) (es : List (Int × Int)) : (es.filter fun e => !decide (e.1 = a ∧ e.2 = b)) = cutE (a, b) es := by
  unfold cutE
  congr 1
  funext e
  by_cases h : e = (a, b)
  · subst h; simp
  · have : ¬ (e.1 = a ∧ e.2 = b) := fun h' => h (Prod.ext h'.1 h'.2)
    simp [h, this]
theorem cutE_len (e0 : Int × Int) (es : List (Int × Int)) : (cutE e0 es).length ≤ es.length := List.length_filter_le _ _
theorem clo_cut (a b : Int) : Clo (.fn 45 [] [.eptr [.v (.int .i64 a), .v (.int .i64 b)] 0]) (fun _ => True) (fun e => decide (e.1 = a ∧ e.2 = b)) := by
  have h : ∀ x y : Int, KP 45 [PE x y, .i (.eptr [.v (.int .i64 a), .v (.int .i64 b)] 0)] [] = some (B (decide (x = a ∧ y = b)), [], []) := by
    intro x y
    refine xw_call (fn := Tryz.f45) rfl Tryz.func45 rfl ⟨Nat.le_of_ble_eq_true rfl, rfl, rfl⟩ ?_
    have Fz:=fz1 Tryz.results45
    repeat'(first|exact trivial|refine go1 ?_|(refine go2 ?_ ?_<;>intro _<;>try(exfalso;omega))|(refine go4 ?_;split<;>(try(exfalso;omega);try refine go3 ?_)))
  refine ⟨fun n => by cases n <;> rfl, rfl, fun me d x y _ => ?_⟩
  simp only [go_sem, ↓reduceIte, Int.reduceLE, Int.reduceLT, Int.reduceToNat, Int.reduceNeg, Int.reduceAdd, Int.reduceSub, Int.reduceMul, Int.reduceEq, Int.reduceNe, Nat.reduceEqDiff, Nat.reduceAdd, Nat.reduceSub, Nat.reduceMul, Nat.reduceLT, Nat.reduceLeDiff, Nat.reduceBEq, Nat.reduceBNe, UInt8.reduceToNat, h, ite_self]
@[go_sem] theorem c_cut (n a b : Int) (es : List (Int × Int)) (hl : es.length ≤ 1048576) : KP 17 [GL n es, PE a b] [] = some (.agg [I n, .i (delE (fun e => decide (e.1 = a ∧ e.2 = b)) es)], [], []) := by
  have hw := c_without (clo_cut a b) n es (fun _ _ => trivial) hl
  refine xw_call (fn := Tryz.f17) rfl Tryz.func17 rfl ⟨Nat.le_of_ble_eq_true rfl, rfl, rfl⟩ ?_
  have Fz:=fz2 Tryz.results17 hw
  repeat'(first|exact trivial|refine go1 ?_|(refine go2 ?_ ?_<;>intro _<;>try(exfalso;omega))|(refine go4 ?_;split<;>(try(exfalso;omega);try refine go3 ?_)))
@[go_sem] theorem c_CutEdge (n a b : Int) (es : List (Int × Int)) (hl : es.length ≤ 1048576) : KP 29 [GL n es, PE a b] [] =
    some (if VG n es ∧ (a, b) ∈ es then .tup [.agg [I n, .i (delE (fun e => decide (e.1 = a ∧ e.2 = b)) es)], B true] else .tup [.agg [I 0, .i .emp], B false], [], []) := by
  refine xw_call (fn := Tryz.f29) rfl Tryz.func29 rfl ⟨Nat.le_of_ble_eq_true rfl, rfl, rfl⟩ ?_
  have Fz:=fz1 Tryz.results29
  repeat'(first|exact trivial|refine go1 ?_|(refine go2 ?_ ?_<;>intro _<;>try(exfalso;omega))|(refine go4 ?_;split<;>(try(exfalso;omega);try refine go3 ?_)))
end Go.Proofs.YtdlfdoicheakoaaGreat.X
