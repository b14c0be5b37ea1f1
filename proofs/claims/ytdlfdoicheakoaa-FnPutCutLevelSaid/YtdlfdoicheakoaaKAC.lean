/- What functions answer, and the plain laws behind it. -/
import Derived.Test.YtdlfdoicheakoaaC10
import Derived.Test.YtdlfdoicheakoaaM1
/- What functions compute: labels of parts. -/
set_option linter.unusedSimpArgs false
set_option linter.unusedVariables false
set_option maxHeartbeats 2000000
namespace Go.Proofs.Ytdlfdoicheakoaa.X
open Go Go.Proofs
theorem iota_length (n : Int) : (iota n).length = n.toNat := by simp [iota]
theorem iota_snoc {i : Int} (h : 0 ≤ i) : iota (i + 1) = iota i ++ [i] := by
  have e : (i + 1).toNat = i.toNat + 1 := by omega
  unfold iota
  rw [e, List.range_succ, List.map_append]
  simp; omega
@[go_sem] theorem c_parts (n : Int) (es : List (Int × Int)) (h : OKG n es) : KP 49 [GL n es] [] = some (.ref 2000 0 0 (lab n es).length, [], [.arr 0 1 ((lab n es).map encI)]) := by
  obtain ⟨n0, n1, hl, ho⟩ := h
  rw [← rounds_lab ho]
  refine xw_call (fn := Try.f49) rfl Try.func49 rfl ⟨Nat.le_of_ble_eq_true rfl, rfl, rfl⟩ ?_
  repeat'(first|(refine na ?_;constructor)|(refine ite_two ?_ ?_<;>intro _<;>first|(exfalso;omega)|skip)|refine ord_split (by kernel_rfl) ?_|((first|(refine nb ?_;constructor)|refine pn rfl ?_|refine pe rfl ?_|((first|refine at2 ?_|refine at_cond ?_);split<;>first|(exfalso;omega;done)|skip))<;>try simp(config:={maxSteps:=3000000})(disch:=first|assumption|omega|exact VG.okg (by assumption)|(simp only[List.length_set,List.length_append,List.length_cons,List.length_nil,List.length_replicate];omega))only[go_sem,simprocAttr,Try.results49]))
  refine xw_loopR (fun (x : Int × Nat × List Int) s => s.m 8 = some (.arr x.2.1 1 (x.2.2.map encI)) ∧ s.ρ 3 = .ref 8 x.2.1 0 x.2.2.length ∧ s.ρ 11 = I x.1 ∧ s.ρ 10 = I n ∧ s.ρ 1 = .ptr 1 0 0 0 ∧ s.m 1 = some (.box 0 [I n, LE es]) ∧
    0 ≤ x.1 ∧ x.1 ≤ n ∧ x.2.2.length = x.1.toNat ∧ x.2.2 = iota x.1) (fun x => (n - x.1).toNat) (0, 0, []) (by simp [upd, iota, n0]) ?_
  rintro ⟨i, w, xs⟩ ⟨ρ, m⟩ ⟨m8, h3, h11, h10, h1, m1, g0, g1, g2, g3⟩
  simp only at m8 h3 h11 h10 h1 m1 g0 g1 g2 g3
  repeat'(first|(refine na ?_;constructor)|(refine ite_two ?_ ?_<;>intro _<;>first|(exfalso;omega)|skip)|refine ord_split (by kernel_rfl) ?_|((first|(refine nb ?_;constructor)|refine pn rfl ?_|refine pe rfl ?_|((first|refine at2 ?_|refine at_cond ?_);split<;>first|(exfalso;omega;done)|skip))<;>try simp(config:={maxSteps:=3000000})(disch:=first|assumption|omega|exact VG.okg (by assumption)|(simp only[List.length_set,List.length_append,List.length_cons,List.length_nil,List.length_replicate];omega))only[go_sem,simprocAttr,Try.results49, m8, h3, h11, h10, h1, m1]))
  · refine ⟨by omega, by omega, by omega, ?_, by omega⟩
    rw [iota_snoc g0, g3]
  · have hin : i = n := by omega
    subst hin
    refine xw_loopR (fun (x : Int × List Int) s => s.m 8 = some (.arr w 1 (x.2.map encI)) ∧ s.ρ 3 = .ref 8 w 0 x.2.length ∧ s.ρ 21 = I x.1 ∧ s.ρ 20 = I i ∧ s.ρ 1 = .ptr 1 0 0 0 ∧ s.m 1 = some (.box 0 [I i, LE es]) ∧
      0 ≤ x.1 ∧ x.1 ≤ i ∧ x.2.length = i.toNat ∧ x.2 = rounds es x.1.toNat (iota i)) (fun x => (i - x.1).toNat) (0, xs) (by simp [upd, rounds, m8, h3, h1, m1, g0, g2, ← g3]) ?_
    rintro ⟨k, out⟩ ⟨ρ, m⟩ ⟨m8, h3, h21, h20, h1, m1, f0, f1, f2, f3⟩
    simp only at m8 h3 h21 h20 h1 m1 f0 f1 f2 f3
    repeat'(first|(refine na ?_;constructor)|(refine ite_two ?_ ?_<;>intro _<;>first|(exfalso;omega)|skip)|refine ord_split (by kernel_rfl) ?_|((first|(refine nb ?_;constructor)|refine pn rfl ?_|refine pe rfl ?_|((first|refine at2 ?_|refine at_cond ?_);split<;>first|(exfalso;omega;done)|skip))<;>try simp(config:={maxSteps:=3000000})(disch:=first|assumption|omega|exact VG.okg (by assumption)|(simp only[List.length_set,List.length_append,List.length_cons,List.length_nil,List.length_replicate];omega))only[go_sem,simprocAttr,Try.results49, m8, h3, h21, h20, h1, m1]))
    · refine xw_loopR (fun (x : Int × List Int) s => s.m 8 = some (.arr w 1 (x.2.map encI)) ∧ s.ρ 3 = .ref 8 w 0 x.2.length ∧ s.ρ 21 = I k ∧ s.ρ 20 = I i ∧ s.ρ 1 = .ptr 1 0 0 0 ∧ s.m 1 = some (.box 0 [I i, LE es]) ∧ s.ρ 24 = LE es ∧ s.ρ 25 = I es.length ∧ s.ρ 26 = I x.1 ∧
        0 ≤ x.1 ∧ x.1 ≤ es.length ∧ x.2.length = i.toNat ∧ x.2 = (es.take x.1.toNat).foldl stepE out) (fun x => (es.length - x.1).toNat) (0, out) (by simp [upd, m8, h3, h1, m1, h21, h20, f2]) ?_
      rintro ⟨j, ou⟩ ⟨ρ, m⟩ ⟨m8, h3, h21, h20, h1, m1, h24, h25, h26, e0, e1, e2, e3⟩
      simp only at m8 h3 h21 h20 h1 m1 h24 h25 h26 e0 e1 e2 e3
      by_cases hj : j < es.length
      · have he := ho _ (getD_mem (d := (0, 0)) (show j.toNat < es.length by omega))
        unfold okE at he
        repeat'(first|(refine na ?_;constructor)|(refine ite_two ?_ ?_<;>intro _<;>first|(exfalso;omega)|skip)|refine ord_split (by kernel_rfl) ?_|((first|(refine nb ?_;constructor)|refine pn rfl ?_|refine pe rfl ?_|((first|refine at2 ?_|refine at_cond ?_);split<;>first|(exfalso;omega;done)|skip))<;>try simp(config:={maxSteps:=3000000})(disch:=first|assumption|omega|exact VG.okg (by assumption)|(simp only[List.length_set,List.length_append,List.length_cons,List.length_nil,List.length_replicate];omega))only[go_sem,simprocAttr,Try.results49, m8, h3, h21, h20, h1, m1, h24, h25, h26]))
        refine ⟨by omega, by omega, e2, ?_, by omega⟩
        rw [take_int (0, 0) e0 hj, List.foldl_append, ← e3]
        rfl
      · repeat'(first|(refine na ?_;constructor)|(refine ite_two ?_ ?_<;>intro _<;>first|(exfalso;omega)|skip)|refine ord_split (by kernel_rfl) ?_|((first|(refine nb ?_;constructor)|refine pn rfl ?_|refine pe rfl ?_|((first|refine at2 ?_|refine at_cond ?_);split<;>first|(exfalso;omega;done)|skip))<;>try simp(config:={maxSteps:=3000000})(disch:=first|assumption|omega|exact VG.okg (by assumption)|(simp only[List.length_set,List.length_append,List.length_cons,List.length_nil,List.length_replicate];omega))only[go_sem,simprocAttr,Try.results49, m8, h3, h21, h20, h1, m1, h24, h25, h26]))
        refine ⟨by omega, by omega, e2, ?_, by omega⟩
        rw [take_all (by omega)] at e3
        rw [e3, f3, show (k + 1).toNat = k.toNat + 1 by omega]
        rfl
    · have hk : k = i := by omega
      subst hk
      rw [← f3]
      exact ⟨rfl, rfl⟩
@[go_sem] theorem c_connected (n x y : Int) (es : List (Int × Int)) (h : OKG n es) (hx : 0 ≤ x ∧ x < n) (hy : 0 ≤ y ∧ y < n) : KP 32 [GL n es, I x, I y] [] = some (B (decide (Conn es x y)), [], []) := by
  have hp := c_parts n es h
  have hl := lab_length n es
  refine xw_call (fn := Try.f32) rfl Try.func32 rfl ⟨Nat.le_of_ble_eq_true rfl, rfl, rfl⟩ ?_
  repeat'(first|(refine na ?_;constructor)|(refine ite_two ?_ ?_<;>intro _<;>first|(exfalso;omega)|skip)|refine ord_split (by kernel_rfl) ?_|((first|(refine nb ?_;constructor)|refine pn rfl ?_|refine pe rfl ?_|((first|refine at2 ?_|refine at_cond ?_);split<;>first|(exfalso;omega;done)|skip))<;>try simp(config:={maxSteps:=3000000})(disch:=first|assumption|omega|exact VG.okg (by assumption)|(simp only[List.length_set,List.length_append,List.length_cons,List.length_nil,List.length_replicate];omega))only[go_sem,simprocAttr,Try.results32, hp]))
  exact lab_beq hx hy
@[go_sem] theorem c_l2Labels (n : Int) (es : List (Int × Int)) (h : OKG n es) : KP 87 [GL n es] [] = some (.ref 2000 0 0 (lab n es).length, [], [.arr 0 1 ((lab n es).map encI)]) := by
  obtain ⟨n0, n1, hl, ho⟩ := h
  refine xw_call (fn := Try.f87) rfl Try.func87 rfl ⟨Nat.le_of_ble_eq_true rfl, rfl, rfl⟩ ?_
  repeat'(first|(refine na ?_;constructor)|(refine ite_two ?_ ?_<;>intro _<;>first|(exfalso;omega)|skip)|refine ord_split (by kernel_rfl) ?_|((first|(refine nb ?_;constructor)|refine pn rfl ?_|refine pe rfl ?_|((first|refine at2 ?_|refine at_cond ?_);split<;>first|(exfalso;omega;done)|skip))<;>try simp(config:={maxSteps:=3000000})(disch:=first|assumption|omega|exact VG.okg (by assumption)|(simp only[List.length_set,List.length_append,List.length_cons,List.length_nil,List.length_replicate];omega))only[go_sem,simprocAttr,Try.results87]))
  refine xw_loopR (fun (x : Int × Nat × List Int) s => s.m 9 = some (.arr x.2.1 1 (x.2.2.map encI)) ∧ s.ρ 3 = .ref 9 x.2.1 0 x.2.2.length ∧ s.ρ 4 = I x.1 ∧ s.ρ 1 = .ptr 1 0 0 0 ∧ s.m 1 = some (.box 0 [I n, LE es]) ∧
    0 ≤ x.1 ∧ x.1 ≤ n ∧ x.2.2.length = x.1.toNat ∧ x.2.2 = iota x.1) (fun x => (n - x.1).toNat) (0, 0, []) (by simp [upd, iota, n0]) ?_
  rintro ⟨i, w, xs⟩ ⟨ρ, m⟩ ⟨m9, h3, h4, h1, m1, g0, g1, g2, g3⟩
  simp only at m9 h3 h4 h1 m1 g0 g1 g2 g3
  repeat'(first|(refine na ?_;constructor)|(refine ite_two ?_ ?_<;>intro _<;>first|(exfalso;omega)|skip)|refine ord_split (by kernel_rfl) ?_|((first|(refine nb ?_;constructor)|refine pn rfl ?_|refine pe rfl ?_|((first|refine at2 ?_|refine at_cond ?_);split<;>first|(exfalso;omega;done)|skip))<;>try simp(config:={maxSteps:=3000000})(disch:=first|assumption|omega|exact VG.okg (by assumption)|(simp only[List.length_set,List.length_append,List.length_cons,List.length_nil,List.length_replicate];omega))only[go_sem,simprocAttr,Try.results87, m9, h3, h4, h1, m1]))
  · refine ⟨by omega, by omega, by omega, ?_, by omega⟩
    rw [iota_snoc g0, g3]
  · have hin : i = n := by omega
    subst hin
    have hsn : Snd i es xs := by rw [g3]; exact iota_snd i es
    refine xw_loopR (fun (x : Bool × List Int) s => s.m 9 = some (.arr w 1 (x.2.map encI)) ∧ s.ρ 3 = .ref 9 w 0 x.2.length ∧ s.ρ 5 = B x.1 ∧ s.ρ 1 = .ptr 1 0 0 0 ∧ s.m 1 = some (.box 0 [I i, LE es]) ∧
      x.2.length = i.toNat ∧ Snd i es x.2 ∧ (x.1 = false → x.2 = lab i es)) (fun x => (2 * x.2.sum).toNat + x.1.toNat) (true, xs) (by simp [upd, m9, h3, h1, m1, g0, g2, ← g3, hsn]) ?_
    rintro ⟨b, out⟩ ⟨ρ, m⟩ ⟨m9, h3, h5, h1, m1, f0, f1, f2⟩
    simp only at m9 h3 h5 h1 m1 f0 f1 f2
    repeat'(first|(refine na ?_;constructor)|(refine ite_two ?_ ?_<;>intro _<;>first|(exfalso;omega)|skip)|refine ord_split (by kernel_rfl) ?_|((first|(refine nb ?_;constructor)|refine pn rfl ?_|refine pe rfl ?_|((first|refine at2 ?_|refine at_cond ?_);split<;>first|(exfalso;omega;done)|skip))<;>try simp(config:={maxSteps:=3000000})(disch:=first|assumption|omega|exact VG.okg (by assumption)|(simp only[List.length_set,List.length_append,List.length_cons,List.length_nil,List.length_replicate];omega))only[go_sem,simprocAttr,Try.results87, m9, h3, h5, h1, m1]))
    · have hb : b = true := by assumption
      subst hb
      refine xw_loopR (fun (x : Int × Bool × List Int) s => s.m 9 = some (.arr w 1 (x.2.2.map encI)) ∧ s.ρ 3 = .ref 9 w 0 x.2.2.length ∧ s.ρ 5 = B x.2.1 ∧ s.ρ 6 = I x.1 ∧ s.ρ 1 = .ptr 1 0 0 0 ∧ s.m 1 = some (.box 0 [I i, LE es]) ∧
        0 ≤ x.1 ∧ x.1 ≤ es.length ∧ x.2.2.length = i.toNat ∧ Snd i es x.2.2 ∧ (x.2.1 = false → x.2.2 = out ∧ ∀ e ∈ es.take x.1.toNat, out.getD e.1.toNat 0 = out.getD e.2.toNat 0) ∧ (x.2.1 = true → x.2.2.sum < out.sum))
        (fun x => (es.length - x.1).toNat) (0, false, out) (by simp [upd, m9, h3, h1, m1, f0, f1]) ?_
      rintro ⟨j, a, ou⟩ ⟨ρ, m⟩ ⟨m9, h3, h5, h6, h1, m1, e0, e1, e2, e3, e4, e5⟩
      simp only at m9 h3 h5 h6 h1 m1 e0 e1 e2 e3 e4 e5
      by_cases hj : j < es.length
      · have hmem := getD_mem (d := (0, 0)) (show j.toNat < es.length by omega)
        have he := ho _ hmem
        have he' := he
        unfold okE at he
        repeat'(first|(refine na ?_;constructor)|(refine ite_two ?_ ?_<;>intro _<;>first|(exfalso;omega)|skip)|refine ord_split (by kernel_rfl) ?_|((first|(refine nb ?_;constructor)|refine pn rfl ?_|refine pe rfl ?_|((first|refine at2 ?_|refine at_cond ?_);split<;>first|(exfalso;omega;done)|skip))<;>try simp(config:={maxSteps:=3000000})(disch:=first|assumption|omega|exact VG.okg (by assumption)|(simp only[List.length_set,List.length_append,List.length_cons,List.length_nil,List.length_replicate];omega))only[go_sem,simprocAttr,Try.results87, m9, h3, h5, h6, h1, m1]))
        · refine ⟨by omega, by omega, e2, e3.set1 he' hmem, by simp, fun _ => ?_, by omega⟩
          rw [sum_set (by omega)]
          cases a with
          | false => have e := (e4 rfl).1; subst e; omega
          | true => have := e5 rfl; omega
        · refine ⟨by omega, by omega, e2, e3.set2 he' hmem (by omega), by simp, fun _ => ?_, by omega⟩
          rw [sum_set (by omega)]
          cases a with
          | false => have e := (e4 rfl).1; subst e; omega
          | true => have := e5 rfl; omega
        · refine ⟨by omega, by omega, e2, e3, fun ha => ⟨(e4 ha).1, fun e hm => ?_⟩, e5, by omega⟩
          rw [take_int (0, 0) e0 hj] at hm
          rcases List.mem_append.1 hm with hm | hm
          · exact (e4 ha).2 e hm
          · rw [List.mem_singleton.1 hm, ← (e4 ha).1]; omega
      · repeat'(first|(refine na ?_;constructor)|(refine ite_two ?_ ?_<;>intro _<;>first|(exfalso;omega)|skip)|refine ord_split (by kernel_rfl) ?_|((first|(refine nb ?_;constructor)|refine pn rfl ?_|refine pe rfl ?_|((first|refine at2 ?_|refine at_cond ?_);split<;>first|(exfalso;omega;done)|skip))<;>try simp(config:={maxSteps:=3000000})(disch:=first|assumption|omega|exact VG.okg (by assumption)|(simp only[List.length_set,List.length_append,List.length_cons,List.length_nil,List.length_replicate];omega))only[go_sem,simprocAttr,Try.results87, m9, h3, h5, h6, h1, m1]))
        rw [take_all (by omega)] at e4
        have hs1 := e3.sum
        have hs2 := f1.sum
        refine ⟨e2, e3, fun ha => ?_, ?_⟩
        · obtain ⟨rfl, h⟩ := e4 ha
          exact lab_of ho e3 h
        · cases a with
          | false => rw [(e4 rfl).1]; simp
          | true => have := e5 rfl; simp; omega
    · have hb : b = false := by simpa using ‹¬b = true›
      have := f2 hb
      subst this
      exact ⟨rfl, rfl⟩
@[go_sem] theorem c_l2Joined (n x y : Int) (es : List (Int × Int)) (h : OKG n es) (hx : 0 ≤ x ∧ x < n) (hy : 0 ≤ y ∧ y < n) : KP 36 [GL n es, I x, I y] [] = some (B (decide (Conn es x y)), [], []) := by
  have hp := c_l2Labels n es h
  have hl := lab_length n es
  refine xw_call (fn := Try.f36) rfl Try.func36 rfl ⟨Nat.le_of_ble_eq_true rfl, rfl, rfl⟩ ?_
  repeat'(first|(refine na ?_;constructor)|(refine ite_two ?_ ?_<;>intro _<;>first|(exfalso;omega)|skip)|refine ord_split (by kernel_rfl) ?_|((first|(refine nb ?_;constructor)|refine pn rfl ?_|refine pe rfl ?_|((first|refine at2 ?_|refine at_cond ?_);split<;>first|(exfalso;omega;done)|skip))<;>try simp(config:={maxSteps:=3000000})(disch:=first|assumption|omega|exact VG.okg (by assumption)|(simp only[List.length_set,List.length_append,List.length_cons,List.length_nil,List.length_replicate];omega))only[go_sem,simprocAttr,Try.results36, hp]))
  exact lab_beq hx hy
@[go_sem] theorem c_l2Node (n v : Int) (es : List (Int × Int)) (hl : es.length ≤ 1048576) : KP 95 [GL n es, I v] [] = some (B (decide (VG n es ∧ 0 ≤ v ∧ v < n)), [], []) := by
  refine xw_call (fn := Try.f95) rfl Try.func95 rfl ⟨Nat.le_of_ble_eq_true rfl, rfl, rfl⟩ ?_
  repeat'(first|(refine na ?_;constructor)|(refine ite_two ?_ ?_<;>intro _<;>first|(exfalso;omega)|skip)|refine ord_split (by kernel_rfl) ?_|((first|(refine nb ?_;constructor)|refine pn rfl ?_|refine pe rfl ?_|((first|refine at2 ?_|refine at_cond ?_);split<;>first|(exfalso;omega;done)|skip))<;>try simp(config:={maxSteps:=3000000})(disch:=first|assumption|omega|exact VG.okg (by assumption)|(simp only[List.length_set,List.length_append,List.length_cons,List.length_nil,List.length_replicate];omega))only[go_sem,simprocAttr,Try.results95]))
  all_goals grind
end Go.Proofs.Ytdlfdoicheakoaa.X

/- Neighbors: plain law. -/
set_option linter.unusedVariables false
namespace Go.Proofs.Ytdlfdoicheakoaa.X
open Go
theorem VG.alone {n v : Int} {es : List (Int × Int)} (h : VG n es) : VG n (alone v es) := by
  obtain ⟨h1, h2, h3, h4, h5⟩ := h
  have hl : (X.alone v es).length ≤ es.length := List.length_filter_le _ _
  exact ⟨h1, h2, by omega, fun e he => h4 e (List.mem_filter.1 he).1, h5.filter _⟩
theorem sorted_ext : ∀ {l r : List Int}, l.Pairwise (· < ·) → r.Pairwise (· < ·) → (∀ x, x ∈ l ↔ x ∈ r) → l = r
  | [], [], _, _, _ => rfl
  | [], y :: r, _, _, h => by have := (h y).2 (by simp); simp at this
  | x :: l, [], _, _, h => by have := (h x).1 (by simp); simp at this
  | x :: l, y :: r, hl, hr, h => by
    rw [List.pairwise_cons] at hl hr
    have hxy : x = y := by
      rcases List.mem_cons.1 ((h x).1 (by simp)) with e | e
      · exact e
      · rcases List.mem_cons.1 ((h y).2 (by simp)) with e' | e'
        · exact e'.symm
        · have := hl.1 y e'; have := hr.1 x e; omega
    subst hxy
    rw [sorted_ext hl.2 hr.2 fun z => ?_]
    constructor
    · intro hz
      rcases List.mem_cons.1 ((h z).1 (by simp [hz])) with e | e
      · have := hl.1 z hz; omega
      · exact e
    · intro hz
      rcases List.mem_cons.1 ((h z).2 (by simp [hz])) with e | e
      · have := hr.1 z hz; omega
      · exact e
theorem Ord.nodup {es : List (Int × Int)} (h : Ord es) : es.Nodup := by
  refine List.Pairwise.imp (fun {a b} hab e => ?_) h
  subst e
  rw [lessE_iff] at hab; omega
theorem mem_nbL {n : Int} {es : List (Int × Int)} (ho : ∀ e ∈ es, okE n e) {v x : Int} : x ∈ nbL v es ↔ Adj es v x := by
  unfold nbL Adj
  rw [List.mem_filterMap]
  constructor
  · rintro ⟨e, he, h⟩
    split at h
    · rename_i h1; cases h; subst h1; exact .inl he
    · split at h
      · rename_i h2; cases h; subst h2; exact .inr he
      · cases h
  · rintro (h | h)
    · exact ⟨_, h, by simp⟩
    · have := ho _ h
      unfold okE at this
      exact ⟨_, h, by rw [if_neg (by simp only; omega), if_pos rfl]⟩
theorem mem_nbS {n : Int} {es : List (Int × Int)} (ho : ∀ e ∈ es, okE n e) {v x : Int} : x ∈ nbS v es ↔ Adj es v x := by
  unfold nbS sortI
  rw [List.mem_mergeSort]
  exact mem_nbL ho
theorem sorted_iota (n : Int) : (iota n).Pairwise (· < ·) := by
  unfold iota
  rw [List.pairwise_map]
  refine List.Pairwise.imp (fun {a b} h => ?_) (List.pairwise_lt_range)
  omega
theorem mem_iota {n x : Int} : x ∈ iota n ↔ 0 ≤ x ∧ x < n := by
  unfold iota
  rw [List.mem_map]
  constructor
  · rintro ⟨y, hy, rfl⟩
    have := List.mem_range.1 hy
    omega
  · rintro ⟨h1, h2⟩
    exact ⟨x.toNat, List.mem_range.2 (by omega), by omega⟩
theorem mem_edgeOf {n : Int} {es : List (Int × Int)} (ho : ∀ e ∈ es, okE n e) {x v : Int} : (x ≠ v ∧ edgeOf x v ∈ es) ↔ Adj es v x := by
  unfold edgeOf Adj
  constructor
  · rintro ⟨h1, h2⟩
    split at h2
    · exact .inr h2
    · exact .inl h2
  · rintro (h | h)
    · have := ho _ h; unfold okE at this; simp only at this
      rw [if_neg (by omega)]; exact ⟨by omega, h⟩
    · have := ho _ h; unfold okE at this; simp only at this
      rw [if_pos (by omega)]; exact ⟨by omega, h⟩
end Go.Proofs.Ytdlfdoicheakoaa.X

/- What functions compute: neighbors node by node, cut nodes. -/
set_option linter.unusedSimpArgs false
set_option linter.unusedVariables false
set_option maxHeartbeats 2000000
namespace Go.Proofs.Ytdlfdoicheakoaa.X
open Go Go.Proofs
/-- A function value that tells something of a number. -/
structure CloI (c : IV) (dom : Int → Prop) (p : Int → Bool) : Prop where
  frz : ∀ n, X.frz n (.i c) = .ret c
  flat : c.flat = true
  call : ∀ me d x, dom x → dynP cfg (KK Try.prog cfg) me (some d) (.i c) [I x] = .ret (B (p x), [])
def fidxI (p : Int → Bool) (xs : List Int) : Int := if xs.findIdx p < xs.length then (xs.findIdx p : Int) else -1
theorem fidxI_at {p : Int → Bool} {xs : List Int} {i : Int} (h0 : 0 ≤ i) (h : i < xs.length) (hp : p (xs.getD i.toNat 0) = true) (hn : ∀ e ∈ xs.take i.toNat, p e = false) : fidxI p xs = i := by
  have hi : i.toNat < xs.length := by omega
  have : xs.findIdx p = i.toNat := by
    rw [List.findIdx_eq hi]
    refine ⟨by simpa [hi] using hp, fun j hj => hn _ ?_⟩
    rw [List.mem_take_iff_getElem]
    exact ⟨j, by omega, rfl⟩
  unfold fidxI
  rw [this, if_pos hi]; omega
theorem fidxI_none {p : Int → Bool} {xs : List Int} (hn : ∀ e ∈ xs, p e = false) : fidxI p xs = -1 := by
  have : xs.findIdx p = xs.length := List.findIdx_eq_length.2 hn
  unfold fidxI
  rw [this, if_neg (by omega)]
theorem fidxI_any {p : Int → Bool} {xs : List Int} : decide (0 ≤ fidxI p xs) = xs.any p := by
  cases h : xs.any p with
  | true =>
    obtain ⟨x, hx, hp⟩ := List.any_eq_true.1 h
    have : xs.findIdx p < xs.length := List.findIdx_lt_length_of_exists ⟨x, hx, hp⟩
    unfold fidxI
    rw [if_pos this]; simp
  | false =>
    rw [fidxI_none fun e he => by simpa using List.any_eq_false.1 h e he]; rfl
theorem c_indexFuncI {c : IV} {dom : Int → Prop} {p : Int → Bool} (hc : CloI c dom p) (xs : List Int) (hd : ∀ x ∈ xs, dom x) (hl : xs.length ≤ 1048576) : KP 94 [LI xs, .i c] [] = some (I (fidxI p xs), [], []) := by
  obtain ⟨hc1, hc2, hc3⟩ := hc
  refine xw_call (fn := Try.f94) rfl Try.func94 rfl ⟨Nat.le_of_ble_eq_true rfl, rfl, rfl⟩ ?_
  repeat'(first|(refine na ?_;constructor)|(refine ite_two ?_ ?_<;>intro _<;>first|(exfalso;omega)|skip)|refine ord_split (by kernel_rfl) ?_|((first|(refine nb ?_;constructor)|refine pn rfl ?_|refine pe rfl ?_|((first|refine at2 ?_|refine at_cond ?_);split<;>first|(exfalso;omega;done)|skip))<;>try simp(config:={maxSteps:=3000000})(disch:=first|assumption|omega|exact VG.okg (by assumption)|(simp only[List.length_set,List.length_append,List.length_cons,List.length_nil,List.length_replicate];omega))only[go_sem,simprocAttr,Try.results94]))
  refine xw_loopR (fun (i : Int) s => s.ρ 0 = LI xs ∧ s.ρ 1 = .i c ∧ s.ρ 7 = I xs.length ∧ s.ρ 8 = I i ∧ 0 ≤ i ∧ i ≤ xs.length ∧ ∀ e ∈ xs.take i.toNat, p e = false) (fun i => (xs.length - i).toNat) 0 (by simp [upd]) ?_
  rintro i ⟨ρ, m⟩ ⟨h0, h1, h7, h8, hi0, hi, hp⟩
  simp only at h0 h1 h7 h8
  by_cases hj : i < xs.length
  · have hm : dom (xs.getD i.toNat 0) := hd _ (getD_mem (by omega))
    repeat'(first|(refine na ?_;constructor)|(refine ite_two ?_ ?_<;>intro _<;>first|(exfalso;omega)|skip)|refine ord_split (by kernel_rfl) ?_|((first|(refine nb ?_;constructor)|refine pn rfl ?_|refine pe rfl ?_|((first|refine at2 ?_|refine at_cond ?_);split<;>first|(exfalso;omega;done)|skip))<;>try simp(config:={maxSteps:=3000000})(disch:=first|assumption|omega|exact VG.okg (by assumption)|(simp only[List.length_set,List.length_append,List.length_cons,List.length_nil,List.length_replicate];omega))only[go_sem,simprocAttr,Try.results94, h0, h1, h7, h8, hc3, hc1]))
    · exact (fidxI_at hi0 ‹_› ‹_› hp).symm
    · refine ⟨by omega, by omega, ?_, by omega⟩
      rw [take_int 0 hi0 ‹_›]
      grind
  · repeat'(first|(refine na ?_;constructor)|(refine ite_two ?_ ?_<;>intro _<;>first|(exfalso;omega)|skip)|refine ord_split (by kernel_rfl) ?_|((first|(refine nb ?_;constructor)|refine pn rfl ?_|refine pe rfl ?_|((first|refine at2 ?_|refine at_cond ?_);split<;>first|(exfalso;omega;done)|skip))<;>try simp(config:={maxSteps:=3000000})(disch:=first|assumption|omega|exact VG.okg (by assumption)|(simp only[List.length_set,List.length_append,List.length_cons,List.length_nil,List.length_replicate];omega))only[go_sem,simprocAttr,Try.results94, h0, h1, h7, h8, hc3, hc1]))
    rw [fidxI_none (by rwa [take_all (by omega)] at hp)]
theorem c_containsFuncI {c : IV} {dom : Int → Prop} {p : Int → Bool} (hc : CloI c dom p) (xs : List Int) (hd : ∀ x ∈ xs, dom x) (hl : xs.length ≤ 1048576) : KP 47 [LI xs, .i c] [] = some (B (xs.any p), [], []) := by
  have hx := c_indexFuncI hc xs hd hl
  obtain ⟨hc1, hc2, hc3⟩ := hc
  refine xw_call (fn := Try.f47) rfl Try.func47 rfl ⟨Nat.le_of_ble_eq_true rfl, rfl, rfl⟩ ?_
  repeat'(first|(refine na ?_;constructor)|(refine ite_two ?_ ?_<;>intro _<;>first|(exfalso;omega)|skip)|refine ord_split (by kernel_rfl) ?_|((first|(refine nb ?_;constructor)|refine pn rfl ?_|refine pe rfl ?_|((first|refine at2 ?_|refine at_cond ?_);split<;>first|(exfalso;omega;done)|skip))<;>try simp(config:={maxSteps:=3000000})(disch:=first|assumption|omega|exact VG.okg (by assumption)|(simp only[List.length_set,List.length_append,List.length_cons,List.length_nil,List.length_replicate];omega))only[go_sem,simprocAttr,Try.results47, hc1, hc2, hx]))
  exact fidxI_any
/-- A cut node: not all of its neighbors are connected without it. -/
def CutN (es : List (Int × Int)) (v : Int) : Prop := ∃ x ∈ nbS v es, ¬ Conn (alone v es) ((nbS v es).getD 0 0) x
noncomputable instance decCutN (es : List (Int × Int)) (v : Int) : Decidable (CutN es v) := Classical.propDecidable _
theorem OKG.alone {n : Int} {es : List (Int × Int)} (h : OKG n es) (v : Int) : OKG n (alone v es) :=
  ⟨h.n0, h.n1, Nat.le_trans (List.length_filter_le _ _) h.len, fun e he => h.ok e (List.mem_filter.1 he).1⟩
theorem VG.nodup {n : Int} {es : List (Int × Int)} (h : VG n es) : es.Nodup := Ord.nodup h.2.2.2.2
end Go.Proofs.Ytdlfdoicheakoaa.X

/- What functions compute: edges, cutting one. -/
set_option linter.unusedSimpArgs false
set_option linter.unusedVariables false
set_option maxHeartbeats 2000000
namespace Go.Proofs.Ytdlfdoicheakoaa.X
open Go Go.Proofs
/-- Two nodes that an edge can join. -/
def eOk (x y : Int) : Prop := 0 ≤ x ∧ x < 16 ∧ 0 ≤ y ∧ y < 16 ∧ x ≠ y
instance (x y : Int) : Decidable (eOk x y) := by unfold eOk; infer_instance
/-- Edges without one. -/
def cutE (e0 : Int × Int) (es : List (Int × Int)) : List (Int × Int) := es.filter fun e => decide (e ≠ e0)
theorem cutE_len (e0 : Int × Int) (es : List (Int × Int)) : (cutE e0 es).length ≤ es.length := List.length_filter_le _ _
theorem clo_cut (a b : Int) : Clo (.fn 92 [] [.eptr [.v (.int .i64 a), .v (.int .i64 b)] 0]) (fun _ => True) (fun e => decide (e.1 = a ∧ e.2 = b)) := by
  have h : ∀ x y : Int, KP 92 [PE x y, .i (.eptr [.v (.int .i64 a), .v (.int .i64 b)] 0)] [] = some (B (decide (x = a ∧ y = b)), [], []) := by
    intro x y
    refine xw_call (fn := Try.f92) rfl Try.func92 rfl ⟨Nat.le_of_ble_eq_true rfl, rfl, rfl⟩ ?_
    repeat'(first|(refine na ?_;constructor)|(refine ite_two ?_ ?_<;>intro _<;>first|(exfalso;omega)|skip)|refine ord_split (by kernel_rfl) ?_|((first|(refine nb ?_;constructor)|refine pn rfl ?_|refine pe rfl ?_|((first|refine at2 ?_|refine at_cond ?_);split<;>first|(exfalso;omega;done)|skip))<;>try simp(config:={maxSteps:=3000000})(disch:=first|assumption|omega|exact VG.okg (by assumption)|(simp only[List.length_set,List.length_append,List.length_cons,List.length_nil,List.length_replicate];omega))only[go_sem,simprocAttr,Try.results92]))
  refine ⟨fun n => by cases n <;> rfl, rfl, fun me d x y _ => ?_⟩
  simp only [go_sem, ↓reduceIte, Int.reduceLE, Int.reduceLT, Int.reduceToNat, Int.reduceNeg, Int.reduceAdd, Int.reduceSub, Int.reduceMul, Int.reduceEq, Int.reduceNe, Nat.reduceEqDiff, Nat.reduceAdd, Nat.reduceSub, Nat.reduceMul, Nat.reduceLT, Nat.reduceLeDiff, Nat.reduceBEq, Nat.reduceBNe, UInt8.reduceToNat, h, ite_self]
@[go_sem] theorem c_cut (n a b : Int) (es : List (Int × Int)) (hl : es.length ≤ 1048576) : KP 39 [GL n es, PE a b] [] = some (.agg [I n, .i (delE (fun e => decide (e.1 = a ∧ e.2 = b)) es)], [], []) := by
  have hw := c_without (clo_cut a b) n es (fun _ _ => trivial) hl
  refine xw_call (fn := Try.f39) rfl Try.func39 rfl ⟨Nat.le_of_ble_eq_true rfl, rfl, rfl⟩ ?_
  repeat'(first|(refine na ?_;constructor)|(refine ite_two ?_ ?_<;>intro _<;>first|(exfalso;omega)|skip)|refine ord_split (by kernel_rfl) ?_|((first|(refine nb ?_;constructor)|refine pn rfl ?_|refine pe rfl ?_|((first|refine at2 ?_|refine at_cond ?_);split<;>first|(exfalso;omega;done)|skip))<;>try simp(config:={maxSteps:=3000000})(disch:=first|assumption|omega|exact VG.okg (by assumption)|(simp only[List.length_set,List.length_append,List.length_cons,List.length_nil,List.length_replicate];omega))only[go_sem,simprocAttr,Try.results39, hw]))
end Go.Proofs.Ytdlfdoicheakoaa.X
