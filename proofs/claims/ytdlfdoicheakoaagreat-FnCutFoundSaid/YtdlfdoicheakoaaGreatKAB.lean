/- What functions answer, and the plain laws behind it. -/
import Derived.Test.YtdlfdoicheakoaaGreatCfg
import Derived.Test.YtdlfdoicheakoaaGreatStp
/- What functions compute: edges. -/
set_option linter.unusedSimpArgs false
set_option linter.unusedVariables false
namespace Go.Proofs.YtdlfdoicheakoaaGreat.X
open Go Go.Proofs
/-- How data stand in arrays. -/
def encE (e : Int × Int) : List IV := [.v (.int .i64 e.1), .v (.int .i64 e.2)]
abbrev PE (a b : Int) : PV := .agg [I a, I b]
abbrev LE (es : List (Int × Int)) : PV := .i (.lst (es.map encE))
noncomputable abbrev KP : CallS := KK Tryz.prog cfg
def edgeOf (x y : Int) : Int × Int := if x < y then (x, y) else (y, x)
theorem c_l1Edge (x y : Int) : KP 35 [I x, I y] [] = some (PE (edgeOf x y).1 (edgeOf x y).2, [], []) := by
  refine xw_call (fn := Tryz.f35) rfl Tryz.func35 rfl ⟨Nat.le_of_ble_eq_true rfl, rfl, rfl⟩ ?_
  have Fz:=fz0
  repeat refine goG ?_
  unfold edgeOf
  split
  · have Fz:=fz0
    repeat refine goG ?_
    have Fz:=fz1 Tryz.results35
    refine goR ?_
    try trivial
  · have Fz:=fz0
    repeat refine goG ?_
    have Fz:=fz1 Tryz.results35
    refine goR ?_
    try trivial
def lessE (a b : Int × Int) : Bool := decide (a.1 < b.1 ∨ a.1 = b.1 ∧ a.2 < b.2)
theorem c_l1Less (a b c d : Int) : KP 71 [PE a b, PE c d] [] = some (B (lessE (a, b) (c, d)), [], []) := by
  refine xw_call (fn := Tryz.f71) rfl Tryz.func71 rfl ⟨Nat.le_of_ble_eq_true rfl, rfl, rfl⟩ ?_
  cases h1 : decide (a < c)
  · cases h2 : decide (a = c)
    · have Fz:=fz2 h1 h2
      repeat refine goG ?_
      have Fz:=fz3 Tryz.results71 h1 h2
      refine goR ?_
      try trivial
      simp only [decide_eq_false_iff_not] at h1 h2
      simp [lessE, h1, h2]
    · have Fz:=fz2 h1 h2
      repeat refine goG ?_
      have Fz:=fz3 Tryz.results71 h1 h2
      refine goR ?_
      try trivial
      simp only [decide_eq_false_iff_not, decide_eq_true_eq] at h1 h2
      simp [lessE, h2]
  · have Fz:=fz1 h1
    repeat refine goG ?_
    have Fz:=fz2 Tryz.results71 h1
    refine goR ?_
    try trivial
    simp only [decide_eq_true_eq] at h1
    simp [lessE, h1]
/-- The place of an edge, or -1. -/
def findE (es : List (Int × Int)) (e : Int × Int) : Int := if e ∈ es then (es.idxOf e : Int) else -1
theorem idxOf_at {e : Int × Int} : ∀ {es : List (Int × Int)} {i : Nat}, es[i]? = some e → e ∉ es.take i → es.idxOf e = i
  | [], _, h, _ => by simp at h
  | x :: r, 0, h, _ => by simp at h; subst h; simp
  | x :: r, i + 1, h, hn => by
    simp only [List.take_succ_cons, List.mem_cons, not_or] at hn
    have hx : (x == e) = false := by simpa using fun e' => hn.1 e'.symm
    rw [List.idxOf_cons, hx, idxOf_at (by simpa using h) hn.2]; rfl
theorem findE_at {es : List (Int × Int)} {e : Int × Int} {i : Nat} (h : es[i]? = some e) (hn : e ∉ es.take i) : findE es e = i := by
  have hin : e ∈ es := List.mem_of_getElem? h
  simp [findE, hin, idxOf_at h hn]
theorem c_l1Find (es : List (Int × Int)) (a b : Int) (hl : es.length ≤ 1048576) : KP 23 [LE es, PE a b] [] = some (I (findE es (a, b)), [], []) := by
  refine xw_call (fn := Tryz.f23) rfl Tryz.func23 rfl ⟨Nat.le_of_ble_eq_true rfl, rfl, rfl⟩ ?_
  have Fz:=fz0
  repeat refine goG ?_
  refine xw_loop_count (fun n s => ∃ i : Nat, n = es.length - i ∧ i ≤ es.length ∧ (a, b) ∉ es.take i ∧ s.ρ 0 = LE es ∧ s.ρ 5 = I i ∧ s.ρ 3 = .ptr 3 0 0 0 ∧ s.m 3 = some (.box 0 [I a, I b])) ?_ es.length _ ⟨0, by simp, by simp, by simp, rfl, rfl, rfl, rfl⟩
  rintro n ⟨ρ, m⟩ ⟨i, rfl, hi, hni, h0, h5, h3, hm⟩
  simp only at h0 h5 h3 hm
  have hw : IntKind.i64.wrap ((i : Int) + 1) = ((i + 1 : Nat) : Int) := wr1 (by omega)
  cases hc : decide ((i : Int) < es.length)
  · have Fz:=fz5 h0 h5 h3 hm hc
    repeat refine goG ?_
    have Fz:=fz5 Tryz.results23 h0 h5 h3 hm
    refine goR ?_
    try trivial
    simp only [decide_eq_false_iff_not] at hc
    have : (a, b) ∉ es := by rw [List.take_of_length_le (by omega)] at hni; exact hni
    simp [findE, this]
  · simp only [decide_eq_true_eq] at hc
    obtain ⟨e, he⟩ : ∃ e, es[i]? = some e := ⟨es[i]'(by omega), by simp⟩
    have Fz:=fz9 h0 h5 h3 hm hc hw he @encE.eq_1 @lgm
    repeat refine goG ?_
    split
    · rename_i hab
      have Fz:=fz9 h0 h5 h3 hm hc hw he @encE.eq_1 @lgm
      repeat refine goG ?_
      have Fz:=fz5 Tryz.results23 h0 h5 h3 hm
      refine goR ?_
      try trivial
      have : e = (a, b) := Prod.ext hab.1 hab.2
      subst this
      rw [findE_at he hni]
    · rename_i hab
      have Fz:=fz9 h0 h5 h3 hm hc hw he @encE.eq_1 @lgm
      repeat refine goG ?_
      refine ⟨es.length - (i + 1), by omega, i + 1, rfl, by omega, ?_, rfl⟩
      rw [List.take_add_one, he]
      simp only [Option.toList_some, List.mem_append, List.mem_singleton, not_or]
      exact ⟨hni, fun e' => hab (by rw [← e']; exact ⟨rfl, rfl⟩)⟩
end Go.Proofs.YtdlfdoicheakoaaGreat.X

/- What functions compute: the reader that draws. -/
set_option linter.unusedSimpArgs false
set_option linter.unusedVariables false
set_option maxHeartbeats 2000000
namespace Go.Proofs.YtdlfdoicheakoaaGreat.X
open Go Go.Proofs
def encB (b : Int) : List IV := [.v (.int .u8 b)]
def encI (x : Int) : List IV := [.v (.int .i64 x)]
abbrev LB (bs : List Int) : PV := .i (.lst (bs.map encB))
abbrev LI (xs : List Int) : PV := .i (.lst (xs.map encI))
abbrev Rd (bs : List Int) (p : Int) : Arr := .box 0 [LB bs, I p]
def bytes (bs : List Int) : Prop := (∀ b ∈ bs, 0 ≤ b ∧ b < 256) ∧ bs.length ≤ 2000
theorem all_encB (bs : List Int) : (bs.map encB).all (fun x => x.length == 1) = true := by simp [encB]
theorem all_encI (bs : List Int) : (bs.map encI).all (fun x => x.length == 1) = true := by simp [encI]
theorem all_encE (es : List (Int × Int)) : (es.map encE).all (fun x => x.length == 2) = true := by simp [encE]
attribute [go_sem] all_encB all_encI all_encE
theorem c_l14Open (bs : List Int) (hb : ∀ b ∈ bs, 0 ≤ b ∧ b < 256) (hl : bs.length ≤ 1000000000) : ∃ cs, bytes cs ∧ KP 11 [LB bs] [] = some (.ptr 2000 0 0 0, [], [Rd cs 0]) := by
  cases hc : decide ((2000 : Int) < bs.length)
  · refine ⟨bs, ⟨hb, by simp at hc; omega⟩, ?_⟩
    refine xw_call (fn := Tryz.f11) rfl Tryz.func11 rfl ⟨Nat.le_of_ble_eq_true rfl, rfl, rfl⟩ ?_
    have Fz:=fz1 hc
    repeat refine goG ?_
    have Fz:=fz1 Tryz.results11
    refine goR ?_
    try trivial
  · refine ⟨bs.take 2000, ⟨fun b h => hb b (List.mem_of_mem_take h), by simp; omega⟩, ?_⟩
    simp only [decide_eq_true_eq] at hc
    refine xw_call (fn := Tryz.f11) rfl Tryz.func11 rfl ⟨Nat.le_of_ble_eq_true rfl, rfl, rfl⟩ ?_
    have Fz:=fz3 hc (Int.le_of_lt hc) @lmt
    repeat refine goG ?_
    have Fz:=fz4 Tryz.results11 @Rd.eq_1 @LB.eq_1 @lmt
    refine goR ?_
    try trivial
theorem c_pick (bs : List Int) (p n : Int) (hb : bytes bs) (hp : 0 ≤ p ∧ p ≤ 1000000) (hn : -1000000 ≤ n ∧ n ≤ 1000000) :
    ∃ x, (1 ≤ n → 0 ≤ x ∧ x < n) ∧ (n < 1 → x = 0) ∧ KP 12 [.ptr 1000 0 0 0, I n] [Rd bs p] = some (I x, [Rd bs (p + 1)], []) := by
  have hp1 : IntKind.i64.wrap (p + 1 - 1) = p := by rw [wr (by omega) (by omega)]; omega
  cases h1 : decide (n < 1)
  · cases h2 : decide ((bs.length : Int) = 0)
    · cases h3 : decide (p < bs.length)
      · simp only [decide_eq_false_iff_not] at h1 h2 h3
        have hl : (0 : Int) < bs.length := by omega
        have hlm : (bs.length : Int) ≤ 2000 := by have := hb.2; omega
        have hm1 : 0 ≤ p.tmod bs.length ∧ p.tmod bs.length < bs.length := by rw [Int.tmod_eq_emod_of_nonneg hp.1]; exact ⟨Int.emod_nonneg _ (by omega), Int.emod_lt_of_pos _ hl⟩
        have hm2 : 0 ≤ (p * 7 + 3).tmod bs.length ∧ (p * 7 + 3).tmod bs.length < bs.length := by rw [Int.tmod_eq_emod_of_nonneg (by omega)]; exact ⟨Int.emod_nonneg _ (by omega), Int.emod_lt_of_pos _ hl⟩
        have hq : 0 ≤ p.tdiv bs.length ∧ p.tdiv bs.length ≤ p := by rw [Int.tdiv_eq_ediv_of_nonneg hp.1]; exact ⟨Int.ediv_nonneg hp.1 (by omega), Int.ediv_le_self _ hp.1⟩
        generalize hr1 : p.tmod bs.length = r1 at hm1
        generalize hr2 : (p * 7 + 3).tmod bs.length = r2 at hm2
        generalize hr3 : p.tdiv bs.length = r3 at hq
        obtain ⟨u, hu⟩ : ∃ u, bs[r1.toNat]? = some u := ⟨bs[r1.toNat]'(by omega), by simp⟩
        obtain ⟨v, hv⟩ : ∃ v, bs[r2.toNat]? = some v := ⟨bs[r2.toNat]'(by omega), by simp⟩
        have hu' := hb.1 u (List.mem_of_getElem? hu)
        have hv' := hb.1 v (List.mem_of_getElem? hv)
        have hx0 : 0 ≤ u * 131 + v * 1117 + p * 29 + r3 * 53 := by omega
        have hx1 : u * 131 + v * 1117 + p * 29 + r3 * 53 < 1000000000 := by omega
        generalize hx : u * 131 + v * 1117 + p * 29 + r3 * 53 = x at hx0 hx1
        have hx2 : 0 ≤ x.tdiv 64 ∧ x.tdiv 64 ≤ x := by rw [Int.tdiv_eq_ediv_of_nonneg hx0]; exact ⟨Int.ediv_nonneg hx0 (by omega), Int.ediv_le_self _ hx0⟩
        have hx3 := xorI_nonneg (a := x) (b := x.tdiv 64) hx0 hx2.1 (by omega) (by omega)
        refine ⟨(xorI x (x.tdiv 64)).tmod n, fun _ => ?_, fun h => absurd h h1, xw_call (fn := Tryz.f12) rfl Tryz.func12 rfl ⟨Nat.le_of_ble_eq_true rfl, rfl, rfl⟩ ?_⟩
        · rw [Int.tmod_eq_emod_of_nonneg hx3.1]
          exact ⟨Int.emod_nonneg _ (by omega), Int.emod_lt_of_pos _ (by omega)⟩
        · have Fz:=fz14 h1 h2 h3 hp1 hr1 hr2 hr3 hm1.1 hm2.1 hu hv hx @lgm @encB.eq_1
          repeat refine goD ?_
          have Fz:=fz1 Tryz.results12
          refine goR ?_
          try trivial
      · simp only [decide_eq_false_iff_not] at h1 h2
        simp only [decide_eq_true_eq] at h3
        obtain ⟨u, hu⟩ : ∃ u, bs[p.toNat]? = some u := ⟨bs[p.toNat]'(by omega), by simp⟩
        have hu' := hb.1 u (List.mem_of_getElem? hu)
        refine ⟨u.tmod n, fun _ => ?_, fun h => absurd h h1, xw_call (fn := Tryz.f12) rfl Tryz.func12 rfl ⟨Nat.le_of_ble_eq_true rfl, rfl, rfl⟩ ?_⟩
        · rw [Int.tmod_eq_emod_of_nonneg hu'.1]
          exact ⟨Int.emod_nonneg _ (by omega), Int.emod_lt_of_pos _ (by omega)⟩
        · have Fz:=fz8 h1 h2 h3 hp1 hp.1 hu @lgm @encB.eq_1
          repeat refine goD ?_
          have Fz:=fz1 Tryz.results12
          refine goR ?_
          try trivial
    · refine ⟨0, fun h => ⟨by omega, by omega⟩, by simp, xw_call (fn := Tryz.f12) rfl Tryz.func12 rfl ⟨Nat.le_of_ble_eq_true rfl, rfl, rfl⟩ ?_⟩
      have Fz:=fz2 h1 h2
      repeat refine goD ?_
      have Fz:=fz1 Tryz.results12
      refine goR ?_
      try trivial
  · refine ⟨0, by simp at h1; omega, by simp, xw_call (fn := Tryz.f12) rfl Tryz.func12 rfl ⟨Nat.le_of_ble_eq_true rfl, rfl, rfl⟩ ?_⟩
    have Fz:=fz1 h1
    repeat refine goD ?_
    have Fz:=fz1 Tryz.results12
    refine goR ?_
    try trivial
theorem c_num (bs : List Int) (p : Int) (xs : List Int) (hb : bytes bs) (hp : 0 ≤ p ∧ p ≤ 1000000) (h0 : xs ≠ []) (hl : xs.length ≤ 1000) :
    ∃ x, x ∈ xs ∧ KP 13 [.ptr 1000 0 0 0, .ref 1001 0 0 xs.length] [Rd bs p, .arr 0 1 (xs.map encI)] = some (I x, [Rd bs (p + 1), .arr 0 1 (xs.map encI)], []) := by
  have hpos : 0 < xs.length := List.length_pos_iff.2 h0
  obtain ⟨k, hk, _, hc⟩ := c_pick bs p xs.length hb hp (by omega)
  have hk' := hk (by omega)
  obtain ⟨x, hx⟩ : ∃ x, xs[k.toNat]? = some x := ⟨xs[k.toNat]'(by omega), by simp⟩
  refine ⟨x, List.mem_of_getElem? hx, xw_call (fn := Tryz.f13) rfl Tryz.func13 rfl ⟨Nat.le_of_ble_eq_true rfl, rfl, rfl⟩ ?_⟩
  have Fz:=fz6 hc hk'.1 hk'.2 hx @lgm @encI.eq_1
  repeat refine goD ?_
  have Fz:=fz1 Tryz.results13
  refine goR ?_
  try trivial
end Go.Proofs.YtdlfdoicheakoaaGreat.X

/- What functions compute: edges in order. -/
set_option linter.unusedSimpArgs false
set_option linter.unusedVariables false
set_option maxHeartbeats 2000000
namespace Go.Proofs.YtdlfdoicheakoaaGreat.X
open Go Go.Proofs
/-- Edges in order with one more. -/
def putE (e : Int × Int) : List (Int × Int) → List (Int × Int)
  | [] => [e]
  | x :: r => if lessE e x then e :: x :: r else x :: putE e r
/-- The same, from the front. -/
def putS (e : Int × Int) (done : Bool) (acc : List (Int × Int)) (x : Int × Int) : Bool × List (Int × Int) :=
  if !done && lessE e x then (true, acc ++ [e, x]) else (done, acc ++ [x])
theorem putE_length (e : Int × Int) : ∀ es : List (Int × Int), (putE e es).length = es.length + 1
  | [] => rfl
  | x :: r => by
    simp only [putE]
    split
    · rfl
    · simp [putE_length e r]
theorem drop_at {α : Type} {l : List α} {i : Nat} {x : α} (h : l[i]? = some x) : l.drop i = x :: l.drop (i + 1) := by
  have := (List.getElem?_eq_some_iff.1 h)
  obtain ⟨h1, h2⟩ := this
  rw [List.drop_eq_getElem_cons h1, h2]
theorem c_l1Put (es : List (Int × Int)) (a b : Int) (hl : es.length ≤ 1048576) :
    KP 64 [LE es, PE a b] [] = some (.ref 2000 0 0 (putE (a, b) es).length, [], [.arr 0 2 ((putE (a, b) es).map encE)]) := by
  refine xw_call (fn := Tryz.f64) rfl Tryz.func64 rfl ⟨Nat.le_of_ble_eq_true rfl, rfl, rfl⟩ ?_
  have Fz:=fz0
  repeat refine goG ?_
  refine xw_loop_count (fun n s => ∃ (i : Nat) (v : Nat) (d : Bool) (xs : List (Int × Int)), n = es.length - i ∧ i ≤ es.length ∧ xs.length ≤ 2 * i ∧ (d = true → putE (a, b) es = xs ++ es.drop i) ∧ (d = false → putE (a, b) es = xs ++ putE (a, b) (es.drop i)) ∧
    s.ρ 0 = LE es ∧ s.ρ 7 = I i ∧ s.ρ 3 = .ptr 3 0 0 0 ∧ s.ρ 5 = .ref 8 v 0 xs.length ∧ s.ρ 6 = B d ∧ s.m 3 = some (.box 0 [I a, I b]) ∧ s.m 8 = some (.arr v 2 (xs.map encE))) ?_ es.length _ ⟨0, 0, false, [], by simp, by simp, by simp, by simp, by simp, rfl, rfl, rfl, rfl, rfl, rfl, rfl⟩
  rintro n ⟨ρ, m⟩ ⟨i, v, d, xs, rfl, hi, hxl, hd1, hd2, h0, h7, h3, h5, h6, m3, m8⟩
  simp only at h0 h7 h3 h5 h6 m3 m8
  cases hc : decide ((i : Int) < es.length)
  · simp only [decide_eq_false_iff_not] at hc
    have hdr : es.drop i = [] := List.drop_of_length_le (by omega)
    cases d
    · have Fz:=fz9 h0 h7 h3 h5 h6 m3 m8 hc @encE.eq_1
      repeat refine goD ?_
      have Fz:=fz2 Tryz.results64 h0
      refine goR ?_
      try trivial
      have e : putE (a, b) es = xs ++ [(a, b)] := by rw [hd2 rfl, hdr]; rfl
      simp [e, encE]
    · have Fz:=fz8 h0 h7 h3 h5 h6 m3 m8 hc
      repeat refine goD ?_
      have Fz:=fz3 Tryz.results64 h0 m8
      refine goR ?_
      try trivial
      have e : putE (a, b) es = xs := by rw [hd1 rfl, hdr]; simp
      simp [e]
  · simp only [decide_eq_true_eq] at hc
    obtain ⟨⟨x, y⟩, he⟩ : ∃ e, es[i]? = some e := ⟨es[i]'(by omega), by simp⟩
    have hdr := drop_at he
    have hless := c_l1Less a b x y
    cases d
    · cases hle : lessE (a, b) (x, y)
      · have Fz:=fz13 h0 h7 h3 h5 h6 m3 m8 hc he @lgm @encE.eq_1 hless hle
        repeat refine goD ?_
        exact ⟨es.length - (i + 1), by omega, i + 1, rfl, by omega, v + 1, false, xs ++ [(x, y)], by simp; omega, by simp, fun _ => by rw [hd2 rfl, hdr]; simp [putE, hle], rfl, by simp, rfl, by simp [encE]⟩
      · have Fz:=fz13 h0 h7 h3 h5 h6 m3 m8 hc he @lgm @encE.eq_1 hless hle
        repeat refine goD ?_
        exact ⟨es.length - (i + 1), by omega, i + 1, rfl, by omega, v + 1 + 1, true, xs ++ [(a, b), (x, y)], by simp; omega, fun _ => by rw [hd2 rfl, hdr]; simp [putE, hle], by simp, rfl, by simp, rfl, by simp [encE]⟩
    · have Fz:=fz12 h0 h7 h3 h5 h6 m3 m8 hc he @lgm @encE.eq_1 hless
      repeat refine goD ?_
      exact ⟨es.length - (i + 1), by omega, i + 1, rfl, by omega, v + 1, true, xs ++ [(x, y)], by simp; omega, fun _ => by rw [hd1 rfl, hdr]; simp, by simp, rfl, by simp, rfl, by simp [encE]⟩
end Go.Proofs.YtdlfdoicheakoaaGreat.X

/- What functions compute: drawing a graph. -/
set_option linter.unusedSimpArgs false
set_option linter.unusedVariables false
set_option maxHeartbeats 2000000
namespace Go.Proofs.YtdlfdoicheakoaaGreat.X
open Go Go.Proofs
def Ord (es : List (Int × Int)) : Prop := es.Pairwise fun a b => lessE a b = true
theorem lessE_iff {a b : Int × Int} : lessE a b = true ↔ a.1 < b.1 ∨ a.1 = b.1 ∧ a.2 < b.2 := by simp [lessE]
theorem lessE_trans {a b c : Int × Int} (h : lessE a b = true) (k : lessE b c = true) : lessE a c = true := by
  rw [lessE_iff] at *; omega
theorem lessE_total {a b : Int × Int} (h : lessE a b = false) (hn : a ≠ b) : lessE b a = true := by
  have h' : ¬ lessE a b = true := by simp [h]
  rw [lessE_iff] at *
  have : ¬ (a.1 = b.1 ∧ a.2 = b.2) := fun e => hn (Prod.ext e.1 e.2)
  omega
theorem mem_putE {e x : Int × Int} : ∀ {es : List (Int × Int)}, x ∈ putE e es ↔ x = e ∨ x ∈ es
  | [] => by simp [putE]
  | y :: r => by
    simp only [putE]
    split
    · simp
    · simp only [List.mem_cons, mem_putE (es := r)]
      constructor
      · rintro (h | h | h) <;> simp [h]
      · rintro (h | h | h) <;> simp [h]
theorem Ord.put {e : Int × Int} : ∀ {es : List (Int × Int)}, Ord es → e ∉ es → Ord (putE e es)
  | [], _, _ => by simp [Ord, putE]
  | x :: r, h, hn => by
    simp only [Ord, List.pairwise_cons] at h
    simp only [List.mem_cons, not_or] at hn
    simp only [putE]
    split
    · rename_i hl
      simp only [Ord, List.pairwise_cons]
      refine ⟨fun y hy => ?_, h.1, h.2⟩
      rcases List.mem_cons.1 hy with rfl | hy
      · exact hl
      · exact lessE_trans hl (h.1 y hy)
    · rename_i hl
      have hl' : lessE e x = false := by simpa using hl
      simp only [Ord, List.pairwise_cons]
      refine ⟨fun y hy => ?_, Ord.put h.2 hn.2⟩
      rcases mem_putE.1 hy with rfl | hy
      · exact lessE_total hl' hn.1
      · exact h.1 y hy
/-- Edges as they are handed back: none, or a list. -/
def qe (es : List (Int × Int)) : IV := if es = [] then .emp else .lst (es.map encE)
theorem frz_qe {n : Nat} {es : List (Int × Int)} : frz n (.i (qe es)) = .ret (.lst (es.map encE)) := by
  cases es with
  | nil => cases n <;> rfl
  | cons e r => cases n <;> rfl
theorem flat_qe {es : List (Int × Int)} : (qe es).flat = true := by cases es <;> rfl
theorem lenP_qe {es : List (Int × Int)} : lenP (.i (qe es)) = some es.length := by
  cases es with
  | nil => rfl
  | cons e r => simp [lenP, qe]
theorem qe_nil : qe [] = .emp := rfl
theorem qe_putE {e : Int × Int} {es : List (Int × Int)} : .lst ((putE e es).map encE) = qe (putE e es) := by
  have : putE e es ≠ [] := fun h => by have := putE_length e es; simp [h] at this
  simp [qe, this]
attribute [go_sem] frz_qe flat_qe lenP_qe
theorem c_l1Draw (bs : List Int) (p : Int) (hb : bytes bs) (hp : 0 ≤ p ∧ p ≤ 100000) :
    ∃ n es p', 1 ≤ n ∧ n ≤ 16 ∧ Ord es ∧ (∀ e ∈ es, 0 ≤ e.1 ∧ e.1 < e.2 ∧ e.2 < n) ∧ es.length ≤ 30 ∧ p ≤ p' ∧ p' ≤ p + 100 ∧
      KP 33 [.ptr 1000 0 0 0] [Rd bs p] = some (.agg [I n, .i (qe es)], [Rd bs p'], []) := by
  obtain ⟨N, hN, hnum⟩ := c_num bs p [6, 5, 7, 4, 8, 10, 3, 1, 16] hb (by omega) (by simp) (by simp)
  have hN' : 1 ≤ N ∧ N ≤ 16 := by
    have : ∀ x ∈ [6, 5, 7, 4, 8, 10, 3, 1, (16 : Int)], 1 ≤ x ∧ x ≤ 16 := by decide
    exact this N hN
  simp only [List.map_cons, List.map_nil, encI, List.length_cons, List.length_nil, Nat.reduceAdd] at hnum
  suffices h : ∃ res, (∃ (es : List (Int × Int)) (p' : Int), Ord es ∧ (∀ e ∈ es, 0 ≤ e.1 ∧ e.1 < e.2 ∧ e.2 < N) ∧ es.length ≤ 30 ∧ p ≤ p' ∧ p' ≤ p + 100 ∧ res = (PV.agg [I N, .i (qe es)], [Rd bs p'], [])) ∧
      KP 33 [.ptr 1000 0 0 0] [Rd bs p] = some res by
    obtain ⟨res, ⟨es, p', h1, h2, h3, h4, h5, rfl⟩, h6⟩ := h
    exact ⟨N, es, p', hN'.1, hN'.2, h1, h2, h3, h4, h5, h6⟩
  refine xw_callE (fn := Tryz.f33) rfl Tryz.func33 rfl ⟨Nat.le_of_ble_eq_true rfl, rfl, rfl⟩ ?_
  have Fz:=fz1 hnum
  repeat refine goD ?_
  refine xw_loop_count (fun n s => ∃ (i : Int) (es : List (Int × Int)) (p' : Int), n = (N - i).toNat ∧ 1 ≤ i ∧ i ≤ N ∧ Ord es ∧ (∀ e ∈ es, 0 ≤ e.1 ∧ e.1 < e.2 ∧ e.2 < i) ∧ (es.length : Int) ≤ i ∧ p ≤ p' ∧ p' ≤ p + 1 + 2 * i ∧
    s.ρ 0 = .ptr 1000 0 0 0 ∧ s.ρ 2 = .ptr 2 0 0 0 ∧ s.ρ 3 = .ptr 3 0 0 0 ∧ s.ρ 4 = I i ∧ s.m 1000 = some (Rd bs p') ∧ s.m 2 = some (.box 0 [I 0, .i .emp]) ∧ s.m 3 = some (.box 0 [I N, .i (qe es)])) ?_ (N - 1).toNat _ ⟨1, [], p + 1, by simp, by omega, by omega, by simp [Ord], by simp, by simp, by omega, by omega, rfl, rfl, rfl, rfl, rfl, rfl, by rw [qe_nil]; rfl⟩
  rintro n ⟨ρ, m⟩ ⟨i, es, p', rfl, hi1, hi2, ho, hes, hel, hp1, hp2, h0, h2, h3, h4, m1, m2, m3⟩
  simp only at h0 h2 h3 h4 m1 m2 m3
  cases hc : decide (i < N)
  · simp only [decide_eq_false_iff_not] at hc
    have hiN : i = N := by omega
    subst hiN
    obtain ⟨x, hx, hnum2⟩ := c_num bs p' [2, 1, 3, 0, 5, 8] hb (by omega) (by simp) (by simp)
    have hx' : 0 ≤ x ∧ x ≤ 8 := by
      have : ∀ x ∈ [2, 1, 3, 0, 5, (8 : Int)], 0 ≤ x ∧ x ≤ 8 := by decide
      exact this x hx
    simp only [List.map_cons, List.map_nil, encI, List.length_cons, List.length_nil, Nat.reduceAdd] at hnum2
    have Fz:=fz9 h0 h2 h3 h4 m1 m2 m3 hc hnum2
    repeat refine goD ?_
    refine xw_loop_count (fun n s => ∃ (k : Int) (es : List (Int × Int)) (p2 : Int), n = k.toNat ∧ 0 ≤ k ∧ k ≤ x ∧ Ord es ∧ (∀ e ∈ es, 0 ≤ e.1 ∧ e.1 < e.2 ∧ e.2 < i) ∧ (es.length : Int) ≤ i + x - k ∧ p ≤ p2 ∧ p2 ≤ p' + 1 + 2 * (x - k) ∧
      s.ρ 0 = .ptr 1000 0 0 0 ∧ s.ρ 2 = .ptr 2 0 0 0 ∧ s.ρ 3 = .ptr 3 0 0 0 ∧ s.ρ 5 = I k ∧ s.m 1000 = some (Rd bs p2) ∧ s.m 2 = some (.box 0 [I 0, .i .emp]) ∧ s.m 3 = some (.box 0 [I i, .i (qe es)])) ?_ x.toNat _ ⟨x, es, p' + 1, rfl, by omega, by omega, ho, hes, by omega, by omega, by omega, by simp [upd, h0], by simp [upd, h2], by simp [upd, h3], rfl, by simp [upd], by simp [upd, m2], by simp [upd, m3]⟩
    rintro n ⟨ρ, m⟩ ⟨k, es, p2, rfl, hk1, hk2, ho, hes, hel, hp1, hp2, h0, h2, h3, h5, m1, m2, m3⟩
    simp only at h0 h2 h3 h5 m1 m2 m3
    cases hk : decide (0 < k)
    · have Fz:=fz8 h0 h2 h3 h5 m1 m2 m3 hk
      repeat refine goD ?_
      have Fz:=fz5 Tryz.results33 h2 m1 m2 m3
      refine goR ?_
      try trivial
      exact ⟨es, ho, hes, by omega, p2, by omega, by omega, rfl, rfl⟩
    · simp only [decide_eq_true_eq] at hk
      obtain ⟨y, hy, _, hpk⟩ := c_pick bs p2 i hb (by omega) (by omega)
      have hy' := hy hi1
      obtain ⟨z, hz, _, hpk2⟩ := c_pick bs (p2 + 1) i hb (by omega) (by omega)
      have hz' := hz hi1
      have hedge := c_l1Edge y z
      have hfind := c_l1Find es (edgeOf y z).1 (edgeOf y z).2 (by omega)
      have hput := c_l1Put es (edgeOf y z).1 (edgeOf y z).2 (by omega)
      cases hyz : decide (y = z)
      rotate_left
      · have Fz:=fz11 h0 h2 h3 h5 m1 m2 m3 hk hpk hpk2 hyz
        repeat refine goD ?_
        exact ⟨(k - 1).toNat, by omega, k - 1, rfl, by omega, by omega, es, ho, hes, by omega, p2 + 1 + 1, by omega, by omega, rfl, rfl, rfl⟩
      · cases hf : decide (findE es ((edgeOf y z).1, (edgeOf y z).2) < 0)
        · have Fz:=fz15 h0 h2 h3 h5 m1 m2 m3 hk hpk hpk2 hyz hedge hfind hput hf
          repeat refine goD ?_
          exact ⟨(k - 1).toNat, by omega, k - 1, rfl, by omega, by omega, es, ho, hes, by omega, p2 + 1 + 1, by omega, by omega, rfl, rfl, rfl⟩
        · have Fz:=fz15 h0 h2 h3 h5 m1 m2 m3 hk hpk hpk2 hyz hedge hfind hput hf
          repeat refine goD ?_
          simp only [decide_eq_true_eq, decide_eq_false_iff_not] at hf hyz
          have hnin : edgeOf y z ∉ es := fun h => by
            have : findE es (edgeOf y z) = (es.idxOf (edgeOf y z) : Int) := by simp [findE, h]
            have hf' : findE es (edgeOf y z) < 0 := hf
            omega
          have he2 : 0 ≤ (edgeOf y z).1 ∧ (edgeOf y z).1 < (edgeOf y z).2 ∧ (edgeOf y z).2 < i := by unfold edgeOf; split <;> (simp only; omega)
          refine ⟨(k - 1).toNat, by omega, k - 1, rfl, by omega, by omega, putE (edgeOf y z) es, ho.put hnin, fun e h => ?_, by rw [putE_length]; omega, p2 + 1 + 1, by omega, by omega, rfl, rfl, by rw [← qe_putE]⟩
          rcases mem_putE.1 h with rfl | h
          · exact he2
          · exact hes e h
  · simp only [decide_eq_true_eq] at hc
    obtain ⟨x, hx, _, hpk⟩ := c_pick bs p' 4 hb (by omega) (by omega)
    cases hx0 : decide (0 < x)
    · have Fz:=fz10 h0 h2 h3 h4 m1 m2 m3 hc hpk hx0
      repeat refine goD ?_
      exact ⟨(N - (i + 1)).toNat, by omega, i + 1, rfl, by omega, by omega, es, ho, fun e h => by have := hes e h; omega, by omega, p' + 1, by omega, by omega, rfl, rfl, rfl⟩
    · obtain ⟨y, hy, _, hpk2⟩ := c_pick bs (p' + 1) i hb (by omega) (by omega)
      have hy' := hy hi1
      have hedge := c_l1Edge y i
      have hput := c_l1Put es (edgeOf y i).1 (edgeOf y i).2 (by omega)
      have he : edgeOf y i = (y, i) := by simp [edgeOf, hy'.2]
      rw [he] at hedge hput
      have Fz:=fz13 h0 h2 h3 h4 m1 m2 m3 hc hpk hx0 hpk2 hedge hput
      repeat refine goD ?_
      have hnin : (y, i) ∉ es := fun h => by have := hes _ h; simp at this
      refine ⟨(N - (i + 1)).toNat, by omega, i + 1, rfl, by omega, by omega, putE (y, i) es, ho.put hnin, fun e h => ?_, by rw [putE_length]; omega, p' + 1 + 1, by omega, by omega, rfl, rfl, by rw [← qe_putE]⟩
      rcases mem_putE.1 h with rfl | h
      · simp only; omega
      · have := hes e h; omega
end Go.Proofs.YtdlfdoicheakoaaGreat.X

/- What functions compute: graphs that may be wrong. -/
set_option linter.unusedSimpArgs false
set_option linter.unusedVariables false
set_option maxHeartbeats 2000000
namespace Go.Proofs.YtdlfdoicheakoaaGreat.X
open Go Go.Proofs
abbrev GL (n : Int) (es : List (Int × Int)) : PV := .agg [I n, LE es]
/-- A list of edges, in whatever form. -/
structure EL (x : IV) (es : List (Int × Int)) : Prop where
  f : ∀ n, frz n (.i x) = .ret (.lst (es.map encE))
  fl : x.flat = true
theorem EL.qe (es : List (Int × Int)) : EL (qe es) es := ⟨fun _ => frz_qe, flat_qe⟩
theorem EL.lst (es : List (Int × Int)) : EL (.lst (es.map encE)) es := ⟨fun n => by cases n <;> rfl, rfl⟩
theorem c_l1Copy (n : Int) (es : List (Int × Int)) (hl : es.length ≤ 1048576) : KP 74 [GL n es] [] = some (.agg [I n, .ref 2000 0 0 es.length], [], [.arr 0 2 (es.map encE)]) := by
  refine xw_call (fn := Tryz.f74) rfl Tryz.func74 rfl ⟨Nat.le_of_ble_eq_true rfl, rfl, rfl⟩ ?_
  have Fz:=fz0
  repeat refine goD ?_
  have Fz:=fz1 Tryz.results74
  refine goR ?_
  try trivial
end Go.Proofs.YtdlfdoicheakoaaGreat.X

/- What functions compute: a graph and a node. -/
set_option linter.unusedSimpArgs false
set_option linter.unusedVariables false
set_option maxHeartbeats 2000000
namespace Go.Proofs.YtdlfdoicheakoaaGreat.X
open Go Go.Proofs
end Go.Proofs.YtdlfdoicheakoaaGreat.X
