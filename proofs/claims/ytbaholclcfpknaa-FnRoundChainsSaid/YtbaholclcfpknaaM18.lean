/- Cut nodes by low points: plain law. -/
import Derived.Test.YtbaholclcfpknaaM16
import Derived.Test.YtbaholclcfpknaaM17
set_option linter.unusedVariables false
namespace Go.Proofs.Ytbaholclcfpknaa.X
open Go

/-- What a search in depth leaves. -/
structure Dfs (n : Int) (es : List (Int × Int)) (S : Sr) : Prop where
  bd : ∃ N : Int, ∀ u, inR n u → gI S.num u ≤ N
  pa : ∀ u, inR n u → gI S.par u = -1 ∨ (inR n (gI S.par u) ∧ gI S.num (gI S.par u) < gI S.num u ∧ u ∈ nbS (gI S.par u) es)
  inj : ∀ u w, inR n u → inR n w → gI S.num u = gI S.num w → u = w
  an : ∀ x, inR n x → ∀ w ∈ nbS x es, gI S.num x < gI S.num w → Anc n S.par x w
  lo : ∀ u, inR n u → gI S.low u = lowOf S u (nbS u es)
theorem seek_dfs {n : Int} {es : List (Int × Int)} (ho : ∀ e ∈ es, okE n e) (hn : es.Nodup) (h0 : 0 ≤ n) : Dfs n es (seek n es) := by
  obtain ⟨h1, h2, h3⟩ := seek_inv ho hn n.toNat (by omega)
  obtain ⟨ht, he⟩ := seek_tree ho hn n.toNat (by omega)
  have hz : ∀ u, inR n u → gI (seekS n es n.toNat).1.num u ≠ 0 := fun u hu => h3 u hu.1 (by obtain ⟨a, b⟩ := hu; omega)
  exact ⟨⟨_, fun u hu => (h1.nn u hu).2⟩, fun u hu => (ht.pa u hu (hz u hu)).imp id fun h => ⟨h.1, h.2.2.1, h.2.2.2⟩, fun u w hu hw h => ht.inj u w hu hw (hz u hu) h, fun x hx => he x hx (hz x hx), fun u hu => (h2 u hu (hz u hu)).2⟩

theorem fold_lt {s : Sr} {u c : Int} : ∀ (ws : List Int) (a : Int), ws.foldl (lstep s u) a < c → a < c ∨ ∃ w ∈ ws, gI s.num w < c ∨ (gI s.par w = u ∧ gI s.low w < c)
  | [], a, h => .inl h
  | w :: ws, a, h => by
    rcases fold_lt ws _ h with h | ⟨x, hx, h⟩
    · by_cases h1 : a < c
      · exact .inl h1
      · refine .inr ⟨w, by simp, ?_⟩
        unfold lstep at h
        by_cases c1 : w ≠ gI s.par u ∧ gI s.num w < a
        · rw [if_pos c1] at h
          split at h
          · rename_i k
            exact .inr ⟨k.1, h⟩
          · exact .inl h
        · rw [if_neg c1] at h
          split at h
          · rename_i k
            exact .inr ⟨k.1, h⟩
          · exact absurd h h1
    · exact .inr ⟨x, List.mem_cons_of_mem _ hx, h⟩
theorem fold_ge {s : Sr} {u : Int} : ∀ (ws : List Int) (a : Int), ∀ w ∈ ws, (w ≠ gI s.par u → ws.foldl (lstep s u) a ≤ gI s.num w) ∧ (gI s.par w = u → ws.foldl (lstep s u) a ≤ gI s.low w)
  | [], a, w, h => by simp at h
  | x :: ws, a, w, h => by
    rcases List.mem_cons.1 h with rfl | h
    · have h1 := lowOf_le (s := s) (u := u) ws (lstep s u a w)
      rw [List.foldl_cons]
      have h2 : (w ≠ gI s.par u → lstep s u a w ≤ gI s.num w) ∧ (gI s.par w = u → lstep s u a w ≤ gI s.low w) := by
        unfold lstep
        refine ⟨fun k => ?_, fun k => ?_⟩
        · by_cases c : w ≠ gI s.par u ∧ gI s.num w < a
          · rw [if_pos c]; split <;> omega
          · rw [if_neg c]
            have : a ≤ gI s.num w := by
              refine Classical.byContradiction fun q => c ⟨k, by omega⟩
            split <;> omega
        · by_cases c1 : w ≠ gI s.par u ∧ gI s.num w < a
          · rw [if_pos c1]
            split
            · omega
            · rename_i c
              exact Int.not_lt.1 fun q => c ⟨k, q⟩
          · rw [if_neg c1]
            split
            · omega
            · rename_i c
              exact Int.not_lt.1 fun q => c ⟨k, q⟩
      exact ⟨fun k => Int.le_trans h1 (h2.1 k), fun k => Int.le_trans h1 (h2.2 k)⟩
    · rw [List.foldl_cons]
      exact fold_ge ws _ w h

namespace Dfs
variable {n : Int} {es : List (Int × Int)} {S : Sr}
theorem num_le (D : Dfs n es S) {a u : Int} (h : Anc n S.par a u) : gI S.num a ≤ gI S.num u := by
  induction h with
  | refl => exact Int.le_refl _
  | @up u hu hp _ ih =>
    rcases D.pa u hu with h | h
    · obtain ⟨h1, h2⟩ := hp; omega
    · omega
theorem above (D : Dfs n es S) {a u : Int} (h : Anc n S.par a u) (hne : a ≠ u) : inR n (gI S.par u) ∧ Anc n S.par a (gI S.par u) := by
  cases h with
  | refl => exact absurd rfl hne
  | up hu hp h => exact ⟨hp, h⟩
theorem adj_alone {v x y : Int} (h : Adj es x y) (hx : x ≠ v) (hy : y ≠ v) : Conn (alone v es) x y := by
  refine .of ?_
  unfold alone
  rcases h with h | h
  · exact .inl (List.mem_filter.2 ⟨h, decide_eq_true ⟨hx, hy⟩⟩)
  · exact .inr (List.mem_filter.2 ⟨h, decide_eq_true ⟨hy, hx⟩⟩)
theorem conn_low (ho : ∀ e ∈ es, okE n e) (D : Dfs n es S) {v a u : Int} (h : Anc n S.par a u) (hv : gI S.num v < gI S.num a) : Conn (alone v es) a u := by
  induction h with
  | refl => exact .refl _
  | @up u hu hp h ih =>
    have h1 := D.num_le h
    rcases D.pa u hu with h2 | h2
    · obtain ⟨h3, h4⟩ := hp; omega
    · refine ih.trans (adj_alone ((mem_nbS ho).1 h2.2.2) ?_ ?_)
      · intro e; have := congrArg (gI S.num) e; omega
      · intro e; have := congrArg (gI S.num) e; omega
theorem conn_high (ho : ∀ e ∈ es, okE n e) (D : Dfs n es S) {v a u : Int} (h : Anc n S.par a u) : gI S.num u < gI S.num v → Conn (alone v es) a u := by
  induction h with
  | refl => exact fun _ => .refl _
  | @up u hu hp h ih =>
    intro hv
    rcases D.pa u hu with h2 | h2
    · obtain ⟨h3, h4⟩ := hp; omega
    · refine (ih (by omega)).trans (adj_alone ((mem_nbS ho).1 h2.2.2) ?_ ?_)
      · intro e; have := congrArg (gI S.num) e; omega
      · intro e; have := congrArg (gI S.num) e; omega
theorem comp (D : Dfs n es S) {a b u : Int} (ha : Anc n S.par a u) (hb : Anc n S.par b u) : Anc n S.par a b ∨ Anc n S.par b a := by
  induction ha with
  | refl => exact .inr hb
  | up hu hp h ih =>
    cases hb with
    | refl => exact .inl (.up hu hp h)
    | up _ _ hb => exact ih hb
theorem kid (D : Dfs n es S) {v z : Int} (h : Anc n S.par v z) (hne : z ≠ v) (hv : inR n v) : ∃ i, inR n i ∧ gI S.par i = v ∧ Anc n S.par i z := by
  induction h with
  | refl => exact absurd rfl hne
  | @up u hu hp h ih =>
    by_cases e : gI S.par u = v
    · exact ⟨u, hu, e, .refl⟩
    · obtain ⟨i, h1, h2, h3⟩ := ih e
      exact ⟨i, h1, h2, .up hu hp h3⟩
theorem kid_num (D : Dfs n es S) {v i : Int} (hv : inR n v) (hi : inR n i) (h : gI S.par i = v) : gI S.num v < gI S.num i ∧ i ∈ nbS v es := by
  rcases D.pa i hi with h1 | h1
  · obtain ⟨h2, h3⟩ := hv; omega
  · rw [h] at h1; exact h1.2
/-- A low point below: an edge leads there. -/
theorem low_lt (ho : ∀ e ∈ es, okE n e) (D : Dfs n es S) {c : Int} : ∀ (k : Nat) (u : Int), inR n u → (∀ x, inR n x → gI S.num x ≤ gI S.num u + k) → gI S.low u < c → c ≤ gI S.num u → ∃ x w, Anc n S.par u x ∧ inR n x ∧ w ∈ nbS x es ∧ gI S.num w < c := by
  intro k
  induction k with
  | zero =>
    intro u hu hk hl hc
    rw [D.lo u hu] at hl
    rcases fold_lt _ _ hl with h | ⟨w, hw, h | ⟨h1, h2⟩⟩
    · omega
    · exact ⟨u, w, .refl, hu, hw, h⟩
    · have hwr := (nb_in ho hw).1
      have := (D.kid_num hu hwr h1).1
      have := hk w hwr
      omega
  | succ k ih =>
    intro u hu hk hl hc
    rw [D.lo u hu] at hl
    rcases fold_lt _ _ hl with h | ⟨w, hw, h | ⟨h1, h2⟩⟩
    · omega
    · exact ⟨u, w, .refl, hu, hw, h⟩
    · have hwr := (nb_in ho hw).1
      have hn := (D.kid_num hu hwr h1).1
      obtain ⟨x, y, a1, a2, a3, a4⟩ := ih w hwr (fun x hx => by have := hk x hx; omega) h2 (by omega)
      exact ⟨x, y, Anc.trans (.up hwr (by rw [h1]; exact hu) (by rw [h1]; exact .refl)) a1, a2, a3, a4⟩
theorem low_anc (ho : ∀ e ∈ es, okE n e) (D : Dfs n es S) {u x : Int} (h : Anc n S.par u x) : gI S.low u ≤ gI S.low x := by
  induction h with
  | refl => exact Int.le_refl _
  | @up x hx hp h ih =>
    rcases D.pa x hx with h2 | h2
    · obtain ⟨h3, h4⟩ := hp; omega
    · refine Int.le_trans ih ?_
      rw [D.lo _ hp]
      exact (fold_ge _ _ x h2.2.2).2 rfl
/-- No low point below: no edge leads there. -/
theorem low_ge (ho : ∀ e ∈ es, okE n e) (D : Dfs n es S) {v i x w : Int} (hv : inR n v) (hi : inR n i) (hp : gI S.par i = v) (hl : gI S.num v ≤ gI S.low i) (h : Anc n S.par i x) (hx : inR n x) (hw : w ∈ nbS x es) : gI S.num v ≤ gI S.num w := by
  by_cases e : w = gI S.par x
  · by_cases e2 : i = x
    · subst e2; rw [e, hp]; exact Int.le_refl _
    · have h1 := D.num_le (D.above h e2).2
      have h2 := (D.kid_num hv hi hp).1
      rw [e]; omega
  · have h1 := D.low_anc ho h
    have h2 : gI S.low x ≤ gI S.num w := by
      rw [D.lo x hx]
      exact (fold_ge _ _ w hw).1 e
    omega
/-- What hangs on a kid, where nothing leads above its parent. -/
theorem hang (ho : ∀ e ∈ es, okE n e) (D : Dfs n es S) {v i : Int} (hv : inR n v) (hi : inR n i) (hp : gI S.par i = v) (hl : ∀ x w, Anc n S.par i x → inR n x → w ∈ nbS x es → gI S.num v ≤ gI S.num w) {y : Int} (h : Conn (alone v es) i y) : Anc n S.par i y := by
  refine h.closed (p := fun y => Anc n S.par i y) ?_ .refl
  intro x y hxy hx
  have hxy' : Adj es x y := hxy.mono fun e he => (List.mem_filter.1 he).1
  have hyv : y ≠ v := by
    rcases hxy with h | h
    · have := (List.mem_filter.1 h).2; simp at this; exact this.2
    · have := (List.mem_filter.1 h).2; simp at this; exact this.1
  have hok := hxy'.ok ho
  have hxr : inR n x := ⟨hok.1, hok.2.1⟩
  have hyr : inR n y := ⟨hok.2.2.1, hok.2.2.2.1⟩
  have h1 := hl x y hx hxr ((mem_nbS ho).2 hxy')
  by_cases hlt : gI S.num x < gI S.num y
  · exact hx.trans (D.an x hxr y ((mem_nbS ho).2 hxy') hlt)
  · have hne : gI S.num x ≠ gI S.num y := fun e => hok.2.2.2.2 (D.inj x y hxr hyr e)
    have hyx := D.an y hyr x ((mem_nbS ho).2 hxy'.symm) (by omega)
    rcases D.comp hx hyx with h | h
    · exact h
    · by_cases e : y = i
      · rw [e]; exact .refl
      · have h3 := D.num_le (D.above h e).2
        rw [hp] at h3
        exact absurd (D.inj y v hyr hv (by omega)) hyv
/-- Cut nodes below another node. -/
theorem cut_in (ho : ∀ e ∈ es, okE n e) (D : Dfs n es S) {v : Int} (hv : inR n v) (hp : gI S.par v ≠ -1) : CutN es v ↔ ∃ i, inR n i ∧ gI S.par i = v ∧ gI S.num v ≤ gI S.low i := by
  obtain ⟨p1, p2, p3⟩ := (D.pa v hv).resolve_left hp
  constructor
  · intro hc
    refine Classical.byContradiction fun hno => ?_
    have hall : ∀ z, Adj es v z → Conn (alone v es) (gI S.par v) z := fun z hz => by
      have hok := hz.ok ho
      have hzr : inR n z := ⟨hok.2.2.1, hok.2.2.2.1⟩
      have up : ∀ z, inR n z → z ≠ v → Anc n S.par z v → Conn (alone v es) (gI S.par v) z := fun z hzr hzv ha => by
        obtain ⟨-, h2⟩ := D.above ha hzv
        exact (D.conn_high ho h2 p2).symm
      by_cases hlt : gI S.num z < gI S.num v
      · exact up z hzr (fun e => hok.2.2.2.2 e.symm) (D.an z hzr v ((mem_nbS ho).2 hz.symm) hlt)
      · have hne : gI S.num v ≠ gI S.num z := fun e => hok.2.2.2.2 (D.inj v z hv hzr e)
        obtain ⟨i, i1, i2, i3⟩ := D.kid (D.an v hv z ((mem_nbS ho).2 hz) (by omega)) (fun e => hok.2.2.2.2 e.symm) hv
        have hil : gI S.low i < gI S.num v := Int.not_le.1 fun q => hno ⟨i, i1, i2, q⟩
        have hin := (D.kid_num hv i1 i2).1
        obtain ⟨N, hN⟩ := D.bd
        obtain ⟨x, w, a1, a2, a3, a4⟩ := D.low_lt ho (N - gI S.num i).toNat i i1 (fun x hx => by have := hN x hx; omega) hil (by omega)
        have hwr := (nb_in ho a3).1
        have hix := D.num_le a1
        have hvx : Anc n S.par v x := Anc.trans (.up i1 (by rw [i2]; exact hv) (by rw [i2]; exact .refl)) a1
        have hwx := D.an w hwr x ((mem_nbS ho).2 ((mem_nbS ho).1 a3).symm) (by omega)
        have hwv : Anc n S.par w v := by
          rcases D.comp hwx hvx with h | h
          · exact h
          · have := D.num_le h; omega
        have hwne : w ≠ v := fun e => by rw [e] at a4; omega
        have hxne : x ≠ v := fun e => by rw [e] at hix; omega
        exact (up w hwr hwne hwv).trans ((adj_alone ((mem_nbS ho).1 a3).symm hwne hxne).trans ((D.conn_low ho a1 hin).symm.trans (D.conn_low ho i3 hin)))
    obtain ⟨y, hy, hny⟩ := hc
    have hx : (nbS v es).getD 0 0 ∈ nbS v es := getD_mem (List.length_pos_of_mem hy)
    exact hny ((hall _ ((mem_nbS ho).1 hx)).symm.trans (hall y ((mem_nbS ho).1 hy)))
  · rintro ⟨i, i1, i2, i3⟩
    have hin := D.kid_num hv i1 i2
    refine cutN_of ho ((mem_nbS ho).1 hin.2) ((mem_nbS ho).1 p3).symm fun h => ?_
    have h1 := D.num_le (D.hang ho hv i1 i2 (fun x w a b c => D.low_ge ho hv i1 i2 i3 a b c) h)
    omega
/-- Cut nodes that have none above. -/
theorem cut_top (ho : ∀ e ∈ es, okE n e) (D : Dfs n es S) {v : Int} (hv : inR n v) (hp : gI S.par v = -1) : CutN es v ↔ ∃ i j, inR n i ∧ inR n j ∧ i ≠ j ∧ gI S.par i = v ∧ gI S.par j = v := by
  have top : ∀ y, Anc n S.par y v → y = v := fun y h => by
    refine Classical.byContradiction fun hne => ?_
    have := (D.above h hne).1
    rw [hp] at this
    obtain ⟨h1, h2⟩ := this
    omega
  have low : ∀ z, Adj es v z → ∃ i, inR n i ∧ gI S.par i = v ∧ Anc n S.par i z := fun z hz => by
    have hok := hz.ok ho
    have hzr : inR n z := ⟨hok.2.2.1, hok.2.2.2.1⟩
    have hne : gI S.num v ≠ gI S.num z := fun e => hok.2.2.2.2 (D.inj v z hv hzr e)
    by_cases hlt : gI S.num z < gI S.num v
    · exact absurd (top z (D.an z hzr v ((mem_nbS ho).2 hz.symm) hlt)).symm hok.2.2.2.2
    · exact D.kid (D.an v hv z ((mem_nbS ho).2 hz) (by omega)) (fun e => hok.2.2.2.2 e.symm) hv
  constructor
  · rintro ⟨y, hy, hny⟩
    have hx : (nbS v es).getD 0 0 ∈ nbS v es := getD_mem (List.length_pos_of_mem hy)
    obtain ⟨i, i1, i2, i3⟩ := low _ ((mem_nbS ho).1 hx)
    obtain ⟨j, j1, j2, j3⟩ := low _ ((mem_nbS ho).1 hy)
    refine ⟨i, j, i1, j1, fun e => hny ?_, i2, j2⟩
    subst e
    have hin := (D.kid_num hv i1 i2).1
    exact (D.conn_low ho i3 hin).symm.trans (D.conn_low ho j3 hin)
  · rintro ⟨i, j, i1, j1, hij, i2, j2⟩
    have hin := D.kid_num hv i1 i2
    have hjn := D.kid_num hv j1 j2
    have least : ∀ x w, Anc n S.par i x → inR n x → w ∈ nbS x es → gI S.num v ≤ gI S.num w := fun x w h hx hw => by
      have hwr := (nb_in ho hw).1
      have hix := D.num_le h
      by_cases hlt : gI S.num x < gI S.num w
      · omega
      · have hne : gI S.num w ≠ gI S.num x := fun e => (nb_in ho hw).2 (D.inj w x hwr hx e)
        have hwx := D.an w hwr x ((mem_nbS ho).2 ((mem_nbS ho).1 hw).symm) (by omega)
        have hvx : Anc n S.par v x := Anc.trans (.up i1 (by rw [i2]; exact hv) (by rw [i2]; exact .refl)) h
        rcases D.comp hwx hvx with h | h
        · rw [top w h]; exact Int.le_refl _
        · exact D.num_le h
    refine cutN_of ho ((mem_nbS ho).1 hin.2) ((mem_nbS ho).1 hjn.2) fun h => ?_
    have h1 := D.hang ho hv i1 i2 least h
    have h2 := (D.above h1 hij).2
    rw [j2] at h2
    have := D.num_le h2
    omega
end Dfs
end Go.Proofs.Ytbaholclcfpknaa.X

