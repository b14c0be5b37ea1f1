/- What functions answer, and the plain laws behind it. -/
import Derived.Test.YtdlfdoicheakoaaGreatKAK
import Derived.Test.YtdlfdoicheakoaaGreatC83
import Derived.Test.YtdlfdoicheakoaaGreatKAH
import Derived.Test.YtdlfdoicheakoaaGreatM23
import Derived.Test.YtdlfdoicheakoaaGreatKAE
/- What functions compute: an edge is put into a graph with levels. -/
set_option linter.unusedSimpArgs false
set_option linter.unusedVariables false
set_option maxHeartbeats 8000000
set_option maxRecDepth 100000
namespace Go.Proofs.YtdlfdoicheakoaaGreat.X
open Go Go.Proofs
def putT (e : Int × Int) (b : Bool) : List Tl → List Tl
  | [] => [(e, 0, b)]
  | t :: r => if lessE e t.1 then (e, 0, b) :: t :: r else t :: putT e b r
theorem putT_es (e : Int × Int) (b : Bool) : ∀ ts : List Tl, esT (putT e b ts) = putE e (esT ts)
  | [] => rfl
  | t :: r => by
    have ih := putT_es e b r
    unfold esT at ih ⊢
    rw [putT, List.map_cons, putE]
    split
    · rfl
    · rw [List.map_cons, ih]
theorem putT_parts (e : Int × Int) (b : Bool) : ∀ ts : List Tl, ∃ p r, ts = p ++ r ∧ (∀ b, putT e b ts = p ++ (e, 0, b) :: r)
  | [] => ⟨[], [], rfl, fun _ => rfl⟩
  | t :: r => by
    by_cases h : lessE e t.1 = true
    · exact ⟨[], t :: r, rfl, fun b => by rw [putT, if_pos h]; rfl⟩
    · obtain ⟨p, q, h1, h2⟩ := putT_parts e b r
      exact ⟨t :: p, q, by rw [h1]; rfl, fun b => by rw [putT, if_neg h, h2]; rfl⟩
theorem putT_len (e : Int × Int) (b : Bool) (ts : List Tl) : (putT e b ts).length = ts.length + 1 := by
  have h := congrArg List.length (putT_es e b ts)
  rw [putE_length, esT_len', esT_len'] at h
  exact h
theorem LV.putT {n : Int} {ts : List Tl} {e : Int × Int} (h : LV n ts) (hP : PutOK n (esT ts) e) : LV n (putT e (!decide (Conn (esT ts) e.1 e.2)) ts) := by
  obtain ⟨p, r, h1, h2⟩ := putT_parts e true ts
  have hV : VG n (esT (p ++ (e, 0, true) :: r)) := by rw [← h2 true, putT_es]; exact hP.2.2
  rw [h2]
  have := LV.put (p := p) (r := r) (e := e) (by rw [← h1]; exact h) hV
  rw [← h1] at this
  exact this
/-- A row that is to come back. -/
def PlOK (n : Int) (ts : List Tl) (e : Int × Int) : Prop := LV n ts ∧ PutOK n (esT ts) e
noncomputable instance decPlOK (n : Int) (ts : List Tl) (e : Int × Int) : Decidable (PlOK n ts e) := Classical.propDecidable _
noncomputable abbrev plL (ts : List Tl) (e : Int × Int) : List Tl := putT e (!decide (Conn (esT ts) e.1 e.2)) ts
end Go.Proofs.YtdlfdoicheakoaaGreat.X

/- What functions compute: an edge is cut out of a graph with levels. -/
set_option linter.unusedSimpArgs false
set_option linter.unusedVariables false
set_option maxHeartbeats 16000000
set_option maxRecDepth 100000
namespace Go.Proofs.YtdlfdoicheakoaaGreat.X
open Go Go.Proofs
theorem c_replace (n a b k : Int) (ts : List Tl) (x0 : List Int) (y0 : List Bool) (hV : VG n (esT ts)) (hlv : ∀ t ∈ ts, 0 ≤ t.2.1 ∧ t.2.1 ≤ 4) (ha : inN n a) (hb : inN n b) (hk : 0 ≤ k ∧ k ≤ 4) (hx0 : x0.length ≤ 1) (hy0 : y0.length ≤ 1) :
    KP 22 [.ptr 1000 0 0 0, PE a b, I k] [boxL n (esT ts) ts.length, arrL (lvT ts ++ x0), arrT (trT ts ++ y0)] =
      some (.tup [I (replL n a b k ts).2.1, B (replL n a b k ts).2.2], [boxL n (esT ts) ts.length, arrL (lvT (replL n a b k ts).1 ++ x0), arrT (trT (replL n a b k ts).1 ++ y0)], []) := by
  have hless : inN n (lessC n (abT ts k true) a b) := by unfold lessC; split <;> assumption
  exact c_replaceS (S := fun y => Conn (abT ts k true) (lessC n (abT ts k true) a b) y) n a b k (lessC n (abT ts k true) a b) ts x0 y0 hV hlv ha hb hk hx0 hy0 rfl fun u hu => by
    rw [lbl_iff hu hless]; exact ⟨Conn.symm, Conn.symm⟩
theorem find_split {ts : List Tl} {e : Int × Int} (h : e ∈ esT ts) : ∃ (k : Nat) (l : Int) (q : Bool), k < ts.length ∧ findE (esT ts) e = k ∧ ts.getD k dT = (e, l, q) ∧ ts = ts.take k ++ (e, l, q) :: ts.drop (k + 1) := by
  have hf : findE (esT ts) e = ((esT ts).idxOf e : Int) := if_pos h
  have hlt0 := List.idxOf_lt_length_iff.2 h
  have h1 : (esT ts)[(esT ts).idxOf e]? = some e := by rw [List.getElem?_eq_getElem hlt0, List.getElem_idxOf]
  generalize (esT ts).idxOf e = k at *
  rw [esT_len'] at hlt0
  have h2 : (esT ts)[k]? = (ts[k]?).map (·.1) := by simp [esT]
  rw [h2, List.getElem?_eq_getElem hlt0, Option.map_some, Option.some.injEq] at h1
  have h3 : ts.getD k dT = ts[k] := by rw [List.getD_eq_getElem?_getD, List.getElem?_eq_getElem hlt0, Option.getD_some]
  have h4 := List.drop_eq_getElem_cons hlt0
  have h5 := List.take_append_drop k ts
  rw [h4] at h5
  generalize ts[k] = t at *
  obtain ⟨f, l, q⟩ := t
  simp only at h1
  subst h1
  exact ⟨k, l, q, hlt0, hf, h3, h5.symm⟩
/-- What is left, how many edges were raised, whether one took the place. -/
noncomputable def ctR (n : Int) (ts : List Tl) (e : Int × Int) : List Tl × Int × Bool :=
  let k := (findE (esT ts) e).toNat
  let t := ts.getD k dT
  if t.2.2 = true then cutR n e.1 e.2 (t.2.1 + 1).toNat (ts.take k ++ ts.drop (k + 1)) else (ts.take k ++ ts.drop (k + 1), 0, false)
theorem cut_es {n : Int} {ts : List Tl} {e : Int × Int} {k : Nat} {l : Int} {q : Bool} (hV : VG n (esT ts)) (h : ts = ts.take k ++ (e, l, q) :: ts.drop (k + 1)) : esT (ts.take k ++ ts.drop (k + 1)) = cutE e (esT ts) := by
  have hn := hV.nodup
  generalize ts.take k = p at *
  generalize ts.drop (k + 1) = r at *
  subst h
  unfold esT at hn ⊢
  rw [List.map_append, List.map_cons] at hn
  rw [List.map_append, List.map_append, List.map_cons]
  rw [List.nodup_append, List.nodup_cons] at hn
  obtain ⟨h1, ⟨h2, h3⟩, h4⟩ := hn
  unfold cutE
  rw [List.filter_append, List.filter_cons]
  rw [if_neg (by simp)]
  have f1 : (p.map (·.1)).filter (fun f => decide (f ≠ e)) = p.map (·.1) := List.filter_eq_self.2 fun f hf => by
    have := h4 f hf e (by simp)
    simpa using this
  have f2 : (r.map (·.1)).filter (fun f => decide (f ≠ e)) = r.map (·.1) := List.filter_eq_self.2 fun f hf => by
    simp only [decide_eq_true_eq]
    exact fun c => h2 (c ▸ hf)
  rw [f1, f2]
theorem c_CutLevel_no (n a b : Int) (ts : List Tl) (hV : VG n (esT ts)) (hno : ¬ (LV n ts ∧ (a, b) ∈ esT ts)) : KP 5 [LvP n ts, PE a b] [] = some (.tup [.agg [I 0, .i .emp, .i .emp, .i .emp], I 0, B false, B false], [], []) := by
  have hlv := c_LevelsValid n ts hV
  have hel := hV.2.2.1
  by_cases h : LV n ts
  · rw [decide_eq_true h] at hlv
    have hm : (a, b) ∉ esT ts := fun q => hno ⟨h, q⟩
    have hh := c_has n (esT ts) a b (by omega)
    rw [decide_eq_false hm] at hh
    refine xw_call (fn := Tryz.f5) rfl Tryz.func5 rfl ⟨Nat.le_of_ble_eq_true rfl, rfl, rfl⟩ ?_
    have Fz:=fz3 Tryz.results5 hlv hh
    repeat'(first|exact trivial|refine go1 ?_|(refine go2 ?_ ?_<;>intro _<;>try(exfalso;omega))|(refine go4 ?_;split<;>((try(exfalso;omega));try refine go3 ?_)))
  · rw [decide_eq_false h] at hlv
    refine xw_call (fn := Tryz.f5) rfl Tryz.func5 rfl ⟨Nat.le_of_ble_eq_true rfl, rfl, rfl⟩ ?_
    have Fz:=fz2 Tryz.results5 hlv
    repeat'(first|exact trivial|refine go1 ?_|(refine go2 ?_ ?_<;>intro _<;>try(exfalso;omega))|(refine go4 ?_;split<;>((try(exfalso;omega));try refine go3 ?_)))
theorem getL' (ts : List Tl) (k : Nat) (l : Int) (q : Bool) (e : Int × Int) (h : k < ts.length) (hg : ts.getD k dT = (e, l, q)) : ((lvT ts).map encI)[k]? = some [.v (.int .i64 l)] ∧ ((trT ts).map encT)[k]? = some [.v (.bool q)] := by
  rw [getTl ts k h, getTt ts k h, hg]; exact ⟨rfl, rfl⟩
theorem c_CutLevel (n a b : Int) (ts : List Tl) (hL : LV n ts) (hm : (a, b) ∈ esT ts) :
    KP 5 [LvP n ts, PE a b] [] = some (.tup [.agg [I n, LE (cutE (a, b) (esT ts)), .ref 2000 0 0 (ts.length - 1), .ref 2001 0 0 (ts.length - 1)], I (ctR n ts (a, b)).2.1, B (ctR n ts (a, b)).2.2, B true], [], [arrL (lvT (ctR n ts (a, b)).1 ++ [0]), arrT (trT (ctR n ts (a, b)).1 ++ [false])]) := by
  have hV := hL.vg
  have hlv := c_LevelsValid n ts hV
  have hel := hV.2.2.1
  have hn16 := hV.2.1
  rw [decide_eq_true hL] at hlv
  have hh := c_has n (esT ts) a b (by omega)
  rw [decide_eq_true hm] at hh
  have l1 := esT_len' ts
  have l2 := lvT_len ts
  have l3 := trT_len ts
  obtain ⟨k, l, q, hk, hf, hg, hsp⟩ := find_split hm
  have hix := c_indexE (esT ts) a b (by omega)
  rw [hf] at hix
  have hok := hV.2.2.2.1 _ hm
  have ha : inN n a := ⟨hok.1, by have := hok.2.1; have := hok.2.2; simp only at *; omega⟩
  have hb : inN n b := ⟨by have := hok.1; have := hok.2.1; simp only at *; omega, hok.2.2⟩
  have hces := cut_es hV hsp
  have hcut := c_cut n a b (esT ts) (by omega)
  have hdel : delE (fun e => decide (e.1 = a ∧ e.2 = b)) (esT ts) = .lst ((cutE (a, b) (esT ts)).map encE) := by
    have hne : esT ts ≠ [] := fun h => by rw [h] at hm; simp at hm
    unfold delE
    rw [if_neg hne]
    congr 2
    unfold cutE
    refine List.filter_congr fun f _ => ?_
    by_cases c : f = (a, b)
    · subst c; simp
    · have : ¬ (f.1 = a ∧ f.2 = b) := fun h => c (Prod.ext h.1 h.2)
      simp [c, this]
  rw [hdel] at hcut
  have hlz : lvT ts ≠ [] := fun h => by rw [h] at l2; simp at l2; omega
  have htz : trT ts ≠ [] := fun h => by rw [h] at l3; simp at l3; omega
  have hci := c_cloneI (lvT ts) hlz (by omega)
  have hct := c_cloneT (trT ts) htz (by omega)
  have hdi := c_delI (lvT ts) k (by omega) (by omega) (by omega)
  have hdt := c_delT (trT ts) k (by omega) (by omega) (by omega)
  rw [Int.toNat_natCast] at hdi hdt
  have hlb : (lvT ts).take k ++ (lvT ts).drop (k + 1) = lvT (ts.take k ++ ts.drop (k + 1)) := by simp [lvT]
  have htb : (trT ts).take k ++ (trT ts).drop (k + 1) = trT (ts.take k ++ ts.drop (k + 1)) := by simp [trT]
  rw [hlb] at hdi
  rw [htb] at hdt
  obtain ⟨hgl, hgt⟩ := getL' ts k l q (a, b) hk hg
  have hct0 : ctR n ts (a, b) = if q = true then cutR n a b (l + 1).toNat (ts.take k ++ ts.drop (k + 1)) else (ts.take k ++ ts.drop (k + 1), 0, false) := by
    unfold ctR
    rw [hf]
    simp only [Int.toNat_natCast]
    rw [hg]
  rw [hct0]
  have hbl : (ts.take k ++ ts.drop (k + 1)).length = ts.length - 1 := by simp; omega
  have hLb := hL
  rw [hsp] at hLb
  generalize hbs : ts.take k ++ ts.drop (k + 1) = bs at *
  rw [l2] at hci hdi
  rw [l3] at hct hdt
  cases q with
  | false =>
    rw [if_neg (by simp)]
    refine xw_call (fn := Tryz.f5) rfl Tryz.func5 rfl ⟨Nat.le_of_ble_eq_true rfl, rfl, rfl⟩ ?_
    have Fz:=fz11 Tryz.results5 hlv hh hix hcut hci hct hdi hdt hgl hgt
    repeat'(first|exact trivial|refine go1 ?_|(refine go2 ?_ ?_<;>intro _<;>try(exfalso;omega))|(refine go4 ?_;split<;>((try(exfalso;omega));try refine go3 ?_)))
  | true =>
    rw [if_pos rfl]
    have hMV : MV n bs a b l ∧ 0 ≤ l := by
      have := LV.cutT hLb
      rw [hbs] at this
      exact this
    have hl4 : l ≤ 4 := (hL.lv ((a, b), l, true) (by rw [hsp]; simp)).2
    obtain ⟨hMV, hl0⟩ := hMV
    have hlevel : ∀ cur : List Tl, ∀ j : Int, esT cur = cutE (a, b) (esT ts) → cur.length = ts.length - 1 → MV n cur a b j → 0 ≤ j → KP 22 [.ptr 1000 0 0 0, PE a b, I j] [boxL n (cutE (a, b) (esT ts)) (ts.length - 1), arrL (lvT cur ++ [0]), arrT (trT cur ++ [false])] =
      some (.tup [I (replL n a b j cur).2.1, B (replL n a b j cur).2.2], [boxL n (cutE (a, b) (esT ts)) (ts.length - 1), arrL (lvT (replL n a b j cur).1 ++ [0]), arrT (trT (replL n a b j cur).1 ++ [false])], []) := fun cur j h1 h2 h3 h4 => by
      have := c_replace n a b j cur [0] [false] h3.vg h3.lv ha hb ⟨h4, h3.k4⟩ (by simp) (by simp)
      rw [h1, h2] at this
      exact this
    generalize hR : cutR n a b (l + 1).toNat bs = R at *
    refine xw_call (fn := Tryz.f5) rfl Tryz.func5 rfl ⟨Nat.le_of_ble_eq_true rfl, rfl, rfl⟩ ?_
    have Fz:=fz11 Tryz.results5 hlv hh hix hcut hci hct hdi hdt hgl hgt
    repeat'(first|exact trivial|refine go1 ?_|(refine go2 ?_ ?_<;>intro _<;>try(exfalso;omega))|(refine go4 ?_;split<;>((try(exfalso;omega));try refine go3 ?_)))
    refine xw_loopR (fun (w : Int × Int × Bool × List Tl) s => s.m 9 = some (.box 0 [I n, LE (cutE (a, b) (esT ts)), .ref 3288 0 0 (ts.length - 1), .ref 3344 0 0 (ts.length - 1)]) ∧ s.m 3288 = some (arrL (lvT w.2.2.2 ++ [0])) ∧ s.m 3344 = some (arrT (trT w.2.2.2 ++ [false])) ∧ s.ρ 9 = .ptr 9 0 0 0 ∧ s.m 3 = some (.box 0 [I a, I b]) ∧ s.ρ 3 = .ptr 3 0 0 0 ∧ s.m 4 = some (.box 0 [I 0, .i .emp, .i .emp, .i .emp]) ∧ s.ρ 4 = .ptr 4 0 0 0 ∧ s.ρ 10 = I w.2.1 ∧ s.ρ 11 = B w.2.2.1 ∧ s.ρ 12 = I w.1 ∧
      esT w.2.2.2 = cutE (a, b) (esT ts) ∧ w.2.2.2.length = ts.length - 1 ∧ -1 ≤ w.1 ∧ w.1 ≤ l ∧ 0 ≤ w.2.1 ∧ w.2.1 ≤ 80 * (l - w.1) ∧
      ((w.2.2.1 = false ∧ MV n w.2.2.2 a b w.1 ∧ R.1 = (cutR n a b (w.1 + 1).toNat w.2.2.2).1 ∧ R.2.1 = w.2.1 + (cutR n a b (w.1 + 1).toNat w.2.2.2).2.1 ∧ R.2.2 = (cutR n a b (w.1 + 1).toNat w.2.2.2).2.2) ∨ (w.2.2.1 = true ∧ R = (w.2.2.2, w.2.1, true)))) (fun w => (w.1 + 1).toNat) (l, 0, false, bs) ?_ ?_
    · refine ⟨?_, rfl, rfl, rfl, rfl, rfl, ?_, rfl, rfl, rfl, rfl, hces, hbl, by simp only; omega, by simp, by simp, by simp, .inl ⟨rfl, hMV, by rw [hR], by rw [hR]; simp, by rw [hR]⟩⟩
      all_goals first | rfl | (simp [upd]; done) | trace_state
    rintro ⟨j, rs, fd, cur⟩ ⟨ρ, m⟩ ⟨m9, m1, m2, e9, m3, e3, m4, e4, e10, e11, e12, q1, q2, g0, g1, r0, r1, hw⟩
    simp only at m9 m1 m2 e9 m3 e3 m4 e4 e10 e11 e12 q1 q2 g0 g1 r0 r1 hw
    rcases hw with ⟨rfl, hM, s1, s2, s3⟩ | ⟨rfl, hRw⟩
    rotate_left
    · subst hRw
      by_cases hj : 0 ≤ j
      · have Fz:=fz13 Tryz.results5 m9 m1 m2 e9 m3 e3 m4 e4 e10 e11 e12 hj
        repeat'(first|exact trivial|refine go1 ?_|(refine go2 ?_ ?_<;>intro _<;>try(exfalso;omega))|(refine go4 ?_;split<;>((try(exfalso;omega));try refine go3 ?_)))
      · have Fz:=fz13 Tryz.results5 m9 m1 m2 e9 m3 e3 m4 e4 e10 e11 e12 hj
        repeat'(first|exact trivial|refine go1 ?_|(refine go2 ?_ ?_<;>intro _<;>try(exfalso;omega))|(refine go4 ?_;split<;>((try(exfalso;omega));try refine go3 ?_)))
    by_cases hj : 0 ≤ j
    rotate_left
    · have hj1 : (j + 1).toNat = 0 := by omega
      rw [hj1, cutR] at s1 s2 s3
      rw [Int.add_zero] at s2
      rw [s1, s2, s3]
      have Fz:=fz13 Tryz.results5 m9 m1 m2 e9 m3 e3 m4 e4 e10 e11 e12 hj
      repeat'(first|exact trivial|refine go1 ?_|(refine go2 ?_ ?_<;>intro _<;>try(exfalso;omega))|(refine go4 ?_;split<;>((try(exfalso;omega));try refine go3 ?_)))
    have hrep := hlevel cur j q1 q2 hM hj
    obtain ⟨p1, p2⟩ := replL_spec hM hj
    have hbd := replL_bd (n := n) (a := a) (b := b) (k := j) (ts := cur)
    have hj1 : (j + 1).toNat = j.toNat + 1 := by omega
    have hj2 : ((j.toNat : Nat) : Int) = j := by omega
    have hj3 : (j - 1 + 1).toNat = j.toNat := by omega
    have hcl : ((replL n a b j cur).1).length = ts.length - 1 := by rw [esT_len p1, q2]
    rw [hj1, cutR, hj2] at s1 s2 s3
    rcases p2 with ⟨p3, p4, p5⟩ | ⟨p3, p4, p5, p6⟩
    · rw [if_neg (by rw [p3]; simp)] at s1 s2 s3
      rw [p3] at hrep
      rw [← hj3] at s1 s2 s3
      generalize hro : replL n a b j cur = ro at *
      obtain ⟨c1, c2, c3⟩ := ro
      simp only at hrep p1 p3 p4 hbd hcl s1 s2 s3
      subst p3
      have Fz:=fz14 Tryz.results5 m9 m1 m2 e9 m3 e3 m4 e4 e10 e11 e12 hj hrep
      repeat'(first|exact trivial|refine go1 ?_|(refine go2 ?_ ?_<;>intro _<;>try(exfalso;omega))|(refine go4 ?_;split<;>((try(exfalso;omega));try refine go3 ?_)))
      exact ⟨j - 1, rs + c2, false, c1, rfl, rfl, rfl, rfl, rfl, p1.trans q1, hcl, by omega, by omega, by omega, by omega, .inl ⟨rfl, p4, s1, by omega, s3⟩, by omega⟩
    · rw [if_pos p3] at s1 s2 s3
      rw [p3] at hrep
      generalize hro : replL n a b j cur = ro at *
      obtain ⟨c1, c2, c3⟩ := ro
      simp only at hrep p1 p3 p4 hbd hcl s1 s2 s3
      subst p3
      have Fz:=fz14 Tryz.results5 m9 m1 m2 e9 m3 e3 m4 e4 e10 e11 e12 hj hrep
      repeat'(first|exact trivial|refine go1 ?_|(refine go2 ?_ ?_<;>intro _<;>try(exfalso;omega))|(refine go4 ?_;split<;>((try(exfalso;omega));try refine go3 ?_)))
      exact ⟨j - 1, rs + c2, true, c1, rfl, rfl, rfl, rfl, rfl, p1.trans q1, hcl, by omega, by omega, by omega, by omega, .inr ⟨rfl, Prod.ext s1 (Prod.ext s2 s3)⟩, by omega⟩
end Go.Proofs.YtdlfdoicheakoaaGreat.X

/- What functions compute: the nodes of a part. -/
set_option linter.unusedSimpArgs false
set_option linter.unusedVariables false
set_option maxHeartbeats 8000000
set_option maxRecDepth 100000
namespace Go.Proofs.YtdlfdoicheakoaaGreat.X
open Go Go.Proofs
noncomputable def ptL (n : Int) (es : List (Int × Int)) (r : Int) : List Int := (iota n).filter fun v => decide (Conn es r v)
theorem mem_ptL {n : Int} {es : List (Int × Int)} {r v : Int} : v ∈ ptL n es r ↔ inN n v ∧ Conn es r v := by
  rw [ptL, List.mem_filter, mem_iota, decide_eq_true_eq]
theorem ptL_len (n : Int) (es : List (Int × Int)) (r : Int) : (ptL n es r).length ≤ n.toNat := by
  have := List.length_filter_le (fun v => decide (Conn es r v)) (iota n)
  rw [iota_length] at this
  exact this
theorem ptL_sz (n : Int) (es : List (Int × Int)) (r : Int) : ((ptL n es r).length : Int) = szC n es r := rfl
theorem ptF_snoc {n i : Int} {p : Int → Bool} (h0 : 0 ≤ i) (h1 : i < n) : (iota (i + 1)).filter p = (iota i).filter p ++ if p i = true then [i] else [] := by
  have : iota (i + 1) = iota i ++ [i] := by
    unfold iota
    rw [show (i + 1).toNat = i.toNat + 1 by omega, List.range_succ, List.map_append]
    simp [Int.toNat_of_nonneg h0]
  rw [this, List.filter_append]
  cases h : p i <;> simp [h]
theorem c_sPartNodes (n r : Int) (es : List (Int × Int)) (hV : VG n es) (hr : inN n r) : KP 73 [GL n es, I r] [] = some (.ref 2000 0 0 (ptL n es r).length, [], [.arr 0 1 ((ptL n es r).map encI)]) := by
  have hel := hV.2.2.1
  have hn16 := hV.2.1
  have hhn := c_l2Node n r es (by omega)
  rw [decide_eq_true (show VG n es ∧ 0 ≤ r ∧ r < n from ⟨hV, hr.1, hr.2⟩)] at hhn
  have hp := c_l2Labels n es hV.okg
  have hll := lab_length n es
  obtain ⟨r0, r1⟩ := id hr
  have hgr := getI (lab n es) r.toNat (by omega)
  have hiff : ∀ v, inN n v → ((lab n es).getD v.toNat 0 = (lab n es).getD r.toNat 0 ↔ Conn es r v) := fun v hv => by
    rw [lab_iff hv hr]; exact ⟨Conn.symm, Conn.symm⟩
  refine xw_call (fn := Tryz.f73) rfl Tryz.func73 rfl ⟨Nat.le_of_ble_eq_true rfl, rfl, rfl⟩ ?_
  have Fz:=fz3 Tryz.results73 hhn hp
  repeat'(first|exact trivial|refine go1 ?_|(refine go2 ?_ ?_<;>intro _<;>try(exfalso;omega))|(refine go4 ?_;split<;>(try(exfalso;omega);try refine go3 ?_)))
  refine xw_loopR (fun (u : Int × Nat) s => s.m 8 = some (.arr u.2 1 (((iota u.1).filter fun v => decide (Conn es r v)).map encI)) ∧ s.ρ 5 = .ref 8 u.2 0 ((iota u.1).filter fun v => decide (Conn es r v)).length ∧ s.ρ 6 = LI (lab n es) ∧ s.ρ 1 = I r ∧ s.ρ 7 = I u.1 ∧ 0 ≤ u.1 ∧ u.1 ≤ n) (fun u => (n - u.1).toNat) (0, 0) ?_ ?_
  · exact ⟨rfl, rfl, rfl, rfl, rfl, by simp, by simp only; omega⟩
  rintro ⟨i, w⟩ ⟨ρ, m⟩ ⟨m8, e5, e6, e1, e7, g0, g1⟩
  simp only at m8 e5 e6 e1 e7 g0 g1
  have hfl := List.length_filter_le (fun v => decide (Conn es r v)) (iota i)
  rw [iota_length] at hfl
  by_cases hi : i < n
  rotate_left
  · have hin : i = n := by omega
    subst hin
    have Fz:=fz6 Tryz.results73 m8 e5 e6 e1 e7
    repeat'(first|exact trivial|refine go1 ?_|(refine go2 ?_ ?_<;>intro _<;>try(exfalso;omega))|(refine go4 ?_;split<;>(try(exfalso;omega);try refine go3 ?_)))
    exact ⟨rfl, rfl⟩
  have hgi := getI (lab n es) i.toNat (by omega)
  have hii := hiff i ⟨g0, hi⟩
  have hsn := ptF_snoc (p := fun v => decide (Conn es r v)) g0 hi
  generalize (lab n es).getD i.toNat 0 = a at *
  generalize (lab n es).getD r.toNat 0 = b at *
  generalize (iota i).filter (fun v => decide (Conn es r v)) = T at *
  by_cases hq : a = b
  · rw [if_pos (by simpa using hii.1 hq)] at hsn
    subst hq
    have Fz:=fz8 Tryz.results73 m8 e5 e6 e1 e7 hgi hgr
    repeat'(first|exact trivial|refine go1 ?_|(refine go2 ?_ ?_<;>intro _<;>try(exfalso;omega))|(refine go4 ?_;split<;>(try(exfalso;omega);try refine go3 ?_)))
    exact ⟨i + 1, by rw [hsn], by rw [hsn]; simp, rfl, by omega, by omega, by omega⟩
  · rw [if_neg (by simpa using fun h => hq (hii.2 h)), List.append_nil] at hsn
    have Fz:=fz9 Tryz.results73 m8 e5 e6 e1 e7 hgi hgr hq
    repeat'(first|exact trivial|refine go1 ?_|(refine go2 ?_ ?_<;>intro _<;>try(exfalso;omega))|(refine go4 ?_;split<;>(try(exfalso;omega);try refine go3 ?_)))
    exact ⟨i + 1, by rw [hsn], by rw [hsn], rfl, by omega, by omega, by omega⟩
end Go.Proofs.YtdlfdoicheakoaaGreat.X

/- What functions compute: is a number in a list? -/
set_option linter.unusedSimpArgs false
set_option linter.unusedVariables false
set_option maxHeartbeats 4000000
set_option maxRecDepth 100000
namespace Go.Proofs.YtdlfdoicheakoaaGreat.X
open Go Go.Proofs
@[go_sem] theorem c_l6In (xs : List Int) (x : Int) (hl : xs.length ≤ 1048576) : KP 56 [LI xs, I x] [] = some (B (decide (x ∈ xs)), [], []) := by
  refine xw_call (fn := Tryz.f56) rfl Tryz.func56 rfl ⟨Nat.le_of_ble_eq_true rfl, rfl, rfl⟩ ?_
  have Fz:=fz1 Tryz.results56
  repeat'(first|exact trivial|refine go1 ?_|(refine go2 ?_ ?_<;>intro _<;>try(exfalso;omega))|(refine go4 ?_;split<;>(try(exfalso;omega);try refine go3 ?_)))
  refine xw_loopR (fun (i : Int) s => s.ρ 0 = LI xs ∧ s.ρ 1 = I x ∧ s.ρ 5 = I i ∧ 0 ≤ i ∧ i ≤ xs.length ∧ x ∉ xs.take i.toNat) (fun i => (xs.length - i).toNat) 0 (by simp [upd, initP]) ?_
  rintro i ⟨ρ, m⟩ ⟨h0, h1, h5, g0, g1, g2⟩
  simp only at h0 h1 h5 g0 g1 g2
  by_cases hi : i < xs.length
  rotate_left
  · rw [take_all (by omega)] at g2
    rw [decide_eq_false g2]
    have Fz:=fz4 Tryz.results56 h0 h1 h5
    repeat'(first|exact trivial|refine go1 ?_|(refine go2 ?_ ?_<;>intro _<;>try(exfalso;omega))|(refine go4 ?_;split<;>(try(exfalso;omega);try refine go3 ?_)))
  have hm := getD_mem (d := 0) (show i.toNat < xs.length by omega)
  have htk := take_int 0 g0 hi
  generalize hve : xs.getD i.toNat 0 = v at hm htk
  by_cases h : v = x
  · subst h
    rw [decide_eq_true hm]
    have Fz:=fz5 Tryz.results56 h0 h1 h5 hve
    repeat'(first|exact trivial|refine go1 ?_|(refine go2 ?_ ?_<;>intro _<;>try(exfalso;omega))|(refine go4 ?_;split<;>(try(exfalso;omega);try refine go3 ?_)))
  · have Fz:=fz5 Tryz.results56 h0 h1 h5 hve
    repeat'(first|exact trivial|refine go1 ?_|(refine go2 ?_ ?_<;>intro _<;>try(exfalso;omega))|(refine go4 ?_;split<;>(try(exfalso;omega);try refine go3 ?_)))
    refine ⟨by omega, by omega, ?_, by omega⟩
    rw [htk, List.mem_append, List.mem_singleton]
    exact fun k => k.elim g2 fun k => h k.symm
end Go.Proofs.YtdlfdoicheakoaaGreat.X

/- What functions compute: draws of graphs, and of a graph and an edge. -/
set_option linter.unusedSimpArgs false
set_option linter.unusedVariables false
set_option maxHeartbeats 8000000
namespace Go.Proofs.YtdlfdoicheakoaaGreat.X
open Go Go.Proofs
end Go.Proofs.YtdlfdoicheakoaaGreat.X

/- Blocks: plain law. -/
set_option linter.unusedVariables false
namespace Go.Proofs.YtdlfdoicheakoaaGreat.X
open Go
/-- Two edges with a node in common whose other nodes are connected without it. -/
def Near (es : List (Int × Int)) (e f : Int × Int) : Prop := ∃ v x y, ((e.1 = v ∧ e.2 = x) ∨ (e.2 = v ∧ e.1 = x)) ∧ ((f.1 = v ∧ f.2 = y) ∨ (f.2 = v ∧ f.1 = y)) ∧ x ≠ y ∧ Conn (alone v es) x y
noncomputable instance decNear (es : List (Int × Int)) (e f : Int × Int) : Decidable (Near es e f) := Classical.propDecidable _
theorem Near.symm {es : List (Int × Int)} {e f : Int × Int} : Near es e f → Near es f e := fun ⟨v, x, y, h1, h2, h3, h4⟩ => ⟨v, y, x, h2, h1, fun h => h3 h.symm, h4.symm⟩
abbrev eAt (es : List (Int × Int)) (i : Int) : Int × Int := es.getD i.toNat (0, 0)
/-- Places of edges that are near each other. -/
noncomputable def relL (es : List (Int × Int)) : List (Int × Int) := ((iota es.length).flatMap fun i => (iota i).map fun k => (k, i)).filter fun q => decide (Near es (eAt es q.1) (eAt es q.2))
theorem mem_relL {es : List (Int × Int)} {k i : Int} : (k, i) ∈ relL es ↔ 0 ≤ k ∧ k < i ∧ i < es.length ∧ Near es (eAt es k) (eAt es i) := by
  simp only [relL, List.mem_filter, List.mem_flatMap, List.mem_map, decide_eq_true_eq, Prod.mk.injEq, mem_iota]
  constructor
  · rintro ⟨⟨i', h1, k', h2, rfl, rfl⟩, h3⟩; exact ⟨by omega, by omega, by omega, h3⟩
  · rintro ⟨h1, h2, h3, h4⟩; exact ⟨⟨i, by omega, k, by omega, rfl, rfl⟩, h4⟩
/-- For each edge the place of the first edge of its block. -/
noncomputable def blkL (es : List (Int × Int)) : List Int := lab es.length (relL es)
/-- Edges of one block. -/
def Blk (es : List (Int × Int)) (e f : Int × Int) : Prop := ∃ i k : Int, (0 ≤ i ∧ i < es.length) ∧ (0 ≤ k ∧ k < es.length) ∧ eAt es i = e ∧ eAt es k = f ∧ Conn (relL es) i k
theorem eAt_inj {es : List (Int × Int)} (hn : es.Nodup) {i k : Int} (hi : 0 ≤ i ∧ i < es.length) (hk : 0 ≤ k ∧ k < es.length) (h : eAt es i = eAt es k) : i = k := by
  have h1 : i.toNat < es.length := by omega
  have h2 : k.toNat < es.length := by omega
  simp only [eAt, List.getD, List.getElem?_eq_getElem h1, List.getElem?_eq_getElem h2, Option.getD_some] at h
  have := (List.getElem_inj hn).1 h
  omega
theorem eAt_mem {es : List (Int × Int)} {i : Int} (hi : 0 ≤ i ∧ i < es.length) : eAt es i ∈ es := getD_mem (by omega)
theorem eAt_of {es : List (Int × Int)} {e : Int × Int} (h : e ∈ es) : ∃ i : Int, (0 ≤ i ∧ i < es.length) ∧ eAt es i = e := by
  obtain ⟨i, hi, he⟩ := List.mem_iff_getElem.1 h
  exact ⟨i, by omega, by simp [eAt, hi, he]⟩
section
variable {n : Int} {es : List (Int × Int)}
theorem Blk.refl {e : Int × Int} (h : e ∈ es) : Blk es e e := by
  obtain ⟨i, hi, he⟩ := eAt_of h
  exact ⟨i, i, hi, hi, he, he, .refl i⟩
theorem Blk.symm {e f : Int × Int} : Blk es e f → Blk es f e := fun ⟨i, k, h1, h2, h3, h4, h5⟩ => ⟨k, i, h2, h1, h4, h3, h5.symm⟩
theorem Blk.trans (hn : es.Nodup) {e f g : Int × Int} : Blk es e f → Blk es f g → Blk es e g := fun ⟨i, k, h1, h2, h3, h4, h5⟩ ⟨i', k', g1, g2, g3, g4, g5⟩ => by
  have := eAt_inj hn h2 g1 (h4.trans g3.symm)
  subst this
  exact ⟨i, k', h1, g2, h3, g4, h5.trans g5⟩
theorem Blk.near {e f : Int × Int} (he : e ∈ es) (hf : f ∈ es) (h : Near es e f) : Blk es e f := by
  obtain ⟨i, hi, rfl⟩ := eAt_of he
  obtain ⟨k, hk, rfl⟩ := eAt_of hf
  refine ⟨i, k, hi, hk, rfl, rfl, ?_⟩
  by_cases h1 : i < k
  · exact .of (.inl (mem_relL.2 ⟨hi.1, h1, hk.2, h⟩))
  · by_cases h2 : k < i
    · exact .of (.inr (mem_relL.2 ⟨hk.1, h2, hi.2, h.symm⟩))
    · have : i = k := by omega
      subst this; exact .refl i
theorem Blk.mem {e f : Int × Int} : Blk es e f → e ∈ es ∧ f ∈ es := fun ⟨i, k, h1, h2, h3, h4, _⟩ => ⟨h3 ▸ eAt_mem h1, h4 ▸ eAt_mem h2⟩
/-- A node of an edge. -/
def On (v : Int) (e : Int × Int) : Prop := e.1 = v ∨ e.2 = v
instance (v : Int) (e : Int × Int) : Decidable (On v e) := by unfold On; infer_instance
theorem On.conn {e : Int × Int} (he : e ∈ es) {v a b : Int} (ha : On a e) (hb : On b e) (hav : a ≠ v) (hbv : b ≠ v) : Conn (alone v es) a b := by
  by_cases hab : a = b
  · subst hab; exact .refl a
  · have hm : ∀ x y, e.1 = x → e.2 = y → x ≠ v → y ≠ v → e ∈ alone v es := fun x y h1 h2 h3 h4 => by
      unfold alone
      rw [List.mem_filter]
      refine ⟨he, decide_eq_true ⟨?_, ?_⟩⟩ <;> simp_all
    rcases ha with ha | ha <;> rcases hb with hb | hb
    · exact absurd (ha.symm.trans hb) hab
    · exact .of (.inl (by rw [← ha, ← hb]; exact hm a b ha hb hav hbv))
    · exact .of (.inr (by rw [← ha, ← hb]; exact hm b a hb ha hbv hav))
    · exact absurd (ha.symm.trans hb) hab
theorem On.other (ho : ∀ e ∈ es, okE n e) {e : Int × Int} (he : e ∈ es) (v : Int) : ∃ a, On a e ∧ a ≠ v := by
  have := ho e he
  unfold okE at this
  by_cases h : e.1 = v
  · exact ⟨e.2, .inr rfl, by omega⟩
  · exact ⟨e.1, .inl rfl, h⟩
theorem On.ends {e : Int × Int} {v : Int} (h : On v e) : ∃ x, (e.1 = v ∧ e.2 = x) ∨ (e.2 = v ∧ e.1 = x) := h.elim (fun h => ⟨e.2, .inl ⟨h, rfl⟩⟩) fun h => ⟨e.1, .inr ⟨h, rfl⟩⟩
theorem On.adj {e : Int × Int} (he : e ∈ es) {v x : Int} (h : (e.1 = v ∧ e.2 = x) ∨ (e.2 = v ∧ e.1 = x)) : Adj es v x := by
  rcases h with ⟨rfl, rfl⟩ | ⟨rfl, rfl⟩
  · exact .inl he
  · exact .inr he
end
/-- Two labels made one. -/
def joinL (out : List Int) (a b : Int) : List Int := out.map fun x => if x = max (out.getD a.toNat 0) (out.getD b.toNat 0) then min (out.getD a.toNat 0) (out.getD b.toNat 0) else x
def comV (e f : Int × Int) : Option (Int × Int × Int) :=
  if e.1 = f.1 then some (e.1, e.2, f.2) else if e.1 = f.2 then some (e.1, e.2, f.1) else if e.2 = f.1 then some (e.2, e.1, f.2) else if e.2 = f.2 then some (e.2, e.1, f.1) else none
noncomputable def relK (es : List (Int × Int)) (i k : Int) : List (Int × Int) := (relL es).filter fun q => decide (q.2 < i ∨ (q.2 = i ∧ q.1 < k))
end Go.Proofs.YtdlfdoicheakoaaGreat.X
