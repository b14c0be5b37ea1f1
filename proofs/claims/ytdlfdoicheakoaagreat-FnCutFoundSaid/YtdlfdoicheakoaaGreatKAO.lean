/- What functions answer, and the plain laws behind it. -/
import Derived.Test.YtdlfdoicheakoaaGreatKAL
import Derived.Test.YtdlfdoicheakoaaGreatC93
import Derived.Test.YtdlfdoicheakoaaGreatKAI
import Derived.Test.YtdlfdoicheakoaaGreatKAH
import Derived.Test.YtdlfdoicheakoaaGreatKAE
import Derived.Test.YtdlfdoicheakoaaGreatKAF
import Derived.Test.YtdlfdoicheakoaaGreatC149
/- Graphs are loaded: the edges are put one after another, in order. The plain law. -/
set_option linter.unusedSimpArgs false
set_option linter.unusedVariables false
set_option maxHeartbeats 8000000
set_option maxRecDepth 100000
namespace Go.Proofs.YtdlfdoicheakoaaGreat.X
open Go Go.Proofs
/-- What comes of the edges. -/
noncomputable def ldT (es : List (Int × Int)) : List Tl := es.foldl (fun ts e => plL ts e) []
theorem ldT_snoc (xs : List (Int × Int)) (e : Int × Int) : ldT (xs ++ [e]) = plL (ldT xs) e := by simp [ldT, List.foldl_append]
theorem putE_end {e : Int × Int} : ∀ {es : List (Int × Int)}, (∀ x ∈ es, lessE e x = false) → putE e es = es ++ [e]
  | [], _ => rfl
  | x :: r, h => by
    have h1 := h x (by simp)
    rw [putE, if_neg (by simp [h1]), putE_end fun y hy => h y (by simp [hy])]; rfl
theorem putT_end {e : Int × Int} {b : Bool} : ∀ {ts : List Tl}, (∀ x ∈ esT ts, lessE e x = false) → putT e b ts = ts ++ [(e, 0, b)]
  | [], _ => rfl
  | t :: r, h => by
    have h1 := h t.1 (by simp [esT])
    rw [putT, if_neg (by simp [h1]), putT_end fun y hy => h y (by simp only [esT, List.map_cons, List.mem_cons]; exact .inr hy)]; rfl
theorem ord_end {xs : List (Int × Int)} {e : Int × Int} (h : Ord (xs ++ [e])) : ∀ x ∈ xs, lessE e x = false := fun x hx => by
  simp only [Ord, List.pairwise_append, List.mem_singleton] at h
  have h1 := h.2.2 x hx e rfl
  cases h2 : lessE e x with
  | false => rfl
  | true =>
    rw [lessE_iff] at h1 h2
    omega
structure LD (n : Int) (es : List (Int × Int)) : Prop where
  es' : esT (ldT es) = es
  lv : LV n (ldT es)
  z : ∀ t ∈ ldT es, t.2.1 = 0
  fo : abT (ldT es) 0 true = forestL es
theorem LD.put {n : Int} {xs : List (Int × Int)} {e : Int × Int} (h : LD n xs) (hV : VG n (xs ++ [e])) : PlOK n (ldT xs) e := by
  have hd := ord_end hV.2.2.2.2
  refine ⟨h.lv, ?_, ?_, ?_⟩
  · rw [h.es']; exact hV.sub (List.sublist_append_left _ _)
  · rw [h.es']
    have := hV.2.2.2.2.nodup
    rw [List.nodup_append] at this
    exact fun hm => this.2.2 e hm e (by simp) rfl
  · rw [h.es', putE_end hd]; exact hV
theorem ld_spec {n : Int} : ∀ (k : Nat) (es : List (Int × Int)), es.length = k → VG n es → LD n es
  | 0, es, hk, hV => by
    obtain rfl := List.length_eq_zero_iff.1 hk
    exact ⟨rfl, LV.nil hV.1 hV.2.1, fun t ht => by simp [ldT] at ht, rfl⟩
  | k + 1, es, hk, hV => by
    obtain ⟨xs, e, rfl⟩ : ∃ xs e, es = xs ++ [e] := ⟨es.dropLast, es.getLast (by intro h; rw [h] at hk; simp at hk), (List.dropLast_concat_getLast _).symm⟩
    have hVx : VG n xs := hV.sub (List.sublist_append_left _ _)
    have h := ld_spec k xs (by simpa using hk) hVx
    have hP := h.put hV
    have hd := ord_end hV.2.2.2.2
    have ho := hVx.2.2.2.1
    have hpt : plL (ldT xs) e = ldT xs ++ [(e, 0, !decide (Conn (esT (ldT xs)) e.1 e.2))] := putT_end (by rw [h.es']; exact hd)
    refine ⟨?_, ?_, ?_, ?_⟩
    · rw [ldT_snoc]
      have := putT_es e (!decide (Conn (esT (ldT xs)) e.1 e.2)) (ldT xs)
      rw [this, h.es', putE_end hd]
    · rw [ldT_snoc]; exact h.lv.putT hP.2
    · rw [ldT_snoc, hpt]
      intro t ht
      rcases List.mem_append.1 ht with ht | ht
      · exact h.z t ht
      · rw [List.mem_singleton.1 ht]
    · rw [ldT_snoc, hpt, abT_app, h.fo, h.es']
      have hf : forestL (xs ++ [e]) = fstep (forestL xs) e := by simp [forestL, List.foldl_append]
      rw [hf, fstep]
      by_cases hc : Conn xs e.1 e.2
      · rw [if_pos ((forest_conn ho).2 hc)]
        simp [abT, abP, hc]
      · rw [if_neg (fun q => hc ((forest_conn ho).1 q))]
        simp [abT, abP, hc]
theorem ld {n : Int} {es : List (Int × Int)} (hV : VG n es) : LD n es := ld_spec _ es rfl hV
theorem ldT_len {n : Int} {es : List (Int × Int)} (hV : VG n es) : (ldT es).length = es.length := by
  have := congrArg List.length (ld hV).es'
  rw [esT_len'] at this
  exact this
end Go.Proofs.YtdlfdoicheakoaaGreat.X

/- What functions compute: an edge is put into a graph with levels, and graphs are loaded, as the reference has it. -/
set_option linter.unusedSimpArgs false
set_option linter.unusedVariables false
set_option maxHeartbeats 16000000
set_option maxRecDepth 100000
namespace Go.Proofs.YtdlfdoicheakoaaGreat.X
open Go Go.Proofs
theorem c_sPutLevel_no (n a b : Int) (ts : List Tl) (hV : VG n (esT ts)) (hno : ¬ PlOK n ts (a, b)) : KP 34 [LvP n ts, PE a b] [] = some (.tup [.agg [I 0, .i .emp, .i .emp, .i .emp], B false], [], []) := by
  have hlv := c_sLevelsValid n ts hV
  have hel := hV.2.2.1
  have hpe := c_sPutEdge n a b (esT ts) (by omega)
  by_cases h : PutOK n (esT ts) (a, b)
  · have hL : ¬ LV n ts := fun q => hno ⟨q, h⟩
    rw [if_pos h] at hpe
    rw [decide_eq_false hL] at hlv
    refine xw_call (fn := Tryz.f34) rfl Tryz.func34 rfl ⟨Nat.le_of_ble_eq_true rfl, rfl, rfl⟩ ?_
    have Fz:=fz3 Tryz.results34 hlv hpe
    repeat'(first|exact trivial|refine go1 ?_|(refine go2 ?_ ?_<;>intro _<;>try(exfalso;omega))|(refine go4 ?_;split<;>((try(exfalso;omega));try refine go3 ?_)))
  · rw [if_neg h] at hpe
    refine xw_call (fn := Tryz.f34) rfl Tryz.func34 rfl ⟨Nat.le_of_ble_eq_true rfl, rfl, rfl⟩ ?_
    have Fz:=fz2 Tryz.results34 hpe
    repeat'(first|exact trivial|refine go1 ?_|(refine go2 ?_ ?_<;>intro _<;>try(exfalso;omega))|(refine go4 ?_;split<;>((try(exfalso;omega));try refine go3 ?_)))
theorem c_sPutLevel (n a b : Int) (ts : List Tl) (hP : PlOK n ts (a, b)) : KP 34 [LvP n ts, PE a b] [] = some (.tup [refsP n (plL ts (a, b)), B true], [], refsA (plL ts (a, b))) := by
  have hL := hP.1
  have hV := hL.vg
  have hlv := c_sLevelsValid n ts hV
  have hel := hV.2.2.1
  rw [decide_eq_true hL] at hlv
  have hpe := c_sPutEdge n a b (esT ts) (by omega)
  rw [if_pos hP.2] at hpe
  have hmem : (a, b) ∈ putE (a, b) (esT ts) := mem_putE.2 (.inl rfl)
  obtain ⟨k0, k1, k2⟩ : 0 ≤ a ∧ a < b ∧ b < n := hP.2.2.2.2.2.2.1 _ hmem
  have hj := c_l2Joined n a b (esT ts) hV.okg ⟨k0, by omega⟩ ⟨by omega, k2⟩
  have l1 := esT_len' ts
  have hpt := c_l7Put n a b (!decide (Conn (esT ts) a b)) ts hV.nodup hP.2.2.1 (by omega)
  show KP 34 [LvP n ts, PE a b] [] = some (.tup [refsP n (putT (a, b) (!decide (Conn (esT ts) a b)) ts), B true], [], refsA (putT (a, b) (!decide (Conn (esT ts) a b)) ts))
  generalize decide (Conn (esT ts) a b) = q at *
  generalize putT (a, b) (!q) ts = us at *
  refine xw_call (fn := Tryz.f34) rfl Tryz.func34 rfl ⟨Nat.le_of_ble_eq_true rfl, rfl, rfl⟩ ?_
  have Fz:=fz5 Tryz.results34 hlv hpe hj hpt
  repeat'(first|exact trivial|refine go1 ?_|(refine go2 ?_ ?_<;>intro _<;>try(exfalso;omega))|(refine go4 ?_;split<;>((try(exfalso;omega));try refine go3 ?_)))
theorem c_l7Of (n : Int) (es : List (Int × Int)) (hV : VG n es) : KP 32 [GL n es] [] = some (if es = [] then (.agg [I n, .i .emp, .i .emp, .i .emp], [], []) else (refsP n (ldT es), [], refsA (ldT es))) := by
  have hel := hV.2.2.1
  have hL0 := ldT_len hV
  refine xw_call (fn := Tryz.f32) rfl Tryz.func32 rfl ⟨Nat.le_of_ble_eq_true rfl, rfl, rfl⟩ ?_
  have Fz:=fz1 Tryz.results32
  repeat'(first|exact trivial|refine go1 ?_|(refine go2 ?_ ?_<;>intro _<;>try(exfalso;omega))|(refine go4 ?_;split<;>((try(exfalso;omega));try refine go3 ?_)))
  refine xw_loopR (fun (w : Int × Nat × Nat × Nat) s => s.ρ 1 = .ptr 1 0 0 0 ∧ s.m 1 = some (.box 0 [I n, LE es]) ∧ s.ρ 2 = .ptr 2 0 0 0 ∧ s.m 2 = some (.box 0 [I 0, .i .emp, .i .emp, .i .emp]) ∧ s.ρ 3 = .ptr 3 0 0 0 ∧ s.ρ 4 = I w.1 ∧ 0 ≤ w.1 ∧ w.1 ≤ es.length ∧
    ((w.1 = 0 ∧ s.m 3 = some (.box 0 [I n, .i .emp, .i .emp, .i .emp])) ∨ (1 ≤ w.1 ∧ s.m 3 = some (.box 0 [I n, .ref 3304 w.2.1 0 (ldT (es.take w.1.toNat)).length, .ref 3305 w.2.2.1 0 (ldT (es.take w.1.toNat)).length, .ref 3306 w.2.2.2 0 (ldT (es.take w.1.toNat)).length]) ∧
      s.m 3304 = some (.arr w.2.1 2 ((esT (ldT (es.take w.1.toNat))).map encE)) ∧ s.m 3305 = some (.arr w.2.2.1 1 ((lvT (ldT (es.take w.1.toNat))).map encI)) ∧ s.m 3306 = some (.arr w.2.2.2 1 ((trT (ldT (es.take w.1.toNat))).map encT))))) (fun w => (es.length - w.1).toNat) (0, 0, 0, 0) ?_ ?_
  · refine ⟨?_, ?_, ?_, ?_, ?_, ?_, by simp, by simp, .inl ⟨rfl, ?_⟩⟩
    all_goals first | rfl | (simp [upd]; done) | trace_state
  rintro ⟨i, v0, v1, v2⟩ ⟨ρ, m⟩ ⟨e1, m1, e2, m2, e3, e4, g0, g1, hw⟩
  simp only at e1 m1 e2 m2 e3 e4 g0 g1 hw
  by_cases hi : i < es.length
  rotate_left
  · have hin : i.toNat = es.length := by omega
    rw [hin, List.take_length] at hw
    rcases hw with ⟨h0, m3⟩ | ⟨h1, m3, q0, q1, q2⟩
    · have hz : es = [] := List.length_eq_zero_iff.1 (by omega)
      rw [if_pos hz]
      have Fz:=fz9 Tryz.results32 e1 m1 e2 m2 e3 e4 m3 hi
      repeat'(first|exact trivial|refine go1 ?_|(refine go2 ?_ ?_<;>intro _<;>try(exfalso;omega))|(refine go4 ?_;split<;>((try(exfalso;omega));try refine go3 ?_)))
    · have hz : ¬ es = [] := fun h => by rw [h] at hin g1; simp at hin g1; omega
      rw [if_neg hz]
      generalize ldT es = T at *
      have Fz:=fz12 Tryz.results32 e1 m1 e2 m2 e3 e4 m3 q0 q1 q2 hi
      repeat'(first|exact trivial|refine go1 ?_|(refine go2 ?_ ?_<;>intro _<;>try(exfalso;omega))|(refine go4 ?_;split<;>((try(exfalso;omega));try refine go3 ?_)))
  have hVi : VG n (es.take i.toNat) := hV.sub (List.take_sublist _ _)
  have hVn : VG n (es.take (i + 1).toNat) := hV.sub (List.take_sublist _ _)
  have hge := getE es i.toNat (by omega)
  have htk := take_int (l := es) (0, 0) g0 hi
  have hD := ld hVi
  have hT := ldT_len hVi
  rw [List.length_take] at hT
  generalize es.getD i.toNat (0, 0) = e at *
  obtain ⟨a, b⟩ := e
  simp only at hge
  rw [htk] at hVn
  have hP := hD.put hVn
  have hsn := ldT_snoc (es.take i.toNat) (a, b)
  rw [← htk] at hsn
  have hTn := putT_len (a, b) (!decide (Conn (esT (ldT (es.take i.toNat))) a b)) (ldT (es.take i.toNat))
  have hTV := hP.1.vg
  have hmem : (a, b) ∈ putE (a, b) (esT (ldT (es.take i.toNat))) := mem_putE.2 (.inl rfl)
  obtain ⟨k0, k1, k2⟩ : 0 ≤ a ∧ a < b ∧ b < n := hP.2.2.2.2.2.2.1 _ hmem
  have hj := c_l2Joined n a b (esT (ldT (es.take i.toNat))) hTV.okg ⟨k0, by omega⟩ ⟨by omega, k2⟩
  have hpt := c_l7Put n a b (!decide (Conn (esT (ldT (es.take i.toNat))) a b)) (ldT (es.take i.toNat)) hTV.nodup hP.2.2.1 (by omega)
  have hsn' : ldT (es.take (i + 1).toNat) = putT (a, b) (!decide (Conn (esT (ldT (es.take i.toNat))) a b)) (ldT (es.take i.toNat)) := hsn
  have k1' := rkE (ldT (es.take i.toNat))
  have k2' := rkL (ldT (es.take i.toNat))
  have k3' := rkT (ldT (es.take i.toNat))
  rw [← hsn'] at hpt hTn
  clear hsn hsn' hD hP hVi hVn hTV hmem
  have hz : i = 0 → ldT (es.take i.toNat) = [] := fun h => by subst h; rfl
  generalize decide (Conn (esT (ldT (es.take i.toNat))) a b) = q at *
  generalize ldT (es.take i.toNat) = T at *
  generalize hU : ldT (es.take (i + 1).toNat) = U at *
  rcases hw with ⟨h0, m3⟩ | ⟨h1, m3, q0, q1, q2⟩
  · have hz' := hz h0
    subst hz'
    have hj' : KP 63 [.agg [I n, .i (.lst [])], I a, I b] [] = some (B q, [], []) := hj
    have hpt' : KP 62 [.agg [I n, .i (.lst []), .i (.lst []), .i (.lst [])], PE a b, B (!q)] [] = some (refsP n U, [], refsA U) := hpt
    have Fz:=fz12 Tryz.results32 e1 m1 e2 m2 e3 e4 m3 hi hge hj' hpt'
    repeat'(first|exact trivial|refine go1 ?_|(refine go2 ?_ ?_<;>intro _<;>try(exfalso;omega))|(refine go4 ?_;split<;>((try(exfalso;omega));try refine go3 ?_)))
    rw [hU]
    exact ⟨by omega, by omega, _, _, _, .inr ⟨by omega, rfl, rfl, rfl, rfl, rfl, rfl, rfl⟩, by omega⟩
  · have Fz:=fz18 Tryz.results32 e1 m1 e2 m2 e3 e4 m3 q0 q1 q2 hi hge hj hpt k1' k2' k3'
    repeat'(first|exact trivial|refine go1 ?_|(refine go2 ?_ ?_<;>intro _<;>try(exfalso;omega))|(refine go4 ?_;split<;>((try(exfalso;omega));try refine go3 ?_)))
    rw [hU]
    exact ⟨by omega, by omega, _, _, _, .inr ⟨by omega, rfl, rfl, rfl, rfl, rfl, rfl, rfl⟩, by omega⟩
end Go.Proofs.YtdlfdoicheakoaaGreat.X

/- Operations, the lives of edges: plain law. -/
set_option linter.unusedSimpArgs false
set_option linter.unusedVariables false
set_option maxHeartbeats 4000000
namespace Go.Proofs.YtdlfdoicheakoaaGreat.X
open Go Go.Proofs
abbrev Op3 := Int × Int × Int
def opE (o : Op3) : Int × Int := o.2
noncomputable def opS (n : Int) (es : List (Int × Int)) (o : Op3) : Option (List (Int × Int)) :=
  if o.1 = 1 then (if PutOK n es o.2 then some (putE o.2 es) else none)
  else if o.1 = 2 then (if o.2 ∈ es then some (cutE o.2 es) else none)
  else if o.1 = 3 then (if 0 ≤ o.2.1 ∧ o.2.1 < o.2.2 ∧ o.2.2 < n then some es else none) else none
noncomputable def runS (n : Int) (ops : List Op3) : Option (List (Int × Int)) := ops.foldl (fun s o => s.bind fun es => opS n es o) (some [])
theorem VG.put {n : Int} {es : List (Int × Int)} {e : Int × Int} (h : PutOK n es e) : VG n (putE e es) := h.2.2
/-- The life of an edge: the edge, from, to. -/
abbrev Lf := (Int × Int) × Int × Int
def endE (ops : List Op3) (i : Nat) (e : Int × Int) : Nat := i + 1 + (ops.drop (i + 1)).findIdx fun o => decide (o = (2, e))
def livesS (ops : List Op3) : List Lf := (List.range ops.length).flatMap fun (i : Nat) => match ops[i]? with | some (k, e) => if k = 1 then [(e, (i : Int), (endE ops i e : Int))] else [] | none => []
def atL (t : Int) (l : Lf) : Bool := decide (l.2.1 ≤ t ∧ t < l.2.2)
/-- The edges that are there in front of an operation. -/
def aliveL (lvs : List Lf) (t : Int) : List (Int × Int) := (lvs.filter (atL t)).map (·.1)
/-- What is united in a span, and what is left for its halves. -/
def covS (lo hi : Int) (l : Lf) : Bool := decide (l.2.1 ≤ lo ∧ hi ≤ l.2.2)
def leftS (lo hi : Int) (l : Lf) : Bool := !covS lo hi l && decide (l.2.1 < hi ∧ lo < l.2.2)
/-- The answers to the questions in a span. -/
noncomputable def ansS (ops : List Op3) (lvs : List Lf) (es : List (Int × Int)) (lo : Int) (k : Nat) : List Bool := (List.range k).flatMap fun (i : Nat) => match ops[lo.toNat + i]? with | some (kd, a, b) => if kd = 3 then [decide (Conn (es ++ aliveL lvs (lo + i)) a b)] else [] | none => []
def workS (lvs : List Lf) (lo hi : Int) : Int := (lvs.map fun l => spanN (hi - lo).toNat lo hi l.2.1 l.2.2).sum
end Go.Proofs.YtdlfdoicheakoaaGreat.X

/- What functions compute: operations that are made. -/
set_option linter.unusedSimpArgs false
set_option linter.unusedVariables false
set_option maxHeartbeats 16000000
set_option maxRecDepth 100000
namespace Go.Proofs.YtdlfdoicheakoaaGreat.X
open Go Go.Proofs
def encO (o : Op3) : List IV := [.v (.int .i64 o.1), .v (.int .i64 o.2.1), .v (.int .i64 o.2.2)]
abbrev LO (ops : List Op3) : PV := .i (.lst (ops.map encO))
theorem takeO {ops : List Op3} {n : Nat} : (ops.map encO).take n = (ops.take n).map encO := by simp
theorem dropO {ops : List Op3} {n : Nat} : (ops.map encO).drop n = (ops.drop n).map encO := by simp
theorem lenO_all {ops : List Op3} : (ops.map encO).all (fun e => e.length == 3) = true := by simp [encO]
attribute [go_sem] takeO dropO lenO_all
/-- A list of edges as a value. -/
theorem EL.emp : EL .emp [] := ⟨fun n => by cases n <;> rfl, rfl⟩
/-- The edges in front of an operation, and the answers to the questions so far. -/
noncomputable def stL (n : Int) (ops : List Op3) (i : Nat) : List (Int × Int) := (runS n (ops.take i)).getD []
noncomputable def anR (n : Int) (ops : List Op3) (t : Nat) : List Bool := (List.range t).flatMap fun (i : Nat) => if (ops.getD i (0, 0, 0)).1 = 3 then [decide (Conn (stL n ops i) (ops.getD i (0, 0, 0)).2.1 (ops.getD i (0, 0, 0)).2.2)] else []
/-- Operations that can be made. -/
noncomputable def roS (n : Int) (ops : List Op3) : Option (List (Int × Int)) := if 1 ≤ n ∧ n ≤ 16 ∧ ops.length ≤ 64 then runS n ops else none
/-- A place among operations. -/
noncomputable def gaS (n : Int) (ops : List Op3) (t : Int) : Option (List (Int × Int)) := if (roS n ops).isSome = true ∧ 0 ≤ t ∧ t ≤ ops.length then runS n (ops.take t.toNat) else none
end Go.Proofs.YtdlfdoicheakoaaGreat.X

/- What functions compute: operations that are made, as the program has them. -/
set_option linter.unusedSimpArgs false
set_option linter.unusedVariables false
set_option maxHeartbeats 16000000
set_option maxRecDepth 100000
namespace Go.Proofs.YtdlfdoicheakoaaGreat.X
open Go Go.Proofs
end Go.Proofs.YtdlfdoicheakoaaGreat.X

/- What functions compute: graphs at a place among operations, graphs with levels at the start, what is connected. -/
set_option linter.unusedSimpArgs false
set_option linter.unusedVariables false
set_option maxHeartbeats 16000000
set_option maxRecDepth 100000
namespace Go.Proofs.YtdlfdoicheakoaaGreat.X
open Go Go.Proofs
theorem ct_spec {n : Int} {ts : List Tl} {e : Int × Int} (hL : LV n ts) (hm : e ∈ esT ts) : esT (ctR n ts e).1 = cutE e (esT ts) ∧ LV n (ctR n ts e).1 ∧ (ctR n ts e).1.length = ts.length - 1 ∧ 0 ≤ (ctR n ts e).2.1 ∧ (ctR n ts e).2.1 ≤ 400 := by
  have hV := hL.vg
  have hel := hV.2.2.1
  rw [esT_len'] at hel
  obtain ⟨k, l, q, hk, hf, hg, hsp⟩ := find_split hm
  have hces := cut_es hV hsp
  have hct0 : ctR n ts e = if q = true then cutR n e.1 e.2 (l + 1).toNat (ts.take k ++ ts.drop (k + 1)) else (ts.take k ++ ts.drop (k + 1), 0, false) := by
    unfold ctR
    rw [hf]
    simp only [Int.toNat_natCast]
    rw [hg]
  have hbl : (ts.take k ++ ts.drop (k + 1)).length = ts.length - 1 := by simp; omega
  have hLb := hL
  rw [hsp] at hLb
  rw [hct0]
  cases q with
  | false =>
    rw [if_neg (by simp)]
    exact ⟨hces, hLb.cutF, hbl, by simp, by simp⟩
  | true =>
    rw [if_pos rfl]
    obtain ⟨hMV, hl0⟩ := LV.cutT hLb
    have hl4 := (hLb.lv (e, l, true) (by simp)).2
    simp only at hl4
    obtain ⟨c1, c2, -, -, c3, c4⟩ := cutR_spec (n := n) (a := e.1) (b := e.2) (l + 1).toNat (ts := ts.take k ++ ts.drop (k + 1)) (by rw [show (((l + 1).toNat : Nat) : Int) - 1 = l by omega]; exact hMV)
    refine ⟨c1.trans hces, c2, (esT_len c1).trans hbl, c3, ?_⟩
    have h5 : ((l + 1).toNat : Int) ≤ 5 := by omega
    have h6 : 2 * ((ts.take k ++ ts.drop (k + 1)).length : Int) * ((l + 1).toNat : Int) ≤ 2 * ((ts.take k ++ ts.drop (k + 1)).length : Int) * 5 := Int.mul_le_mul_of_nonneg_left h5 (by omega)
    omega
theorem c_CutLevelL (n a b : Int) (ts : List Tl) (hL : LV n ts) (hm : (a, b) ∈ esT ts) :
    ∃ r own, KP 5 [LvP n ts, PE a b] [] = some (r, [], own) ∧ imm 2 own r = some (.tup [LvP n (ctR n ts (a, b)).1, I (ctR n ts (a, b)).2.1, B (ctR n ts (a, b)).2.2, B true]) := by
  have h := c_CutLevel n a b ts hL hm
  obtain ⟨h1, h2, h3, -, -⟩ := ct_spec hL hm
  generalize ctR n ts (a, b) = R at *
  rw [← h1] at h
  have hl1 : ((lvT R.1 ++ [0]).map encI).take (ts.length - 1) = (lvT R.1).map encI := by
    rw [List.map_append, List.take_left']
    rw [List.length_map, lvT_len, h3]
  have hl2 : ((trT R.1 ++ [false]).map encT).take (ts.length - 1) = (trT R.1).map encT := by
    rw [List.map_append, List.take_left']
    rw [List.length_map, trT_len, h3]
  refine ⟨_, _, h, ?_⟩
  rw [List.map_append] at hl1 hl2
  simp only [List.map_cons, List.map_nil] at hl1 hl2
  simp [imm, imm1, mapO, hl1, hl2]
end Go.Proofs.YtdlfdoicheakoaaGreat.X

/- Search in depth, and low points: plain law. -/
set_option linter.unusedVariables false
namespace Go.Proofs.YtdlfdoicheakoaaGreat.X
open Go
structure Sr where
  num : List Int
  par : List Int
  low : List Int
def enterS (st : Sr × Int) (v p : Int) : Sr × Int := (⟨st.1.num.set v.toNat (st.2 + 1), st.1.par.set v.toNat p, st.1.low.set v.toNat (st.2 + 1)⟩, st.2 + 1)
def lowerS (st : Sr × Int) (v x : Int) : Sr × Int := (⟨st.1.num, st.1.par, st.1.low.set v.toNat (min (gI st.1.low v) x)⟩, st.2)
def vstep (rec : Int → Int → Sr × Int → Sr × Int) (v p : Int) (st : Sr × Int) (u : Int) : Sr × Int :=
  if gI st.1.num u = 0 then lowerS (rec u v st) v (gI (rec u v st).1.low u) else if u = p then st else lowerS st v (gI st.1.num u)
/-- What follows from a node that is found. -/
def visit (es : List (Int × Int)) : Nat → Int → Int → Sr × Int → Sr × Int
  | 0, _, _, st => st
  | f + 1, v, p, st => (nbS v es).foldl (vstep (visit es f) v p) (enterS st v p)
def zeros (l : List Int) : Nat := (l.filter fun d => decide (d = 0)).length
def inR (n u : Int) : Prop := 0 ≤ u ∧ u < n
/-- One neighbour more in the least of a node's row. -/
def lstep (s : Sr) (u a w : Int) : Int :=
  if gI s.par w = u ∧ gI s.low w < (if w ≠ gI s.par u ∧ gI s.num w < a then gI s.num w else a) then gI s.low w else (if w ≠ gI s.par u ∧ gI s.num w < a then gI s.num w else a)
def lowOf (s : Sr) (u : Int) (ws : List Int) : Int := ws.foldl (lstep s u) (gI s.num u)
def FinS (es : List (Int × Int)) (s : Sr) (u : Int) : Prop := (∀ w ∈ nbS u es, gI s.num w ≠ 0) ∧ gI s.low u = lowOf s u (nbS u es)
structure OkS (n : Int) (es : List (Int × Int)) (st : Sr × Int) : Prop where
  ln : st.1.num.length = n.toNat
  lp : st.1.par.length = n.toNat
  ll : st.1.low.length = n.toNat
  c0 : 0 ≤ st.2
  nn : ∀ u, inR n u → 0 ≤ gI st.1.num u ∧ gI st.1.num u ≤ st.2
  pr : ∀ u, inR n u → gI st.1.num u ≠ 0 → gI st.1.par u = -1 ∨ (inR n (gI st.1.par u) ∧ gI st.1.num (gI st.1.par u) ≠ 0)
/-- What a visit does. -/
structure PostS (n : Int) (es : List (Int × Int)) (v p : Int) (st st' : Sr × Int) : Prop where
  ok : OkS n es st'
  cc : st.2 ≤ st'.2
  old : ∀ u, inR n u → gI st.1.num u ≠ 0 → gI st'.1.num u = gI st.1.num u ∧ gI st'.1.par u = gI st.1.par u ∧ gI st'.1.low u = gI st.1.low u
  vn : gI st'.1.num v = st.2 + 1
  vp : gI st'.1.par v = p
  new : ∀ u, inR n u → gI st.1.num u = 0 → gI st'.1.num u ≠ 0 → st.2 < gI st'.1.num u ∧ (u = v ∨ (inR n (gI st'.1.par u) ∧ gI st.1.num (gI st'.1.par u) = 0))
  fin : ∀ u, inR n u → gI st.1.num u = 0 → gI st'.1.num u ≠ 0 → FinS es st'.1 u
  zz : zeros st'.1.num < zeros st.1.num
/-- Within the row of a node. -/
structure LoopS (n : Int) (es : List (Int × Int)) (v p : Int) (st s : Sr × Int) (pre : List Int) : Prop where
  ok : OkS n es s
  cc : st.2 < s.2
  old : ∀ u, inR n u → gI st.1.num u ≠ 0 → gI s.1.num u = gI st.1.num u ∧ gI s.1.par u = gI st.1.par u ∧ gI s.1.low u = gI st.1.low u
  vn : gI s.1.num v = st.2 + 1
  vp : gI s.1.par v = p
  new : ∀ u, inR n u → gI st.1.num u = 0 → gI s.1.num u ≠ 0 → st.2 < gI s.1.num u ∧ (u = v ∨ (inR n (gI s.1.par u) ∧ gI st.1.num (gI s.1.par u) = 0))
  fin : ∀ u, inR n u → u ≠ v → gI st.1.num u = 0 → gI s.1.num u ≠ 0 → FinS es s.1 u
  zz : zeros s.1.num < zeros st.1.num
  pf : ∀ w ∈ pre, gI s.1.num w ≠ 0
  kid : ∀ u, inR n u → gI s.1.num u ≠ 0 → gI s.1.par u = v → u ∈ pre
  lv : gI s.1.low v = lowOf s.1 v pre
section
variable {n : Int} {es : List (Int × Int)}
end
/-- The search of a graph: from each node that is not found yet. -/
def seekS (n : Int) (es : List (Int × Int)) : Nat → Sr × Int
  | 0 => (⟨List.replicate n.toNat 0, List.replicate n.toNat 0, List.replicate n.toNat 0⟩, 0)
  | k + 1 => if gI (seekS n es k).1.num (k : Int) = 0 then visit es n.toNat (k : Int) (-1) (seekS n es k) else seekS n es k
def seek (n : Int) (es : List (Int × Int)) : Sr := (seekS n es n.toNat).1
end Go.Proofs.YtdlfdoicheakoaaGreat.X

/- What functions compute: searches in depth. -/
set_option linter.unusedSimpArgs false
set_option linter.unusedVariables false
set_option maxHeartbeats 8000000
namespace Go.Proofs.YtdlfdoicheakoaaGreat.X
open Go Go.Proofs
/-- The arrays of a search. -/
abbrev boxS (n : Int) : Arr := .box 0 [.ref 1001 0 0 n.toNat, .ref 1002 0 0 n.toNat, .ref 1003 0 0 n.toNat]
abbrev arrS (l : List Int) : Arr := .arr 0 1 (l.map encI)
end Go.Proofs.YtdlfdoicheakoaaGreat.X

/- What functions compute: searches in depth, as the reference has them: the loop's step. -/
set_option linter.unusedSimpArgs false
set_option linter.unusedVariables false
set_option maxHeartbeats 8000000
namespace Go.Proofs.YtdlfdoicheakoaaGreat.X
open Go Go.Proofs
/-- The first loop's body. -/
def loopOf : Code → Option Code
  | .seq a b => match loopOf a with
    | some x => some x
    | none => loopOf b
  | .block _ b => loopOf b
  | .loop b => some b
  | .cond _ a b => match loopOf a with
    | some x => some x
    | none => loopOf b
  | _ => none
/-- What stands at the loop. -/
def L4F (n : Int) (es : List (Int × Int)) (v p j : Int) (u : Sr × Int) (s : St) : Prop :=
  s.m 1000 = some (arrS u.1.num) ∧ s.m 1001 = some (arrS u.1.par) ∧ s.m 1002 = some (arrS u.1.low) ∧ s.ρ 8 = .ptr 8 0 0 0 ∧ s.m 8 = some (.box 0 [.ref 1000 0 0 n.toNat, .ref 1001 0 0 n.toNat, .ref 1002 0 0 n.toNat]) ∧ s.ρ 5 = .ptr 5 0 0 0 ∧ s.m 5 = some (.box 0 [I n, LE es]) ∧ s.ρ 10 = .ptr 10 0 0 0 ∧ s.m 10 = some (.box 0 [.i .emp, .i .emp, .i .emp]) ∧ s.ρ 1 = I v ∧ s.ρ 2 = I p ∧ s.ρ 4 = I u.2 ∧ s.ρ 12 = LI (nbS v es) ∧ s.ρ 13 = I j
end Go.Proofs.YtdlfdoicheakoaaGreat.X

/- What functions compute: graphs with levels are drawn: what stands at the loop. -/
set_option linter.unusedSimpArgs false
set_option linter.unusedVariables false
set_option maxHeartbeats 16000000
set_option maxRecDepth 100000
namespace Go.Proofs.YtdlfdoicheakoaaGreat.X
open Go Go.Proofs
def DrB (cs : List Int) (p i : Int) (s : St) : Prop := s.ρ 2 = .ptr 2 0 0 0 ∧ s.m 2 = some (.box 0 [I 0, .i .emp, .i .emp, .i .emp]) ∧ s.ρ 3 = .ptr 3120 0 0 0 ∧ s.m 3120 = some (Rd cs p) ∧ s.ρ 4 = .ptr 4 0 0 0 ∧ s.ρ 5 = I i
def DrA (n : Int) (ts : List Tl) (S v0 v1 v2 : Nat) (s : St) : Prop := s.m 4 = some (.box 0 [I n, .ref S v0 0 ts.length, .ref (S + 1) v1 0 ts.length, .ref (S + 2) v2 0 ts.length]) ∧ s.m S = some (.arr v0 2 ((esT ts).map encE)) ∧ s.m (S + 1) = some (.arr v1 1 ((lvT ts).map encI)) ∧ s.m (S + 2) = some (.arr v2 1 ((trT ts).map encT))
def Dr1 (n : Int) (v0 : Nat) (s : St) : Prop := s.m 4 = some (.box 0 [I n, .ref 3360 v0 0 0, .i .emp, .i .emp]) ∧ s.m 3360 = some (.arr v0 2 [])
def Dr0 (n : Int) (s : St) : Prop := s.m 4 = some (.box 0 [I n, .i .emp, .i .emp, .i .emp])
def DrI (n : Int) (cs : List Int) (i : Int) (w : Int × List Tl × Nat × Nat × Nat) (s : St) : Prop :=
  DrB cs w.1 i s ∧ LV n w.2.1 ∧ ((w.2.1 = [] ∧ Dr0 n s) ∨ (w.2.1 = [] ∧ Dr1 n w.2.2.1 s) ∨ DrA n w.2.1 3144 w.2.2.1 w.2.2.2.1 w.2.2.2.2 s ∨ DrA n w.2.1 3360 w.2.2.1 w.2.2.2.1 w.2.2.2.2 s ∨ DrA n w.2.1 3600 w.2.2.1 w.2.2.2.1 w.2.2.2.2 s)
end Go.Proofs.YtdlfdoicheakoaaGreat.X
