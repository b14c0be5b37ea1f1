/- What functions answer, and the plain laws behind it. -/
import Derived.Test.YtdlfdoicheakoaaKAQ
import Derived.Test.YtdlfdoicheakoaaKAP
import Derived.Test.YtdlfdoicheakoaaKAJ
import Derived.Test.YtdlfdoicheakoaaKAD
/- What functions compute: graphs with levels are drawn. -/
set_option linter.unusedSimpArgs false
set_option linter.unusedVariables false
set_option maxHeartbeats 16000000
set_option maxRecDepth 100000
namespace Go.Proofs.Ytdlfdoicheakoaa.X
open Go Go.Proofs
theorem dr_exit3600 {σ : Type} {R : σ → St → Prop} {μ : σ → Nat} {k0 : Nat} {n : Int} {cs : List Int} {p i : Int} {ts : List Tl} {v0 v1 v2 : Nat} (hcs : bytes cs) (hp : 0 ≤ p ∧ p ≤ 100000) (hL : LV n ts) (hgo : ¬ (0 < i ∧ 0 < ts.length)) (st : St) (hB : DrB cs p i st) (hA : DrA n ts 3600 v0 v1 v2 st) (b tl : Code) (hb : (Try.f22.body).bind loopOf = some b) (ht : (Try.f22.body).bind tailOf = some tl) :
    XW Try.prog cfg 22 b st (LQ R μ k0 (bl 0 (sq Try.prog cfg 22 tl (PostE Try.prog Try.f22 0 (DrR n))))) := by
  have hVt := hL.vg
  have hll := lv_in hL
  have hel := hVt.2.2.1
  have l1 := esT_len' ts
  have l2 := lvT_len ts
  have l3 := trT_len ts
  obtain ⟨ρ, m⟩ := st
  obtain ⟨e2, m2, e3, mR, e4, e5⟩ := hB
  obtain ⟨m4, q0, q1, q2⟩ := hA
  simp only [Nat.reduceAdd] at e2 m2 e3 mR e4 e5 m4 q0 q1 q2
  simp only [Try.f22, Option.bind_some, loopOf, Option.some.injEq] at hb
  simp only [Try.f22, Option.bind_some, tailOf, loopOf, Option.some.injEq] at ht
  subst hb
  subst ht
  obtain ⟨w, hw, -, hpw⟩ := c_pick cs p 24 hcs (by omega) (by omega)
  have hw' := hw (by omega)
  obtain ⟨k, hk, -, hpk⟩ := c_pick cs (p + 1) ts.length hcs (by omega) (by omega)
  obtain ⟨v, hv, hnum⟩ := c_num cs (p + 1 + 1) [5, -1, 4, 1] hcs (by omega) (by simp) (by simp)
  have hv' : -1 ≤ v ∧ v ≤ 5 := by
    have : ∀ x ∈ [5, -1, 4, (1 : Int)], -1 ≤ x ∧ x ≤ 5 := by decide
    exact this v hv
  simp only [List.map_cons, List.map_nil, encI, List.length_cons, List.length_nil, Nat.reduceAdd] at hnum
  obtain ⟨y, -, -, hpy⟩ := c_pick cs (p + 1 + 1) 2 hcs (by omega) (by omega)
  have ht0 : ∀ N : Nat, ts.length = N → DrR n (.agg [I n, .ref 2000 0 0 N, .ref 2001 0 0 N, .ref 2002 0 0 N], [], [.arr 0 2 ((esT ts).map encE), .arr 0 1 ((lvT ts).map encI), .arr 0 1 ((trT ts).map encT)]) := fun N hN => DrR.of hVt (by omega) (by omega) (by omega) (.inl rfl) hll
  by_cases hz : ts.length = 0
  · rw [hz] at m4 ht0
    have hD := ht0 0 rfl
    repeat'(first|(refine na ?_;constructor)|(refine ite_two ?_ ?_<;>intro _<;>first|(exfalso;omega)|skip)|refine ord_split (by kernel_rfl) ?_|((first|(refine nb ?_;constructor)|refine pn rfl ?_|refine pe rfl ?_|((first|refine at2 ?_|refine at_cond ?_);split<;>first|(exfalso;omega;done)|skip))<;>try simp(config:={maxSteps:=3000000})(disch:=first|assumption|omega|exact VG.okg (by assumption)|(simp only[List.length_set,List.length_append,List.length_cons,List.length_nil,List.length_replicate];omega))only[go_sem,simprocAttr,Try.results22, e2, m2, e3, mR, e4, e5, m4, q0, q1, q2]))
    all_goals exact hD
  have hi0 : ¬ 0 < i := fun h => hgo ⟨h, by omega⟩
  have hk' := hk (by omega)
  by_cases hw0 : w = 0
  · repeat'(first|(refine na ?_;constructor)|(refine ite_two ?_ ?_<;>intro _<;>first|(exfalso;omega)|skip)|refine ord_split (by kernel_rfl) ?_|((first|(refine nb ?_;constructor)|refine pn rfl ?_|refine pe rfl ?_|((first|refine at2 ?_|refine at_cond ?_);split<;>first|(exfalso;omega;done)|skip))<;>try simp(config:={maxSteps:=3000000})(disch:=first|assumption|omega|exact VG.okg (by assumption)|(simp only[List.length_set,List.length_append,List.length_cons,List.length_nil,List.length_replicate];omega))only[go_sem,simprocAttr,Try.results22, e2, m2, e3, mR, e4, e5, m4, q0, q1, q2, hi0, hpw, hw0, hpk, hnum, l1, l2, l3]))
    all_goals exact DrR.of hVt (by omega) (by omega) (by rw [List.length_set]; omega) (.inl rfl) (set_in hll hv')
  by_cases hw1 : w = 1
  · repeat'(first|(refine na ?_;constructor)|(refine ite_two ?_ ?_<;>intro _<;>first|(exfalso;omega)|skip)|refine ord_split (by kernel_rfl) ?_|((first|(refine nb ?_;constructor)|refine pn rfl ?_|refine pe rfl ?_|((first|refine at2 ?_|refine at_cond ?_);split<;>first|(exfalso;omega;done)|skip))<;>try simp(config:={maxSteps:=3000000})(disch:=first|assumption|omega|exact VG.okg (by assumption)|(simp only[List.length_set,List.length_append,List.length_cons,List.length_nil,List.length_replicate];omega))only[go_sem,simprocAttr,Try.results22, e2, m2, e3, mR, e4, e5, m4, q0, q1, q2, hi0, hpw, hw1, hpk, hpy, l1, l2, l3]))
    all_goals exact DrR.of hVt (by omega) (by rw [List.length_set]; omega) (by omega) (.inl rfl) hll
  by_cases hw2 : w = 2
  · repeat'(first|(refine na ?_;constructor)|(refine ite_two ?_ ?_<;>intro _<;>first|(exfalso;omega)|skip)|refine ord_split (by kernel_rfl) ?_|((first|(refine nb ?_;constructor)|refine pn rfl ?_|refine pe rfl ?_|((first|refine at2 ?_|refine at_cond ?_);split<;>first|(exfalso;omega;done)|skip))<;>try simp(config:={maxSteps:=3000000})(disch:=first|assumption|omega|exact VG.okg (by assumption)|(simp only[List.length_set,List.length_append,List.length_cons,List.length_nil,List.length_replicate];omega))only[go_sem,simprocAttr,Try.results22, e2, m2, e3, mR, e4, e5, m4, q0, q1, q2, hi0, hpw, hw2, l1, l2, l3]))
    all_goals exact DrR.of hVt (by omega) (by omega) (by omega) (.inr (by omega)) hll
  · repeat'(first|(refine na ?_;constructor)|(refine ite_two ?_ ?_<;>intro _<;>first|(exfalso;omega)|skip)|refine ord_split (by kernel_rfl) ?_|((first|(refine nb ?_;constructor)|refine pn rfl ?_|refine pe rfl ?_|((first|refine at2 ?_|refine at_cond ?_);split<;>first|(exfalso;omega;done)|skip))<;>try simp(config:={maxSteps:=3000000})(disch:=first|assumption|omega|exact VG.okg (by assumption)|(simp only[List.length_set,List.length_append,List.length_cons,List.length_nil,List.length_replicate];omega))only[go_sem,simprocAttr,Try.results22, e2, m2, e3, mR, e4, e5, m4, q0, q1, q2, hi0, hpw, hw0, hw1, hw2, l1, l2, l3]))
    all_goals exact ht0 _ rfl
end Go.Proofs.Ytdlfdoicheakoaa.X

/- What functions compute: graphs with levels are drawn. -/
set_option linter.unusedSimpArgs false
set_option linter.unusedVariables false
set_option maxHeartbeats 16000000
set_option maxRecDepth 100000
namespace Go.Proofs.Ytdlfdoicheakoaa.X
open Go Go.Proofs
theorem c_l7Draw (bs : List Int) (hb : ∀ b ∈ bs, 0 ≤ b ∧ b < 256) (hl : bs.length ≤ 1000000000) : ∃ (n : Int) (res : PV × List Arr × List Arr), DrR n res ∧ KP 22 [LB bs] [] = some res := by
  obtain ⟨cs, hcs, hopen⟩ := c_l14Open bs hb hl
  obtain ⟨n, es, p0, hn1, hn2, ho, hes, hel, hp1, hp2, hdraw⟩ := c_l1Draw cs 0 hcs (by omega)
  have hV : VG n es := ⟨hn1, hn2, by omega, hes, ho⟩
  obtain ⟨i0, hi0, -, hpi⟩ := c_pick cs p0 5 hcs (by omega) (by omega)
  have hi0' := hi0 (by omega)
  have hof := c_l7Of n es hV
  have hD := ld hV
  have hTl := ldT_len hV
  refine ⟨n, ?_⟩
  suffices hgoal : ∃ res, DrR n res ∧ KP 22 [LB bs] [] = some res from hgoal
  refine xw_callE (fn := Try.f22) rfl Try.func22 rfl ⟨Nat.le_of_ble_eq_true rfl, rfl, rfl⟩ ?_
  have hof1 : (es = [] → KP 69 [GL n es] [] = some (.agg [I n, .i .emp, .i .emp, .i .emp], [], [])) ∧ (es ≠ [] → KP 69 [GL n es] [] = some (refsP n (ldT es), [], refsA (ldT es))) := by
    constructor
    · intro h; rw [if_pos h] at hof; exact hof
    · intro h; rw [if_neg h] at hof; exact hof
  have hLd := hD.lv
  have hTz : es = [] → ldT es = [] := fun h => by rw [h]; rfl
  generalize ldT es = T at *
  by_cases hz : es = []
  all_goals first | have hc := hof1.1 hz | have hc := hof1.2 hz
  all_goals (
    repeat'(first|(refine na ?_;constructor)|(refine ite_two ?_ ?_<;>intro _<;>first|(exfalso;omega)|skip)|refine ord_split (by kernel_rfl) ?_|((first|(refine nb ?_;constructor)|refine pn rfl ?_|refine pe rfl ?_|((first|refine at2 ?_|refine at_cond ?_);split<;>first|(exfalso;omega;done)|skip))<;>try simp(config:={maxSteps:=3000000})(disch:=first|assumption|omega|exact VG.okg (by assumption)|(simp only[List.length_set,List.length_append,List.length_cons,List.length_nil,List.length_replicate];omega))only[go_sem,simprocAttr,Try.results22, hopen, hdraw, hc, hpi]))
    refine xw_loopR (fun (w : Int × Int × List Tl × Nat × Nat × Nat) s => DrI n cs w.1 w.2 s ∧ 0 ≤ w.1 ∧ w.1 ≤ 4 ∧ 0 ≤ w.2.1 ∧ w.2.1 + 4 * w.1 ≤ 1000) (fun w => w.1.toNat) (i0, p0 + 1, T, 0, 0, 0) ?_ ?_)
  · refine ⟨⟨⟨?_, ?_, ?_, ?_, ?_, ?_⟩, hLd, .inl ⟨hTz hz, ?_⟩⟩, by simp only; omega, by simp only; omega, by simp only; omega, by simp only; omega⟩
    all_goals first | rfl | trace_state
  rotate_left
  · refine ⟨⟨⟨?_, ?_, ?_, ?_, ?_, ?_⟩, hLd, .inr (.inr (.inl ⟨?_, ?_, ?_, ?_⟩))⟩, by simp only; omega, by simp only; omega, by simp only; omega, by simp only; omega⟩
    all_goals first | rfl | trace_state
  all_goals (
    rintro ⟨i, p, ts, v0, v1, v2⟩ st ⟨⟨hB, hL, hsh⟩, g0, g1, r0, r1⟩
    simp only at hB hL hsh g0 g1 r0 r1
    have hVt := hL.vg
    have hll := lv_in hL
    have l1 := esT_len' ts
    have l2 := lvT_len ts
    have l3 := trT_len ts
    have fin : ∀ b, XW Try.prog cfg 22 b st (LQ (fun (w : Int × List Tl × Nat × Nat × Nat) t => DrI n cs (i - 1) w t ∧ p ≤ w.1 ∧ w.1 ≤ p + 4) (fun _ => 0) 1 (fun _ _ => False)) → 0 < i → ∀ Q, XW Try.prog cfg 22 b st (LQ (fun (w : Int × Int × List Tl × Nat × Nat × Nat) s => DrI n cs w.1 w.2 s ∧ 0 ≤ w.1 ∧ w.1 ≤ 4 ∧ 0 ≤ w.2.1 ∧ w.2.1 + 4 * w.1 ≤ 1000) (fun w => w.1.toNat) i.toNat Q) := by
      intro b hx hi Q
      refine hx.mono fun e t ht => ?_
      cases e with
      | normal =>
        obtain ⟨w, ⟨h1, h2, h3⟩, -⟩ := ht
        exact ⟨(i - 1, w), ⟨h1, by simp only; omega, by simp only; omega, by simp only; omega, by simp only; omega⟩, by simp only; omega⟩
      | exit _ => exact ht.elim
      | ret => exact ht.elim
    rcases hsh with ⟨hz0, hA⟩ | ⟨hz0, hA⟩ | hA | hA | hA
    · exact dr_exit0 hn1 hn2 st hB hA _ _ rfl rfl
    · exact dr_exit1 hn1 hn2 st hB hA _ _ rfl rfl
    · by_cases hgo : 0 < i ∧ 0 < ts.length
      · exact fin _ (dr_step3144 hcs ⟨r0, by omega⟩ hL hgo.2 hgo.1 g1 st hB hA _ rfl) hgo.1 _
      · exact dr_exit3144 hcs ⟨r0, by omega⟩ hL hgo st hB hA _ _ rfl rfl
    · by_cases hgo : 0 < i ∧ 0 < ts.length
      · exact fin _ (dr_step3360 hcs ⟨r0, by omega⟩ hL hgo.2 hgo.1 g1 st hB hA _ rfl) hgo.1 _
      · exact dr_exit3360 hcs ⟨r0, by omega⟩ hL hgo st hB hA _ _ rfl rfl
    · by_cases hgo : 0 < i ∧ 0 < ts.length
      · exact fin _ (dr_step3600 hcs ⟨r0, by omega⟩ hL hgo.2 hgo.1 g1 st hB hA _ rfl) hgo.1 _
      · exact dr_exit3600 hcs ⟨r0, by omega⟩ hL hgo st hB hA _ _ rfl rfl)
end Go.Proofs.Ytdlfdoicheakoaa.X

/- What functions compute: draws of graphs with levels and edges; levels that are too few. -/
set_option linter.unusedSimpArgs false
set_option linter.unusedVariables false
set_option maxHeartbeats 8000000
set_option maxRecDepth 100000
namespace Go.Proofs.Ytdlfdoicheakoaa.X
open Go Go.Proofs
/-- Rows of edges, levels and marks. -/
theorem rows_of : ∀ (es : List (Int × Int)) (lv : List Int) (tr : List Bool), lv.length = es.length → tr.length = es.length → ∃ ts : List Tl, esT ts = es ∧ lvT ts = lv ∧ trT ts = tr
  | [], [], [], _, _ => ⟨[], rfl, rfl, rfl⟩
  | e :: es, l :: lv, t :: tr, h1, h2 => by
    obtain ⟨ts, a, b, c⟩ := rows_of es lv tr (by simpa using h1) (by simpa using h2)
    exact ⟨(e, l, t) :: ts, by simp only [esT, List.map_cons] at a ⊢; rw [a], by simp only [lvT, List.map_cons] at b ⊢; rw [b], by simp only [trT, List.map_cons] at c ⊢; rw [c]⟩
abbrev LvQ (n : Int) (es : List (Int × Int)) (lv : List Int) (tr : List Bool) : PV := .agg [I n, LE es, LI lv, LT tr]
theorem c_LevelsValid_few (n : Int) (es : List (Int × Int)) (lv : List Int) (tr : List Bool) (hV : VG n es) (hl : ¬ (lv.length : Int) = es.length) (h1 : lv.length ≤ 1000) : KP 12 [LvQ n es lv tr] [] = some (B false, [], []) := by
  have hel := hV.2.2.1
  have hgv := c_GraphValid n es (by omega)
  rw [decide_eq_true hV] at hgv
  refine xw_call (fn := Try.f12) rfl Try.func12 rfl ⟨Nat.le_of_ble_eq_true rfl, rfl, rfl⟩ ?_
  repeat'(first|(refine na ?_;constructor)|(refine ite_two ?_ ?_<;>intro _<;>first|(exfalso;omega)|skip)|refine ord_split (by kernel_rfl) ?_|((first|(refine nb ?_;constructor)|refine pn rfl ?_|refine pe rfl ?_|((first|refine at2 ?_|refine at_cond ?_);split<;>first|(exfalso;omega;done)|skip))<;>try simp(config:={maxSteps:=3000000})(disch:=first|assumption|omega|exact VG.okg (by assumption)|(simp only[List.length_set,List.length_append,List.length_cons,List.length_nil,List.length_replicate];omega))only[go_sem,simprocAttr,Try.results12, hgv, hl]))
theorem c_sLevelsValid_few (n : Int) (es : List (Int × Int)) (lv : List Int) (tr : List Bool) (hV : VG n es) (hl : ¬ (lv.length : Int) = es.length) (h1 : lv.length ≤ 1000) : KP 34 [LvQ n es lv tr] [] = some (B false, [], []) := by
  have hel := hV.2.2.1
  have hgv := c_sGraphValid n es (by omega)
  rw [decide_eq_true hV] at hgv
  refine xw_call (fn := Try.f34) rfl Try.func34 rfl ⟨Nat.le_of_ble_eq_true rfl, rfl, rfl⟩ ?_
  repeat'(first|(refine na ?_;constructor)|(refine ite_two ?_ ?_<;>intro _<;>first|(exfalso;omega)|skip)|refine ord_split (by kernel_rfl) ?_|((first|(refine nb ?_;constructor)|refine pn rfl ?_|refine pe rfl ?_|((first|refine at2 ?_|refine at_cond ?_);split<;>first|(exfalso;omega;done)|skip))<;>try simp(config:={maxSteps:=3000000})(disch:=first|assumption|omega|exact VG.okg (by assumption)|(simp only[List.length_set,List.length_append,List.length_cons,List.length_nil,List.length_replicate];omega))only[go_sem,simprocAttr,Try.results34, hgv, hl]))
theorem c_PutLevel_few (n a b : Int) (es : List (Int × Int)) (lv : List Int) (tr : List Bool) (hV : VG n es) (hl : ¬ (lv.length : Int) = es.length) (h1 : lv.length ≤ 1000) : KP 6 [LvQ n es lv tr, PE a b] [] = some (.tup [.agg [I 0, .i .emp, .i .emp, .i .emp], B false], [], []) := by
  have hlv := c_LevelsValid_few n es lv tr hV hl h1
  refine xw_call (fn := Try.f6) rfl Try.func6 rfl ⟨Nat.le_of_ble_eq_true rfl, rfl, rfl⟩ ?_
  repeat'(first|(refine na ?_;constructor)|(refine ite_two ?_ ?_<;>intro _<;>first|(exfalso;omega)|skip)|refine ord_split (by kernel_rfl) ?_|((first|(refine nb ?_;constructor)|refine pn rfl ?_|refine pe rfl ?_|((first|refine at2 ?_|refine at_cond ?_);split<;>first|(exfalso;omega;done)|skip))<;>try simp(config:={maxSteps:=3000000})(disch:=first|assumption|omega|exact VG.okg (by assumption)|(simp only[List.length_set,List.length_append,List.length_cons,List.length_nil,List.length_replicate];omega))only[go_sem,simprocAttr,Try.results6, hlv]))
theorem c_sPutLevel_few (n a b : Int) (es : List (Int × Int)) (lv : List Int) (tr : List Bool) (hV : VG n es) (hl : ¬ (lv.length : Int) = es.length) (h1 : lv.length ≤ 1000) : KP 7 [LvQ n es lv tr, PE a b] [] = some (.tup [.agg [I 0, .i .emp, .i .emp, .i .emp], B false], [], []) := by
  have hlv := c_sLevelsValid_few n es lv tr hV hl h1
  have hel := hV.2.2.1
  have hpe := c_sPutEdge n a b es (by omega)
  by_cases h : PutOK n es (a, b)
  · rw [if_pos h] at hpe
    refine xw_call (fn := Try.f7) rfl Try.func7 rfl ⟨Nat.le_of_ble_eq_true rfl, rfl, rfl⟩ ?_
    repeat'(first|(refine na ?_;constructor)|(refine ite_two ?_ ?_<;>intro _<;>first|(exfalso;omega)|skip)|refine ord_split (by kernel_rfl) ?_|((first|(refine nb ?_;constructor)|refine pn rfl ?_|refine pe rfl ?_|((first|refine at2 ?_|refine at_cond ?_);split<;>first|(exfalso;omega;done)|skip))<;>try simp(config:={maxSteps:=3000000})(disch:=first|assumption|omega|exact VG.okg (by assumption)|(simp only[List.length_set,List.length_append,List.length_cons,List.length_nil,List.length_replicate];omega))only[go_sem,simprocAttr,Try.results7, hlv, hpe]))
  · rw [if_neg h] at hpe
    refine xw_call (fn := Try.f7) rfl Try.func7 rfl ⟨Nat.le_of_ble_eq_true rfl, rfl, rfl⟩ ?_
    repeat'(first|(refine na ?_;constructor)|(refine ite_two ?_ ?_<;>intro _<;>first|(exfalso;omega)|skip)|refine ord_split (by kernel_rfl) ?_|((first|(refine nb ?_;constructor)|refine pn rfl ?_|refine pe rfl ?_|((first|refine at2 ?_|refine at_cond ?_);split<;>first|(exfalso;omega;done)|skip))<;>try simp(config:={maxSteps:=3000000})(disch:=first|assumption|omega|exact VG.okg (by assumption)|(simp only[List.length_set,List.length_append,List.length_cons,List.length_nil,List.length_replicate];omega))only[go_sem,simprocAttr,Try.results7, hpe]))
/-- A drawn graph with levels, in closed form. -/
def DrL (n : Int) (es : List (Int × Int)) (lv : List Int) (tr : List Bool) (x y z : IV) : Prop := VG n es ∧ tr.length = es.length ∧ (lv.length = es.length ∨ lv.length + 1 = es.length) ∧ (∀ v ∈ lv, -1 ≤ v ∧ v ≤ 5) ∧ FV x (es.map encE) ∧ FV y (lv.map encI) ∧ FV z (tr.map encT)
theorem c_DrawPutLevel (bs : List Int) (hb : ∀ b ∈ bs, 0 ≤ b ∧ b < 256) (hl : bs.length ≤ 1000000000) :
    ∃ (n a b : Int) (es : List (Int × Int)) (lv : List Int) (tr : List Bool) (x y z : IV), DrL n es lv tr x y z ∧ inN n a ∧ inN n b ∧ KP 5 [LB bs] [] = some (.tup [.agg [I n, .i x, .i y, .i z], PE a b], [], []) := by
  obtain ⟨n, ⟨r, ps, own⟩, hD, hdr⟩ := c_l7Draw bs hb hl
  obtain ⟨es, lv, tr, x, y, z, hV, h1, h2, h3, fx, fy, fz, hps, him⟩ := hD
  simp only at hps him
  subst hps
  obtain ⟨cs, hcs, hopen⟩ := c_l14Open bs hb hl
  have hn1 := hV.1
  have hn2 := hV.2.1
  obtain ⟨u, hu, -, hpu⟩ := c_pick cs 0 n hcs (by omega) (by omega)
  obtain ⟨v, hv, -, hpv⟩ := c_pick cs 1 n hcs (by omega) (by omega)
  have hu' := hu (by omega)
  have hv' := hv (by omega)
  have hce := c_l1Edge u v
  have hin : inN n (edgeOf u v).1 ∧ inN n (edgeOf u v).2 := by
    unfold edgeOf inN
    split <;> exact ⟨⟨by simp only; omega, by simp only; omega⟩, by simp only; omega, by simp only; omega⟩
  have ax := fx.f
  have ay := fy.f
  have az := fz.f
  have bx := fx.fl
  have by' := fy.fl
  have bz := fz.fl
  refine ⟨n, (edgeOf u v).1, (edgeOf u v).2, es, lv, tr, x, y, z, ⟨hV, h1, h2, h3, fx, fy, fz⟩, hin.1, hin.2, xw_call (fn := Try.f5) rfl Try.func5 rfl ⟨Nat.le_of_ble_eq_true rfl, rfl, rfl⟩ ?_⟩
  repeat'(first|(refine na ?_;constructor)|(refine ite_two ?_ ?_<;>intro _<;>first|(exfalso;omega)|skip)|refine ord_split (by kernel_rfl) ?_|((first|(refine nb ?_;constructor)|refine pn rfl ?_|refine pe rfl ?_|((first|refine at2 ?_|refine at_cond ?_);split<;>first|(exfalso;omega;done)|skip))<;>try simp(config:={maxSteps:=3000000})(disch:=first|assumption|omega|exact VG.okg (by assumption)|(simp only[List.length_set,List.length_append,List.length_cons,List.length_nil,List.length_replicate];omega))only[go_sem,simprocAttr,Try.results5, hdr, him, hopen, hpu, hpv, hce, ax, ay, az, bx, by', bz]))
theorem c_dyLeveled (n : Int) (es : List (Int × Int)) (lv : List Int) (tr : List Bool) (h1 : es.length ≤ 1048576) (h2 : lv.length ≤ 1048576) (h3 : tr.length ≤ 1048576) : KP 8 [LvQ n es lv tr, LvQ n es lv tr] [] = some (B true, [], []) := by
  have hgs := c_GraphSame n n es es (by omega)
  rw [decide_eq_true ⟨rfl, rfl⟩] at hgs
  have hd := c_dyInts lv lv h2
  rw [decide_eq_true rfl] at hd
  refine xw_call (fn := Try.f8) rfl Try.func8 rfl ⟨Nat.le_of_ble_eq_true rfl, rfl, rfl⟩ ?_
  repeat'(first|(refine na ?_;constructor)|(refine ite_two ?_ ?_<;>intro _<;>first|(exfalso;omega)|skip)|refine ord_split (by kernel_rfl) ?_|((first|(refine nb ?_;constructor)|refine pn rfl ?_|refine pe rfl ?_|((first|refine at2 ?_|refine at_cond ?_);split<;>first|(exfalso;omega;done)|skip))<;>try simp(config:={maxSteps:=3000000})(disch:=first|assumption|omega|exact VG.okg (by assumption)|(simp only[List.length_set,List.length_append,List.length_cons,List.length_nil,List.length_replicate];omega))only[go_sem,simprocAttr,Try.results8, hgs, hd]))
  refine xw_loopR (fun (i : Int) s => s.m 2 = some (.box 0 [I n, LE es, LI lv, LT tr]) ∧ s.ρ 2 = .ptr 2 0 0 0 ∧ s.m 3 = some (.box 0 [I n, LE es, LI lv, LT tr]) ∧ s.ρ 3 = .ptr 3 0 0 0 ∧ s.ρ 5 = I i ∧ 0 ≤ i ∧ i ≤ tr.length) (fun i => (tr.length - i).toNat) 0 ⟨rfl, rfl, rfl, rfl, rfl, by simp, by simp⟩ ?_
  rintro i ⟨ρ, m⟩ ⟨m1, e1, m2, e2, e3, g0, g1⟩
  simp only at m1 e1 m2 e2 e3 g0 g1
  by_cases hj : i < tr.length
  · repeat'(first|(refine na ?_;constructor)|(refine ite_two ?_ ?_<;>intro _<;>first|(exfalso;omega)|skip)|refine ord_split (by kernel_rfl) ?_|((first|(refine nb ?_;constructor)|refine pn rfl ?_|refine pe rfl ?_|((first|refine at2 ?_|refine at_cond ?_);split<;>first|(exfalso;omega;done)|skip))<;>try simp(config:={maxSteps:=3000000})(disch:=first|assumption|omega|exact VG.okg (by assumption)|(simp only[List.length_set,List.length_append,List.length_cons,List.length_nil,List.length_replicate];omega))only[go_sem,simprocAttr,Try.results8, m1, e1, m2, e2, e3]))
    exact ⟨by omega, by omega, by omega⟩
  · repeat'(first|(refine na ?_;constructor)|(refine ite_two ?_ ?_<;>intro _<;>first|(exfalso;omega)|skip)|refine ord_split (by kernel_rfl) ?_|((first|(refine nb ?_;constructor)|refine pn rfl ?_|refine pe rfl ?_|((first|refine at2 ?_|refine at_cond ?_);split<;>first|(exfalso;omega;done)|skip))<;>try simp(config:={maxSteps:=3000000})(disch:=first|assumption|omega|exact VG.okg (by assumption)|(simp only[List.length_set,List.length_append,List.length_cons,List.length_nil,List.length_replicate];omega))only[go_sem,simprocAttr,Try.results8, m1, e1, m2, e2, e3]))
theorem c_dyLeveled0 : KP 8 [LvQ 0 [] [] [], LvQ 0 [] [] []] [] = some (B true, [], []) := c_dyLeveled 0 [] [] [] (by simp) (by simp) (by simp)
end Go.Proofs.Ytdlfdoicheakoaa.X
