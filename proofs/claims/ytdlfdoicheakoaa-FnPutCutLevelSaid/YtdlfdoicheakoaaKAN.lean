/- What functions answer, and the plain laws behind it. -/
import Derived.Test.YtdlfdoicheakoaaKAM
/- What functions compute: an edge is cut out of a graph with levels, as the reference has it. -/
set_option linter.unusedSimpArgs false
set_option linter.unusedVariables false
set_option maxHeartbeats 16000000
set_option maxRecDepth 100000
namespace Go.Proofs.Ytdlfdoicheakoaa.X
open Go Go.Proofs
theorem c_l7Level (n a b k : Int) (ts : List Tl) (hM : MV n ts a b k) (hk : 0 ≤ k) : KP 106 [LvP n ts, I a, I b, I k] [] = some (.tup [refsP n (replL n a b k ts).1, I (replL n a b k ts).2.1, B (replL n a b k ts).2.2], [], refsA (replL n a b k ts).1) := by
  have hV := hM.vg
  have hVF : VG n (abT ts k true) := hV.sub (by unfold abT esT; exact List.filter_sublist.map _)
  have hc : inN n (lessC n (abT ts k true) a b) := by unfold lessC; split; exact hM.rb; exact hM.ra
  have h := c_l7LevelS (S := fun y => Conn (abT ts k true) (lessC n (abT ts k true) a b) y) n a b k ts (ptL n (abT ts k true) (lessC n (abT ts k true) a b)) hV hM.lv ⟨hk, hM.k4⟩
    (by have := ptL_len n (abT ts k true) (lessC n (abT ts k true) a b); have := hV.2.1; omega)
    (c_l7Side n a b (abT ts k true) hVF hM.ra hM.rb)
    (fun u hu => by rw [mem_ptL]; exact ⟨fun h => h.2, fun h => ⟨hu, h⟩⟩)
    (fun t ht h1 h2 => by
      have he : t.1 ∈ abT ts k true := mem_abT.2 ⟨t.2.1, t.2.2, ht, by omega, fun _ => h1⟩
      have hcn : Conn (abT ts k true) t.1.1 t.1.2 := Conn.of (.inl he)
      exact ⟨fun q => q.trans hcn, fun q => q.trans hcn.symm⟩)
  have hl := esT_len (replL_spec hM hk).1
  have he := (replL_spec hM hk).1
  unfold refsP refsA
  rw [hl, he]
  exact h
/-- What a cut gives back. -/
def CutShape (n : Int) (us : List Tl) (p : PV) (own : List Arr) : Prop := (p = cutP n us ∧ own = cutA us) ∨ (p = refsP n us ∧ own = refsA us)
theorem c_sCutLevel (n a b : Int) (ts : List Tl) (hL : LV n ts) (hm : (a, b) ∈ esT ts) :
    ∃ p own, CutShape n (ctR n ts (a, b)).1 p own ∧ KP 71 [LvP n ts, PE a b] [] = some (.tup [p, I (ctR n ts (a, b)).2.1, B (ctR n ts (a, b)).2.2, B true], [], own) := by
  have hV := hL.vg
  have hlv := c_sLevelsValid n ts hV
  have hel := hV.2.2.1
  rw [decide_eq_true hL] at hlv
  have l1 := esT_len' ts
  have l2 := lvT_len ts
  have l3 := trT_len ts
  obtain ⟨k, l, q, hk, hf, hg, hsp⟩ := find_split hm
  have hfi := c_l1Find (esT ts) a b (by omega)
  rw [hf] at hfi
  have hces := cut_es hV hsp
  have hcut := c_l7Cut n k ts hk (by omega)
  rw [remT_eq] at hcut
  obtain ⟨hgl, hgt⟩ := getL' ts k l q (a, b) hk hg
  have hct0 : ctR n ts (a, b) = if q = true then cutR n a b (l + 1).toNat (ts.take k ++ ts.drop (k + 1)) else (ts.take k ++ ts.drop (k + 1), 0, false) := by
    unfold ctR
    rw [hf]
    simp only [Int.toNat_natCast]
    rw [hg]
  rw [hct0]
  have hbl : (ts.take k ++ ts.drop (k + 1)).length = ts.length - 1 := by simp; omega
  have hLb := hL
  rw [hsp] at hLb
  generalize hbs : ts.take k ++ ts.drop (k + 1) = bs at *
  cases q with
  | false =>
    rw [if_neg (by simp)]
    refine ⟨cutP n bs, cutA bs, .inl ⟨rfl, rfl⟩, ?_⟩
    by_cases hz : bs = []
    · subst hz
      unfold cutP cutA at *
      rw [if_pos rfl, if_pos rfl] at *
      refine xw_call (fn := Try.f71) rfl Try.func71 rfl ⟨Nat.le_of_ble_eq_true rfl, rfl, rfl⟩ ?_
      repeat'(first|(refine na ?_;constructor)|(refine ite_two ?_ ?_<;>intro _<;>first|(exfalso;omega)|skip)|refine ord_split (by kernel_rfl) ?_|((first|(refine nb ?_;constructor)|refine pn rfl ?_|refine pe rfl ?_|((first|refine at2 ?_|refine at_cond ?_);split<;>first|(exfalso;omega;done)|skip))<;>try simp(config:={maxSteps:=3000000})(disch:=first|assumption|omega|exact VG.okg (by assumption)|(simp only[List.length_set,List.length_append,List.length_cons,List.length_nil,List.length_replicate];omega))only[go_sem,simprocAttr,Try.results71, hlv, hfi, hcut, hgl, hgt]))
    · unfold cutP cutA at *
      rw [if_neg hz, if_neg hz] at *
      refine xw_call (fn := Try.f71) rfl Try.func71 rfl ⟨Nat.le_of_ble_eq_true rfl, rfl, rfl⟩ ?_
      repeat'(first|(refine na ?_;constructor)|(refine ite_two ?_ ?_<;>intro _<;>first|(exfalso;omega)|skip)|refine ord_split (by kernel_rfl) ?_|((first|(refine nb ?_;constructor)|refine pn rfl ?_|refine pe rfl ?_|((first|refine at2 ?_|refine at_cond ?_);split<;>first|(exfalso;omega;done)|skip))<;>try simp(config:={maxSteps:=3000000})(disch:=first|assumption|omega|exact VG.okg (by assumption)|(simp only[List.length_set,List.length_append,List.length_cons,List.length_nil,List.length_replicate];omega))only[go_sem,simprocAttr,Try.results71, hlv, hfi, hcut, hgl, hgt]))
  | true =>
    rw [if_pos rfl]
    have hMV : MV n bs a b l ∧ 0 ≤ l := by
      have := LV.cutT hLb
      rw [hbs] at this
      exact this
    have hl4 : l ≤ 4 := (hL.lv ((a, b), l, true) (by rw [hsp]; simp)).2
    obtain ⟨hMV, hl0⟩ := hMV
    generalize hR : cutR n a b (l + 1).toNat bs = R at *
    suffices hgoal : ∃ res, (∃ p own, CutShape n R.1 p own ∧ res = (PV.tup [p, I R.2.1, B R.2.2, B true], ([] : List Arr), own)) ∧ KP 71 [LvP n ts, PE a b] [] = some res by
      obtain ⟨res, ⟨p, own, h1, rfl⟩, h2⟩ := hgoal
      exact ⟨p, own, h1, h2⟩
    have hn16 := hV.2.1
    have hel' : bs.length ≤ 40 := by omega
    refine xw_callE (fn := Try.f71) rfl Try.func71 rfl ⟨Nat.le_of_ble_eq_true rfl, rfl, rfl⟩ ?_
    have hcut1 : (bs = [] → KP 105 [LvP n ts, I k] [] = some (.agg [I n, .ref 2000 0 0 0, .i .emp, .i .emp], [], [.arr 0 2 []])) ∧ (bs ≠ [] → KP 105 [LvP n ts, I k] [] = some (refsP n bs, [], refsA bs)) := by
      unfold cutP cutA at hcut
      constructor
      · intro h; rw [if_pos h, if_pos h] at hcut; exact hcut
      · intro h; rw [if_neg h, if_neg h] at hcut; exact hcut
    have hm0 : ∀ (o : Option Arr), nv o = nv o := fun _ => rfl
    by_cases hz : bs = []
    all_goals first | have hc := hcut1.1 hz | have hc := hcut1.2 hz
    all_goals (
      repeat'(first|(refine na ?_;constructor)|(refine ite_two ?_ ?_<;>intro _<;>first|(exfalso;omega)|skip)|refine ord_split (by kernel_rfl) ?_|((first|(refine nb ?_;constructor)|refine pn rfl ?_|refine pe rfl ?_|((first|refine at2 ?_|refine at_cond ?_);split<;>first|(exfalso;omega;done)|skip))<;>try simp(config:={maxSteps:=3000000})(disch:=first|assumption|omega|exact VG.okg (by assumption)|(simp only[List.length_set,List.length_append,List.length_cons,List.length_nil,List.length_replicate];omega))only[go_sem,simprocAttr,Try.results71, hlv, hfi, hc, hgl, hgt]))
      refine xw_loopR (fun (w : Int × Int × List Tl × Nat × Nat × Nat) s => s.ρ 4 = .ptr 4 0 0 0 ∧ s.m 4 = some (.box 0 [I 0, .i .emp, .i .emp, .i .emp]) ∧ s.ρ 3 = .ptr 3 0 0 0 ∧ s.m 3 = some (.box 0 [I a, I b]) ∧ s.ρ 9 = .ptr 9 0 0 0 ∧ s.ρ 10 = I w.2.1 ∧ s.ρ 11 = I w.1 ∧ w.2.2.1.length = bs.length ∧ -1 ≤ w.1 ∧ w.1 ≤ l ∧ 0 ≤ w.2.1 ∧ w.2.1 ≤ 80 * (l - w.1) ∧ MV n w.2.2.1 a b w.1 ∧
        R.1 = (cutR n a b (w.1 + 1).toNat w.2.2.1).1 ∧ R.2.1 = w.2.1 + (cutR n a b (w.1 + 1).toNat w.2.2.1).2.1 ∧ R.2.2 = (cutR n a b (w.1 + 1).toNat w.2.2.1).2.2 ∧
        ((0 ≤ w.1 ∧ w.2.2.1 = [] ∧ s.m 9 = some (.box 0 [I n, .ref 3240 0 0 0, .i .emp, .i .emp]) ∧ s.m 3240 = some (.arr 0 2 [])) ∨
         (0 ≤ w.1 ∧ s.m 9 = some (.box 0 [I n, .ref 3240 0 0 w.2.2.1.length, .ref 3241 0 0 w.2.2.1.length, .ref 3242 0 0 w.2.2.1.length]) ∧ s.m 3240 = some (.arr 0 2 ((esT w.2.2.1).map encE)) ∧ s.m 3241 = some (arrL (lvT w.2.2.1)) ∧ s.m 3242 = some (arrT (trT w.2.2.1))) ∨
         (s.m 9 = some (.box 0 [I n, .ref 3432 w.2.2.2.1 0 w.2.2.1.length, .ref 3433 w.2.2.2.2.1 0 w.2.2.1.length, .ref 3434 w.2.2.2.2.2 0 w.2.2.1.length]) ∧ s.m 3432 = some (.arr w.2.2.2.1 2 ((esT w.2.2.1).map encE)) ∧ s.m 3433 = some (.arr w.2.2.2.2.1 1 ((lvT w.2.2.1).map encI)) ∧ s.m 3434 = some (.arr w.2.2.2.2.2 1 ((trT w.2.2.1).map encT))))) (fun w => (w.1 + 1).toNat) (l, 0, bs, 0, 0, 0) ?_ ?_)
    · subst hz
      refine ⟨?_, ?_, ?_, ?_, ?_, ?_, ?_, rfl, by simp only; omega, by simp, by simp, by simp, hMV, by rw [hR], by rw [hR]; simp, by rw [hR], .inl ⟨hl0, rfl, ?_, ?_⟩⟩
      all_goals first | rfl | (simp [upd]; done) | trace_state
    rotate_left
    · refine ⟨?_, ?_, ?_, ?_, ?_, ?_, ?_, rfl, by simp only; omega, by simp, by simp, by simp, hMV, by rw [hR], by rw [hR]; simp, by rw [hR], .inr (.inl ⟨hl0, ?_, ?_, ?_, ?_⟩)⟩
      all_goals first | rfl | (simp [upd]; done) | trace_state
    all_goals (
      rintro ⟨j, sm, cur, v0, v1, v2⟩ ⟨ρ, m⟩ ⟨e4, m4, e3, m3, e9, e10, e11, hcl, g0, g1, r0, r1, hM, s1, s2, s3, hw⟩
      simp only at e4 m4 e3 m3 e9 e10 e11 hcl g0 g1 r0 r1 hM s1 s2 s3 hw
      have k1 := rkE cur
      have k2 := rkL cur
      have k3 := rkT cur
      by_cases hj : 0 ≤ j
      rotate_left
      · have hj1 : (j + 1).toNat = 0 := by omega
        rw [hj1, cutR] at s1 s2 s3
        simp only at s1 s2 s3
        rw [Int.add_zero] at s2
        rw [s1, s2, s3]
        rcases hw with ⟨h, -⟩ | ⟨h, -⟩ | ⟨m9, q0, q1, q2⟩
        · omega
        · omega
        · repeat'(first|(refine na ?_;constructor)|(refine ite_two ?_ ?_<;>intro _<;>first|(exfalso;omega)|skip)|refine ord_split (by kernel_rfl) ?_|((first|(refine nb ?_;constructor)|refine pn rfl ?_|refine pe rfl ?_|((first|refine at2 ?_|refine at_cond ?_);split<;>first|(exfalso;omega;done)|skip))<;>try simp(config:={maxSteps:=3000000})(disch:=first|assumption|omega|exact VG.okg (by assumption)|(simp only[List.length_set,List.length_append,List.length_cons,List.length_nil,List.length_replicate];omega))only[go_sem,simprocAttr,Try.results71, e4, m4, e3, m3, e9, e10, e11, m9, q0, q1, q2, hj]))
          exact ⟨refsP n cur, refsA cur, .inr ⟨rfl, rfl⟩, rfl, rfl⟩
      · have hlev := c_l7Level n a b j cur hM hj
        obtain ⟨p1, p2⟩ := replL_spec hM hj
        have hbd := replL_bd (n := n) (a := a) (b := b) (k := j) (ts := cur)
        have hj1 : (j + 1).toNat = j.toNat + 1 := by omega
        have hj2 : ((j.toNat : Nat) : Int) = j := by omega
        have hj3 : (j - 1 + 1).toNat = j.toNat := by omega
        have hcl2 := esT_len p1
        rw [hj1, cutR, hj2] at s1 s2 s3
        have hlev0 : cur = [] → KP 106 [.agg [I n, .i (.lst []), .i (.lst []), .i (.lst [])], I a, I b, I j] [] = some (.tup [refsP n (replL n a b j cur).1, I (replL n a b j cur).2.1, B (replL n a b j cur).2.2], [], refsA (replL n a b j cur).1) := fun h => by
          rw [← hlev, h]; rfl
        rcases p2 with ⟨p3, p4, p5⟩ | ⟨p3, p4, p5, p6⟩
        · rw [if_neg (by rw [p3]; simp)] at s1 s2 s3
          rw [← hj3] at s1 s2 s3
          generalize hro : replL n a b j cur = ro at *
          obtain ⟨c1, c2, c3⟩ := ro
          simp only at hlev hlev0 p1 p3 p4 hbd hcl2 s1 s2 s3
          subst p3
          rcases hw with ⟨-, hz', m9, q0⟩ | ⟨-, m9, q0, q1, q2⟩ | ⟨m9, q0, q1, q2⟩
          · have hl' := hlev0 hz'
            repeat'(first|(refine na ?_;constructor)|(refine ite_two ?_ ?_<;>intro _<;>first|(exfalso;omega)|skip)|refine ord_split (by kernel_rfl) ?_|((first|(refine nb ?_;constructor)|refine pn rfl ?_|refine pe rfl ?_|((first|refine at2 ?_|refine at_cond ?_);split<;>first|(exfalso;omega;done)|skip))<;>try simp(config:={maxSteps:=3000000})(disch:=first|assumption|omega|exact VG.okg (by assumption)|(simp only[List.length_set,List.length_append,List.length_cons,List.length_nil,List.length_replicate];omega))only[go_sem,simprocAttr,Try.results71, e4, m4, e3, m3, e9, e10, e11, m9, q0, hj, hl']))
            exact ⟨c1, by omega, by omega, by omega, by omega, by omega, p4, s1, by omega, s3, _, _, _, .inr (.inr ⟨rfl, rfl, rfl, rfl, rfl, rfl, rfl⟩), by omega⟩
          · repeat'(first|(refine na ?_;constructor)|(refine ite_two ?_ ?_<;>intro _<;>first|(exfalso;omega)|skip)|refine ord_split (by kernel_rfl) ?_|((first|(refine nb ?_;constructor)|refine pn rfl ?_|refine pe rfl ?_|((first|refine at2 ?_|refine at_cond ?_);split<;>first|(exfalso;omega;done)|skip))<;>try simp(config:={maxSteps:=3000000})(disch:=first|assumption|omega|exact VG.okg (by assumption)|(simp only[List.length_set,List.length_append,List.length_cons,List.length_nil,List.length_replicate];omega))only[go_sem,simprocAttr,Try.results71, e4, m4, e3, m3, e9, e10, e11, m9, q0, q1, q2, hj, hlev, k1, k2, k3]))
            exact ⟨c1, by omega, by omega, by omega, by omega, by omega, p4, s1, by omega, s3, _, _, _, .inr (.inr ⟨rfl, rfl, rfl, rfl, rfl, rfl, rfl⟩), by omega⟩
          · repeat'(first|(refine na ?_;constructor)|(refine ite_two ?_ ?_<;>intro _<;>first|(exfalso;omega)|skip)|refine ord_split (by kernel_rfl) ?_|((first|(refine nb ?_;constructor)|refine pn rfl ?_|refine pe rfl ?_|((first|refine at2 ?_|refine at_cond ?_);split<;>first|(exfalso;omega;done)|skip))<;>try simp(config:={maxSteps:=3000000})(disch:=first|assumption|omega|exact VG.okg (by assumption)|(simp only[List.length_set,List.length_append,List.length_cons,List.length_nil,List.length_replicate];omega))only[go_sem,simprocAttr,Try.results71, e4, m4, e3, m3, e9, e10, e11, m9, q0, q1, q2, hj, hlev, k1, k2, k3]))
            exact ⟨c1, by omega, by omega, by omega, by omega, by omega, p4, s1, by omega, s3, _, _, _, .inr (.inr ⟨rfl, rfl, rfl, rfl, rfl, rfl, rfl⟩), by omega⟩
        · rw [if_pos p3] at s1 s2 s3
          generalize hro : replL n a b j cur = ro at *
          obtain ⟨c1, c2, c3⟩ := ro
          simp only at hlev hlev0 p1 p3 p4 hbd hcl2 s1 s2 s3
          subst p3
          rw [s1, s2, s3]
          rcases hw with ⟨-, hz', m9, q0⟩ | ⟨-, m9, q0, q1, q2⟩ | ⟨m9, q0, q1, q2⟩
          · have hl' := hlev0 hz'
            repeat'(first|(refine na ?_;constructor)|(refine ite_two ?_ ?_<;>intro _<;>first|(exfalso;omega)|skip)|refine ord_split (by kernel_rfl) ?_|((first|(refine nb ?_;constructor)|refine pn rfl ?_|refine pe rfl ?_|((first|refine at2 ?_|refine at_cond ?_);split<;>first|(exfalso;omega;done)|skip))<;>try simp(config:={maxSteps:=3000000})(disch:=first|assumption|omega|exact VG.okg (by assumption)|(simp only[List.length_set,List.length_append,List.length_cons,List.length_nil,List.length_replicate];omega))only[go_sem,simprocAttr,Try.results71, e4, m4, e3, m3, e9, e10, e11, m9, q0, hj, hl']))
            exact ⟨refsP n c1, refsA c1, .inr ⟨rfl, rfl⟩, rfl, rfl⟩
          · repeat'(first|(refine na ?_;constructor)|(refine ite_two ?_ ?_<;>intro _<;>first|(exfalso;omega)|skip)|refine ord_split (by kernel_rfl) ?_|((first|(refine nb ?_;constructor)|refine pn rfl ?_|refine pe rfl ?_|((first|refine at2 ?_|refine at_cond ?_);split<;>first|(exfalso;omega;done)|skip))<;>try simp(config:={maxSteps:=3000000})(disch:=first|assumption|omega|exact VG.okg (by assumption)|(simp only[List.length_set,List.length_append,List.length_cons,List.length_nil,List.length_replicate];omega))only[go_sem,simprocAttr,Try.results71, e4, m4, e3, m3, e9, e10, e11, m9, q0, q1, q2, hj, hlev, k1, k2, k3]))
            exact ⟨refsP n c1, refsA c1, .inr ⟨rfl, rfl⟩, rfl, rfl⟩
          · repeat'(first|(refine na ?_;constructor)|(refine ite_two ?_ ?_<;>intro _<;>first|(exfalso;omega)|skip)|refine ord_split (by kernel_rfl) ?_|((first|(refine nb ?_;constructor)|refine pn rfl ?_|refine pe rfl ?_|((first|refine at2 ?_|refine at_cond ?_);split<;>first|(exfalso;omega;done)|skip))<;>try simp(config:={maxSteps:=3000000})(disch:=first|assumption|omega|exact VG.okg (by assumption)|(simp only[List.length_set,List.length_append,List.length_cons,List.length_nil,List.length_replicate];omega))only[go_sem,simprocAttr,Try.results71, e4, m4, e3, m3, e9, e10, e11, m9, q0, q1, q2, hj, hlev, k1, k2, k3]))
            exact ⟨refsP n c1, refsA c1, .inr ⟨rfl, rfl⟩, rfl, rfl⟩)
end Go.Proofs.Ytdlfdoicheakoaa.X

/- What functions compute: an edge is put into a graph with levels, as the reference has it: the walk. -/
set_option linter.unusedSimpArgs false
set_option linter.unusedVariables false
set_option maxHeartbeats 16000000
set_option maxRecDepth 100000
namespace Go.Proofs.Ytdlfdoicheakoaa.X
open Go Go.Proofs
theorem c_l7Put (n a b : Int) (q : Bool) (ts : List Tl) (hn : (esT ts).Nodup) (hm : (a, b) ∉ esT ts) (hl : ts.length ≤ 1000) :
    KP 35 [LvP n ts, PE a b, B q] [] = some (refsP n (putT (a, b) q ts), [], refsA (putT (a, b) q ts)) := by
  have l1 := esT_len' ts
  have l2 := lvT_len ts
  have l3 := trT_len ts
  have hpl := putE_length (a, b) (esT ts)
  have hput := c_l1Put (esT ts) a b (by omega)
  have hlen : (putE (a, b) (esT ts)).length = ts.length + 1 := by omega
  rw [hlen] at hput
  have hus := putT_es (a, b) q ts
  have hul := putT_len (a, b) q ts
  have hrow := fun {i : Nat} (hi : i < ts.length + 1) => putT_row (e := (a, b)) (q := q) hn hm hi
  rw [← hus] at hput
  unfold refsP refsA
  rw [hul]
  generalize putT (a, b) q ts = us at *
  refine xw_call (fn := Try.f35) rfl Try.func35 rfl ⟨Nat.le_of_ble_eq_true rfl, rfl, rfl⟩ ?_
  repeat'(first|(refine na ?_;constructor)|(refine ite_two ?_ ?_<;>intro _<;>first|(exfalso;omega)|skip)|refine ord_split (by kernel_rfl) ?_|((first|(refine nb ?_;constructor)|refine pn rfl ?_|refine pe rfl ?_|((first|refine at2 ?_|refine at_cond ?_);split<;>first|(exfalso;omega;done)|skip))<;>try simp(config:={maxSteps:=3000000})(disch:=first|assumption|omega|exact VG.okg (by assumption)|(simp only[List.length_set,List.length_append,List.length_cons,List.length_nil,List.length_replicate];omega))only[go_sem,simprocAttr,Try.results35, hput]))
  refine xw_loopR (fun (w : Int × Nat × Nat) s => s.m 3 = some (.box 0 [I n, LE (esT ts), LI (lvT ts), LT (trT ts)]) ∧ s.ρ 3 = .ptr 3 0 0 0 ∧ s.ρ 2 = B q ∧ s.ρ 6 = .ptr 6 0 0 0 ∧ s.m 6 = some (.box 0 [I 0, .i .emp, .i .emp, .i .emp]) ∧ s.ρ 7 = .ptr 7 0 0 0 ∧ s.m 3136 = some (.arr 0 2 ((esT us).map encE)) ∧ s.ρ 8 = I w.1 ∧ 0 ≤ w.1 ∧ w.1 ≤ ts.length + 1 ∧
    ((w.1 = 0 ∧ s.m 7 = some (.box 0 [I n, .ref 3136 0 0 (ts.length + 1), .i .emp, .i .emp])) ∨
     (1 ≤ w.1 ∧ s.m 7 = some (.box 0 [I n, .ref 3136 0 0 (ts.length + 1), .ref 43 w.2.1 0 w.1.toNat, .ref 49 w.2.2 0 w.1.toNat]) ∧ s.m 43 = some (.arr w.2.1 1 ((lvT (us.take w.1.toNat)).map encI)) ∧ s.m 49 = some (.arr w.2.2 1 ((trT (us.take w.1.toNat)).map encT))) ∨
     (1 ≤ w.1 ∧ s.m 7 = some (.box 0 [I n, .ref 3136 0 0 (ts.length + 1), .ref 59 w.2.1 0 w.1.toNat, .ref 69 w.2.2 0 w.1.toNat]) ∧ s.m 59 = some (.arr w.2.1 1 ((lvT (us.take w.1.toNat)).map encI)) ∧ s.m 69 = some (.arr w.2.2 1 ((trT (us.take w.1.toNat)).map encT))))) (fun w => ((ts.length + 1 : Nat) - w.1).toNat) (0, 0, 0) ?_ ?_
  · refine ⟨?_, ?_, ?_, ?_, ?_, ?_, ?_, ?_, by simp, by simp only; omega, .inl ⟨rfl, ?_⟩⟩
    all_goals rfl
  rintro ⟨i, v1, v2⟩ ⟨ρ, m⟩ ⟨m3, e3, e2, e6, m6, e7, mE, e8, g0, g1, hw⟩
  simp only at m3 e3 e2 e6 m6 e7 mE e8 g0 g1 hw
  have hNl : ((esT us).length : Int) = ts.length + 1 := by rw [esT_len']; omega
  by_cases hi : i < ts.length + 1
  rotate_left
  · have hiN : i.toNat = ts.length + 1 := by omega
    have hta : us.take (ts.length + 1) = us := List.take_of_length_le (by omega)
    rw [hiN, hta] at hw
    rcases hw with ⟨h, -⟩ | ⟨-, m7, mA, mB⟩ | ⟨-, m7, mA, mB⟩
    · omega
    · repeat'(first|(refine na ?_;constructor)|(refine ite_two ?_ ?_<;>intro _<;>first|(exfalso;omega)|skip)|refine ord_split (by kernel_rfl) ?_|((first|(refine nb ?_;constructor)|refine pn rfl ?_|refine pe rfl ?_|((first|refine at2 ?_|refine at_cond ?_);split<;>first|(exfalso;omega;done)|skip))<;>try simp(config:={maxSteps:=3000000})(disch:=first|assumption|omega|exact VG.okg (by assumption)|(simp only[List.length_set,List.length_append,List.length_cons,List.length_nil,List.length_replicate];omega))only[go_sem,simprocAttr,Try.results35, m3, e3, e2, e6, m6, e7, mE, e8, m7, mA, mB]))
    · repeat'(first|(refine na ?_;constructor)|(refine ite_two ?_ ?_<;>intro _<;>first|(exfalso;omega)|skip)|refine ord_split (by kernel_rfl) ?_|((first|(refine nb ?_;constructor)|refine pn rfl ?_|refine pe rfl ?_|((first|refine at2 ?_|refine at_cond ?_);split<;>first|(exfalso;omega;done)|skip))<;>try simp(config:={maxSteps:=3000000})(disch:=first|assumption|omega|exact VG.okg (by assumption)|(simp only[List.length_set,List.length_append,List.length_cons,List.length_nil,List.length_replicate];omega))only[go_sem,simprocAttr,Try.results35, m3, e3, e2, e6, m6, e7, mE, e8, m7, mA, mB]))
  have hge := getTe us i.toNat (by omega)
  have htk := take_int dT g0 (show i < us.length by omega)
  have hr := hrow (i := i.toNat) (by omega)
  generalize us.getD i.toNat dT = t at *
  obtain ⟨⟨c, d⟩, l, f⟩ := t
  simp only at hge hr
  have hfi := c_l1Find (esT ts) c d (by omega)
  have hlt : lvT (us.take (i + 1).toNat) = lvT (us.take i.toNat) ++ [l] := by rw [htk]; simp [lvT]
  have htt : trT (us.take (i + 1).toNat) = trT (us.take i.toNat) ++ [f] := by rw [htk]; simp [trT]
  have hA : (lvT (us.take i.toNat)).length = i.toNat := by rw [lvT_len, List.length_take]; omega
  have hB : (trT (us.take i.toNat)).length = i.toNat := by rw [trT_len, List.length_take]; omega
  have hs1 : (i + 1).toNat = i.toNat + 1 := by omega
  have hz : i = 0 → lvT (us.take i.toNat) = [] ∧ trT (us.take i.toNat) = [] := fun h => by subst h; exact ⟨rfl, rfl⟩
  generalize lvT (us.take i.toNat) = A at *
  generalize trT (us.take i.toNat) = Bs at *
  rcases hr with ⟨hneg, hrw⟩ | ⟨k, hk, hfk, hrw⟩
  · obtain ⟨-, rfl, rfl⟩ : (c, d) = (a, b) ∧ l = 0 ∧ f = q := by simpa using hrw
    generalize findE (esT ts) (c, d) = at' at *
    rcases hw with ⟨h0, m7⟩ | ⟨i1, m7, mA, mB⟩ | ⟨i1, m7, mA, mB⟩
    · repeat'(first|(refine na ?_;constructor)|(refine ite_two ?_ ?_<;>intro _<;>first|(exfalso;omega)|skip)|refine ord_split (by kernel_rfl) ?_|((first|(refine nb ?_;constructor)|refine pn rfl ?_|refine pe rfl ?_|((first|refine at2 ?_|refine at_cond ?_);split<;>first|(exfalso;omega;done)|skip))<;>try simp(config:={maxSteps:=3000000})(disch:=first|assumption|omega|exact VG.okg (by assumption)|(simp only[List.length_set,List.length_append,List.length_cons,List.length_nil,List.length_replicate];omega))only[go_sem,simprocAttr,Try.results35, m3, e3, e2, e6, m6, e7, mE, e8, m7, hge, hfi, hneg]))
      obtain ⟨za, zb⟩ := hz h0
      exact ⟨by omega, by omega, nv (m 43), nv (m 49), .inr (.inl ⟨by omega, by rw [show (i + 1).toNat = 1 by omega], rfl, by rw [hlt, za]; rfl, rfl, by rw [htt, zb]; rfl⟩), by omega⟩
    · repeat'(first|(refine na ?_;constructor)|(refine ite_two ?_ ?_<;>intro _<;>first|(exfalso;omega)|skip)|refine ord_split (by kernel_rfl) ?_|((first|(refine nb ?_;constructor)|refine pn rfl ?_|refine pe rfl ?_|((first|refine at2 ?_|refine at_cond ?_);split<;>first|(exfalso;omega;done)|skip))<;>try simp(config:={maxSteps:=3000000})(disch:=first|assumption|omega|exact VG.okg (by assumption)|(simp only[List.length_set,List.length_append,List.length_cons,List.length_nil,List.length_replicate];omega))only[go_sem,simprocAttr,Try.results35, m3, e3, e2, e6, m6, e7, mE, e8, m7, mA, mB, hge, hfi, hneg, hA, hB]))
      exact ⟨by omega, by omega, v1 + 1, v2 + 1, .inr (.inl ⟨by omega, by rw [hs1], rfl, by rw [hlt], rfl, by rw [htt]⟩), by omega⟩
    · repeat'(first|(refine na ?_;constructor)|(refine ite_two ?_ ?_<;>intro _<;>first|(exfalso;omega)|skip)|refine ord_split (by kernel_rfl) ?_|((first|(refine nb ?_;constructor)|refine pn rfl ?_|refine pe rfl ?_|((first|refine at2 ?_|refine at_cond ?_);split<;>first|(exfalso;omega;done)|skip))<;>try simp(config:={maxSteps:=3000000})(disch:=first|assumption|omega|exact VG.okg (by assumption)|(simp only[List.length_set,List.length_append,List.length_cons,List.length_nil,List.length_replicate];omega))only[go_sem,simprocAttr,Try.results35, m3, e3, e2, e6, m6, e7, mE, e8, m7, mA, mB, hge, hfi, hneg, hA, hB]))
      exact ⟨by omega, by omega, v1 + 1, v2 + 1, .inr (.inr ⟨by omega, by rw [hs1], rfl, by rw [hlt], rfl, by rw [htt]⟩), by omega⟩
  · rw [hfk] at hfi
    obtain ⟨hgl, hgt⟩ := getL' ts k l f (c, d) hk hrw.symm
    rcases hw with ⟨h0, m7⟩ | ⟨i1, m7, mA, mB⟩ | ⟨i1, m7, mA, mB⟩
    · repeat'(first|(refine na ?_;constructor)|(refine ite_two ?_ ?_<;>intro _<;>first|(exfalso;omega)|skip)|refine ord_split (by kernel_rfl) ?_|((first|(refine nb ?_;constructor)|refine pn rfl ?_|refine pe rfl ?_|((first|refine at2 ?_|refine at_cond ?_);split<;>first|(exfalso;omega;done)|skip))<;>try simp(config:={maxSteps:=3000000})(disch:=first|assumption|omega|exact VG.okg (by assumption)|(simp only[List.length_set,List.length_append,List.length_cons,List.length_nil,List.length_replicate];omega))only[go_sem,simprocAttr,Try.results35, m3, e3, e2, e6, m6, e7, mE, e8, m7, hge, hfi, hgl, hgt]))
      obtain ⟨za, zb⟩ := hz h0
      exact ⟨by omega, by omega, nv (m 59), nv (m 69), .inr (.inr ⟨by omega, by rw [show (i + 1).toNat = 1 by omega], rfl, by rw [hlt, za]; rfl, rfl, by rw [htt, zb]; rfl⟩), by omega⟩
    · repeat'(first|(refine na ?_;constructor)|(refine ite_two ?_ ?_<;>intro _<;>first|(exfalso;omega)|skip)|refine ord_split (by kernel_rfl) ?_|((first|(refine nb ?_;constructor)|refine pn rfl ?_|refine pe rfl ?_|((first|refine at2 ?_|refine at_cond ?_);split<;>first|(exfalso;omega;done)|skip))<;>try simp(config:={maxSteps:=3000000})(disch:=first|assumption|omega|exact VG.okg (by assumption)|(simp only[List.length_set,List.length_append,List.length_cons,List.length_nil,List.length_replicate];omega))only[go_sem,simprocAttr,Try.results35, m3, e3, e2, e6, m6, e7, mE, e8, m7, mA, mB, hge, hfi, hgl, hgt, hA, hB]))
      exact ⟨by omega, by omega, v1 + 1, v2 + 1, .inr (.inl ⟨by omega, by rw [hs1], rfl, by rw [hlt], rfl, by rw [htt]⟩), by omega⟩
    · repeat'(first|(refine na ?_;constructor)|(refine ite_two ?_ ?_<;>intro _<;>first|(exfalso;omega)|skip)|refine ord_split (by kernel_rfl) ?_|((first|(refine nb ?_;constructor)|refine pn rfl ?_|refine pe rfl ?_|((first|refine at2 ?_|refine at_cond ?_);split<;>first|(exfalso;omega;done)|skip))<;>try simp(config:={maxSteps:=3000000})(disch:=first|assumption|omega|exact VG.okg (by assumption)|(simp only[List.length_set,List.length_append,List.length_cons,List.length_nil,List.length_replicate];omega))only[go_sem,simprocAttr,Try.results35, m3, e3, e2, e6, m6, e7, mE, e8, m7, mA, mB, hge, hfi, hgl, hgt, hA, hB]))
      exact ⟨by omega, by omega, v1 + 1, v2 + 1, .inr (.inr ⟨by omega, by rw [hs1], rfl, by rw [hlt], rfl, by rw [htt]⟩), by omega⟩
end Go.Proofs.Ytdlfdoicheakoaa.X
