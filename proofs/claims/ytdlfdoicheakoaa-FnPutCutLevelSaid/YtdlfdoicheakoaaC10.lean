/- What functions compute: closures, deleting, neighbors. -/
import Derived.Test.YtdlfdoicheakoaaC9
import Derived.Test.YtdlfdoicheakoaaRun
set_option linter.unusedSimpArgs false
set_option linter.unusedVariables false
set_option maxHeartbeats 2000000
namespace Go.Proofs.Ytdlfdoicheakoaa.X
open Go Go.Proofs
/-- A function value that tells something of an edge. -/
structure Clo (c : IV) (dom : Int × Int → Prop) (p : Int × Int → Bool) : Prop where
  frz : ∀ n, X.frz n (.i c) = .ret c
  flat : c.flat = true
  call : ∀ me d x y, dom (x, y) → dynP cfg (KK Try.prog cfg) me (some d) (.i c) [PE x y] = .ret (B (p (x, y)), [])
/-- The place of the first edge that fulfils something, or -1. -/
def fidx (p : Int × Int → Bool) (es : List (Int × Int)) : Int := if es.findIdx p < es.length then (es.findIdx p : Int) else -1
theorem fidx_at {p : Int × Int → Bool} {es : List (Int × Int)} {i : Int} (h0 : 0 ≤ i) (h : i < es.length) (hp : p (es.getD i.toNat (0, 0)) = true) (hn : ∀ e ∈ es.take i.toNat, p e = false) : fidx p es = i := by
  have hi : i.toNat < es.length := by omega
  have : es.findIdx p = i.toNat := by
    rw [List.findIdx_eq hi]
    refine ⟨by simpa [hi] using hp, fun j hj => hn _ ?_⟩
    rw [List.mem_take_iff_getElem]
    exact ⟨j, by omega, rfl⟩
  unfold fidx
  rw [this, if_pos hi]; omega
theorem fidx_none {p : Int × Int → Bool} {es : List (Int × Int)} (hn : ∀ e ∈ es, p e = false) : fidx p es = -1 := by
  have : es.findIdx p = es.length := List.findIdx_eq_length.2 hn
  unfold fidx
  rw [this, if_neg (by omega)]
theorem c_indexFuncE {c : IV} {dom : Int × Int → Prop} {p : Int × Int → Bool} (hc : Clo c dom p) (es : List (Int × Int)) (hd : ∀ e ∈ es, dom e) (hl : es.length ≤ 1048576) : KP 125 [LE es, .i c] [] = some (I (fidx p es), [], []) := by
  obtain ⟨hc1, hc2, hc3⟩ := hc
  refine xw_call (fn := Try.f125) rfl Try.func125 rfl ⟨Nat.le_of_ble_eq_true rfl, rfl, rfl⟩ ?_
  repeat'(first|(refine na ?_;constructor)|(refine ite_two ?_ ?_<;>intro _<;>first|(exfalso;omega)|skip)|refine ord_split (by kernel_rfl) ?_|((first|(refine nb ?_;constructor)|refine pn rfl ?_|refine pe rfl ?_|((first|refine at2 ?_|refine at_cond ?_);split<;>first|(exfalso;omega;done)|skip))<;>try simp(config:={maxSteps:=3000000})(disch:=first|assumption|omega|exact VG.okg (by assumption)|(simp only[List.length_set,List.length_append,List.length_cons,List.length_nil,List.length_replicate];omega))only[go_sem,simprocAttr,Try.results125]))
  refine xw_loopR (fun (i : Int) s => s.ρ 0 = LE es ∧ s.ρ 1 = .i c ∧ s.ρ 7 = I es.length ∧ s.ρ 8 = I i ∧ 0 ≤ i ∧ i ≤ es.length ∧ ∀ e ∈ es.take i.toNat, p e = false) (fun i => (es.length - i).toNat) 0 (by simp [upd]) ?_
  rintro i ⟨ρ, m⟩ ⟨h0, h1, h7, h8, hi0, hi, hp⟩
  simp only at h0 h1 h7 h8
  by_cases hj : i < es.length
  · have hm : dom ((es.getD i.toNat (0, 0)).1, (es.getD i.toNat (0, 0)).2) := hd _ (getD_mem (by omega))
    repeat'(first|(refine na ?_;constructor)|(refine ite_two ?_ ?_<;>intro _<;>first|(exfalso;omega)|skip)|refine ord_split (by kernel_rfl) ?_|((first|(refine nb ?_;constructor)|refine pn rfl ?_|refine pe rfl ?_|((first|refine at2 ?_|refine at_cond ?_);split<;>first|(exfalso;omega;done)|skip))<;>try simp(config:={maxSteps:=3000000})(disch:=first|assumption|omega|exact VG.okg (by assumption)|(simp only[List.length_set,List.length_append,List.length_cons,List.length_nil,List.length_replicate];omega))only[go_sem,simprocAttr,Try.results125, h0, h1, h7, h8, hc3, hc1]))
    · exact (fidx_at hi0 ‹_› ‹_› hp).symm
    · refine ⟨by omega, by omega, ?_, by omega⟩
      rw [take_int (0, 0) hi0 ‹_›]
      grind
  · repeat'(first|(refine na ?_;constructor)|(refine ite_two ?_ ?_<;>intro _<;>first|(exfalso;omega)|skip)|refine ord_split (by kernel_rfl) ?_|((first|(refine nb ?_;constructor)|refine pn rfl ?_|refine pe rfl ?_|((first|refine at2 ?_|refine at_cond ?_);split<;>first|(exfalso;omega;done)|skip))<;>try simp(config:={maxSteps:=3000000})(disch:=first|assumption|omega|exact VG.okg (by assumption)|(simp only[List.length_set,List.length_append,List.length_cons,List.length_nil,List.length_replicate];omega))only[go_sem,simprocAttr,Try.results125, h0, h1, h7, h8, hc3, hc1]))
    rw [fidx_none (by rwa [take_all (by omega)] at hp)]
theorem fidx_spec {p : Int × Int → Bool} {es : List (Int × Int)} (h : ¬ fidx p es = -1) : 0 ≤ fidx p es ∧ fidx p es < es.length ∧ p (es.getD (fidx p es).toNat (0, 0)) = true ∧ es.filter (fun e => !p e) = (es.take (fidx p es).toNat) ++ (es.drop ((fidx p es).toNat + 1)).filter (fun e => !p e) ∧ ∀ e ∈ es.take (fidx p es).toNat, p e = false := by
  unfold fidx at h ⊢
  split at h
  · rename_i hl
    rw [if_pos hl]
    have hp : p (es.getD (es.findIdx p) (0, 0)) = true := by
      have := List.findIdx_getElem (w := hl)
      simpa [hl] using this
    have hn : ∀ e ∈ es.take (es.findIdx p), p e = false := by
      intro e he
      rw [List.mem_take_iff_getElem] at he
      obtain ⟨j, hj, rfl⟩ := he
      exact Bool.not_eq_true _ ▸ List.not_of_lt_findIdx (by omega)
    refine ⟨by omega, by omega, by simpa using hp, ?_, by simpa using hn⟩
    simp only [Int.toNat_natCast]
    conv => lhs; rw [← List.take_append_drop (es.findIdx p) es, List.filter_append]
    congr 1
    · exact List.filter_eq_self.2 fun e he => by simp [hn e he]
    · rw [List.drop_eq_getElem_cons hl, List.filter_cons]
      have : p es[es.findIdx p] = true := by simpa [hl] using hp
      simp [this]
  · simp at h
theorem fidx_bound (p : Int × Int → Bool) (es : List (Int × Int)) : -1 ≤ fidx p es ∧ fidx p es < es.length := by
  unfold fidx; split <;> omega
theorem fidx_nil {p : Int × Int → Bool} : fidx p [] = -1 := rfl
theorem c_deleteFuncE0 {c : IV} {dom : Int × Int → Prop} {p : Int × Int → Bool} (hc : Clo c dom p) : KP 115 [.i .emp, .i c] [] = some (.i .emp, [], []) := by
  have hx : KP 125 [.i (.lst []), .i c] [] = _ := c_indexFuncE hc [] (by simp) (by simp)
  obtain ⟨hc1, hc2, hc3⟩ := hc
  refine xw_call (fn := Try.f115) rfl Try.func115 rfl ⟨Nat.le_of_ble_eq_true rfl, rfl, rfl⟩ ?_
  repeat'(first|(refine na ?_;constructor)|(refine ite_two ?_ ?_<;>intro _<;>first|(exfalso;omega)|skip)|refine ord_split (by kernel_rfl) ?_|((first|(refine nb ?_;constructor)|refine pn rfl ?_|refine pe rfl ?_|((first|refine at2 ?_|refine at_cond ?_);split<;>first|(exfalso;omega;done)|skip))<;>try simp(config:={maxSteps:=3000000})(disch:=first|assumption|omega|exact VG.okg (by assumption)|(simp only[List.length_set,List.length_append,List.length_cons,List.length_nil,List.length_replicate];omega))only[go_sem,simprocAttr,Try.results115, hc1, hc2, hc3, hx, fidx_nil]))
theorem c_deleteFuncE {c : IV} {dom : Int × Int → Prop} {p : Int × Int → Bool} (hc : Clo c dom p) (es : List (Int × Int)) (hdom : ∀ e ∈ es, dom e) (hl : es.length ≤ 1048576) : KP 115 [.ref 1000 0 0 es.length, .i c] [.arr 0 2 (es.map encE)] =
    some (.ref 1000 0 0 (es.filter fun e => !p e).length, [.arr 0 2 ((es.filter (fun e => !p e) ++ zE (es.length - (es.filter (fun e => !p e)).length)).map encE)], []) := by
  have hx := c_indexFuncE hc es hdom hl
  have hb := fidx_bound p es
  obtain ⟨hc1, hc2, hc3⟩ := hc
  refine xw_call (fn := Try.f115) rfl Try.func115 rfl ⟨Nat.le_of_ble_eq_true rfl, rfl, rfl⟩ ?_
  repeat'(first|(refine na ?_;constructor)|(refine ite_two ?_ ?_<;>intro _<;>first|(exfalso;omega)|skip)|refine ord_split (by kernel_rfl) ?_|((first|(refine nb ?_;constructor)|refine pn rfl ?_|refine pe rfl ?_|((first|refine at2 ?_|refine at_cond ?_);split<;>first|(exfalso;omega;done)|skip))<;>try simp(config:={maxSteps:=3000000})(disch:=first|assumption|omega|exact VG.okg (by assumption)|(simp only[List.length_set,List.length_append,List.length_cons,List.length_nil,List.length_replicate];omega))only[go_sem,simprocAttr,Try.results115, hc1, hc2, hc3, hx]))
  · have hn : ∀ e ∈ es, p e = false := by
      rename_i h
      intro e he
      unfold fidx at h
      split at h
      · omega
      · rename_i h2
        have := List.findIdx_eq_length.1 (Nat.le_antisymm List.findIdx_le_length (Nat.le_of_not_lt h2))
        exact this e he
    have : es.filter (fun e => !p e) = es := List.filter_eq_self.2 fun e he => by simp [hn e he]
    rw [this]
    simp [zE]
  · rename_i h
    obtain ⟨f0, f1, f2, f3, f4⟩ := fidx_spec h
    generalize hk : fidx p es = k at *
    refine xw_loopR (fun (x : Int × Int × List (Int × Int)) s => s.m 1000 = some (.arr 0 2 (x.2.2.map encE)) ∧ s.ρ 0 = .ref 1000 0 0 es.length ∧ s.ρ 1 = .i c ∧ s.ρ 5 = I x.1 ∧ s.ρ 6 = I x.2.1 ∧
      0 ≤ x.1 ∧ x.1 < x.2.1 ∧ x.2.1 ≤ es.length ∧ x.2.2.length = es.length ∧ x.2.2.take x.1.toNat = (es.take x.2.1.toNat).filter (fun e => !p e) ∧ x.2.2.drop x.2.1.toNat = es.drop x.2.1.toNat)
      (fun x => (es.length - x.2.1).toNat) (k, k + 1, es) (by
        refine ⟨rfl, rfl, rfl, rfl, rfl, f0, by simp only; omega, by simp only; omega, rfl, ?_, rfl⟩
        simp only
        rw [take_int (0, 0) f0 f1, List.filter_append]
        have : (es.take k.toNat).filter (fun e => !p e) = es.take k.toNat := List.filter_eq_self.2 fun e he => by simp [f4 e he]
        rw [this, List.filter_cons_of_neg (by rw [f2]; decide)]
        simp) ?_
    rintro ⟨i, j, xs⟩ ⟨ρ, m⟩ ⟨m1, h0, h1, h5, h6, g0, g1, g2, g3, g4, g5⟩
    simp only at m1 h0 h1 h5 h6 g0 g1 g2 g3 g4 g5
    have hd := getD_of_drop (d := (0, 0)) g5
    by_cases hj : j < es.length
    · have hm : dom ((xs.getD j.toNat (0, 0)).1, (xs.getD j.toNat (0, 0)).2) := by
        rw [hd]; exact hdom _ (getD_mem (by omega))
      repeat'(first|(refine na ?_;constructor)|(refine ite_two ?_ ?_<;>intro _<;>first|(exfalso;omega)|skip)|refine ord_split (by kernel_rfl) ?_|((first|(refine nb ?_;constructor)|refine pn rfl ?_|refine pe rfl ?_|((first|refine at2 ?_|refine at_cond ?_);split<;>first|(exfalso;omega;done)|skip))<;>try simp(config:={maxSteps:=3000000})(disch:=first|assumption|omega|exact VG.okg (by assumption)|(simp only[List.length_set,List.length_append,List.length_cons,List.length_nil,List.length_replicate];omega))only[go_sem,simprocAttr,Try.results115, m1, h0, h1, h5, h6, hc3, hc1]))
      · refine ⟨by omega, by omega, by omega, by simpa using g3, ?_, ?_, by omega⟩
        · rw [take_set_int g0 (by omega), take_int (0, 0) (by omega) (by omega), List.filter_append, g4]
          clear hm hc3
          simp_all
        · rw [drop_set_int (by omega) g0, drop_succ_of (by omega) g5]
      · refine ⟨by omega, by omega, by omega, g3, ?_, drop_succ_of (by omega) g5, by omega⟩
        rw [g4, take_int (0, 0) (by omega) (by omega), List.filter_append]
        clear hm hc3
        simp_all
    · repeat'(first|(refine na ?_;constructor)|(refine ite_two ?_ ?_<;>intro _<;>first|(exfalso;omega)|skip)|refine ord_split (by kernel_rfl) ?_|((first|(refine nb ?_;constructor)|refine pn rfl ?_|refine pe rfl ?_|((first|refine at2 ?_|refine at_cond ?_);split<;>first|(exfalso;omega;done)|skip))<;>try simp(config:={maxSteps:=3000000})(disch:=first|assumption|omega|exact VG.okg (by assumption)|(simp only[List.length_set,List.length_append,List.length_cons,List.length_nil,List.length_replicate];omega))only[go_sem,simprocAttr,Try.results115, m1, h0, h1, h5, h6, hc3, hc1]))
      rw [take_all (l := es) (by omega)] at g4
      have hi : i.toNat = (es.filter fun e => !p e).length := by rw [← g4]; simp; omega
      rw [hi] at g4 ⊢
      have hle := List.length_filter_le (fun e => !p e) es
      rw [g4, List.drop_of_length_le (by omega)]
      simp
/-- What deleting hands back. -/
def delE (p : Int × Int → Bool) (es : List (Int × Int)) : IV := if es = [] then .emp else .lst ((es.filter fun e => !p e).map encE)
def delA (p : Int × Int → Bool) (es : List (Int × Int)) : List Arr := if es = [] then [] else [.arr 0 2 ((es.filter (fun e => !p e) ++ zE (es.length - (es.filter (fun e => !p e)).length)).map encE)]
def delP (p : Int × Int → Bool) (es : List (Int × Int)) : PV := if es = [] then .i .emp else .ref 2000 0 0 (es.filter fun e => !p e).length
theorem KK_prim {P : Program} {cf : Cfg} {f : FuncId} {g : List PV → List Arr → Option (PV × List Arr × List Arr)} {args : List PV} {ps : List Arr} {r : PV × List Arr × List Arr} (h : cf.prim f = some g) (h2 : g args ps = some r) : KK P cf f args ps = some r :=
  KK_of (.all fun n => by show callWith P cf (exec P cf n) f args ps = some r; unfold callWith primC; rw [h]; simp only [h2])
@[go_sem] theorem c_cloneE0 : KP 76 [.i (.lst [])] [] = some (.i .emp, [], []) := KK_prim rfl rfl
theorem c_cloneE (es : List (Int × Int)) (h : es ≠ []) (hl : es.length ≤ 1048576) : KP 76 [LE es] [] = some (.ref 2000 0 0 es.length, [], [.arr 0 2 (es.map encE)]) := by
  have hp : primC cfg 76 [LE es] [] = none := by
    cases es with
    | nil => exact absurd rfl h
    | cons e r => rfl
  have hm : es.map encE ≠ [] := by simpa using h
  refine xw_call (fn := Try.f76) hp Try.func76 rfl ⟨Nat.le_of_ble_eq_true rfl, rfl, rfl⟩ ?_
  repeat'(first|(refine na ?_;constructor)|(refine ite_two ?_ ?_<;>intro _<;>first|(exfalso;omega)|skip)|refine ord_split (by kernel_rfl) ?_|((first|(refine nb ?_;constructor)|refine pn rfl ?_|refine pe rfl ?_|((first|refine at2 ?_|refine at_cond ?_);split<;>first|(exfalso;omega;done)|skip))<;>try simp(config:={maxSteps:=3000000})(disch:=first|assumption|omega|exact VG.okg (by assumption)|(simp only[List.length_set,List.length_append,List.length_cons,List.length_nil,List.length_replicate];omega))only[go_sem,simprocAttr,Try.results76, hm]))
theorem c_without {c : IV} {dom : Int × Int → Prop} {p : Int × Int → Bool} (hc : Clo c dom p) (n : Int) (es : List (Int × Int)) (hdom : ∀ e ∈ es, dom e) (hl : es.length ≤ 1048576) : KP 91 [GL n es, .i c] [] = some (.agg [I n, delP p es], [], delA p es) := by
  by_cases he : es = []
  · subst he
    have hd := c_deleteFuncE0 hc
    obtain ⟨hc1, hc2, hc3⟩ := hc
    refine xw_call (fn := Try.f91) rfl Try.func91 rfl ⟨Nat.le_of_ble_eq_true rfl, rfl, rfl⟩ ?_
    repeat'(first|(refine na ?_;constructor)|(refine ite_two ?_ ?_<;>intro _<;>first|(exfalso;omega)|skip)|refine ord_split (by kernel_rfl) ?_|((first|(refine nb ?_;constructor)|refine pn rfl ?_|refine pe rfl ?_|((first|refine at2 ?_|refine at_cond ?_);split<;>first|(exfalso;omega;done)|skip))<;>try simp(config:={maxSteps:=3000000})(disch:=first|assumption|omega|exact VG.okg (by assumption)|(simp only[List.length_set,List.length_append,List.length_cons,List.length_nil,List.length_replicate];omega))only[go_sem,simprocAttr,Try.results91, hc1, hc2, hc3, hd, LE]))
    exact ⟨rfl, rfl⟩
  · have hd := c_deleteFuncE hc es hdom hl
    have hcl := c_cloneE es he hl
    obtain ⟨hc1, hc2, hc3⟩ := hc
    refine xw_call (fn := Try.f91) rfl Try.func91 rfl ⟨Nat.le_of_ble_eq_true rfl, rfl, rfl⟩ ?_
    repeat'(first|(refine na ?_;constructor)|(refine ite_two ?_ ?_<;>intro _<;>first|(exfalso;omega)|skip)|refine ord_split (by kernel_rfl) ?_|((first|(refine nb ?_;constructor)|refine pn rfl ?_|refine pe rfl ?_|((first|refine at2 ?_|refine at_cond ?_);split<;>first|(exfalso;omega;done)|skip))<;>try simp(config:={maxSteps:=3000000})(disch:=first|assumption|omega|exact VG.okg (by assumption)|(simp only[List.length_set,List.length_append,List.length_cons,List.length_nil,List.length_replicate];omega))only[go_sem,simprocAttr,Try.results91, hc1, hc2, hc3, hd, hcl]))
    simp [delP, delA, he]
theorem imm_del {p : Int × Int → Bool} {es : List (Int × Int)} {n : Nat} : imm (n + 1) (delA p es) (delP p es) = some (.i (delE p es)) := by
  unfold delA delP delE
  split
  · rfl
  · simp [imm, imm1]
theorem frz_del {p : Int × Int → Bool} {es : List (Int × Int)} {n : Nat} : frz n (.i (delE p es)) = .ret (.lst ((es.filter fun e => !p e).map encE)) := by
  unfold delE
  split
  · rename_i h; subst h; cases n <;> rfl
  · cases n <;> rfl
theorem flat_del {p : Int × Int → Bool} {es : List (Int × Int)} : (delE p es).flat = true := by unfold delE; split <;> rfl
theorem lenP_del {p : Int × Int → Bool} {es : List (Int × Int)} : lenP (.i (delE p es)) = some (es.filter fun e => !p e).length := by
  unfold delE
  split
  · rename_i h; subst h; rfl
  · simp [lenP]
theorem iaR_del {p : Int × Int → Bool} {es : List (Int × Int)} {el : TypeId} {n : Int} (h0 : 0 ≤ n) (h : n < (es.filter fun e => !p e).length) :
    iaR Try.prog (some (.slice el)) (some n) (.i (delE p es)) = iaR Try.prog (some (.slice el)) (some n) (.i (.lst ((es.filter fun e => !p e).map encE))) := by
  unfold delE
  split
  · rename_i he; subst he; simp at h; omega
  · rfl
theorem flatA_E {v : Nat} {es : List (Int × Int)} : flatA (.arr v 2 (es.map encE)) = true := by simp [flatA, encE, flatIV]
theorem flatA_I {v : Nat} {xs : List Int} : flatA (.arr v 1 (xs.map encI)) = true := by simp [flatA, encI, flatIV]
theorem flatP_del {p : Int × Int → Bool} {es : List (Int × Int)} {n : Nat} : flatP (n + 1) (delP p es) = true := by unfold delP; split <;> rfl
theorem flatA_del {p : Int × Int → Bool} {es : List (Int × Int)} : (delA p es).all flatA = true := by
  unfold delA
  split
  · rfl
  · simp only [List.all_cons, List.all_nil, flatA_E, Bool.and_self]
attribute [go_sem] imm_del frz_del flat_del lenP_del iaR_del flatA_E flatA_I flatP_del flatA_del
/-- The nodes that edges join with a node, in the edges' order. -/
def nbL (v : Int) (es : List (Int × Int)) : List Int := es.filterMap fun e => if v = e.1 then some e.2 else if v = e.2 then some e.1 else none
def sortI (xs : List Int) : List Int := xs.mergeSort fun a b => decide (a ≤ b)
/-- The nodes that edges join with a node. -/
def nbS (v : Int) (es : List (Int × Int)) : List Int := sortI (nbL v es)
theorem sortE_encI (xs : List Int) : sortE (xs.map encI) = (sortI xs).map encI := by
  unfold sortE sortI
  rw [List.map_mergeSort]
  intro a _ b _
  rfl
theorem sortI_length (xs : List Int) : (sortI xs).length = xs.length := List.length_mergeSort _
end Go.Proofs.Ytdlfdoicheakoaa.X
