/- What functions answer, and the plain laws behind it. -/
import Derived.Test.YtdlfdoicheakoaaKAE
import Derived.Test.YtdlfdoicheakoaaM23
import Derived.Test.YtdlfdoicheakoaaKAC
import Derived.Test.YtdlfdoicheakoaaKAF
import Derived.Test.YtdlfdoicheakoaaC10
/- What functions compute: the nodes of a part. -/
set_option linter.unusedSimpArgs false
set_option linter.unusedVariables false
set_option maxHeartbeats 8000000
set_option maxRecDepth 100000
namespace Go.Proofs.Ytdlfdoicheakoaa.X
open Go Go.Proofs
noncomputable def ptL (n : Int) (es : List (Int × Int)) (r : Int) : List Int := (iota n).filter fun v => decide (Conn es r v)
theorem mem_ptL {n : Int} {es : List (Int × Int)} {r v : Int} : v ∈ ptL n es r ↔ inN n v ∧ Conn es r v := by
  rw [ptL, List.mem_filter, mem_iota, decide_eq_true_eq]
theorem ptL_len (n : Int) (es : List (Int × Int)) (r : Int) : (ptL n es r).length ≤ n.toNat := by
  have := List.length_filter_le (fun v => decide (Conn es r v)) (iota n)
  rw [iota_length] at this
  exact this
theorem ptL_sz (n : Int) (es : List (Int × Int)) (r : Int) : ((ptL n es r).length : Int) = szC n es r := rfl
theorem ptF_snoc {n i : Int} {p : Int → Bool} (h0 : 0 ≤ i) (h1 : i < n) : (iota (i + 1)).filter p = (iota i).filter p ++ if p i = true then [i] else [] := by
  have : iota (i + 1) = iota i ++ [i] := by
    unfold iota
    rw [show (i + 1).toNat = i.toNat + 1 by omega, List.range_succ, List.map_append]
    simp [Int.toNat_of_nonneg h0]
  rw [this, List.filter_append]
  cases h : p i <;> simp [h]
theorem c_sPartNodes (n r : Int) (es : List (Int × Int)) (hV : VG n es) (hr : inN n r) : KP 130 [GL n es, I r] [] = some (.ref 2000 0 0 (ptL n es r).length, [], [.arr 0 1 ((ptL n es r).map encI)]) := by
  have hel := hV.2.2.1
  have hn16 := hV.2.1
  have hhn := c_l2Node n r es (by omega)
  rw [decide_eq_true (show VG n es ∧ 0 ≤ r ∧ r < n from ⟨hV, hr.1, hr.2⟩)] at hhn
  have hp := c_l2Labels n es hV.okg
  have hll := lab_length n es
  obtain ⟨r0, r1⟩ := id hr
  have hgr := getI (lab n es) r.toNat (by omega)
  have hiff : ∀ v, inN n v → ((lab n es).getD v.toNat 0 = (lab n es).getD r.toNat 0 ↔ Conn es r v) := fun v hv => by
    rw [lab_iff hv hr]; exact ⟨Conn.symm, Conn.symm⟩
  refine xw_call (fn := Try.f130) rfl Try.func130 rfl ⟨Nat.le_of_ble_eq_true rfl, rfl, rfl⟩ ?_
  repeat'(first|(refine na ?_;constructor)|(refine ite_two ?_ ?_<;>intro _<;>first|(exfalso;omega)|skip)|refine ord_split (by kernel_rfl) ?_|((first|(refine nb ?_;constructor)|refine pn rfl ?_|refine pe rfl ?_|((first|refine at2 ?_|refine at_cond ?_);split<;>first|(exfalso;omega;done)|skip))<;>try simp(config:={maxSteps:=3000000})(disch:=first|assumption|omega|exact VG.okg (by assumption)|(simp only[List.length_set,List.length_append,List.length_cons,List.length_nil,List.length_replicate];omega))only[go_sem,simprocAttr,Try.results130, hhn, hp]))
  refine xw_loopR (fun (u : Int × Nat) s => s.m 8 = some (.arr u.2 1 (((iota u.1).filter fun v => decide (Conn es r v)).map encI)) ∧ s.ρ 5 = .ref 8 u.2 0 ((iota u.1).filter fun v => decide (Conn es r v)).length ∧ s.ρ 6 = LI (lab n es) ∧ s.ρ 1 = I r ∧ s.ρ 7 = I u.1 ∧ 0 ≤ u.1 ∧ u.1 ≤ n) (fun u => (n - u.1).toNat) (0, 0) ?_ ?_
  · exact ⟨rfl, rfl, rfl, rfl, rfl, by simp, by simp only; omega⟩
  rintro ⟨i, w⟩ ⟨ρ, m⟩ ⟨m8, e5, e6, e1, e7, g0, g1⟩
  simp only at m8 e5 e6 e1 e7 g0 g1
  have hfl := List.length_filter_le (fun v => decide (Conn es r v)) (iota i)
  rw [iota_length] at hfl
  by_cases hi : i < n
  rotate_left
  · have hin : i = n := by omega
    subst hin
    repeat'(first|(refine na ?_;constructor)|(refine ite_two ?_ ?_<;>intro _<;>first|(exfalso;omega)|skip)|refine ord_split (by kernel_rfl) ?_|((first|(refine nb ?_;constructor)|refine pn rfl ?_|refine pe rfl ?_|((first|refine at2 ?_|refine at_cond ?_);split<;>first|(exfalso;omega;done)|skip))<;>try simp(config:={maxSteps:=3000000})(disch:=first|assumption|omega|exact VG.okg (by assumption)|(simp only[List.length_set,List.length_append,List.length_cons,List.length_nil,List.length_replicate];omega))only[go_sem,simprocAttr,Try.results130, m8, e5, e6, e1, e7]))
    exact ⟨rfl, rfl⟩
  have hgi := getI (lab n es) i.toNat (by omega)
  have hii := hiff i ⟨g0, hi⟩
  have hsn := ptF_snoc (p := fun v => decide (Conn es r v)) g0 hi
  generalize (lab n es).getD i.toNat 0 = a at *
  generalize (lab n es).getD r.toNat 0 = b at *
  generalize (iota i).filter (fun v => decide (Conn es r v)) = T at *
  by_cases hq : a = b
  · rw [if_pos (by simpa using hii.1 hq)] at hsn
    subst hq
    repeat'(first|(refine na ?_;constructor)|(refine ite_two ?_ ?_<;>intro _<;>first|(exfalso;omega)|skip)|refine ord_split (by kernel_rfl) ?_|((first|(refine nb ?_;constructor)|refine pn rfl ?_|refine pe rfl ?_|((first|refine at2 ?_|refine at_cond ?_);split<;>first|(exfalso;omega;done)|skip))<;>try simp(config:={maxSteps:=3000000})(disch:=first|assumption|omega|exact VG.okg (by assumption)|(simp only[List.length_set,List.length_append,List.length_cons,List.length_nil,List.length_replicate];omega))only[go_sem,simprocAttr,Try.results130, m8, e5, e6, e1, e7, hgi, hgr]))
    exact ⟨i + 1, by rw [hsn], by rw [hsn]; simp, rfl, by omega, by omega, by omega⟩
  · rw [if_neg (by simpa using fun h => hq (hii.2 h)), List.append_nil] at hsn
    repeat'(first|(refine na ?_;constructor)|(refine ite_two ?_ ?_<;>intro _<;>first|(exfalso;omega)|skip)|refine ord_split (by kernel_rfl) ?_|((first|(refine nb ?_;constructor)|refine pn rfl ?_|refine pe rfl ?_|((first|refine at2 ?_|refine at_cond ?_);split<;>first|(exfalso;omega;done)|skip))<;>try simp(config:={maxSteps:=3000000})(disch:=first|assumption|omega|exact VG.okg (by assumption)|(simp only[List.length_set,List.length_append,List.length_cons,List.length_nil,List.length_replicate];omega))only[go_sem,simprocAttr,Try.results130, m8, e5, e6, e1, e7, hgi, hgr, hq]))
    exact ⟨i + 1, by rw [hsn], by rw [hsn], rfl, by omega, by omega, by omega⟩
end Go.Proofs.Ytdlfdoicheakoaa.X

/- What functions compute: is a number in a list? -/
set_option linter.unusedSimpArgs false
set_option linter.unusedVariables false
set_option maxHeartbeats 4000000
set_option maxRecDepth 100000
namespace Go.Proofs.Ytdlfdoicheakoaa.X
open Go Go.Proofs
@[go_sem] theorem c_l6In (xs : List Int) (x : Int) (hl : xs.length ≤ 1048576) : KP 121 [LI xs, I x] [] = some (B (decide (x ∈ xs)), [], []) := by
  refine xw_call (fn := Try.f121) rfl Try.func121 rfl ⟨Nat.le_of_ble_eq_true rfl, rfl, rfl⟩ ?_
  repeat'(first|(refine na ?_;constructor)|(refine ite_two ?_ ?_<;>intro _<;>first|(exfalso;omega)|skip)|refine ord_split (by kernel_rfl) ?_|((first|(refine nb ?_;constructor)|refine pn rfl ?_|refine pe rfl ?_|((first|refine at2 ?_|refine at_cond ?_);split<;>first|(exfalso;omega;done)|skip))<;>try simp(config:={maxSteps:=3000000})(disch:=first|assumption|omega|exact VG.okg (by assumption)|(simp only[List.length_set,List.length_append,List.length_cons,List.length_nil,List.length_replicate];omega))only[go_sem,simprocAttr,Try.results121]))
  refine xw_loopR (fun (i : Int) s => s.ρ 0 = LI xs ∧ s.ρ 1 = I x ∧ s.ρ 5 = I i ∧ 0 ≤ i ∧ i ≤ xs.length ∧ x ∉ xs.take i.toNat) (fun i => (xs.length - i).toNat) 0 (by simp [upd, initP]) ?_
  rintro i ⟨ρ, m⟩ ⟨h0, h1, h5, g0, g1, g2⟩
  simp only at h0 h1 h5 g0 g1 g2
  by_cases hi : i < xs.length
  rotate_left
  · rw [take_all (by omega)] at g2
    rw [decide_eq_false g2]
    repeat'(first|(refine na ?_;constructor)|(refine ite_two ?_ ?_<;>intro _<;>first|(exfalso;omega)|skip)|refine ord_split (by kernel_rfl) ?_|((first|(refine nb ?_;constructor)|refine pn rfl ?_|refine pe rfl ?_|((first|refine at2 ?_|refine at_cond ?_);split<;>first|(exfalso;omega;done)|skip))<;>try simp(config:={maxSteps:=3000000})(disch:=first|assumption|omega|exact VG.okg (by assumption)|(simp only[List.length_set,List.length_append,List.length_cons,List.length_nil,List.length_replicate];omega))only[go_sem,simprocAttr,Try.results121, h0, h1, h5]))
  have hm := getD_mem (d := 0) (show i.toNat < xs.length by omega)
  have htk := take_int 0 g0 hi
  generalize hve : xs.getD i.toNat 0 = v at hm htk
  by_cases h : v = x
  · subst h
    rw [decide_eq_true hm]
    repeat'(first|(refine na ?_;constructor)|(refine ite_two ?_ ?_<;>intro _<;>first|(exfalso;omega)|skip)|refine ord_split (by kernel_rfl) ?_|((first|(refine nb ?_;constructor)|refine pn rfl ?_|refine pe rfl ?_|((first|refine at2 ?_|refine at_cond ?_);split<;>first|(exfalso;omega;done)|skip))<;>try simp(config:={maxSteps:=3000000})(disch:=first|assumption|omega|exact VG.okg (by assumption)|(simp only[List.length_set,List.length_append,List.length_cons,List.length_nil,List.length_replicate];omega))only[go_sem,simprocAttr,Try.results121, h0, h1, h5, hve]))
  · repeat'(first|(refine na ?_;constructor)|(refine ite_two ?_ ?_<;>intro _<;>first|(exfalso;omega)|skip)|refine ord_split (by kernel_rfl) ?_|((first|(refine nb ?_;constructor)|refine pn rfl ?_|refine pe rfl ?_|((first|refine at2 ?_|refine at_cond ?_);split<;>first|(exfalso;omega;done)|skip))<;>try simp(config:={maxSteps:=3000000})(disch:=first|assumption|omega|exact VG.okg (by assumption)|(simp only[List.length_set,List.length_append,List.length_cons,List.length_nil,List.length_replicate];omega))only[go_sem,simprocAttr,Try.results121, h0, h1, h5, hve]))
    refine ⟨by omega, by omega, ?_, by omega⟩
    rw [htk, List.mem_append, List.mem_singleton]
    exact fun k => k.elim g2 fun k => h k.symm
end Go.Proofs.Ytdlfdoicheakoaa.X

/- What functions compute: draws of graphs, and of a graph and an edge. -/
set_option linter.unusedSimpArgs false
set_option linter.unusedVariables false
set_option maxHeartbeats 8000000
namespace Go.Proofs.Ytdlfdoicheakoaa.X
open Go Go.Proofs
end Go.Proofs.Ytdlfdoicheakoaa.X

/- Blocks: plain law. -/
set_option linter.unusedVariables false
namespace Go.Proofs.Ytdlfdoicheakoaa.X
open Go
/-- Two edges with a node in common whose other nodes are connected without it. -/
def Near (es : List (Int × Int)) (e f : Int × Int) : Prop := ∃ v x y, ((e.1 = v ∧ e.2 = x) ∨ (e.2 = v ∧ e.1 = x)) ∧ ((f.1 = v ∧ f.2 = y) ∨ (f.2 = v ∧ f.1 = y)) ∧ x ≠ y ∧ Conn (alone v es) x y
noncomputable instance decNear (es : List (Int × Int)) (e f : Int × Int) : Decidable (Near es e f) := Classical.propDecidable _
theorem Near.symm {es : List (Int × Int)} {e f : Int × Int} : Near es e f → Near es f e := fun ⟨v, x, y, h1, h2, h3, h4⟩ => ⟨v, y, x, h2, h1, fun h => h3 h.symm, h4.symm⟩
abbrev eAt (es : List (Int × Int)) (i : Int) : Int × Int := es.getD i.toNat (0, 0)
/-- Places of edges that are near each other. -/
noncomputable def relL (es : List (Int × Int)) : List (Int × Int) := ((iota es.length).flatMap fun i => (iota i).map fun k => (k, i)).filter fun q => decide (Near es (eAt es q.1) (eAt es q.2))
theorem mem_relL {es : List (Int × Int)} {k i : Int} : (k, i) ∈ relL es ↔ 0 ≤ k ∧ k < i ∧ i < es.length ∧ Near es (eAt es k) (eAt es i) := by
  simp only [relL, List.mem_filter, List.mem_flatMap, List.mem_map, decide_eq_true_eq, Prod.mk.injEq, mem_iota]
  constructor
  · rintro ⟨⟨i', h1, k', h2, rfl, rfl⟩, h3⟩; exact ⟨by omega, by omega, by omega, h3⟩
  · rintro ⟨h1, h2, h3, h4⟩; exact ⟨⟨i, by omega, k, by omega, rfl, rfl⟩, h4⟩
/-- For each edge the place of the first edge of its block. -/
noncomputable def blkL (es : List (Int × Int)) : List Int := lab es.length (relL es)
/-- Edges of one block. -/
def Blk (es : List (Int × Int)) (e f : Int × Int) : Prop := ∃ i k : Int, (0 ≤ i ∧ i < es.length) ∧ (0 ≤ k ∧ k < es.length) ∧ eAt es i = e ∧ eAt es k = f ∧ Conn (relL es) i k
theorem eAt_inj {es : List (Int × Int)} (hn : es.Nodup) {i k : Int} (hi : 0 ≤ i ∧ i < es.length) (hk : 0 ≤ k ∧ k < es.length) (h : eAt es i = eAt es k) : i = k := by
  have h1 : i.toNat < es.length := by omega
  have h2 : k.toNat < es.length := by omega
  simp only [eAt, List.getD, List.getElem?_eq_getElem h1, List.getElem?_eq_getElem h2, Option.getD_some] at h
  have := (List.getElem_inj hn).1 h
  omega
theorem eAt_mem {es : List (Int × Int)} {i : Int} (hi : 0 ≤ i ∧ i < es.length) : eAt es i ∈ es := getD_mem (by omega)
theorem eAt_of {es : List (Int × Int)} {e : Int × Int} (h : e ∈ es) : ∃ i : Int, (0 ≤ i ∧ i < es.length) ∧ eAt es i = e := by
  obtain ⟨i, hi, he⟩ := List.mem_iff_getElem.1 h
  exact ⟨i, by omega, by simp [eAt, hi, he]⟩
section
variable {n : Int} {es : List (Int × Int)}
theorem Blk.refl {e : Int × Int} (h : e ∈ es) : Blk es e e := by
  obtain ⟨i, hi, he⟩ := eAt_of h
  exact ⟨i, i, hi, hi, he, he, .refl i⟩
theorem Blk.symm {e f : Int × Int} : Blk es e f → Blk es f e := fun ⟨i, k, h1, h2, h3, h4, h5⟩ => ⟨k, i, h2, h1, h4, h3, h5.symm⟩
theorem Blk.trans (hn : es.Nodup) {e f g : Int × Int} : Blk es e f → Blk es f g → Blk es e g := fun ⟨i, k, h1, h2, h3, h4, h5⟩ ⟨i', k', g1, g2, g3, g4, g5⟩ => by
  have := eAt_inj hn h2 g1 (h4.trans g3.symm)
  subst this
  exact ⟨i, k', h1, g2, h3, g4, h5.trans g5⟩
theorem Blk.near {e f : Int × Int} (he : e ∈ es) (hf : f ∈ es) (h : Near es e f) : Blk es e f := by
  obtain ⟨i, hi, rfl⟩ := eAt_of he
  obtain ⟨k, hk, rfl⟩ := eAt_of hf
  refine ⟨i, k, hi, hk, rfl, rfl, ?_⟩
  by_cases h1 : i < k
  · exact .of (.inl (mem_relL.2 ⟨hi.1, h1, hk.2, h⟩))
  · by_cases h2 : k < i
    · exact .of (.inr (mem_relL.2 ⟨hk.1, h2, hi.2, h.symm⟩))
    · have : i = k := by omega
      subst this; exact .refl i
theorem Blk.mem {e f : Int × Int} : Blk es e f → e ∈ es ∧ f ∈ es := fun ⟨i, k, h1, h2, h3, h4, _⟩ => ⟨h3 ▸ eAt_mem h1, h4 ▸ eAt_mem h2⟩
/-- A node of an edge. -/
def On (v : Int) (e : Int × Int) : Prop := e.1 = v ∨ e.2 = v
instance (v : Int) (e : Int × Int) : Decidable (On v e) := by unfold On; infer_instance
theorem On.conn {e : Int × Int} (he : e ∈ es) {v a b : Int} (ha : On a e) (hb : On b e) (hav : a ≠ v) (hbv : b ≠ v) : Conn (alone v es) a b := by
  by_cases hab : a = b
  · subst hab; exact .refl a
  · have hm : ∀ x y, e.1 = x → e.2 = y → x ≠ v → y ≠ v → e ∈ alone v es := fun x y h1 h2 h3 h4 => by
      unfold alone
      rw [List.mem_filter]
      refine ⟨he, decide_eq_true ⟨?_, ?_⟩⟩ <;> simp_all
    rcases ha with ha | ha <;> rcases hb with hb | hb
    · exact absurd (ha.symm.trans hb) hab
    · exact .of (.inl (by rw [← ha, ← hb]; exact hm a b ha hb hav hbv))
    · exact .of (.inr (by rw [← ha, ← hb]; exact hm b a hb ha hbv hav))
    · exact absurd (ha.symm.trans hb) hab
theorem On.other (ho : ∀ e ∈ es, okE n e) {e : Int × Int} (he : e ∈ es) (v : Int) : ∃ a, On a e ∧ a ≠ v := by
  have := ho e he
  unfold okE at this
  by_cases h : e.1 = v
  · exact ⟨e.2, .inr rfl, by omega⟩
  · exact ⟨e.1, .inl rfl, h⟩
theorem On.ends {e : Int × Int} {v : Int} (h : On v e) : ∃ x, (e.1 = v ∧ e.2 = x) ∨ (e.2 = v ∧ e.1 = x) := h.elim (fun h => ⟨e.2, .inl ⟨h, rfl⟩⟩) fun h => ⟨e.1, .inr ⟨h, rfl⟩⟩
theorem On.adj {e : Int × Int} (he : e ∈ es) {v x : Int} (h : (e.1 = v ∧ e.2 = x) ∨ (e.2 = v ∧ e.1 = x)) : Adj es v x := by
  rcases h with ⟨rfl, rfl⟩ | ⟨rfl, rfl⟩
  · exact .inl he
  · exact .inr he
end
/-- Two labels made one. -/
def joinL (out : List Int) (a b : Int) : List Int := out.map fun x => if x = max (out.getD a.toNat 0) (out.getD b.toNat 0) then min (out.getD a.toNat 0) (out.getD b.toNat 0) else x
def comV (e f : Int × Int) : Option (Int × Int × Int) :=
  if e.1 = f.1 then some (e.1, e.2, f.2) else if e.1 = f.2 then some (e.1, e.2, f.1) else if e.2 = f.1 then some (e.2, e.1, f.2) else if e.2 = f.2 then some (e.2, e.1, f.1) else none
noncomputable def relK (es : List (Int × Int)) (i k : Int) : List (Int × Int) := (relL es).filter fun q => decide (q.2 < i ∨ (q.2 = i ∧ q.1 < k))
end Go.Proofs.Ytdlfdoicheakoaa.X

/- Lists without neighbours alike; the nodes of edges: plain law. -/
set_option linter.unusedVariables false
namespace Go.Proofs.Ytdlfdoicheakoaa.X
open Go
def ddStep (acc : List Int) (x : Int) : List Int := if acc.getLast? = some x then acc else acc ++ [x]
/-- Of neighbours alike one is kept. -/
def ddS (l : List Int) : List Int := l.foldl ddStep []
theorem ddS_fold (l : List Int) (x : Int) : ddS (l ++ [x]) = ddStep (ddS l) x := by simp [ddS]
theorem snoc_ind {p : List Int → Prop} (h0 : p []) (h1 : ∀ l x, p l → p (l ++ [x])) (l : List Int) : p l := by
  have : ∀ r : List Int, p r.reverse := by
    intro r
    induction r with
    | nil => exact h0
    | cons a r ih => rw [List.reverse_cons]; exact h1 _ _ ih
  have := this l.reverse
  rwa [List.reverse_reverse] at this
theorem ddS_last (l : List Int) : (ddS l).getLast? = l.getLast? := by
  refine snoc_ind (p := fun l => (ddS l).getLast? = l.getLast?) rfl (fun l x ih => ?_) l
  rw [ddS_fold, ddStep]
  split
  · rename_i h; rw [h]; simp
  · simp
theorem ddS_snoc (l : List Int) (x : Int) : ddS (l ++ [x]) = if l.getLast? = some x then ddS l else ddS l ++ [x] := by
  rw [ddS_fold, ddStep, ddS_last]
theorem mem_ddS {l : List Int} {y : Int} : y ∈ ddS l ↔ y ∈ l := by
  refine snoc_ind (p := fun l => y ∈ ddS l ↔ y ∈ l) (by simp [ddS]) (fun l x ih => ?_) l
  rw [ddS_snoc]
  split
  · rename_i h
    rw [ih, List.mem_append, List.mem_singleton]
    refine ⟨.inl, fun k => k.elim id fun e => ?_⟩
    subst e
    exact List.mem_of_getLast? h
  · rw [List.mem_append, List.mem_append, ih]
theorem pair_snoc {r : Int → Int → Prop} {l : List Int} {x : Int} : (l ++ [x]).Pairwise r ↔ l.Pairwise r ∧ ∀ y ∈ l, r y x := by
  rw [List.pairwise_append]
  simp
theorem last_max {l : List Int} (h : l.Pairwise (· ≤ ·)) {z : Int} (hz : l.getLast? = some z) : ∀ y ∈ l, y ≤ z := by
  refine snoc_ind (p := fun l => l.Pairwise (· ≤ ·) → ∀ z, l.getLast? = some z → ∀ y ∈ l, y ≤ z) (fun _ z h => by simp at h) (fun l x ih hp z hz y hy => ?_) l h z hz
  simp at hz
  subst hz
  rw [pair_snoc] at hp
  rcases List.mem_append.1 hy with h | h
  · exact hp.2 y h
  · rw [List.mem_singleton.1 h]; exact Int.le_refl _
theorem ddS_sorted {l : List Int} : l.Pairwise (· ≤ ·) → (ddS l).Pairwise (· < ·) := by
  refine snoc_ind (p := fun l => l.Pairwise (· ≤ ·) → (ddS l).Pairwise (· < ·)) (fun _ => by simp [ddS]) (fun l x ih hp => ?_) l
  rw [ddS_snoc]
  rw [pair_snoc] at hp
  split
  · exact ih hp.1
  · rename_i hne
    rw [pair_snoc]
    refine ⟨ih hp.1, fun y hy => ?_⟩
    rw [mem_ddS] at hy
    have h1 := hp.2 y hy
    refine Classical.byContradiction fun h2 => hne ?_
    have e : y = x := by omega
    subst e
    cases hz : l.getLast? with
    | none => rw [List.getLast?_eq_none_iff] at hz; subst hz; cases hy
    | some z =>
      have h3 := last_max hp.1 hz y hy
      have h4 := hp.2 z (List.mem_of_getLast? hz)
      congr 1; omega
/-- The nodes of edges. -/
def endsL (es : List (Int × Int)) : List Int := es.flatMap fun e => [e.1, e.2]
def nodesL (n : Int) (es : List (Int × Int)) : List Int := (iota n).filter fun v => es.any fun e => decide (On v e)
end Go.Proofs.Ytdlfdoicheakoaa.X

/- What functions compute: lists without neighbours alike. -/
set_option linter.unusedSimpArgs false
set_option linter.unusedVariables false
set_option maxHeartbeats 8000000
namespace Go.Proofs.Ytdlfdoicheakoaa.X
open Go Go.Proofs
end Go.Proofs.Ytdlfdoicheakoaa.X

/- Trees with a root, their tours: plain law. -/
set_option linter.unusedVariables false
namespace Go.Proofs.Ytdlfdoicheakoaa.X
open Go
theorem adj_alone {v x y : Int} {es : List (Int × Int)} (h : Adj es x y) (hx : x ≠ v) (hy : y ≠ v) : Adj (alone v es) x y := by
  unfold alone
  rcases h with h | h
  · exact .inl (List.mem_filter.2 ⟨h, by simp [hx, hy]⟩)
  · exact .inr (List.mem_filter.2 ⟨h, by simp [hx, hy]⟩)
/-- Two neighbors of a node are not connected without it. -/
theorem tree_apart {n : Int} {es : List (Int × Int)} (ho : ∀ e ∈ es, okE n e) (ht : Tree n es) {x y z : Int} (hy : Adj es x y) (hz : Adj es x z) (hne : y ≠ z) : ¬ Conn (alone x es) y z := by
  intro hc
  have he := (adj_edge ho).1 hy
  have hb := tree_brg ho ht he.2
  have hzy : Adj (cutE (edgeOf x y) es) x z := by
    refine Classical.byContradiction fun hn => ?_
    have hyo := hy.ok ho
    have hzo := hz.ok ho
    have e1 : (edgeOf x y = (x, y)) ∨ (edgeOf x y = (y, x)) := edgeOf_ends
    rcases adj_cut ho hz hn with ⟨a, b⟩ | ⟨a, b⟩ <;> rcases e1 with e | e <;> rw [e] at a b <;> simp only at a b <;> omega
  have hca : Conn (cutE (edgeOf x y) es) y z := hc.mono (alone_cut (by rcases edgeOf_ends (x := x) (y := y) with e | e <;> rw [e] <;> simp))
  have hxy : Conn (cutE (edgeOf x y) es) x y := (Conn.of hzy).trans hca.symm
  refine hb ?_
  rcases edgeOf_ends (x := x) (y := y) with e | e
  · rw [e] at hxy ⊢; exact hxy
  · rw [e] at hxy ⊢; exact hxy.symm
/-- From a node that is no farther one comes to the root without it. -/
theorem near_alone {n : Int} {es : List (Int × Int)} (ho : ∀ e ∈ es, okE n e) (h0 : 0 ≤ n) {r x : Int} : ∀ (k : Nat) {y : Int}, Conn es r y → dst n es r y = k → y ≠ x → dst n es r y ≤ dst n es r x → Conn (alone x es) y r
  | 0, y, hc, hk, hne, hle => by
    have : y = r := dst_zero ho hc (by omega)
    subst this; exact .refl _
  | k + 1, y, hc, hk, hne, hle => by
    obtain ⟨z, ha, hz⟩ := dst_near ho h0 hc (by omega)
    have hcz := hc.step ha
    have hzx : z ≠ x := fun e => by subst e; omega
    exact (Conn.of (adj_alone ha hne hzx)).trans (near_alone ho h0 k hcz (by omega) hzx (by omega))
/-- Of the neighbors of a node one at most is no farther. -/
theorem tree_up {n : Int} {es : List (Int × Int)} (ho : ∀ e ∈ es, okE n e) (h0 : 0 ≤ n) (ht : Tree n es) {r x y z : Int} (hc : Conn es r x) (hy : Adj es x y) (hz : Adj es x z) (h1 : dst n es r y ≤ dst n es r x) (h2 : dst n es r z ≤ dst n es r x) : y = z := by
  refine Classical.byContradiction fun hne => tree_apart ho ht hy hz hne ?_
  have d1 := (dst_spec (n := n) ho (hc.step hy)).1
  have d2 := (dst_spec (n := n) ho (hc.step hz)).1
  have a1 := near_alone ho h0 (dst n es r y).toNat (hc.step hy) (by omega) (fun e => (hy.ok ho).2.2.2.2 e.symm) h1
  have a2 := near_alone ho h0 (dst n es r z).toNat (hc.step hz) (by omega) (fun e => (hz.ok ho).2.2.2.2 e.symm) h2
  exact a1.trans a2.symm
/-- A neighbor is a step nearer or a step farther. -/
theorem tree_step {n : Int} {es : List (Int × Int)} (ho : ∀ e ∈ es, okE n e) (h0 : 0 ≤ n) (ht : Tree n es) {r x y : Int} (hc : Conn es r x) (hy : Adj es x y) : dst n es r y = dst n es r x - 1 ∨ dst n es r y = dst n es r x + 1 := by
  have a := dst_adj (n := n) ho hc hy
  have b := dst_adj (n := n) ho (hc.step hy) hy.symm
  have hne := (hy.ok ho).2.2.2.2
  by_cases e : dst n es r y = dst n es r x
  · exfalso
    by_cases hz : dst n es r x = 0
    · have h1 := dst_zero ho hc hz
      have h2 := dst_zero ho (hc.step hy) (by omega)
      exact hne (h1.trans h2.symm)
    · obtain ⟨p, hp, hd⟩ := dst_near ho h0 hc hz
      have := tree_up ho h0 ht hc hy hp (by omega) (by omega)
      subst this; omega
  · omega
def kidsL (es : List (Int × Int)) (x p : Int) : List Int := (nbS x es).filter fun y => decide (y ≠ p)
def tourL (es : List (Int × Int)) : Nat → Int → Int → List Int
  | 0, x, _ => [x]
  | f + 1, x, p => x :: (kidsL es x p).flatMap fun y => tourL es f y x ++ [x]
/-- The nodes below a node, and the edges. -/
def subN (es : List (Int × Int)) : Nat → Int → Int → List Int
  | 0, x, _ => [x]
  | f + 1, x, p => x :: (kidsL es x p).flatMap fun y => subN es f y x
def subE (es : List (Int × Int)) : Nat → Int → Int → List (Int × Int)
  | 0, _, _ => []
  | f + 1, x, p => (kidsL es x p).flatMap fun y => edgeOf x y :: subE es f y x
/-- A place in a tree with a root: a node, and the one above it. -/
structure At (n : Int) (es : List (Int × Int)) (r x p : Int) : Prop where
  cn : Conn es r x
  inx : inN n x
  up : (x = r ∧ p = -1) ∨ (Adj es x p ∧ dst n es r p = dst n es r x - 1)
theorem mem_kids {n : Int} {es : List (Int × Int)} (ho : ∀ e ∈ es, okE n e) {x p y : Int} : y ∈ kidsL es x p ↔ Adj es x y ∧ y ≠ p := by
  unfold kidsL
  rw [List.mem_filter, mem_nbS ho, decide_eq_true_eq]
theorem At.kid {n : Int} {es : List (Int × Int)} (ho : ∀ e ∈ es, okE n e) (h0 : 0 ≤ n) (ht : Tree n es) {r x p y : Int} (h : At n es r x p) (hy : y ∈ kidsL es x p) : At n es r y x ∧ dst n es r y = dst n es r x + 1 := by
  obtain ⟨ha, hp⟩ := (mem_kids ho).1 hy
  have hd : dst n es r y = dst n es r x + 1 := by
    rcases tree_step ho h0 ht h.cn ha with e | e
    · exfalso
      rcases h.up with ⟨rfl, -⟩ | ⟨hq, hqd⟩
      · have := (dst_spec (n := n) ho (h.cn.step ha)).1
        rw [dst_self ho h0] at e; omega
      · exact hp (tree_up ho h0 ht h.cn ha hq (by omega) (by omega))
    · exact e
  have hok := ha.ok ho
  exact ⟨⟨h.cn.step ha, ⟨hok.2.2.1, hok.2.2.2.1⟩, .inr ⟨ha.symm, by omega⟩⟩, hd⟩
def stepsL : List Int → List (Int × Int)
  | x :: y :: r => edgeOf x y :: stepsL (y :: r)
  | _ => []
end Go.Proofs.Ytdlfdoicheakoaa.X

/- Edges in order. -/
set_option linter.unusedSimpArgs false
set_option linter.unusedVariables false
set_option maxHeartbeats 8000000
namespace Go.Proofs.Ytdlfdoicheakoaa.X
open Go Go.Proofs
def sortEs (xs : List (Int × Int)) : List (Int × Int) := xs.mergeSort leE
theorem mem_sortEs {xs : List (Int × Int)} {e : Int × Int} : e ∈ sortEs xs ↔ e ∈ xs := List.mem_mergeSort
theorem leE_of {a b : Int × Int} (h : leE a b = true) (hn : a ≠ b) : lessE a b = true := by
  rw [lessE_iff]
  unfold leE at h
  rw [decide_eq_true_eq] at h
  have : ¬ (a.1 = b.1 ∧ a.2 = b.2) := fun e => hn (Prod.ext e.1 e.2)
  omega
end Go.Proofs.Ytdlfdoicheakoaa.X
