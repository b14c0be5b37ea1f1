/- The law: tours go everywhere. -/
import Derived.Test.YteknfomddncboaaC75
import Derived.Test.YteknfomddncboaaC79
import Derived.Test.YteknfomddncboaaC82
set_option linter.unusedSimpArgs false
set_option linter.unusedVariables false
set_option maxHeartbeats 8000000
set_option maxRecDepth 100000
namespace Go.Proofs.Yteknfomddncboaa.X
open Go Go.Proofs
theorem subE_in {n : Int} {es : List (Int × Int)} (hV : VG n es) {l : List Int} {r : Int} (h : TO n es r) : ∀ e ∈ csL (toL n es r), e ∈ es := fun e he => by
  have h0 : 0 ≤ n := by have := h.1.1; omega
  rw [tour_cs h.1.okg.ok h.1.nodup h0 h.2.2 h.at'.1 h.at'.2, mem_sortEs] at he
  exact subE_sub h.1.okg.ok _ he
theorem to_facts {n : Int} {es : List (Int × Int)} {r : Int} (h : TO n es r) : TV (toL n es r) ∧ (toL n es r).length + 1 = 2 * (ptL n es r).length ∧ (csL (toL n es r)).length + 1 = (ptL n es r).length ∧ (∀ v ∈ ptL n es r, v ∈ toL n es r) ∧ (toL n es r).getD 0 0 = r ∧ (∀ e ∈ csL (toL n es r), e ∈ es) ∧ ∀ v ∈ toL n es r, inN n v := by
  have hV := h.1
  have ho := hV.okg.ok
  have h0 : 0 ≤ n := by have := hV.1; omega
  have ht := h.2.2
  obtain ⟨ha, hf⟩ := h.at'
  have hne : alone (-1) es = es := by
    unfold alone
    refine List.filter_eq_self.2 fun e he => ?_
    have := ho e he
    unfold okE at this
    simp only [decide_eq_true_eq]
    omega
  have hm : ∀ v, v ∈ subN es n.toNat r (-1) ↔ Conn es r v := fun v => by rw [mem_sub ho h0 ht _ ha hf, hne]
  have hlen : (subN es n.toNat r (-1)).length = (ptL n es r).length := Nat.le_antisymm
    (len_le_of_sub (sub_nodup ho hV.nodup h0 ht _ ha hf) fun v hv => mem_ptL.2 ⟨sub_in ho h0 ht ha hf hv, (hm v).1 hv⟩)
    (len_le_of_sub (ptL_nodup n es r) fun v hv => (hm v).2 (mem_ptL.1 hv).2)
  have htl := tour_len (es := es) n.toNat (x := r) (p := -1)
  have hsl := subE_len (es := es) n.toNat (x := r) (p := -1)
  refine ⟨tour_tv ho hV.nodup h0 ht hV.2.1 ha hf, by rw [← hlen]; exact htl, ?_, fun v hv => (mem_tour _).2 ((hm v).2 (mem_ptL.1 hv).2), ?_, subE_in hV (l := []) h, fun v hv => sub_in ho h0 ht ha hf ((mem_tour _).1 hv)⟩
  · rw [tour_cs ho hV.nodup h0 ht ha hf, sortEs_length, hsl, hlen]
  · obtain ⟨q, hq⟩ := tour_head (es := es) n.toNat (x := r) (p := -1)
    show (tourL es n.toNat r (-1)).getD 0 0 = r
    rw [hq]; rfl
end Go.Proofs.Yteknfomddncboaa.X
