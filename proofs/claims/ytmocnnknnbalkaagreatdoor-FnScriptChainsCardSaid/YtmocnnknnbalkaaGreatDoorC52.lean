/- What functions compute: all chains. -/
import Derived.Test.YtmocnnknnbalkaaGreatDoorC51
set_option linter.unusedSimpArgs false
set_option linter.unusedVariables false
set_option maxHeartbeats 8000000
set_option maxRecDepth 100000
namespace Go.Proofs.YtmocnnknnbalkaaGreatDoor.X
open Go Go.Proofs
theorem seek_ord {n : Int} {es : List (Int × Int)} (hV : VG n es) : ∀ u ∈ ordL n (seek n es).num, inR n u := fun u hu => by
  have D := seek_dfs hV.okg.ok hV.nodup (n := n) (by have := hV.1; omega)
  exact (mem_ord (seek_bd hV) D.inj).1 hu
theorem backs_len {n : Int} {es : List (Int × Int)} (hV : VG n es) (i : Nat) : (((ordL n (seek n es).num).take i).flatMap (bkOf es (seek n es))).length ≤ 640 := by
  have key : ∀ l : List Int, (l.flatMap (bkOf es (seek n es))).length ≤ 40 * l.length := by
    intro l
    induction l with
    | nil => simp
    | cons a l ih =>
      rw [List.flatMap_cons, List.length_append, List.length_cons]
      have := bkOf_len es (seek n es) a
      have := hV.2.2.1
      omega
  have h1 := key ((ordL n (seek n es).num).take i)
  have h2 := ord_len n (seek n es).num
  have h3 := hV.2.1
  rw [List.length_take] at h1
  omega
theorem backs_len' {n : Int} {es : List (Int × Int)} (hV : VG n es) : (backsL n es (seek n es)).length ≤ 640 := by
  have := backs_len hV (ordL n (seek n es).num).length
  rw [List.take_length] at this
  exact this
theorem appL (xs : List (List Int)) (x : List Int) : xs.map encL ++ [[.lst (x.map encI)]] = (xs ++ [x]).map encL := by simp [encL]
theorem anc_bk {n : Int} {es : List (Int × Int)} (hV : VG n es) {b : Int × Int} (hb : b ∈ backsL n es (seek n es)) : Bk n es (seek n es) b ∧ Anc n (seek n es).par b.1 b.2 := by
  have D := seek_dfs hV.okg.ok hV.nodup (n := n) (by have := hV.1; omega)
  have h := (backs_bk hV.okg.ok hV.nodup (by have := hV.1; omega)).1 hb
  exact ⟨h, h.anc D⟩
theorem c_ChainsOf (n : Int) (es : List (Int × Int)) (hl : es.length ≤ 1000) : KP 5 [GL n es] [] = some (if VG n es then (.ref 2000 0 0 (chainsL n es).length, [], [.arr 0 1 ((chainsL n es).map encL)]) else (.i .emp, [], [])) := by
  by_cases hV : VG n es
  rotate_left
  · rw [if_neg hV]
    have hg := decide_eq_false hV
    refine xw_call (fn := Tryz.f5) rfl Tryz.func5 rfl ⟨Nat.le_of_ble_eq_true rfl, rfl, rfl⟩ ?_
    repeat'(first|(refine na ?_;constructor)|(refine ite_two ?_ ?_<;>intro _<;>first|(exfalso;omega)|skip)|refine ord_split (by kernel_rfl) ?_|((first|(refine nb ?_;constructor)|refine pn rfl ?_|refine pe rfl ?_|((first|refine at2 ?_|refine at_cond ?_);split<;>first|(exfalso;omega;done)|skip))<;>try simp(config:={maxSteps:=3000000})(disch:=first|assumption|omega|exact VG.okg (by assumption)|(simp only[List.length_set,List.length_append,List.length_cons,List.length_nil,List.length_replicate];omega))only[go_sem,simprocAttr,Tryz.results5, hg]))
  rw [if_pos hV]
  have hg := decide_eq_true hV
  have hs := c_search n es hV
  obtain ⟨hl1, hl2⟩ := seek_lens hV
  have hb := c_backs n es (seek n es) hV hl1 hl2 (seek_bd hV) (seek_ord hV)
  have D := seek_dfs hV.okg.ok hV.nodup (n := n) (by have := hV.1; omega)
  have hbl := backs_len' hV
  have hbk := fun b hb => anc_bk hV (b := b) hb
  have hch : chainsL n es = (chFold n (seek n es).par (backsL n es (seek n es))).2 := rfl
  rw [hch]
  have hci := fun j hj => (CI.take hV.okg.ok D (fun b hb => (hbk b hb).1) j hj).ln
  have hn1 := hV.1
  have hn16 := hV.2.1
  generalize backsL n es (seek n es) = bs at *
  generalize hS : seek n es = S at *
  refine xw_call (fn := Tryz.f5) rfl Tryz.func5 rfl ⟨Nat.le_of_ble_eq_true rfl, rfl, rfl⟩ ?_
  repeat'(first|(refine na ?_;constructor)|(refine ite_two ?_ ?_<;>intro _<;>first|(exfalso;omega)|skip)|refine ord_split (by kernel_rfl) ?_|((first|(refine nb ?_;constructor)|refine pn rfl ?_|refine pe rfl ?_|((first|refine at2 ?_|refine at_cond ?_);split<;>first|(exfalso;omega;done)|skip))<;>try simp(config:={maxSteps:=3000000})(disch:=first|assumption|omega|exact VG.okg (by assumption)|(simp only[List.length_set,List.length_append,List.length_cons,List.length_nil,List.length_replicate];omega))only[go_sem,simprocAttr,Tryz.results5, hg, hs, hb, repT]))
  refine xw_loopR (fun (x : Int × Nat × List Bool × List (List Int)) s => s.m 3 = some (.box 0 [LI S.num, LI S.par, LI S.low]) ∧ s.ρ 3 = .ptr 3 0 0 0 ∧ s.m 15 = some (.arr x.2.1 1 (x.2.2.2.map encL)) ∧ s.ρ 4 = .ref 15 x.2.1 0 x.2.2.2.length ∧ s.m 18 = some (.arr 0 1 (x.2.2.1.map encT)) ∧ s.ρ 5 = .ref 18 0 0 n.toNat ∧ s.ρ 21 = LE bs ∧ s.ρ 22 = I bs.length ∧ s.ρ 23 = I x.1 ∧
    (x.2.2.1, x.2.2.2) = chFold n S.par (bs.take x.1.toNat) ∧ 0 ≤ x.1 ∧ x.1 ≤ bs.length) (fun x => (bs.length - x.1).toNat) (0, 0, fB n.toNat, []) ?_ ?_
  · exact ⟨rfl, rfl, rfl, rfl, rfl, rfl, rfl, rfl, rfl, rfl, by simp, by simp⟩
  rintro ⟨i, v, mk, outs⟩ ⟨ρ, m⟩ ⟨m3, e3, m15, e4, m18, e5, e21, e22, e23, hf, g0, g1⟩
  simp only at m3 e3 m15 e4 m18 e5 e21 e22 e23 hf g0 g1
  have hmk := hci i.toNat (by omega)
  rw [← hf] at hmk
  simp only at hmk
  have hol : outs.length = i.toNat := by
    have h1 := congrArg (fun p => p.2.length) hf
    have h2 := chFold_out (n := n) (par := S.par) (bs := bs) i.toNat (by omega)
    simp only at h1
    rw [h1, h2]; simp
  by_cases hi : i < bs.length
  rotate_left
  · have hoe : (chFold n S.par bs).2 = outs := by rw [take_all (by omega)] at hf; rw [← hf]
    rw [hoe]
    repeat'(first|(refine na ?_;constructor)|(refine ite_two ?_ ?_<;>intro _<;>first|(exfalso;omega)|skip)|refine ord_split (by kernel_rfl) ?_|((first|(refine nb ?_;constructor)|refine pn rfl ?_|refine pe rfl ?_|((first|refine at2 ?_|refine at_cond ?_);split<;>first|(exfalso;omega;done)|skip))<;>try simp(config:={maxSteps:=3000000})(disch:=first|assumption|omega|exact VG.okg (by assumption)|(simp only[List.length_set,List.length_append,List.length_cons,List.length_nil,List.length_replicate];omega))only[go_sem,simprocAttr,Tryz.results5, m3, e3, m15, e4, m18, e5, e21, e22, e23]))
  have hbm := getD_mem (d := (0, 0)) (show i.toNat < bs.length by omega)
  obtain ⟨hB, hA⟩ := hbk _ hbm
  have hge := getE bs i.toNat (by omega)
  have hsn : chFold n S.par (bs.take (i + 1).toNat) = ((chOne n S.par mk (bs.getD i.toNat (0, 0))).1, outs ++ [(chOne n S.par mk (bs.getD i.toNat (0, 0))).2]) := by
    rw [take_int (0, 0) g0 hi, chFold_snoc, ← hf]; rfl
  generalize bs.getD i.toNat (0, 0) = b at hB hA hge hsn
  obtain ⟨⟨b0, b1⟩, ⟨d0, d1⟩, -, -, -⟩ := id hB
  have hun := unm_le (mk.set b.1.toNat true)
  rw [List.length_set, hmk] at hun
  have hgb : gB (mk.set b.1.toNat true) b.1 = true := by rw [gB_set hmk hB.a hB.a, if_pos rfl]
  repeat'(first|(refine na ?_;constructor)|(refine ite_two ?_ ?_<;>intro _<;>first|(exfalso;omega)|skip)|refine ord_split (by kernel_rfl) ?_|((first|(refine nb ?_;constructor)|refine pn rfl ?_|refine pe rfl ?_|((first|refine at2 ?_|refine at_cond ?_);split<;>first|(exfalso;omega;done)|skip))<;>try simp(config:={maxSteps:=3000000})(disch:=first|assumption|omega|exact VG.okg (by assumption)|(simp only[List.length_set,List.length_append,List.length_cons,List.length_nil,List.length_replicate];omega))only[go_sem,simprocAttr,Tryz.results5, m3, e3, m15, e4, m18, e5, e21, e22, e23, hge, getT, setT]))
  refine xw_loopR (fun (x : Nat × Nat × List Bool × Int × List Int) s => s.m 3 = some (.box 0 [LI S.num, LI S.par, LI S.low]) ∧ s.ρ 3 = .ptr 3 0 0 0 ∧ s.m 15 = some (.arr v 1 (outs.map encL)) ∧ s.ρ 4 = .ref 15 v 0 outs.length ∧ s.m 18 = some (.arr 0 1 (x.2.2.1.map encT)) ∧ s.ρ 5 = .ref 18 0 0 n.toNat ∧ s.ρ 21 = LE bs ∧ s.ρ 22 = I bs.length ∧ s.ρ 23 = I i ∧
    s.m 35 = some (.arr x.2.1 1 (x.2.2.2.2.map encI)) ∧ s.ρ 8 = .ref 35 x.2.1 0 x.2.2.2.2.length ∧ s.ρ 9 = I x.2.2.2.1 ∧ x.2.2.1.length = n.toNat ∧ inR n x.2.2.2.1 ∧ Anc n S.par b.1 x.2.2.2.1 ∧ gB x.2.2.1 b.1 = true ∧ unm x.2.2.1 ≤ x.1 ∧ x.2.2.2.2.length + x.1 ≤ n.toNat + 2 ∧
    chW S.par x.1 x.2.2.1 x.2.2.2.1 x.2.2.2.2 = chOne n S.par mk b) (fun x => x.1) (n.toNat, nv (m 35), mk.set b.1.toNat true, b.2, [b.1, b.2]) ?_ ?_
  · exact ⟨m3, e3, m15, e4, rfl, e5, e21, e22, e23, rfl, rfl, rfl, by simpa using hmk, hB.z, hA, hgb, hun, by simp; omega, rfl⟩
  rintro ⟨f, w, mk', l, acc⟩ ⟨ρ, m⟩ ⟨m3, e3, m15, e4, m18, e5, e21, e22, e23, m35, e8, e9, k1, k2, k3, k4, k5, k6, k7⟩
  simp only at m3 e3 m15 e4 m18 e5 e21 e22 e23 m35 e8 e9 k1 k2 k3 k4 k5 k6 k7
  obtain ⟨l0, l1⟩ := id k2
  by_cases hm : gB mk' l = true
  · have hm' : mk'.getD l.toNat false = true := hm
    rw [chW_stop hm] at k7
    rw [← k7] at hsn
    simp only at hsn
    repeat'(first|(refine na ?_;constructor)|(refine ite_two ?_ ?_<;>intro _<;>first|(exfalso;omega)|skip)|refine ord_split (by kernel_rfl) ?_|((first|(refine nb ?_;constructor)|refine pn rfl ?_|refine pe rfl ?_|((first|refine at2 ?_|refine at_cond ?_);split<;>first|(exfalso;omega;done)|skip))<;>try simp(config:={maxSteps:=3000000})(disch:=first|assumption|omega|exact VG.okg (by assumption)|(simp only[List.length_set,List.length_append,List.length_cons,List.length_nil,List.length_replicate];omega))only[go_sem,simprocAttr,Tryz.results5, m3, e3, m15, e4, m18, e5, e21, e22, e23, m35, e8, e9, getT, hm', appL]))
    exact ⟨i + 1, mk', outs ++ [acc], rfl, by simp, rfl, rfl, hsn.symm, by omega, by omega, by omega⟩
  have hmf : gB mk' l = false := by simpa using hm
  have hm' : mk'.getD l.toNat false = false := hmf
  have hne : b.1 ≠ l := fun e => hm (e ▸ k4)
  obtain ⟨hp, ha'⟩ := D.above k3 hne
  have hun := unm_set (mk := mk') (i := l.toNat) (by omega) (by simpa [gB] using hmf)
  rw [chW_go hmf (by omega)] at k7
  have hgp : S.par.getD l.toNat 0 = gI S.par l := rfl
  have hk4 : gB (mk'.set l.toNat true) b.1 = true := by rw [gB_set k1 k2 hB.a, if_neg (Ne.symm hne)]; exact k4
  generalize gI S.par l = p at hp ha' k7 hgp
  repeat'(first|(refine na ?_;constructor)|(refine ite_two ?_ ?_<;>intro _<;>first|(exfalso;omega)|skip)|refine ord_split (by kernel_rfl) ?_|((first|(refine nb ?_;constructor)|refine pn rfl ?_|refine pe rfl ?_|((first|refine at2 ?_|refine at_cond ?_);split<;>first|(exfalso;omega;done)|skip))<;>try simp(config:={maxSteps:=3000000})(disch:=first|assumption|omega|exact VG.okg (by assumption)|(simp only[List.length_set,List.length_append,List.length_cons,List.length_nil,List.length_replicate];omega))only[go_sem,simprocAttr,Tryz.results5, m3, e3, m15, e4, m18, e5, e21, e22, e23, m35, e8, e9, getT, setT, hm', hgp, hl2]))
  first
    | exact ⟨f - 1, w + 1, mk'.set l.toNat true, rfl, rfl, rfl, by simpa using k1, hp, ha', hk4, by omega, by omega, k7, by omega⟩
    | exact ⟨by simpa using k1, hp, ha', hk4, f - 1, by omega, by omega, k7, by omega⟩
end Go.Proofs.YtmocnnknnbalkaaGreatDoor.X
