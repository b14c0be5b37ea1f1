/- What functions compute: chains. -/
import Derived.Test.YtmocnnknnbalkaaGreatDoorKAI
import Derived.Test.YtmocnnknnbalkaaGreatDoorKAO
import Derived.Test.YtmocnnknnbalkaaGreatDoorKAL
import Derived.Test.YtmocnnknnbalkaaGreatDoorM20
set_option linter.unusedSimpArgs false
set_option linter.unusedVariables false
set_option maxHeartbeats 8000000
set_option maxRecDepth 100000
namespace Go.Proofs.YtmocnnknnbalkaaGreatDoor.X
open Go Go.Proofs
theorem seek_lens {n : Int} {es : List (Int × Int)} (hV : VG n es) : (seek n es).num.length = n.toNat ∧ (seek n es).par.length = n.toNat := by
  obtain ⟨h1, -, -⟩ := seek_inv hV.okg.ok hV.nodup n.toNat (by have := hV.1; omega)
  exact ⟨h1.ln, h1.lp⟩
theorem seek_bd {n : Int} {es : List (Int × Int)} (hV : VG n es) : ∀ u, inR n u → 1 ≤ gI (seek n es).num u ∧ gI (seek n es).num u ≤ n := fun u hu => seek_num hV.okg.ok hV.nodup (by have := hV.1; omega) hu
def ordF (n : Int) (num : List Int) (i : Int) : List Int := (iota i).foldl (fun acc i => acc.set (gI num i - 1).toNat i) (zI n.toNat)
theorem ordF_eq (n : Int) (num : List Int) : ordF n num n = ordL n num := rfl
theorem ordF_snoc {n i : Int} {num : List Int} (h : 0 ≤ i) : ordF n num (i + 1) = (ordF n num i).set (gI num i - 1).toNat i := by
  unfold ordF
  rw [iota_snoc h, List.foldl_append]; rfl
theorem ordF_len (n i : Int) (num : List Int) : (ordF n num i).length = n.toNat := by
  have : ∀ (vs acc : List Int), (vs.foldl (fun acc i => acc.set (gI num i - 1).toNat i) acc).length = acc.length := by
    intro vs
    induction vs with
    | nil => intro acc; rfl
    | cons v vs ih => intro acc; rw [List.foldl_cons, ih, List.length_set]
  unfold ordF
  rw [this, zI_len]
theorem bkOf_len (es : List (Int × Int)) (S : Sr) (u : Int) : (bkOf es S u).length ≤ es.length := by
  unfold bkOf
  rw [List.length_map]
  have h1 := List.length_filter_le (fun w => decide (gI S.num u < gI S.num w) && !decide (gI S.par w = u)) (nbS u es)
  have h2 := alone_length u es
  omega
theorem c_backs (n : Int) (es : List (Int × Int)) (S : Sr) (hV : VG n es) (h1 : S.num.length = n.toNat) (h2 : S.par.length = n.toNat) (hb : ∀ u, inR n u → 1 ≤ gI S.num u ∧ gI S.num u ≤ n) (ho : ∀ u ∈ ordL n S.num, inR n u) :
    KP 15 [GL n es, SR S] [] = some (.ref 2000 0 0 (backsL n es S).length, [], [.arr 0 2 ((backsL n es S).map encE)]) := by
  have hn1 := hV.1
  have hn16 := hV.2.1
  have hel := hV.2.2.1
  refine xw_call (fn := Tryz.f15) rfl Tryz.func15 rfl ⟨Nat.le_of_ble_eq_true rfl, rfl, rfl⟩ ?_
  repeat'(first|(refine na ?_;constructor)|(refine ite_two ?_ ?_<;>intro _<;>first|(exfalso;omega)|skip)|refine ord_split (by kernel_rfl) ?_|((first|(refine nb ?_;constructor)|refine pn rfl ?_|refine pe rfl ?_|((first|refine at2 ?_|refine at_cond ?_);split<;>first|(exfalso;omega;done)|skip))<;>try simp(config:={maxSteps:=3000000})(disch:=first|assumption|omega|exact VG.okg (by assumption)|(simp only[List.length_set,List.length_append,List.length_cons,List.length_nil,List.length_replicate];omega))only[go_sem,simprocAttr,Tryz.results15]))
  refine xw_loopR (fun (i : Int) s => s.m 2 = some (.box 0 [I n, LE es]) ∧ s.ρ 2 = .ptr 2 0 0 0 ∧ s.m 3 = some (.box 0 [LI S.num, LI S.par, LI S.low]) ∧ s.ρ 3 = .ptr 3 0 0 0 ∧ s.m 15 = some (.arr 0 1 ((ordF n S.num i).map encI)) ∧ s.ρ 5 = .ref 15 0 0 n.toNat ∧
    s.ρ 17 = LI S.num ∧ s.ρ 18 = I n ∧ s.ρ 19 = I i ∧ 0 ≤ i ∧ i ≤ n) (fun i => (n - i).toNat) 0 ?_ ?_
  · refine ⟨rfl, rfl, rfl, rfl, rfl, rfl, rfl, ?_, rfl, by omega, by omega⟩
    simp [upd, h1]; omega
  rintro i ⟨ρ, m⟩ ⟨m2, e2, m3, e3, m15, e5, e17, e18, e19, g0, g1⟩
  simp only at m2 e2 m3 e3 m15 e5 e17 e18 e19 g0 g1
  have hfl := ordF_len n i S.num
  by_cases hi : i < n
  · have hbi := hb i ⟨g0, hi⟩
    have hsn := ordF_snoc (n := n) (num := S.num) g0
    have hgi : S.num.getD i.toNat 0 = gI S.num i := rfl
    generalize ordF n S.num i = os at m15 hfl hsn
    repeat'(first|(refine na ?_;constructor)|(refine ite_two ?_ ?_<;>intro _<;>first|(exfalso;omega)|skip)|refine ord_split (by kernel_rfl) ?_|((first|(refine nb ?_;constructor)|refine pn rfl ?_|refine pe rfl ?_|((first|refine at2 ?_|refine at_cond ?_);split<;>first|(exfalso;omega;done)|skip))<;>try simp(config:={maxSteps:=3000000})(disch:=first|assumption|omega|exact VG.okg (by assumption)|(simp only[List.length_set,List.length_append,List.length_cons,List.length_nil,List.length_replicate];omega))only[go_sem,simprocAttr,Tryz.results15, m2, e2, m3, e3, m15, e5, e17, e18, e19, hgi]))
    exact ⟨i + 1, hsn.symm, rfl, by omega, by omega, by omega⟩
  have hin : i = n := by omega
  subst hin
  rw [ordF_eq] at m15 hfl
  repeat'(first|(refine na ?_;constructor)|(refine ite_two ?_ ?_<;>intro _<;>first|(exfalso;omega)|skip)|refine ord_split (by kernel_rfl) ?_|((first|(refine nb ?_;constructor)|refine pn rfl ?_|refine pe rfl ?_|((first|refine at2 ?_|refine at_cond ?_);split<;>first|(exfalso;omega;done)|skip))<;>try simp(config:={maxSteps:=3000000})(disch:=first|assumption|omega|exact VG.okg (by assumption)|(simp only[List.length_set,List.length_append,List.length_cons,List.length_nil,List.length_replicate];omega))only[go_sem,simprocAttr,Tryz.results15, m2, e2, m3, e3, m15, e5, e17, e18, e19]))
  refine xw_loopR (fun (x : Int × Nat × List (Int × Int)) s => s.m 2 = some (.box 0 [I i, LE es]) ∧ s.ρ 2 = .ptr 2 0 0 0 ∧ s.m 3 = some (.box 0 [LI S.num, LI S.par, LI S.low]) ∧ s.ρ 3 = .ptr 3 0 0 0 ∧ s.m 15 = some (.arr 0 1 ((ordL i S.num).map encI)) ∧
    s.ρ 31 = .ref 15 0 0 i.toNat ∧ s.ρ 32 = I i ∧ s.ρ 33 = I x.1 ∧ s.m 30 = some (.arr x.2.1 2 (x.2.2.map encE)) ∧ s.ρ 8 = .ref 30 x.2.1 0 x.2.2.length ∧ x.2.2 = ((ordL i S.num).take x.1.toNat).flatMap (bkOf es S) ∧ (x.2.2.length : Int) ≤ 40 * x.1 ∧ 0 ≤ x.1 ∧ x.1 ≤ i) (fun x => (i - x.1).toNat) (0, nv (m 30), []) ?_ ?_
  · refine ⟨m2, e2, m3, e3, m15, rfl, ?_, rfl, rfl, rfl, by simp, by simp, by simp, by omega⟩
    simp [upd]; omega
  rintro ⟨k, w, xs⟩ ⟨ρ, m⟩ ⟨m2, e2, m3, e3, m15, e31, e32, e33, m30, e8, hxs, hxl, f0, f1⟩
  simp only at m2 e2 m3 e3 m15 e31 e32 e33 m30 e8 hxs hxl f0 f1
  by_cases hk : k < i
  rotate_left
  · have hbk : backsL i es S = xs := by rw [hxs, take_all (by omega)]; rfl
    repeat'(first|(refine na ?_;constructor)|(refine ite_two ?_ ?_<;>intro _<;>first|(exfalso;omega)|skip)|refine ord_split (by kernel_rfl) ?_|((first|(refine nb ?_;constructor)|refine pn rfl ?_|refine pe rfl ?_|((first|refine at2 ?_|refine at_cond ?_);split<;>first|(exfalso;omega;done)|skip))<;>try simp(config:={maxSteps:=3000000})(disch:=first|assumption|omega|exact VG.okg (by assumption)|(simp only[List.length_set,List.length_append,List.length_cons,List.length_nil,List.length_replicate];omega))only[go_sem,simprocAttr,Tryz.results15, m2, e2, m3, e3, m15, e31, e32, e33, m30, e8]))
    rw [hbk]; exact ⟨rfl, rfl⟩
  have hu := ho _ (getD_mem (d := 0) (show k.toNat < (ordL i S.num).length by omega))
  have htk := take_int (l := ordL i S.num) (i := k) 0 f0 (by omega)
  have hgo := getI (ordL i S.num) k.toNat (by omega)
  generalize (ordL i S.num).getD k.toNat 0 = u at hu htk hgo
  have hnb := c_neighbors i u es (by omega)
  have hnl := alone_length u es
  repeat'(first|(refine na ?_;constructor)|(refine ite_two ?_ ?_<;>intro _<;>first|(exfalso;omega)|skip)|refine ord_split (by kernel_rfl) ?_|((first|(refine nb ?_;constructor)|refine pn rfl ?_|refine pe rfl ?_|((first|refine at2 ?_|refine at_cond ?_);split<;>first|(exfalso;omega;done)|skip))<;>try simp(config:={maxSteps:=3000000})(disch:=first|assumption|omega|exact VG.okg (by assumption)|(simp only[List.length_set,List.length_append,List.length_cons,List.length_nil,List.length_replicate];omega))only[go_sem,simprocAttr,Tryz.results15, m2, e2, m3, e3, m15, e31, e32, e33, m30, e8, hgo, hnb]))
  refine xw_loopR (fun (x : Int × Nat × List (Int × Int)) s => s.m 2 = some (.box 0 [I i, LE es]) ∧ s.ρ 2 = .ptr 2 0 0 0 ∧ s.m 3 = some (.box 0 [LI S.num, LI S.par, LI S.low]) ∧ s.ρ 3 = .ptr 3 0 0 0 ∧ s.m 15 = some (.arr 0 1 ((ordL i S.num).map encI)) ∧
    s.ρ 31 = .ref 15 0 0 i.toNat ∧ s.ρ 32 = I i ∧ s.ρ 33 = I k ∧ s.ρ 10 = I u ∧ s.ρ 39 = LI (nbS u es) ∧ s.ρ 40 = I (nbS u es).length ∧ s.ρ 41 = I x.1 ∧ s.m 30 = some (.arr x.2.1 2 (x.2.2.map encE)) ∧ s.ρ 8 = .ref 30 x.2.1 0 x.2.2.length ∧
    x.2.2 = xs ++ (((nbS u es).take x.1.toNat).filter fun w => decide (gI S.num u < gI S.num w) && !decide (gI S.par w = u)).map (fun w => (u, w)) ∧ (x.2.2.length : Int) ≤ 40 * k + x.1 ∧ 0 ≤ x.1 ∧ x.1 ≤ (nbS u es).length) (fun x => ((nbS u es).length - x.1).toNat) (0, w, xs) ?_ ?_
  · refine ⟨m2, e2, m3, e3, m15, e31, e32, e33, rfl, rfl, rfl, rfl, m30, e8, by simp, by simp; omega, by simp, by omega⟩
  rintro ⟨j, w, ys⟩ ⟨ρ, m⟩ ⟨m2, e2, m3, e3, m15, e31, e32, e33, e10, e39, e40, e41, m30, e8, hys, hyl, d0, d1⟩
  simp only at m2 e2 m3 e3 m15 e31 e32 e33 e10 e39 e40 e41 m30 e8 hys hyl d0 d1
  by_cases hj : j < (nbS u es).length
  rotate_left
  · repeat'(first|(refine na ?_;constructor)|(refine ite_two ?_ ?_<;>intro _<;>first|(exfalso;omega)|skip)|refine ord_split (by kernel_rfl) ?_|((first|(refine nb ?_;constructor)|refine pn rfl ?_|refine pe rfl ?_|((first|refine at2 ?_|refine at_cond ?_);split<;>first|(exfalso;omega;done)|skip))<;>try simp(config:={maxSteps:=3000000})(disch:=first|assumption|omega|exact VG.okg (by assumption)|(simp only[List.length_set,List.length_append,List.length_cons,List.length_nil,List.length_replicate];omega))only[go_sem,simprocAttr,Tryz.results15, m2, e2, m3, e3, m15, e31, e32, e33, e10, e39, e40, e41, m30, e8]))
    refine ⟨?_, by omega, by omega, by omega, by omega⟩
    rw [htk, List.flatMap_append, ← hxs, hys, take_all (by omega)]
    simp [bkOf]
  have hw := nb_in hV.okg.ok (getD_mem (d := 0) (show j.toNat < (nbS u es).length by omega))
  have hgw := getI (nbS u es) j.toNat (by omega)
  have fy := filt_yes (l := nbS u es) (p := fun w => decide (gI S.num u < gI S.num w) && !decide (gI S.par w = u)) (d := 0) d0 hj
  have fn := filt_no (l := nbS u es) (p := fun w => decide (gI S.num u < gI S.num w) && !decide (gI S.par w = u)) (d := 0) d0 hj
  generalize (nbS u es).getD j.toNat 0 = v at hw hgw fy fn
  obtain ⟨u0, u1⟩ := id hu
  obtain ⟨⟨v0, v1⟩, -⟩ := hw
  have gu : S.num.getD u.toNat 0 = gI S.num u := rfl
  have gv : S.num.getD v.toNat 0 = gI S.num v := rfl
  have gp : S.par.getD v.toNat 0 = gI S.par v := rfl
  by_cases c1 : gI S.num u < gI S.num v
  · by_cases c2 : gI S.par v = u
    · have hno := fn (by show ¬ (decide _ && !decide _) = true; rw [decide_eq_true c1, decide_eq_true c2]; decide)
      repeat'(first|(refine na ?_;constructor)|(refine ite_two ?_ ?_<;>intro _<;>first|(exfalso;omega)|skip)|refine ord_split (by kernel_rfl) ?_|((first|(refine nb ?_;constructor)|refine pn rfl ?_|refine pe rfl ?_|((first|refine at2 ?_|refine at_cond ?_);split<;>first|(exfalso;omega;done)|skip))<;>try simp(config:={maxSteps:=3000000})(disch:=first|assumption|omega|exact VG.okg (by assumption)|(simp only[List.length_set,List.length_append,List.length_cons,List.length_nil,List.length_replicate];omega))only[go_sem,simprocAttr,Tryz.results15, m2, e2, m3, e3, m15, e31, e32, e33, e10, e39, e40, e41, m30, e8, hgw, gu, gv, gp, c1, c2]))
      exact ⟨by rw [hno]; exact hys, by omega, by omega, by omega, by omega⟩
    · have hyes := fy (by show (decide _ && !decide _) = true; rw [decide_eq_true c1, decide_eq_false c2]; rfl)
      repeat'(first|(refine na ?_;constructor)|(refine ite_two ?_ ?_<;>intro _<;>first|(exfalso;omega)|skip)|refine ord_split (by kernel_rfl) ?_|((first|(refine nb ?_;constructor)|refine pn rfl ?_|refine pe rfl ?_|((first|refine at2 ?_|refine at_cond ?_);split<;>first|(exfalso;omega;done)|skip))<;>try simp(config:={maxSteps:=3000000})(disch:=first|assumption|omega|exact VG.okg (by assumption)|(simp only[List.length_set,List.length_append,List.length_cons,List.length_nil,List.length_replicate];omega))only[go_sem,simprocAttr,Tryz.results15, m2, e2, m3, e3, m15, e31, e32, e33, e10, e39, e40, e41, m30, e8, hgw, gu, gv, gp, c1, c2]))
      exact ⟨by rw [hyes, hys, List.map_append, List.append_assoc]; rfl, by omega, by omega, by omega, by omega⟩
  · have hno := fn (by show ¬ (decide _ && !decide _) = true; rw [decide_eq_false c1]; simp)
    repeat'(first|(refine na ?_;constructor)|(refine ite_two ?_ ?_<;>intro _<;>first|(exfalso;omega)|skip)|refine ord_split (by kernel_rfl) ?_|((first|(refine nb ?_;constructor)|refine pn rfl ?_|refine pe rfl ?_|((first|refine at2 ?_|refine at_cond ?_);split<;>first|(exfalso;omega;done)|skip))<;>try simp(config:={maxSteps:=3000000})(disch:=first|assumption|omega|exact VG.okg (by assumption)|(simp only[List.length_set,List.length_append,List.length_cons,List.length_nil,List.length_replicate];omega))only[go_sem,simprocAttr,Tryz.results15, m2, e2, m3, e3, m15, e31, e32, e33, e10, e39, e40, e41, m30, e8, hgw, gu, gv, gp, c1]))
    exact ⟨by rw [hno]; exact hys, by omega, by omega, by omega, by omega⟩
theorem c_l9Order (n : Int) (S : Sr) (hn1 : 1 ≤ n) (hn16 : n ≤ 16) (h1 : S.num.length = n.toNat) (hb : ∀ u, inR n u → 1 ≤ gI S.num u ∧ gI S.num u ≤ n) : KP 33 [SR S] [] = some (.ref 2000 0 0 n.toNat, [], [.arr 0 1 ((ordL n S.num).map encI)]) := by
  refine xw_call (fn := Tryz.f33) rfl Tryz.func33 rfl ⟨Nat.le_of_ble_eq_true rfl, rfl, rfl⟩ ?_
  repeat'(first|(refine na ?_;constructor)|(refine ite_two ?_ ?_<;>intro _<;>first|(exfalso;omega)|skip)|refine ord_split (by kernel_rfl) ?_|((first|(refine nb ?_;constructor)|refine pn rfl ?_|refine pe rfl ?_|((first|refine at2 ?_|refine at_cond ?_);split<;>first|(exfalso;omega;done)|skip))<;>try simp(config:={maxSteps:=3000000})(disch:=first|assumption|omega|exact VG.okg (by assumption)|(simp only[List.length_set,List.length_append,List.length_cons,List.length_nil,List.length_replicate];omega))only[go_sem,simprocAttr,Tryz.results33, h1]))
  refine xw_loopR (fun (i : Int) s => s.m 1 = some (.box 0 [LI S.num, LI S.par, LI S.low]) ∧ s.ρ 1 = .ptr 1 0 0 0 ∧ s.m 8 = some (.arr 0 1 ((ordF n S.num i).map encI)) ∧ s.ρ 3 = .ref 8 0 0 n.toNat ∧ s.ρ 4 = I i ∧ 0 ≤ i ∧ i ≤ n) (fun i => (n - i).toNat) 0 ?_ ?_
  · exact ⟨rfl, rfl, rfl, rfl, rfl, by omega, by omega⟩
  rintro i ⟨ρ, m⟩ ⟨m1, e1, m8, e3, e4, g0, g1⟩
  simp only at m1 e1 m8 e3 e4 g0 g1
  have hfl := ordF_len n i S.num
  by_cases hi : i < n
  · have hbi := hb i ⟨g0, hi⟩
    have hsn := ordF_snoc (n := n) (num := S.num) g0
    have hgi : S.num.getD i.toNat 0 = gI S.num i := rfl
    generalize ordF n S.num i = os at m8 hfl hsn
    repeat'(first|(refine na ?_;constructor)|(refine ite_two ?_ ?_<;>intro _<;>first|(exfalso;omega)|skip)|refine ord_split (by kernel_rfl) ?_|((first|(refine nb ?_;constructor)|refine pn rfl ?_|refine pe rfl ?_|((first|refine at2 ?_|refine at_cond ?_);split<;>first|(exfalso;omega;done)|skip))<;>try simp(config:={maxSteps:=3000000})(disch:=first|assumption|omega|exact VG.okg (by assumption)|(simp only[List.length_set,List.length_append,List.length_cons,List.length_nil,List.length_replicate];omega))only[go_sem,simprocAttr,Tryz.results33, m1, e1, m8, e3, e4, hgi, h1]))
    exact ⟨i + 1, hsn.symm, rfl, by omega, by omega, by omega⟩
  have hin : i = n := by omega
  subst hin
  rw [ordF_eq] at m8 hfl
  repeat'(first|(refine na ?_;constructor)|(refine ite_two ?_ ?_<;>intro _<;>first|(exfalso;omega)|skip)|refine ord_split (by kernel_rfl) ?_|((first|(refine nb ?_;constructor)|refine pn rfl ?_|refine pe rfl ?_|((first|refine at2 ?_|refine at_cond ?_);split<;>first|(exfalso;omega;done)|skip))<;>try simp(config:={maxSteps:=3000000})(disch:=first|assumption|omega|exact VG.okg (by assumption)|(simp only[List.length_set,List.length_append,List.length_cons,List.length_nil,List.length_replicate];omega))only[go_sem,simprocAttr,Tryz.results33, m1, e1, m8, e3, e4, h1]))
def bkN (es : List (Int × Int)) (S : Sr) (u : Int) : List Int := (nbS u es).filter fun w => decide (gI S.num u < gI S.num w) && !decide (gI S.par w = u)
theorem c_l9Back (n : Int) (es : List (Int × Int)) (S : Sr) (hV : VG n es) (h1 : S.num.length = n.toNat) (h2 : S.par.length = n.toNat) (u : Int) (hu : inR n u) : KP 34 [GL n es, SR S, I u] [] = some (.ref 2000 0 0 (bkN es S u).length, [], [.arr 0 1 ((bkN es S u).map encI)]) := by
  have hn1 := hV.1
  have hn16 := hV.2.1
  have hnx := c_l1Next n u es hV.okg hV.nodup
  have hel := hV.2.2.1
  have hnl := alone_length u es
  refine xw_call (fn := Tryz.f34) rfl Tryz.func34 rfl ⟨Nat.le_of_ble_eq_true rfl, rfl, rfl⟩ ?_
  repeat'(first|(refine na ?_;constructor)|(refine ite_two ?_ ?_<;>intro _<;>first|(exfalso;omega)|skip)|refine ord_split (by kernel_rfl) ?_|((first|(refine nb ?_;constructor)|refine pn rfl ?_|refine pe rfl ?_|((first|refine at2 ?_|refine at_cond ?_);split<;>first|(exfalso;omega;done)|skip))<;>try simp(config:={maxSteps:=3000000})(disch:=first|assumption|omega|exact VG.okg (by assumption)|(simp only[List.length_set,List.length_append,List.length_cons,List.length_nil,List.length_replicate];omega))only[go_sem,simprocAttr,Tryz.results34, hnx]))
  refine xw_loopR (fun (x : Int × Nat × List Int) s => s.m 4 = some (.box 0 [LI S.num, LI S.par, LI S.low]) ∧ s.ρ 4 = .ptr 4 0 0 0 ∧ s.ρ 2 = I u ∧ s.ρ 8 = LI (nbS u es) ∧ s.ρ 9 = I x.1 ∧ s.m 10 = some (.arr x.2.1 1 (x.2.2.map encI)) ∧ s.ρ 7 = .ref 10 x.2.1 0 x.2.2.length ∧
    x.2.2 = ((nbS u es).take x.1.toNat).filter (fun w => decide (gI S.num u < gI S.num w) && !decide (gI S.par w = u)) ∧ (x.2.2.length : Int) ≤ x.1 ∧ 0 ≤ x.1 ∧ x.1 ≤ (nbS u es).length) (fun x => ((nbS u es).length - x.1).toNat) (0, 0, []) ?_ ?_
  · exact ⟨rfl, rfl, rfl, rfl, rfl, rfl, rfl, by simp, by simp, by simp, by omega⟩
  rintro ⟨j, w, ys⟩ ⟨ρ, m⟩ ⟨m4, e4, e2, e8, e9, m10, e7, hys, hyl, d0, d1⟩
  simp only at m4 e4 e2 e8 e9 m10 e7 hys hyl d0 d1
  by_cases hj : j < (nbS u es).length
  rotate_left
  · have hbk : bkN es S u = ys := by rw [hys, take_all (by omega)]; rfl
    rw [hbk]
    repeat'(first|(refine na ?_;constructor)|(refine ite_two ?_ ?_<;>intro _<;>first|(exfalso;omega)|skip)|refine ord_split (by kernel_rfl) ?_|((first|(refine nb ?_;constructor)|refine pn rfl ?_|refine pe rfl ?_|((first|refine at2 ?_|refine at_cond ?_);split<;>first|(exfalso;omega;done)|skip))<;>try simp(config:={maxSteps:=3000000})(disch:=first|assumption|omega|exact VG.okg (by assumption)|(simp only[List.length_set,List.length_append,List.length_cons,List.length_nil,List.length_replicate];omega))only[go_sem,simprocAttr,Tryz.results34, m4, e4, e2, e8, e9, m10, e7]))
  have hw := nb_in hV.okg.ok (getD_mem (d := 0) (show j.toNat < (nbS u es).length by omega))
  have hgw := getI (nbS u es) j.toNat (by omega)
  have fy := filt_yes (l := nbS u es) (p := fun w => decide (gI S.num u < gI S.num w) && !decide (gI S.par w = u)) (d := 0) d0 hj
  have fn := filt_no (l := nbS u es) (p := fun w => decide (gI S.num u < gI S.num w) && !decide (gI S.par w = u)) (d := 0) d0 hj
  generalize (nbS u es).getD j.toNat 0 = v at hw hgw fy fn
  obtain ⟨u0, u1⟩ := id hu
  obtain ⟨⟨v0, v1⟩, -⟩ := hw
  have gu : S.num.getD u.toNat 0 = gI S.num u := rfl
  have gv : S.num.getD v.toNat 0 = gI S.num v := rfl
  have gp : S.par.getD v.toNat 0 = gI S.par v := rfl
  by_cases c1 : gI S.num u < gI S.num v
  · by_cases c2 : gI S.par v = u
    · have hno := fn (by show ¬ (decide _ && !decide _) = true; rw [decide_eq_true c1, decide_eq_true c2]; decide)
      repeat'(first|(refine na ?_;constructor)|(refine ite_two ?_ ?_<;>intro _<;>first|(exfalso;omega)|skip)|refine ord_split (by kernel_rfl) ?_|((first|(refine nb ?_;constructor)|refine pn rfl ?_|refine pe rfl ?_|((first|refine at2 ?_|refine at_cond ?_);split<;>first|(exfalso;omega;done)|skip))<;>try simp(config:={maxSteps:=3000000})(disch:=first|assumption|omega|exact VG.okg (by assumption)|(simp only[List.length_set,List.length_append,List.length_cons,List.length_nil,List.length_replicate];omega))only[go_sem,simprocAttr,Tryz.results34, m4, e4, e2, e8, e9, m10, e7, hgw, gu, gv, gp, c1, c2]))
      exact ⟨by rw [hno]; exact hys, by omega, by omega, by omega, by omega⟩
    · have hyes := fy (by show (decide _ && !decide _) = true; rw [decide_eq_true c1, decide_eq_false c2]; rfl)
      repeat'(first|(refine na ?_;constructor)|(refine ite_two ?_ ?_<;>intro _<;>first|(exfalso;omega)|skip)|refine ord_split (by kernel_rfl) ?_|((first|(refine nb ?_;constructor)|refine pn rfl ?_|refine pe rfl ?_|((first|refine at2 ?_|refine at_cond ?_);split<;>first|(exfalso;omega;done)|skip))<;>try simp(config:={maxSteps:=3000000})(disch:=first|assumption|omega|exact VG.okg (by assumption)|(simp only[List.length_set,List.length_append,List.length_cons,List.length_nil,List.length_replicate];omega))only[go_sem,simprocAttr,Tryz.results34, m4, e4, e2, e8, e9, m10, e7, hgw, gu, gv, gp, c1, c2]))
      exact ⟨by rw [hyes, hys], by omega, by omega, by omega, by omega⟩
  · have hno := fn (by show ¬ (decide _ && !decide _) = true; rw [decide_eq_false c1]; simp)
    repeat'(first|(refine na ?_;constructor)|(refine ite_two ?_ ?_<;>intro _<;>first|(exfalso;omega)|skip)|refine ord_split (by kernel_rfl) ?_|((first|(refine nb ?_;constructor)|refine pn rfl ?_|refine pe rfl ?_|((first|refine at2 ?_|refine at_cond ?_);split<;>first|(exfalso;omega;done)|skip))<;>try simp(config:={maxSteps:=3000000})(disch:=first|assumption|omega|exact VG.okg (by assumption)|(simp only[List.length_set,List.length_append,List.length_cons,List.length_nil,List.length_replicate];omega))only[go_sem,simprocAttr,Tryz.results34, m4, e4, e2, e8, e9, m10, e7, hgw, gu, gv, gp, c1]))
    exact ⟨by rw [hno]; exact hys, by omega, by omega, by omega, by omega⟩
end Go.Proofs.YtmocnnknnbalkaaGreatDoor.X
