/- What functions answer, and the plain laws behind it. -/
import Derived.Test.YtmocnnknnbalkaaGreatDoorKAL
import Derived.Test.YtmocnnknnbalkaaGreatDoorKAM
import Derived.Test.YtmocnnknnbalkaaGreatDoorC52
import Derived.Test.YtmocnnknnbalkaaGreatDoorKAJ
import Derived.Test.YtmocnnknnbalkaaGreatDoorKAO
import Derived.Test.YtmocnnknnbalkaaGreatDoorKAF
/- What functions compute: lines of chains and of safe parts. -/
set_option linter.unusedSimpArgs false
set_option linter.unusedVariables false
set_option maxHeartbeats 8000000
set_option maxRecDepth 100000
namespace Go.Proofs.YtmocnnknnbalkaaGreatDoor.X
open Go Go.Proofs
theorem chW_in {n : Int} {es : List (Int × Int)} {S : Sr} (D : Dfs n es S) {u : Int} : ∀ (f : Nat) (mk : List Bool) (l : Int) (acc : List Int), mk.length = n.toNat → inR n l → inR n u → gB mk u = true → Anc n S.par u l → (∀ v ∈ acc, inR n v) → ∀ v ∈ (chW S.par f mk l acc).2, inR n v := by
  intro f
  induction f with
  | zero => intro mk l acc _ _ _ _ _ h v hv; exact h v hv
  | succ f ih =>
    intro mk l acc hl hlr hur hu ha h
    by_cases hm : gB mk l = true
    · rw [chW_stop hm]; exact h
    · have hm' : gB mk l = false := by simpa using hm
      have hne : u ≠ l := fun e => hm (e ▸ hu)
      obtain ⟨hp, ha'⟩ := D.above ha hne
      have hset := fun x (hx : inR n x) => gB_set (b := true) hl hlr hx
      rw [chW_go hm' (by omega), Nat.add_sub_cancel]
      refine ih (mk.set l.toNat true) (gI S.par l) (acc ++ [gI S.par l]) (by rw [List.length_set]; exact hl) hp hur (by rw [hset u hur, if_neg (Ne.symm hne)]; exact hu) ha' fun v hv => ?_
      rcases List.mem_append.1 hv with hv | hv
      · exact h v hv
      · rw [List.mem_singleton.1 hv]; exact hp
theorem chains_small {n : Int} {es : List (Int × Int)} (hV : VG n es) : (∀ p ∈ chainsL n es, smallL p ∧ p.length ≤ 18) ∧ (chainsL n es).length ≤ 640 := by
  have ho := hV.okg.ok
  have hnd := hV.nodup
  have h0 : 0 ≤ n := by have := hV.1; omega
  have hn16 := hV.2.1
  have D := seek_dfs ho hnd h0
  refine ⟨fun p hp => ?_, by rw [chains_len]; exact backs_len' hV⟩
  obtain ⟨i, hi, rfl⟩ := List.getElem_of_mem hp
  have hi' := hi
  rw [chains_len] at hi'
  have e : (chainsL n es).getD i [] = (chainsL n es)[i] := by simp [hi]
  have c := CI.take ho D (fun b hb => (backs_bk ho hnd h0).1 hb) i (Nat.le_of_lt hi')
  have hb := (backs_bk ho hnd h0).1 (getD_mem (d := (0, 0)) hi')
  obtain ⟨z, z1, z2, z3, z4, z5, z6, z7, z8, z9, z10, z11⟩ := c.spec D hb
  rw [← e, chains_at hi']
  refine ⟨fun v hv => ?_, by omega⟩
  have := chW_in D n.toNat _ _ _ (by rw [List.length_set]; exact c.ln) hb.z hb.a (by rw [gB_set (b := true) c.ln hb.a hb.a, if_pos rfl]) (hb.anc D) (fun v hv => by
    rcases List.mem_cons.1 hv with rfl | hv
    · exact hb.a
    · rw [List.mem_singleton.1 hv]; exact hb.z) v hv
  obtain ⟨h1, h2⟩ := this
  omega
theorem c_wl_safe (n : Int) (x y z : IV) (ts : List Tl) (h3 : LV3 x y z ts) (hV : VG n (esT ts)) :
    KP 42 [.ptr 1000 0 0 0, S [115, 97, 102, 101]] [.box 0 [I n, .i x, .i y, .i z]] = some (S ([115, 97, 102, 101] ++ numsT (lab n (bare (esT ts))) ++ [10]), [.box 0 [I n, .i x, .i y, .i z]], []) := by
  have hfx := h3.fx
  have hlx := h3.lx
  have hel := hV.2.2.1
  have hc := c_SafeParts n (esT ts) (by omega)
  rw [if_pos hV] at hc
  have hin : ∀ v ∈ lab n (bare (esT ts)), 0 ≤ v ∧ v < n := fun v hv => by
    rw [lab_map] at hv
    obtain ⟨i, hi, rfl⟩ := List.mem_map.1 hv
    have := lbl_spec (es := bare (esT ts)) (mem_iota.1 hi)
    exact this.1
  have hcl : (lab n (bare (esT ts))).length ≤ 16 := by
    have h4 := hV.2.1
    rw [lab_length]
    omega
  have hnt := c_numbersText [115, 97, 102, 101] (lab n (bare (esT ts))) (small_in hV.2.1 hin) (by simp) (by omega)
  generalize lab n (bare (esT ts)) = C at *
  generalize hR : ([115, 97, 102, 101] : List UInt8) ++ numsT C ++ [10] = R at *
  refine xw_call (fn := Tryz.f42) rfl Tryz.func42 rfl ⟨Nat.le_of_ble_eq_true rfl, rfl, rfl⟩ ?_
  repeat'(first|(refine na ?_;constructor)|(refine ite_two ?_ ?_<;>intro _<;>first|(exfalso;omega)|skip)|refine ord_split (by kernel_rfl) ?_|((first|(refine nb ?_;constructor)|refine pn rfl ?_|refine pe rfl ?_|((first|refine at2 ?_|refine at_cond ?_);split<;>first|(exfalso;omega;done)|skip))<;>try simp(config:={maxSteps:=3000000})(disch:=first|assumption|omega|exact VG.okg (by assumption)|(simp only[List.length_set,List.length_append,List.length_cons,List.length_nil,List.length_replicate];omega))only[go_sem,simprocAttr,Tryz.results42, hfx, hlx, hc, hnt]))
theorem c_wl_chains (n : Int) (x y z : IV) (ts : List Tl) (h3 : LV3 x y z ts) (hV : VG n (esT ts)) :
    KP 42 [.ptr 1000 0 0 0, S [99, 104, 97, 105, 110, 115]] [.box 0 [I n, .i x, .i y, .i z]] =
      some (S (linesT [99, 104, 97, 105, 110] (chainsL n (esT ts)) ++ [101, 110, 100, 10]), [.box 0 [I n, .i x, .i y, .i z]], []) := by
  have hfx := h3.fx
  have hlx := h3.lx
  have hel := hV.2.2.1
  have hc := c_ChainsOf n (esT ts) (by omega)
  rw [if_pos hV] at hc
  obtain ⟨hsk, hl⟩ := chains_small hV
  generalize chainsL n (esT ts) = C at *
  have hs : ∀ p ∈ C, smallL p := fun p hp => (hsk p hp).1
  have hk : ∀ p ∈ C, p.length ≤ 100 := fun p hp => by have := (hsk p hp).2; omega
  have hnt := c_listsText [99, 104, 97, 105, 110] C hs hk (by simp) (by omega)
  have hll := linesT_len [99, 104, 97, 105, 110] 100 C hk
  have hll2 : (linesT [99, 104, 97, 105, 110] C).length ≤ 640 * 306 := Nat.le_trans hll (Nat.mul_le_mul hl (by simp))
  generalize linesT [99, 104, 97, 105, 110] C = R at *
  refine xw_call (fn := Tryz.f42) rfl Tryz.func42 rfl ⟨Nat.le_of_ble_eq_true rfl, rfl, rfl⟩ ?_
  repeat'(first|(refine na ?_;constructor)|(refine ite_two ?_ ?_<;>intro _<;>first|(exfalso;omega)|skip)|refine ord_split (by kernel_rfl) ?_|((first|(refine nb ?_;constructor)|refine pn rfl ?_|refine pe rfl ?_|((first|refine at2 ?_|refine at_cond ?_);split<;>first|(exfalso;omega;done)|skip))<;>try simp(config:={maxSteps:=3000000})(disch:=first|assumption|omega|exact VG.okg (by assumption)|(simp only[List.length_set,List.length_append,List.length_cons,List.length_nil,List.length_replicate];omega))only[go_sem,simprocAttr,Tryz.results42, hfx, hlx, hc, hnt]))
end Go.Proofs.YtmocnnknnbalkaaGreatDoor.X

/- What functions compute: scripts that load a graph and give one or two orders. -/
set_option linter.unusedSimpArgs false
set_option linter.unusedVariables false
set_option maxHeartbeats 8000000
set_option maxRecDepth 100000
namespace Go.Proofs.YtmocnnknnbalkaaGreatDoor.X
open Go Go.Proofs
theorem gr_no {n : Int} {es : List (Int × Int)} (hV : VG n es) : (10 : UInt8) ∉ ([103, 114, 97, 112, 104, 32] : List UInt8) ++ fmtG n es := by
  obtain ⟨hs, m⟩ := hV.small
  rw [List.mem_append, not_or]
  exact ⟨by decide, fmtG_no m hs (by decide) (by decide) (by decide)⟩
theorem gr_line {n : Int} {es : List (Int × Int)} (hV : VG n es) : LineOK ([103, 114, 97, 112, 104, 32] ++ fmtG n es) 1 .emp .emp .emp [111, 107, 10] n (exI es.length (ldT es)) (eyI es.length (ldT es)) (ezI es.length (ldT es)) :=
  line_graph n es hV rfl 1 .emp .emp .emp [] LV3.emp
theorem ld3 {n : Int} {es : List (Int × Int)} (hV : VG n es) : LV3 (exI es.length (ldT es)) (eyI es.length (ldT es)) (ezI es.length (ldT es)) (ldT es) :=
  exyz fun h => by rw [List.length_eq_zero_iff.1 h]; rfl
end Go.Proofs.YtmocnnknnbalkaaGreatDoor.X

/- What functions compute: the reference's chains; chains that are round. -/
set_option linter.unusedSimpArgs false
set_option linter.unusedVariables false
set_option maxHeartbeats 8000000
set_option maxRecDepth 100000
namespace Go.Proofs.YtmocnnknnbalkaaGreatDoor.X
open Go Go.Proofs
theorem chF_len {n : Int} {es : List (Int × Int)} {S : Sr} (ho : ∀ e ∈ es, okE n e) (D : Dfs n es S) {bs : List (Int × Int)} (hg : ∀ b ∈ bs, Bk n es S b) : (chFold n S.par bs).1.length = n.toNat ∧ (chFold n S.par bs).2.length = bs.length := by
  have h1 := (CI.take ho D hg bs.length (Nat.le_refl _)).ln
  have h2 := chFold_out (n := n) (par := S.par) (bs := bs) bs.length (Nat.le_refl _)
  rw [List.take_length] at h1 h2
  exact ⟨h1, by rw [h2]; simp⟩
theorem bkOf_bkN {es : List (Int × Int)} {S : Sr} {u : Int} : bkOf es S u = (bkN es S u).map fun w => (u, w) := rfl
theorem c_l9Chains (n : Int) (es : List (Int × Int)) (hV : VG n es) : KP 18 [GL n es] [] = some (.ref 2000 0 0 (chainsL n es).length, [], [.arr 0 1 ((chainsL n es).map encL)]) := by
  have hs := c_l4Run n es hV
  obtain ⟨hl1, hl2⟩ := seek_lens hV
  have hbd := seek_bd hV
  have hord := seek_ord hV
  have ho := hV.okg.ok
  have hn1 := hV.1
  have hn16 := hV.2.1
  have hel := hV.2.2.1
  have D := seek_dfs ho hV.nodup (n := n) (by omega)
  have hbk : ∀ b ∈ backsL n es (seek n es), Bk n es (seek n es) b := fun b hb => (anc_bk hV hb).1
  have hch : chainsL n es = (chFold n (seek n es).par (backsL n es (seek n es))).2 := rfl
  rw [hch]
  have hor := c_l9Order n (seek n es) hn1 hn16 hl1 hbd
  have holn := ord_len n (seek n es).num
  have hbl := fun u hu => c_l9Back n es (seek n es) hV hl1 hl2 u hu
  have hbks : backsL n es (seek n es) = (ordL n (seek n es).num).flatMap (bkOf es (seek n es)) := rfl
  rw [hbks] at hbk ⊢
  generalize seek n es = S at *
  generalize hor2 : ordL n S.num = od at *
  have hodt : od.take n.toNat = od := List.take_of_length_le (by omega)
  refine xw_call (fn := Tryz.f18) rfl Tryz.func18 rfl ⟨Nat.le_of_ble_eq_true rfl, rfl, rfl⟩ ?_
  repeat'(first|(refine na ?_;constructor)|(refine ite_two ?_ ?_<;>intro _<;>first|(exfalso;omega)|skip)|refine ord_split (by kernel_rfl) ?_|((first|(refine nb ?_;constructor)|refine pn rfl ?_|refine pe rfl ?_|((first|refine at2 ?_|refine at_cond ?_);split<;>first|(exfalso;omega;done)|skip))<;>try simp(config:={maxSteps:=3000000})(disch:=first|assumption|omega|exact VG.okg (by assumption)|(simp only[List.length_set,List.length_append,List.length_cons,List.length_nil,List.length_replicate];omega))only[go_sem,simprocAttr,Tryz.results18, hs, hor, hodt]))
  refine xw_loopR (fun (x : Int × Nat × List Bool × List (List Int)) s => s.m 1 = some (.box 0 [I n, LE es]) ∧ s.ρ 1 = .ptr 1 0 0 0 ∧ s.m 4 = some (.box 0 [LI S.num, LI S.par, LI S.low]) ∧ s.ρ 4 = .ptr 4 0 0 0 ∧ s.m 12 = some (.arr x.2.1 1 (x.2.2.2.map encL)) ∧ s.ρ 3 = .ref 12 x.2.1 0 x.2.2.2.length ∧ s.m 17 = some (.arr 0 1 (x.2.2.1.map encT)) ∧ s.ρ 5 = .ref 17 0 0 n.toNat ∧ s.ρ 6 = LI od ∧ s.ρ 7 = I x.1 ∧
    (x.2.2.1, x.2.2.2) = chFold n S.par ((od.take x.1.toNat).flatMap (bkOf es S)) ∧ (x.2.2.2.length : Int) ≤ 40 * x.1 ∧ 0 ≤ x.1 ∧ x.1 ≤ n) (fun x => (n - x.1).toNat) (0, 0, fB n.toNat, []) ?_ ?_
  · exact ⟨rfl, rfl, rfl, rfl, rfl, rfl, by simp [upd, hl1], by simp [upd, hl1], rfl, rfl, rfl, by simp, by simp, by simp only; omega⟩
  rintro ⟨i, v, mk, outs⟩ ⟨ρ, m⟩ ⟨m1, e1, m4, e4, m12, e3, m17, e5, e6, e7, hf, hol, g0, g1⟩
  simp only at m1 e1 m4 e4 m12 e3 m17 e5 e6 e7 hf hol g0 g1
  have hpre : ∀ b ∈ (od.take i.toNat).flatMap (bkOf es S), Bk n es S b := fun b hb => by
    obtain ⟨u, hu, hb⟩ := List.mem_flatMap.1 hb
    exact hbk b (List.mem_flatMap.2 ⟨u, List.mem_of_mem_take hu, hb⟩)
  by_cases hi : i < n
  rotate_left
  · have hoe : (chFold n S.par (od.flatMap (bkOf es S))).2 = outs := by rw [take_all (by omega)] at hf; rw [← hf]
    rw [hoe]
    repeat'(first|(refine na ?_;constructor)|(refine ite_two ?_ ?_<;>intro _<;>first|(exfalso;omega)|skip)|refine ord_split (by kernel_rfl) ?_|((first|(refine nb ?_;constructor)|refine pn rfl ?_|refine pe rfl ?_|((first|refine at2 ?_|refine at_cond ?_);split<;>first|(exfalso;omega;done)|skip))<;>try simp(config:={maxSteps:=3000000})(disch:=first|assumption|omega|exact VG.okg (by assumption)|(simp only[List.length_set,List.length_append,List.length_cons,List.length_nil,List.length_replicate];omega))only[go_sem,simprocAttr,Tryz.results18, m1, e1, m4, e4, m12, e3, m17, e5, e6, e7]))
  have hum := getD_mem (d := 0) (show i.toNat < od.length by omega)
  have hu := hord _ hum
  have htk := take_int (l := od) (i := i) 0 g0 (by omega)
  have hgo := getI od i.toNat (by omega)
  generalize od.getD i.toNat 0 = u at hu htk hgo hum
  have hb1 := hbl u hu
  have hbl1 := bkOf_len es S u
  rw [bkOf_bkN, List.length_map] at hbl1
  have hinb : ∀ w ∈ bkN es S u, Bk n es S (u, w) := fun w hw => hbk (u, w) (List.mem_flatMap.2 ⟨u, hum, by rw [bkOf_bkN]; exact List.mem_map.2 ⟨w, hw, rfl⟩⟩)
  obtain ⟨u0, u1⟩ := id hu
  repeat'(first|(refine na ?_;constructor)|(refine ite_two ?_ ?_<;>intro _<;>first|(exfalso;omega)|skip)|refine ord_split (by kernel_rfl) ?_|((first|(refine nb ?_;constructor)|refine pn rfl ?_|refine pe rfl ?_|((first|refine at2 ?_|refine at_cond ?_);split<;>first|(exfalso;omega;done)|skip))<;>try simp(config:={maxSteps:=3000000})(disch:=first|assumption|omega|exact VG.okg (by assumption)|(simp only[List.length_set,List.length_append,List.length_cons,List.length_nil,List.length_replicate];omega))only[go_sem,simprocAttr,Tryz.results18, m1, e1, m4, e4, m12, e3, m17, e5, e6, e7, hgo, hb1]))
  refine xw_loopR (fun (x : Int × Nat × List Bool × List (List Int)) s => s.m 1 = some (.box 0 [I n, LE es]) ∧ s.ρ 1 = .ptr 1 0 0 0 ∧ s.m 4 = some (.box 0 [LI S.num, LI S.par, LI S.low]) ∧ s.ρ 4 = .ptr 4 0 0 0 ∧ s.m 12 = some (.arr x.2.1 1 (x.2.2.2.map encL)) ∧ s.ρ 3 = .ref 12 x.2.1 0 x.2.2.2.length ∧ s.m 17 = some (.arr 0 1 (x.2.2.1.map encT)) ∧ s.ρ 5 = .ref 17 0 0 n.toNat ∧ s.ρ 6 = LI od ∧ s.ρ 7 = I i ∧
    s.ρ 8 = LI (bkN es S u) ∧ s.ρ 9 = I x.1 ∧ (x.2.2.1, x.2.2.2) = chFold n S.par ((od.take i.toNat).flatMap (bkOf es S) ++ ((bkN es S u).take x.1.toNat).map fun w => (u, w)) ∧ (x.2.2.2.length : Int) ≤ 40 * i + x.1 ∧ 0 ≤ x.1 ∧ x.1 ≤ (bkN es S u).length) (fun x => ((bkN es S u).length - x.1).toNat) (0, v, mk, outs) ?_ ?_
  · exact ⟨m1, e1, m4, e4, m12, e3, m17, e5, e6, e7, rfl, rfl, by simpa using hf, by simp only; omega, by simp, by simp⟩
  rintro ⟨k, v, mk, outs⟩ ⟨ρ, m⟩ ⟨m1, e1, m4, e4, m12, e3, m17, e5, e6, e7, e8, e9, hf, hol, f0, f1⟩
  simp only at m1 e1 m4 e4 m12 e3 m17 e5 e6 e7 e8 e9 hf hol f0 f1
  have hpre2 : ∀ b ∈ (od.take i.toNat).flatMap (bkOf es S) ++ ((bkN es S u).take k.toNat).map (fun w => (u, w)), Bk n es S b := fun b hb => by
    rcases List.mem_append.1 hb with hb | hb
    · exact hpre b hb
    · obtain ⟨w, hw, rfl⟩ := List.mem_map.1 hb
      exact hinb w (List.mem_of_mem_take hw)
  have hmk := (chF_len ho D hpre2).1
  rw [← hf] at hmk
  simp only at hmk
  by_cases hk : k < (bkN es S u).length
  rotate_left
  · repeat'(first|(refine na ?_;constructor)|(refine ite_two ?_ ?_<;>intro _<;>first|(exfalso;omega)|skip)|refine ord_split (by kernel_rfl) ?_|((first|(refine nb ?_;constructor)|refine pn rfl ?_|refine pe rfl ?_|((first|refine at2 ?_|refine at_cond ?_);split<;>first|(exfalso;omega;done)|skip))<;>try simp(config:={maxSteps:=3000000})(disch:=first|assumption|omega|exact VG.okg (by assumption)|(simp only[List.length_set,List.length_append,List.length_cons,List.length_nil,List.length_replicate];omega))only[go_sem,simprocAttr,Tryz.results18, m1, e1, m4, e4, m12, e3, m17, e5, e6, e7, e8, e9]))
    refine ⟨i + 1, mk, outs, rfl, rfl, rfl, rfl, ?_, by omega, by omega, by omega, by omega⟩
    rw [htk, List.flatMap_append, hf, take_all (l := bkN es S u) (n := k.toNat) (by omega)]
    simp [bkOf_bkN]
  have hwm := getD_mem (d := 0) (show k.toNat < (bkN es S u).length by omega)
  have hB := hinb _ hwm
  have hge := getI (bkN es S u) k.toNat (by omega)
  have hsn : chFold n S.par ((od.take i.toNat).flatMap (bkOf es S) ++ ((bkN es S u).take (k + 1).toNat).map fun w => (u, w)) = ((chOne n S.par mk (u, (bkN es S u).getD k.toNat 0)).1, outs ++ [(chOne n S.par mk (u, (bkN es S u).getD k.toNat 0)).2]) := by
    rw [take_int 0 f0 hk, List.map_append, ← List.append_assoc]
    show chFold n S.par (_ ++ [_]) = _
    rw [chFold_snoc, ← hf]; rfl
  generalize (bkN es S u).getD k.toNat 0 = b1 at hB hge hsn
  have hA := hB.anc D
  obtain ⟨d0, d1⟩ := hB.z
  simp only at d0 d1 hA
  have hun := unm_le (mk.set u.toNat true)
  rw [List.length_set, hmk] at hun
  have hgb : gB (mk.set u.toNat true) u = true := by rw [gB_set hmk hu hu, if_pos rfl]
  repeat'(first|(refine na ?_;constructor)|(refine ite_two ?_ ?_<;>intro _<;>first|(exfalso;omega)|skip)|refine ord_split (by kernel_rfl) ?_|((first|(refine nb ?_;constructor)|refine pn rfl ?_|refine pe rfl ?_|((first|refine at2 ?_|refine at_cond ?_);split<;>first|(exfalso;omega;done)|skip))<;>try simp(config:={maxSteps:=3000000})(disch:=first|assumption|omega|exact VG.okg (by assumption)|(simp only[List.length_set,List.length_append,List.length_cons,List.length_nil,List.length_replicate];omega))only[go_sem,simprocAttr,Tryz.results18, m1, e1, m4, e4, m12, e3, m17, e5, e6, e7, e8, e9, hgo, hge, getT, setT]))
  refine xw_loopR (fun (x : Nat × Nat × List Bool × Int × List Int) s => s.m 1 = some (.box 0 [I n, LE es]) ∧ s.ρ 1 = .ptr 1 0 0 0 ∧ s.m 4 = some (.box 0 [LI S.num, LI S.par, LI S.low]) ∧ s.ρ 4 = .ptr 4 0 0 0 ∧ s.m 12 = some (.arr v 1 (outs.map encL)) ∧ s.ρ 3 = .ref 12 v 0 outs.length ∧ s.m 17 = some (.arr 0 1 (x.2.2.1.map encT)) ∧ s.ρ 5 = .ref 17 0 0 n.toNat ∧ s.ρ 6 = LI od ∧ s.ρ 7 = I i ∧ s.ρ 8 = LI (bkN es S u) ∧ s.ρ 9 = I k ∧
    s.m 53 = some (.arr x.2.1 1 (x.2.2.2.2.map encI)) ∧ s.ρ 10 = .ref 53 x.2.1 0 x.2.2.2.2.length ∧ s.ρ 11 = I x.2.2.2.1 ∧ x.2.2.1.length = n.toNat ∧ inR n x.2.2.2.1 ∧ Anc n S.par u x.2.2.2.1 ∧ gB x.2.2.1 u = true ∧ unm x.2.2.1 ≤ x.1 ∧ x.2.2.2.2.length + x.1 ≤ n.toNat + 2 ∧
    chW S.par x.1 x.2.2.1 x.2.2.2.1 x.2.2.2.2 = chOne n S.par mk (u, b1)) (fun x => x.1) (n.toNat, nv (m 53), mk.set u.toNat true, b1, [u, b1]) ?_ ?_
  · exact ⟨m1, e1, m4, e4, m12, e3, rfl, e5, e6, e7, e8, e9, rfl, rfl, rfl, by simpa using hmk, ⟨d0, d1⟩, hA, hgb, hun, by simp; omega, rfl⟩
  rintro ⟨f, w, mk', l, acc⟩ ⟨ρ, m⟩ ⟨m1, e1, m4, e4, m12, e3, m17, e5, e6, e7, e8, e9, m53, e10, e11, k1, k2, k3, k4, k5, k6, k7⟩
  simp only at m1 e1 m4 e4 m12 e3 m17 e5 e6 e7 e8 e9 m53 e10 e11 k1 k2 k3 k4 k5 k6 k7
  obtain ⟨l0, l1⟩ := id k2
  by_cases hm : gB mk' l = true
  · have hm' : mk'.getD l.toNat false = true := hm
    rw [chW_stop hm] at k7
    rw [← k7] at hsn
    simp only at hsn
    repeat'(first|(refine na ?_;constructor)|(refine ite_two ?_ ?_<;>intro _<;>first|(exfalso;omega)|skip)|refine ord_split (by kernel_rfl) ?_|((first|(refine nb ?_;constructor)|refine pn rfl ?_|refine pe rfl ?_|((first|refine at2 ?_|refine at_cond ?_);split<;>first|(exfalso;omega;done)|skip))<;>try simp(config:={maxSteps:=3000000})(disch:=first|assumption|omega|exact VG.okg (by assumption)|(simp only[List.length_set,List.length_append,List.length_cons,List.length_nil,List.length_replicate];omega))only[go_sem,simprocAttr,Tryz.results18, m1, e1, m4, e4, m12, e3, m17, e5, e6, e7, e8, e9, m53, e10, e11, getT, hm', appL]))
    exact ⟨k + 1, mk', outs ++ [acc], rfl, by simp, rfl, rfl, hsn.symm, by rw [List.length_append, List.length_singleton]; omega, by omega, by omega, by omega⟩
  have hmf : gB mk' l = false := by simpa using hm
  have hm' : mk'.getD l.toNat false = false := hmf
  have hne : u ≠ l := fun e => hm (e ▸ k4)
  obtain ⟨hp, ha'⟩ := D.above k3 hne
  have hun := unm_set (mk := mk') (i := l.toNat) (by omega) (by simpa [gB] using hmf)
  rw [chW_go hmf (by omega)] at k7
  have hgp : S.par.getD l.toNat 0 = gI S.par l := rfl
  have hk4 : gB (mk'.set l.toNat true) u = true := by rw [gB_set k1 k2 hu, if_neg (Ne.symm hne)]; exact k4
  generalize gI S.par l = p at hp ha' k7 hgp
  repeat'(first|(refine na ?_;constructor)|(refine ite_two ?_ ?_<;>intro _<;>first|(exfalso;omega)|skip)|refine ord_split (by kernel_rfl) ?_|((first|(refine nb ?_;constructor)|refine pn rfl ?_|refine pe rfl ?_|((first|refine at2 ?_|refine at_cond ?_);split<;>first|(exfalso;omega;done)|skip))<;>try simp(config:={maxSteps:=3000000})(disch:=first|assumption|omega|exact VG.okg (by assumption)|(simp only[List.length_set,List.length_append,List.length_cons,List.length_nil,List.length_replicate];omega))only[go_sem,simprocAttr,Tryz.results18, m1, e1, m4, e4, m12, e3, m17, e5, e6, e7, e8, e9, m53, e10, e11, getT, setT, hm', hgp, hl2]))
  first
    | exact ⟨f - 1, w + 1, mk'.set l.toNat true, rfl, rfl, rfl, by simpa using k1, hp, ha', hk4, by omega, by omega, k7, by omega⟩
    | exact ⟨by simpa using k1, hp, ha', hk4, f - 1, by omega, by omega, k7, by omega⟩
theorem c_sChainsOf (n : Int) (es : List (Int × Int)) (hl : es.length ≤ 1000) : KP 7 [GL n es] [] = some (if VG n es then (LL (chainsL n es), [], []) else (.ref 2000 0 0 0, [], [.arr 0 1 []])) := by
  by_cases hV : VG n es
  · rw [if_pos hV]
    have h := c_l9Chains n es hV
    refine xw_call (fn := Tryz.f7) rfl Tryz.func7 rfl ⟨Nat.le_of_ble_eq_true rfl, rfl, rfl⟩ ?_
    repeat'(first|(refine na ?_;constructor)|(refine ite_two ?_ ?_<;>intro _<;>first|(exfalso;omega)|skip)|refine ord_split (by kernel_rfl) ?_|((first|(refine nb ?_;constructor)|refine pn rfl ?_|refine pe rfl ?_|((first|refine at2 ?_|refine at_cond ?_);split<;>first|(exfalso;omega;done)|skip))<;>try simp(config:={maxSteps:=3000000})(disch:=first|assumption|omega|exact VG.okg (by assumption)|(simp only[List.length_set,List.length_append,List.length_cons,List.length_nil,List.length_replicate];omega))only[go_sem,simprocAttr,Tryz.results7, h]))
  · rw [if_neg hV]
    refine xw_call (fn := Tryz.f7) rfl Tryz.func7 rfl ⟨Nat.le_of_ble_eq_true rfl, rfl, rfl⟩ ?_
    repeat'(first|(refine na ?_;constructor)|(refine ite_two ?_ ?_<;>intro _<;>first|(exfalso;omega)|skip)|refine ord_split (by kernel_rfl) ?_|((first|(refine nb ?_;constructor)|refine pn rfl ?_|refine pe rfl ?_|((first|refine at2 ?_|refine at_cond ?_);split<;>first|(exfalso;omega;done)|skip))<;>try simp(config:={maxSteps:=3000000})(disch:=first|assumption|omega|exact VG.okg (by assumption)|(simp only[List.length_set,List.length_append,List.length_cons,List.length_nil,List.length_replicate];omega))only[go_sem,simprocAttr,Tryz.results7]))
/-- The numbers of chains that are round. -/
noncomputable def rdL (n : Int) (es : List (Int × Int)) : List Int := if VG n es then roundsL n es (chainsL n es).length else []
end Go.Proofs.YtmocnnknnbalkaaGreatDoor.X

/- What functions compute: lists of lists are compared. -/
set_option linter.unusedSimpArgs false
set_option linter.unusedVariables false
set_option maxHeartbeats 8000000
set_option maxRecDepth 100000
namespace Go.Proofs.YtmocnnknnbalkaaGreatDoor.X
open Go Go.Proofs
theorem c_dyListsA (ps qs : List (List Int)) (hl : ps.length ≤ 1048576) (hp : ∀ p ∈ ps, p.length ≤ 1048576) : KP 6 [LL ps, LL qs] [] = some (B (decide (ps = qs)), [], []) := by
  refine xw_call (fn := Tryz.f6) rfl Tryz.func6 rfl ⟨Nat.le_of_ble_eq_true rfl, rfl, rfl⟩ ?_
  by_cases hle : ps.length = qs.length
  rotate_left
  · have hne : ps ≠ qs := fun h => hle (by rw [h])
    repeat'(first|(refine na ?_;constructor)|(refine ite_two ?_ ?_<;>intro _<;>first|(exfalso;omega)|skip)|refine ord_split (by kernel_rfl) ?_|((first|(refine nb ?_;constructor)|refine pn rfl ?_|refine pe rfl ?_|((first|refine at2 ?_|refine at_cond ?_);split<;>first|(exfalso;omega;done)|skip))<;>try simp(config:={maxSteps:=3000000})(disch:=first|assumption|omega|exact VG.okg (by assumption)|(simp only[List.length_set,List.length_append,List.length_cons,List.length_nil,List.length_replicate];omega))only[go_sem,simprocAttr,Tryz.results6]))
    simp [hne]
  repeat'(first|(refine na ?_;constructor)|(refine ite_two ?_ ?_<;>intro _<;>first|(exfalso;omega)|skip)|refine ord_split (by kernel_rfl) ?_|((first|(refine nb ?_;constructor)|refine pn rfl ?_|refine pe rfl ?_|((first|refine at2 ?_|refine at_cond ?_);split<;>first|(exfalso;omega;done)|skip))<;>try simp(config:={maxSteps:=3000000})(disch:=first|assumption|omega|exact VG.okg (by assumption)|(simp only[List.length_set,List.length_append,List.length_cons,List.length_nil,List.length_replicate];omega))only[go_sem,simprocAttr,Tryz.results6]))
  refine xw_loopR (fun (i : Int) s => s.ρ 0 = LL ps ∧ s.ρ 1 = LL qs ∧ s.ρ 5 = I i ∧ 0 ≤ i ∧ i ≤ ps.length ∧ ps.take i.toNat = qs.take i.toNat) (fun i => (ps.length - i).toNat) 0 ⟨rfl, rfl, rfl, by simp, by simp, by simp⟩ ?_
  rintro i ⟨ρ, m⟩ ⟨h0, h1, h5, g0, g1, g2⟩
  simp only at h0 h1 h5 g0 g1 g2
  by_cases hj : i < ps.length
  · have hm := getD_mem (d := []) (show i.toNat < ps.length by omega)
    have hd := c_dyInts (ps.getD i.toNat []) (qs.getD i.toNat []) (hp _ hm)
    by_cases he : ps.getD i.toNat [] = qs.getD i.toNat []
    · rw [decide_eq_true he] at hd
      repeat'(first|(refine na ?_;constructor)|(refine ite_two ?_ ?_<;>intro _<;>first|(exfalso;omega)|skip)|refine ord_split (by kernel_rfl) ?_|((first|(refine nb ?_;constructor)|refine pn rfl ?_|refine pe rfl ?_|((first|refine at2 ?_|refine at_cond ?_);split<;>first|(exfalso;omega;done)|skip))<;>try simp(config:={maxSteps:=3000000})(disch:=first|assumption|omega|exact VG.okg (by assumption)|(simp only[List.length_set,List.length_append,List.length_cons,List.length_nil,List.length_replicate];omega))only[go_sem,simprocAttr,Tryz.results6, h0, h1, h5, hd]))
      refine ⟨by omega, by omega, ?_, by omega⟩
      rw [take_int [] g0 (by omega), take_int [] g0 (by omega), g2, he]
    · rw [decide_eq_false he] at hd
      repeat'(first|(refine na ?_;constructor)|(refine ite_two ?_ ?_<;>intro _<;>first|(exfalso;omega)|skip)|refine ord_split (by kernel_rfl) ?_|((first|(refine nb ?_;constructor)|refine pn rfl ?_|refine pe rfl ?_|((first|refine at2 ?_|refine at_cond ?_);split<;>first|(exfalso;omega;done)|skip))<;>try simp(config:={maxSteps:=3000000})(disch:=first|assumption|omega|exact VG.okg (by assumption)|(simp only[List.length_set,List.length_append,List.length_cons,List.length_nil,List.length_replicate];omega))only[go_sem,simprocAttr,Tryz.results6, h0, h1, h5, hd]))
      symm; rw [decide_eq_false_iff_not]
      exact fun k => he (by rw [k])
  · repeat'(first|(refine na ?_;constructor)|(refine ite_two ?_ ?_<;>intro _<;>first|(exfalso;omega)|skip)|refine ord_split (by kernel_rfl) ?_|((first|(refine nb ?_;constructor)|refine pn rfl ?_|refine pe rfl ?_|((first|refine at2 ?_|refine at_cond ?_);split<;>first|(exfalso;omega;done)|skip))<;>try simp(config:={maxSteps:=3000000})(disch:=first|assumption|omega|exact VG.okg (by assumption)|(simp only[List.length_set,List.length_append,List.length_cons,List.length_nil,List.length_replicate];omega))only[go_sem,simprocAttr,Tryz.results6, h0, h1, h5]))
    symm; rw [decide_eq_true_iff]
    rw [take_all (by omega), take_all (by omega)] at g2
    exact g2
theorem c_dyListsA_nil : KP 6 [.i (.lst []), .i (.lst [])] [] = some (B true, [], []) := c_dyListsA [] [] (by simp) (by simp)
end Go.Proofs.YtmocnnknnbalkaaGreatDoor.X
