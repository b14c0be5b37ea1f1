/- slices.SortFunc at edges, out of the kit's contract. -/
import Derived.Test.YteknfomddncboaaCmpW
import Derived.Test.YteknfomddncboaaPrimS
import Derived.Test.YteknfomddncboaaShelf
set_option linter.unusedSimpArgs false
set_option linter.unusedVariables false
set_option linter.unusedVariables false
namespace Go.Proofs.Yteknfomddncboaa.X
open Go Go.Proofs Go.RowKit Go.Sort
def encEv (x : Int × Int) : List Value := [.int .i64 x.1, .int .i64 x.2]
theorem lt_leE (x y : Int × Int) : ltOf (fun x y : Int × Int => cmpE x.1 x.2 y.1 y.2) x y = decide (x.1 < y.1 ∨ (x.1 = y.1 ∧ x.2 < y.2)) := by
  unfold ltOf cmpE cmpI
  by_cases h1 : x.1 < y.1
  · simp [h1]
  · by_cases h2 : y.1 < x.1
    · have : ¬ x.1 = y.1 := by omega
      simp [h1, h2, this]
    · have e : x.1 = y.1 := by omega
      by_cases h3 : x.2 < y.2
      · simp [e, h3]
      · by_cases h4 : y.2 < x.2 <;> simp [e, h3, h4]
theorem swoE : SWO (ltOf fun x y : Int × Int => cmpE x.1 x.2 y.1 y.2) where
  irrefl x := by rw [lt_leE]; simp
  trans x y z h1 h2 := by rw [lt_leE, decide_eq_true_eq] at *; omega
  ntrans x y z h1 h2 := by rw [lt_leE, decide_eq_false_iff_not] at *; omega
theorem not_lt (x y : Int × Int) : (!(ltOf (fun x y : Int × Int => cmpE x.1 x.2 y.1 y.2)) y x) = leE x y := by
  rw [lt_leE, leE, Bool.eq_iff_iff]
  simp only [Bool.not_eq_true', decide_eq_false_iff_not, decide_eq_true_eq]
  omega
theorem sortFW (blk off cap : Nat) (d : Array (Int × Int)) (w : World) (hH : HoldsK encEv 2 w blk off d) (hblk : blk < w.heap.size) (hsz : d.size < 4611686018427387904) :
    Calls Try.prog 141 #[.slice (some ⟨blk, off, none⟩) d.size cap, .func (.func 109) #[] #[]] w fun e w' => e = .returned (.tuple #[]) ∧ ∃ n os, w' = sortWorldK encEv 2 w blk off n (d.toList.mergeSort fun x y => leE x y).toArray os := by
  have eg : ∀ args w, (callFunc 109 args).run Try.prog w = .ok (.enter 109 args) w := enters_of Try.func109 rfl rfl
  have hcon := AnyQ.slices_SortFunc_total Try.sortE 2 Try.isAgg37 Try.sizeOf37 encEv (fun _ => rfl) (fun x v hv => by simp [encEv] at hv; rcases hv with rfl | rfl <;> rfl) (fun x y => cmpE x.1 x.2 y.1 y.2) swoE 109 #[] blk off cap d w eg
    (fun m os dk hs x y => cmpE_w x y _) hH hblk hsz (fun x y h1 h2 => by rw [lt_leE, decide_eq_false_iff_not] at h1 h2; exact Prod.ext (by omega) (by omega))
  simp only [not_lt] at hcon
  exact hcon
theorem isEd_all {xs : List (List IV)} (h : xs.all isEd = true) : xs = (xs.map keyE).map encE := by
  induction xs with
  | nil => rfl
  | cons x r ih =>
    simp only [List.all_cons, Bool.and_eq_true] at h
    rw [List.map_cons, List.map_cons, ← ih h.2]
    congr 1
    have h1 := h.1
    unfold isEd at h1
    split at h1
    · rfl
    · cases h1
theorem sortF_ok {args : List PV} {ps : List Arr} {r : PV} {ps' own : List Arr} (h : sortFP 109 args ps = some (r, ps', own)) {γ : Nat → GB} {F : Nat → Prop} {w : World} {vals : List Value} (hi : Inv (mp ps) γ F w) (hl : args.length = vals.length)
    (hv : ∀ (j : Nat) (p : PV) (v : Value), args[j]? = some p → vals[j]? = some v → RepP (mp ps) γ F w p v) : Calls Try.prog 141 vals.toArray w (CallPost ps ps' own r γ F w) := by
  have ht : ∀ (ps : List Arr) (γ : Nat → GB) (F : Nat → Prop) (w : World), RepP (mp ps) γ F w (.tup []) (.tuple #[]) := fun ps γ F w => .tup [] [] rfl fun j p v h => by simp at h
  unfold sortFP at h
  split at h
  · rename_i n f xs
    split at h
    rotate_left
    · cases h
    rename_i hc
    obtain ⟨rfl, rfl, hlim, hall⟩ := hc
    cases h
    match vals, hl with
    | [v, u], _ =>
    have hr := hv 0 _ _ rfl rfl
    have hf := hv 1 _ _ rfl rfl
    cases hf with
    | fn _ _ _ ca cb e1 e2 _ _ =>
    have hca : ca = [] := List.eq_nil_of_length_eq_zero (by simpa using e1.symm)
    have hcb : cb = [] := List.eq_nil_of_length_eq_zero (by simpa using e2.symm)
    subst hca hcb
    cases hr with
    | ref s ver off len ao cap A g1 g2 g3 =>
    obtain ⟨-, rfl⟩ := mp_one g1
    obtain ⟨q1, q2, q3, q4⟩ := g3 rfl
    obtain ⟨cur, E, hb, hsz, hxc, hmx, hcell⟩ := hi.holds 1000 _ g1
    generalize hzs : xs.map keyE = zs
    have hx : xs = zs.map encE := by rw [← hzs]; exact isEd_all hall
    subst hx
    have hlen : (zs.map encE).length = zs.length := by simp
    rw [hlen]
    rw [hlen] at hxc q1
    have hsort : sortF (zs.map encE) = (zs.mergeSort fun x y => leE x y).map encE := by
      unfold sortF
      rw [List.map_mergeSort]
      intro a _ b _
      rfl
    rw [hsort]
    cases hz : zs with
    | nil =>
      refine (Try.slices_SortFunc_none_E ao cap _ w).mono fun e w' he => ?_
      obtain ⟨rfl, rfl⟩ := he
      subst hz
      have e0 : (([] : List (Int × Int)).mergeSort fun x y => leE x y) = [] := by simp
      rw [e0]
      exact stays mq_mp1 hi (ht _ _ _ _)
    | cons z0 zr =>
    have hpos : 0 < zs.length := by rw [hz]; simp
    rw [← hz]
    have hao := q4 (by omega)
    rw [Nat.add_zero] at hao
    subst hao
    have hget : ∀ i j, (hi' : i < zs.length) → (hj : j < 2) → cur[((γ 1000).b + i) * 2 + j]? = some ((encEv zs[i])[j]'(by simpa [encEv] using hj)) := by
      intro i j hi' hj
      obtain ⟨_, hc⟩ := hcell i (encE zs[i]) (by simp [hi'])
      match j, hj with
      | 0, _ =>
        obtain ⟨x, hx, _, hrep⟩ := hc 0 (.v (.int .i64 zs[i].1)) rfl
        cases hrep
        exact hx
      | 1, _ =>
        obtain ⟨x, hx, _, hrep⟩ := hc 1 (.v (.int .i64 zs[i].2)) rfl
        cases hrep
        exact hx
    have hflat : ∀ (S : List (Int × Int)) (i j : Nat), (hi' : i < S.length) → (hj : j < 2) → (flatK encEv 2 S.toArray)[i * 2 + j]! = (encEv S[i])[j]'(by simpa [encEv] using hj) := by
      intro S i j hi' hj
      rw [get_flatK _ _ _ _ (by simp; omega)]
      have d1 : (i * 2 + j) / 2 = i := by omega
      have d2 : (i * 2 + j) % 2 = j := by omega
      rw [d1, d2]
      simp only [List.getElem!_toArray, hi', getElem!_pos]
      rw [getElem!_pos]
    have hH : HoldsK encEv 2 w (γ 1000).g ((γ 1000).b * 2) zs.toArray := by
      intro p hp
      simp only [size_flatK, List.size_toArray] at hp
      have e1 : p = (p / 2) * 2 + p % 2 := by omega
      refine ⟨?_, ?_⟩
      · have := hflat zs (p / 2) (p % 2) (by omega) (by omega)
        rw [← e1] at this
        rw [this]
        simp only [World.cell?, hb, Option.isSome_none, Bool.false_eq_true, if_false]
        have := hget (p / 2) (p % 2) (by omega) (by omega)
        rw [show ((γ 1000).b + p / 2) * 2 + p % 2 = (γ 1000).b * 2 + p by omega] at this
        exact this
      · simp [World.frozen?, hb]
    have hmax : maxLen < 9223372036854775808 := by decide
    have hglt : (γ 1000).g < w.heap.size := (Array.getElem?_eq_some_iff.1 hb).1
    have hcon := sortFW (γ 1000).g ((γ 1000).b * 2) cap zs.toArray w hH hglt (by rw [hlen] at hlim; simp; omega)
    simp only [List.size_toArray] at hcon
    refine hcon.mono fun e w' he => ?_
    obtain ⟨rfl, k, os, rfl⟩ := he
    have hss : (zs.mergeSort fun x y => leE x y).length = zs.length := List.length_mergeSort _
    generalize (zs.mergeSort fun x y => leE x y) = S at hss
    have hblk : ∀ b, b < w.heap.size → b ≠ (γ 1000).g → (sortWorldK encEv 2 w (γ 1000).g ((γ 1000).b * 2) k S.toArray os).heap[b]? = w.heap[b]? := by
      intro b hb' hne
      simp only [sortWorldK, putRowK, grow, putRow, mapBlock, Sort.ahead, Array.getElem?_append, Array.size_modify, hb', if_true, Array.getElem?_modify]
      rw [if_neg (fun h => hne h.symm)]
    have hown : (sortWorldK encEv 2 w (γ 1000).g ((γ 1000).b * 2) k S.toArray os).heap[(γ 1000).g]? = some (.cells (putCells id ((γ 1000).b * 2) (flatK encEv 2 S.toArray) cur) E (0, 0)) := by
      simp only [sortWorldK, putRowK, grow, putRow, mapBlock, Sort.ahead, Array.getElem?_append, Array.size_modify, hglt, if_true, Array.getElem?_modify, hb, Option.map_some, onCells]
    have hsize : w.heap.size ≤ (sortWorldK encEv 2 w (γ 1000).g ((γ 1000).b * 2) k S.toArray os).heap.size := by
      simp [sortWorldK, putRowK, grow, putRow, mapBlock, Sort.ahead]
    have hos : (sortWorldK encEv 2 w (γ 1000).g ((γ 1000).b * 2) k S.toArray os).os = w.os := rfl
    have htape : (sortWorldK encEv 2 w (γ 1000).g ((γ 1000).b * 2) k S.toArray os).tape = w.tape := rfl
    have hout : (sortWorldK encEv 2 w (γ 1000).g ((γ 1000).b * 2) k S.toArray os).output = w.output := rfl
    generalize sortWorldK encEv 2 w (γ 1000).g ((γ 1000).b * 2) k S.toArray os = w' at *
    refine ⟨_, γ, F, rfl, rfl, ?_, ?_, fun _ h => h, fun _ h => .inl h, ?_, by rw [mq_mp1]; exact ht _ _ _ _⟩
    · rw [mq_mp1]
      refine ⟨fun s A h => ?_, fun s A h => ?_, fun s s' A A' h h' _ _ _ => ?_, fun b h => Nat.lt_of_lt_of_le (hi.bound b h) hsize⟩
      · obtain ⟨rfl, rfl⟩ := mp_one h
        refine ⟨_, E, hown, by simpa [putCells] using hsz, by simp; omega, hmx, fun i e he => ?_⟩
        rw [List.getElem?_map] at he
        cases hSi : S[i]? with
        | none => rw [hSi] at he; cases he
        | some z =>
          rw [hSi] at he
          cases he
          refine ⟨rfl, fun j p hj => ?_⟩
          have hil : i < S.length := (List.getElem?_eq_some_iff.1 hSi).1
          have hSe : S[i] = z := (List.getElem?_eq_some_iff.1 hSi).2
          have hfl := fun j hj => hflat S i j hil hj
          rw [hSe] at hfl
          have put : ∀ j, (hj : j < 2) → (putCells id ((γ 1000).b * 2) (flatK encEv 2 S.toArray) cur)[((γ 1000).b + i) * 2 + j]? = some ((encEv z)[j]'(by simpa [encEv] using hj)) := fun j hj => by
            have hcur := hget i j (by omega) hj
            simp only [putCells, Array.getElem?_mapIdx, hcur, Option.map_some, size_flatK, List.size_toArray, id]
            rw [if_pos ⟨by omega, by omega⟩, show ((γ 1000).b + i) * 2 + j - (γ 1000).b * 2 = i * 2 + j by omega, hfl j hj]
          match j, hj with
          | 0, hj => cases hj; exact ⟨.int .i64 z.1, put 0 (by omega), rfl, .v _⟩
          | 1, hj => cases hj; exact ⟨.int .i64 z.2, put 1 (by omega), rfl, .v _⟩
          | j + 2, hj => cases hj
      · obtain ⟨rfl, rfl⟩ := mp_one h
        exact fun _ => hi.notF 1000 _ g1 trivial
      · rw [(mp_one h).1, (mp_one h').1]
    · rw [mq_mp1]
      intro s A h
      obtain ⟨rfl, rfl⟩ := mp_one h
      exact ⟨_, rfl, Nat.le_refl _, fun _ => ⟨⟨rfl, by simp [hss]⟩, rfl⟩⟩
    · rw [mq_mp1]
      refine ⟨hos, htape, hout, hsize, fun b hb' hn => hblk b hb' fun he => hn 1000 _ g1 trivial he.symm, fun s A h _ => ?_⟩
      obtain ⟨rfl, rfl⟩ := mp_one h
      exact .inl ⟨_, g1, trivial, rfl⟩
  · rename_i f
    split at h
    rotate_left
    · cases h
    rename_i hc
    subst hc
    cases h
    match vals, hl with
    | [v, u], _ =>
      have := hv 0 _ _ rfl rfl
      cases this with
      | i h => cases h with
        | emp ao =>
          refine (Try.slices_SortFunc_none_E ao 0 u w).mono fun e w' he => ?_
          obtain ⟨rfl, rfl⟩ := he
          exact stays mq_mp0 hi (ht _ _ _ _)
  · cases h
end Go.Proofs.Yteknfomddncboaa.X
