/- compareEdges: the walk. -/
import Derived.Test.YteknfomddncboaaKB
import Derived.Test.YteknfomddncboaaTab
import Derived.WalkKit
import Derived.ProofKit
import Derived.OwnWalk
import Derived.StillTailTactics
import Derived.Shelf.RegionOpenPlain
import Derived.Shelf.SlSortCmp.NoneTotal
set_option linter.unusedSimpArgs false
set_option linter.unusedVariables false
set_option linter.unusedVariables false
namespace Go.Proofs.Yteknfomddncboaa.X
open Go Go.Proofs Go.RowKit Go.Sort
set_option maxHeartbeats 4000000 in
theorem isnan_w (x : Int) (W : World) : Calls Try.prog 161 #[.int .i64 x] W fun e w' => e = .returned (.bool false) ∧ w' = W := by
  go_enter Try.func161, Try.ntmps161
  go_wp2
  go_ret
  exact ⟨rfl, rfl⟩
set_option maxHeartbeats 4000000 in
theorem compare_w (x y : Int) (W : World) : Calls Try.prog 148 #[.int .i64 x, .int .i64 y] W fun e w' => e = .returned (.int .i64 (cmpI x y)) ∧ w' = W := by
  have hn := isnan_w
  unfold cmpI
  by_cases h1 : x < y
  · rw [if_pos h1]
    go_enter Try.func148, Try.ntmps148
    go_wp2_with (go_at_call 161; refine (hn _ _).mono ?_; rintro e w' ⟨rfl, rfl⟩)
    go_ret
    exact ⟨rfl, rfl⟩
  · rw [if_neg h1]
    by_cases h2 : y < x
    · rw [if_pos h2]
      go_enter Try.func148, Try.ntmps148
      go_wp2_with (go_at_call 161; refine (hn _ _).mono ?_; rintro e w' ⟨rfl, rfl⟩)
      go_ret
      exact ⟨rfl, rfl⟩
    · rw [if_neg h2]
      go_enter Try.func148, Try.ntmps148
      go_wp2_with (go_at_call 161; refine (hn _ _).mono ?_; rintro e w' ⟨rfl, rfl⟩)
      go_ret
      exact ⟨rfl, rfl⟩
set_option maxHeartbeats 4000000 in
theorem or_w (a b : Int) (g o c : Nat) (W : World) (h1 : W.cell? ⟨g, o, none⟩ = some (.int .i64 a)) (h2 : W.cell? ⟨g, o + 1, none⟩ = some (.int .i64 b)) :
    Calls Try.prog 147 #[.slice (some ⟨g, o, none⟩) 2 c] W fun e w' => e = .returned (.int .i64 (if a = 0 then b else a)) ∧ w' = W := by
  by_cases ha : a = 0
  · subst ha
    rw [if_pos rfl]
    by_cases hb : b = 0
    · subst hb
      go_enter Try.func147, Try.ntmps147
      go_wp2
      refine wp_loop_rounds 3 ?_
      rw [rounds_succ]
      go_wp2
      rw [rounds_succ]
      go_wp2
      rw [rounds_succ]
      go_wp2
      go_ret
      exact ⟨rfl, rfl⟩
    · go_enter Try.func147, Try.ntmps147
      go_wp2
      refine wp_loop_rounds 3 ?_
      rw [rounds_succ]
      go_wp2
      rw [rounds_succ]
      go_wp2
      go_ret
      exact ⟨rfl, rfl⟩
  · rw [if_neg ha]
    go_enter Try.func147, Try.ntmps147
    go_wp2
    refine wp_loop_rounds 3 ?_
    rw [rounds_succ]
    go_wp2
    go_ret
    exact ⟨rfl, rfl⟩
set_option maxHeartbeats 4000000 in
set_option maxRecDepth 100000 in
theorem cmpE_w (x y : Int × Int) (W : World) : Calls Try.prog 109 #[.agg #[.int .i64 x.1, .int .i64 x.2], .agg #[.int .i64 y.1, .int .i64 y.2]] W fun e w' => e = .returned (.int .i64 (cmpE x.1 x.2 y.1 y.2)) ∧ ∃ q os', w' = grow (W.drewN q) os' := by
  have mixed : Try.prog.follows .mixedOrders = true := by kernel_rfl
  have hc := compare_w
  unfold cmpE
  generalize hr1 : cmpI x.1 y.1 = r1
  generalize hr2 : cmpI x.2 y.2 = r2
  have hc1 := fun W => hc x.1 y.1 W
  have hc2 := fun W => hc x.2 y.2 W
  rw [hr1] at hc1
  rw [hr2] at hc2
  have ho := fun g o c W h1 h2 => or_w r1 r2 g o c W h1 h2
  generalize hr : (if r1 = 0 then r2 else r1) = r at ho ⊢
  go_enter Try.func109, Try.ntmps109
  go_wp2
  have k1 : ((W.alloc (Obj.cells #[Value.int IntKind.i64 x.1, Value.int IntKind.i64 x.2] 37)).alloc (Obj.cells #[Value.int IntKind.i64 y.1, Value.int IntKind.i64 y.2] 37)).cell? ⟨W.heap.size, 0, none⟩ = some (.int .i64 x.1) := by go_simp
  have k2 : ((W.alloc (Obj.cells #[Value.int IntKind.i64 x.1, Value.int IntKind.i64 x.2] 37)).alloc (Obj.cells #[Value.int IntKind.i64 y.1, Value.int IntKind.i64 y.2] 37)).cell? ⟨W.heap.size, 1, none⟩ = some (.int .i64 x.2) := by go_simp
  have k3 : ((W.alloc (Obj.cells #[Value.int IntKind.i64 x.1, Value.int IntKind.i64 x.2] 37)).alloc (Obj.cells #[Value.int IntKind.i64 y.1, Value.int IntKind.i64 y.2] 37)).cell? ⟨W.heap.size + 1, 0, none⟩ = some (.int .i64 y.1) := by go_simp
  have k4 : ((W.alloc (Obj.cells #[Value.int IntKind.i64 x.1, Value.int IntKind.i64 x.2] 37)).alloc (Obj.cells #[Value.int IntKind.i64 y.1, Value.int IntKind.i64 y.2] 37)).cell? ⟨W.heap.size + 1, 1, none⟩ = some (.int .i64 y.2) := by go_simp
  have k5 : ∃ os', ((W.alloc (Obj.cells #[Value.int IntKind.i64 x.1, Value.int IntKind.i64 x.2] 37)).alloc (Obj.cells #[Value.int IntKind.i64 y.1, Value.int IntKind.i64 y.2] 37)) = grow W os' := ⟨_, by rw [alloc_eq_grow, alloc_eq_grow, grow_grow]⟩
  generalize (W.alloc (Obj.cells #[Value.int IntKind.i64 x.1, Value.int IntKind.i64 x.2] 37)).alloc (Obj.cells #[Value.int IntKind.i64 y.1, Value.int IntKind.i64 y.2] 37) = W2 at *
  refine wp_region_still_tail 10 mixed (by kernel_rfl) ?_
  simp only [List.take_succ_cons, List.take_zero, List.drop_succ_cons, List.drop_zero]
  still_step
  still_step
  still_step
  still_step
  still_call (hc1 _)
  still_step
  still_step
  still_step
  still_step
  still_call (hc2 _)
  refine wpStill_nil ?_
  change wpList _ _ _ _ _ W2.drew
  go_wp2_with (go_at_call 147; refine (ho _ _ _ _ (by go_simp) (by go_simp)).mono ?_; rintro e w' ⟨rfl, rfl⟩)
  go_ret
  obtain ⟨os', rfl⟩ := k5
  exact ⟨rfl, 1, os' ++ #[_], by rw [alloc_eq_grow, grow_grow]; rfl⟩
end Go.Proofs.Yteknfomddncboaa.X
