/- The interpreter without fuel: calls in the limit, and rules for code. -/
import Derived.Test.YtnobgdgnncfcpaaAll
namespace Go.Proofs.Ytnobgdgnncfcpaa.X
open Go

def Ev (p : Nat → Prop) : Prop := ∃ N, ∀ n, N ≤ n → p n
theorem Ev.all {p : Nat → Prop} (h : ∀ n, p n) : Ev p := ⟨0, fun n _ => h n⟩
theorem Ev.mono {p q : Nat → Prop} (h : ∀ n, p n → q n) : Ev p → Ev q := fun ⟨N, hN⟩ => ⟨N, fun n hn => h n (hN n hn)⟩
theorem Ev.and {p q : Nat → Prop} : Ev p → Ev q → Ev fun n => p n ∧ q n := fun ⟨N, hN⟩ ⟨M, hM⟩ => ⟨max N M, fun n hn => ⟨hN n (by omega), hM n (by omega)⟩⟩
theorem Ev.succ {p : Nat → Prop} : Ev (fun n => p (n + 1)) → Ev p := fun ⟨N, hN⟩ => ⟨N + 1, fun n hn => by
  obtain ⟨k, rfl⟩ : ∃ k, n = k + 1 := ⟨n - 1, by omega⟩
  exact hN k (by omega)⟩
theorem Ev.some_eq {α : Type} {f : Nat → Option α} {a b : α} (h : Ev fun n => f n = some a) (k : Ev fun n => f n = some b) : a = b := by
  obtain ⟨N, hN⟩ := h.and k
  have := hN N (Nat.le_refl _)
  have e := this.1.symm.trans this.2
  exact Option.some.inj e

section
variable (P : Program) (cf : Cfg)

abbrev Cn (n : Nat) : CallS := callWith P cf (exec P cf n)

open Classical in
noncomputable def KK : CallS := fun f args ps =>
  if h : ∃ res, Ev fun n => Cn P cf n f args ps = some res then some (Classical.choose h) else none

variable {P cf}

theorem KK_of {f : FuncId} {args : List PV} {ps : List Arr} {res : PV × List Arr × List Arr} (h : Ev fun n => Cn P cf n f args ps = some res) : KK P cf f args ps = some res := by
  have hx : ∃ res, Ev fun n => Cn P cf n f args ps = some res := ⟨res, h⟩
  unfold KK
  rw [dif_pos hx]
  exact congrArg some ((Classical.choose_spec hx).some_eq h)
theorem KK_ev {f : FuncId} {args : List PV} {ps : List Arr} {res : PV × List Arr × List Arr} (h : KK P cf f args ps = some res) : Ev fun n => Cn P cf n f args ps = some res := by
  unfold KK at h
  split at h
  · rename_i hx
    have := Classical.choose_spec hx
    rw [Option.some.inj h] at this
    exact this
  · cases h

theorem KK_ok (hm : P.follows .mixedOrders = true) (hp : CallOK P (primC cf)) : CallOK P (KK P cf) := by
  intro f args ps r ps' own h hps
  obtain ⟨N, hN⟩ := KK_ev h
  exact calls_ok hm hp N f args ps r ps' own (hN N (Nat.le_refl _)) hps

/-- What a meaning needs of calls, only finitely many. -/
theorem callP_ev {me : FuncId} {dst : Option Nat} {f : FuncId} {args : List PV} {m : Mem} {x : (PV × List (Nat × Arr)) × List Nat}
    (h : (callP cf (KK P cf) me dst f args).run m = some x) : Ev fun n => (callP cf (Cn P cf n) me dst f args).run m = some x := by
  unfold callP at h ⊢
  split at h
  · rename_i hmut
    rw [Mm.run_bind] at h
    simp only [hmut, if_true]
    split at h
    · rename_i a r hs
      obtain ⟨L, args', ps, vs⟩ := a
      simp only at h
      cases hk : KK P cf f args' ps with
      | none => rw [hk] at h; simp [Mm.run] at h
      | some res =>
        refine (KK_ev hk).mono fun n hn => ?_
        rw [Mm.run_bind, hs]
        simp only [hn]
        rw [hk] at h
        exact h
    · cases h
  · rename_i hmut
    rw [Mm.run_bind] at h
    simp only [hmut, Bool.false_eq_true, if_false]
    split at h
    · rename_i args' r hs
      cases hk : KK P cf f args' [] with
      | none => rw [hk] at h; simp [Mm.run] at h
      | some res =>
        refine (KK_ev hk).mono fun n hn => ?_
        rw [Mm.run_bind, hs]
        simp only [hn]
        rw [hk] at h
        exact h
    · cases h

theorem opSem_ev {me : FuncId} {o : Oper} {ρ : Nat → PV} {m : Mem} {x : (PV × List (Nat × Arr)) × List Nat}
    (h : (opSem P cf (KK P cf) me o ρ).run m = some x) : Ev fun n => (opSem P cf (Cn P cf n) me o ρ).run m = some x := by
  unfold opSem at h ⊢
  cases ho : o.op with
  | call c =>
    simp only [ho] at h ⊢
    cases hc : c.callee with
    | value fv =>
      simp only [hc] at h ⊢
      cases hf : opnd ρ fv with
      | fn f a b => simp only [hf] at h ⊢; exact callP_ev h
      | i y =>
        cases y with
        | fn f a b => simp only [hf] at h ⊢; exact callP_ev h
        | _ => simp only [hf] at h ⊢; exact .all fun _ => h
      | _ => simp only [hf] at h ⊢; exact .all fun _ => h
    | _ => simp only [hc] at h ⊢; exact .all fun _ => h
  | makeFunc f x y => cases f <;> (simp only [ho] at h ⊢; exact .all fun _ => h)
  | slice t x lo hi mx => cases mx <;> (simp only [ho] at h ⊢; exact .all fun _ => h)
  | _ => simp only [ho] at h ⊢; exact .all fun _ => h

theorem stepOp_ev {me : FuncId} {ops : Array Oper} {o : Oper} {st : St} {r : Rec} (h : stepOp P cf (KK P cf) me ops o st = some r) : Ev fun n => stepOp P cf (Cn P cf n) me ops o st = some r := by
  unfold stepOp at h ⊢
  cases hw : wantedP ops o st.ρ with
  | none => rw [hw] at h; cases h
  | some b =>
    rw [hw] at h
    cases b with
    | false => exact .all fun _ => h
    | true =>
      simp only [Option.map_eq_some_iff] at h ⊢
      obtain ⟨x, hx, he⟩ := h
      exact (opSem_ev hx).mono fun n hn => ⟨x, hn, he⟩

theorem runOps_ev {me : FuncId} {ops : Array Oper} : ∀ {l : List Oper} {st : St} {x : St × List Rec}, runOps P cf (KK P cf) me ops l st = some x → Ev fun n => runOps P cf (Cn P cf n) me ops l st = some x
  | [], st, x, h => .all fun _ => h
  | o :: l, st, x, h => by
    simp only [runOps] at h
    split at h
    · rename_i r hr
      split at h
      · rename_i st' rs h2
        refine ((stepOp_ev hr).and (runOps_ev h2)).mono fun n hn => ?_
        simp only [runOps, hn.1, hn.2]
        exact h
      · cases h
    · cases h

theorem regionP_ev {me : FuncId} {ops : Array Oper} {draw : Bool} {st st' : St} (h : regionP P cf (KK P cf) me ops draw st = some st') : Ev fun n => regionP P cf (Cn P cf n) me ops draw st = some st' := by
  unfold regionP at h ⊢
  split at h
  · rename_i st2 rs h2
    refine (runOps_ev h2).mono fun n hn => ?_
    simp only [hn]
    exact h
  · cases h

/-! Code. -/

variable (P cf) in
def XW (me : FuncId) (c : Code) (st : St) (Q : Ex → St → Prop) : Prop := ∃ e st', (Ev fun n => exec P cf n me c st = some (e, st')) ∧ Q e st'

variable {me : FuncId} {st : St} {Q : Ex → St → Prop}

theorem XW.mono {c : Code} {Q' : Ex → St → Prop} (h : XW P cf me c st Q) (hq : ∀ e s, Q e s → Q' e s) : XW P cf me c st Q' :=
  let ⟨e, s, h1, h2⟩ := h; ⟨e, s, h1, hq _ _ h2⟩

theorem xw_skip (h : Q .normal st) : XW P cf me .skip st Q := ⟨.normal, st, Ev.succ (.all fun _ => by rw [exec]), h⟩
theorem xw_label {l : Nat} (h : Q .normal st) : XW P cf me (.label l) st Q := ⟨.normal, st, Ev.succ (.all fun _ => by rw [exec]), h⟩
theorem xw_exit {i : Nat} (h : Q (.exit i) st) : XW P cf me (.exit i) st Q := ⟨_, st, Ev.succ (.all fun _ => by rw [exec]), h⟩
theorem xw_ret (h : Q .ret st) : XW P cf me .ret st Q := ⟨.ret, st, Ev.succ (.all fun _ => by rw [exec]), h⟩
theorem xw_region {id : Nat} {ops : Array Oper} {draw : Bool} {st' : St} (hr : regionP P cf (KK P cf) me ops draw st = some st') (h : Q .normal st') : XW P cf me (.region id ops draw) st Q :=
  ⟨.normal, st', Ev.succ ((regionP_ev hr).mono fun n hn => by rw [exec, hn]; rfl), h⟩

def sq (P : Program) (cf : Cfg) (me : FuncId) (b : Code) (Q : Ex → St → Prop) : Ex → St → Prop
  | .normal, s => XW P cf me b s Q
  | .exit i, s => Q (.exit i) s
  | .ret, s => Q .ret s
theorem xw_seq {a b : Code} (h : XW P cf me a st (sq P cf me b Q)) : XW P cf me (.seq a b) st Q := by
  obtain ⟨e, s, h1, h2⟩ := h
  cases e with
  | normal =>
    obtain ⟨e', s', h3, h4⟩ := h2
    exact ⟨e', s', Ev.succ ((h1.and h3).mono fun n hn => by rw [exec, hn.1]; exact hn.2), h4⟩
  | exit i => exact ⟨.exit i, s, Ev.succ (h1.mono fun n hn => by rw [exec, hn]), h2⟩
  | ret => exact ⟨.ret, s, Ev.succ (h1.mono fun n hn => by rw [exec, hn]), h2⟩
theorem xw_cond {x : Operand} {a b : Code} {t : Bool} (hx : asBoolP (opnd st.ρ x) = some t) (h : if t = true then XW P cf me a st Q else XW P cf me b st Q) : XW P cf me (.cond x a b) st Q := by
  cases t with
  | true =>
    obtain ⟨e, s, h1, h2⟩ := h
    exact ⟨e, s, Ev.succ (h1.mono fun n hn => by rw [exec, hx]; exact hn), h2⟩
  | false =>
    obtain ⟨e, s, h1, h2⟩ := h
    exact ⟨e, s, Ev.succ (h1.mono fun n hn => by rw [exec, hx]; exact hn), h2⟩
def bl (id : Nat) (Q : Ex → St → Prop) : Ex → St → Prop
  | .normal, s => Q .normal s
  | .exit i, s => if i = id then Q .normal s else Q (.exit i) s
  | .ret, s => Q .ret s
theorem xw_block {id : Nat} {b : Code} (h : XW P cf me b st (bl id Q)) : XW P cf me (.block id b) st Q := by
  obtain ⟨e, s, h1, h2⟩ := h
  cases e with
  | normal => exact ⟨.normal, s, Ev.succ (h1.mono fun n hn => by rw [exec, hn]), h2⟩
  | exit i =>
    simp only [bl] at h2
    by_cases hi : i = id
    · rw [if_pos hi] at h2
      exact ⟨.normal, s, Ev.succ (h1.mono fun n hn => by rw [exec, hn]; simp only [hi, if_true]), h2⟩
    · rw [if_neg hi] at h2
      exact ⟨.exit i, s, Ev.succ (h1.mono fun n hn => by rw [exec, hn]; simp only [hi, if_false]), h2⟩
  | ret => exact ⟨.ret, s, Ev.succ (h1.mono fun n hn => by rw [exec, hn]), h2⟩
theorem xw_loop {b : Code} (h : XW P cf me b st (sq P cf me (.loop b) Q)) : XW P cf me (.loop b) st Q := by
  obtain ⟨e, s, h1, h2⟩ := h
  cases e with
  | normal =>
    obtain ⟨e', s', h3, h4⟩ := h2
    exact ⟨e', s', Ev.succ ((h1.and h3).mono fun n hn => by rw [exec, hn.1]; exact hn.2), h4⟩
  | exit i => exact ⟨.exit i, s, Ev.succ (h1.mono fun n hn => by rw [exec, hn]), h2⟩
  | ret => exact ⟨.ret, s, Ev.succ (h1.mono fun n hn => by rw [exec, hn]), h2⟩

/-- Counted loops. -/
theorem xw_loop_count {b : Code} (I : Nat → St → Prop) (h : ∀ n s, I n s → XW P cf me b s (fun e s' => match e with | .normal => ∃ k, k < n ∧ I k s' | .exit i => Q (.exit i) s' | .ret => Q .ret s')) :
    ∀ n s, I n s → XW P cf me (.loop b) s Q := by
  intro n
  induction n using Nat.strongRecOn with
  | _ n ih =>
    intro s hs
    refine xw_loop ((h n s hs).mono fun e s' hq => ?_)
    cases e with
    | normal => obtain ⟨k, hk, hI⟩ := hq; exact ih k hk s' hI
    | exit i => exact hq
    | ret => exact hq

/-- What a function must end with. -/
def Post (P : Program) (fn : Func) (np : Nat) (res : PV × List Arr × List Arr) (e : Ex) (s : St) : Prop :=
  (match e with | .exit _ => False | _ => True) ∧ ∃ rd, (outP P fn np s).run s.m = some (res, rd)
theorem post_ret {P : Program} {fn : Func} {np : Nat} {res : PV × List Arr × List Arr} {s : St} (h : ∃ r rd, (outP P fn np s).run s.m = some (r, rd) ∧ r = res) : Post P fn np res .ret s :=
  let ⟨_, rd, h1, h2⟩ := h; ⟨trivial, rd, by rw [h1, h2]⟩
theorem post_normal {P : Program} {fn : Func} {np : Nat} {res : PV × List Arr × List Arr} {s : St} (h : ∃ r rd, (outP P fn np s).run s.m = some (r, rd) ∧ r = res) : Post P fn np res .normal s :=
  let ⟨_, rd, h1, h2⟩ := h; ⟨trivial, rd, by rw [h1, h2]⟩

/-- A call. -/
theorem xw_call {f : FuncId} {fn : Func} {c : Code} {args : List PV} {ps : List Arr} {res : PV × List Arr × List Arr} (hp : primC cf f args ps = none) (hf : P.funcs[f]? = some fn) (hb : fn.body = some c)
    (hok : args.length ≤ fn.ntmps ∧ (fn.name == "runtime.NumGoroutine") = false ∧ codeOk fn.ntmps c = true)
    (h : XW P cf f c (initP args ps) (Post P fn ps.length res)) : KK P cf f args ps = some res := by
  obtain ⟨e, s, h1, h2, rd, h3⟩ := h
  refine KK_of (h1.mono fun n hn => ?_)
  show callWith P cf (exec P cf n) f args ps = some res
  unfold callWith
  rw [hp, hf]
  simp only [hb, if_pos hok, hn]
  cases e with
  | normal => simp only [h3, Option.map_some]
  | exit i => exact h2.elim
  | ret => simp only [h3, Option.map_some]


/-- A call of which only something is told. -/
def PostE (P : Program) (fn : Func) (np : Nat) (Φ : PV × List Arr × List Arr → Prop) (e : Ex) (s : St) : Prop := ∃ res, Φ res ∧ Post P fn np res e s
theorem postE_ret {P : Program} {fn : Func} {np : Nat} {Φ : PV × List Arr × List Arr → Prop} {s : St} (h : ∃ r rd, (outP P fn np s).run s.m = some (r, rd) ∧ Φ r) : PostE P fn np Φ .ret s :=
  let ⟨r, rd, h1, h2⟩ := h; ⟨r, h2, trivial, rd, h1⟩
theorem postE_normal {P : Program} {fn : Func} {np : Nat} {Φ : PV × List Arr × List Arr → Prop} {s : St} (h : ∃ r rd, (outP P fn np s).run s.m = some (r, rd) ∧ Φ r) : PostE P fn np Φ .normal s :=
  let ⟨r, rd, h1, h2⟩ := h; ⟨r, h2, trivial, rd, h1⟩
theorem xw_callE {Φ : PV × List Arr × List Arr → Prop} {f : FuncId} {fn : Func} {c : Code} {args : List PV} {ps : List Arr} (hp : primC cf f args ps = none) (hf : P.funcs[f]? = some fn) (hb : fn.body = some c)
    (hok : args.length ≤ fn.ntmps ∧ (fn.name == "runtime.NumGoroutine") = false ∧ codeOk fn.ntmps c = true)
    (h : XW P cf f c (initP args ps) (PostE P fn ps.length Φ)) : ∃ res, Φ res ∧ KK P cf f args ps = some res := by
  obtain ⟨e, s, h1, res, h2, h3⟩ := h
  exact ⟨res, h2, xw_call hp hf hb hok ⟨e, s, h1, h3⟩⟩

end
end Go.Proofs.Ytnobgdgnncfcpaa.X
