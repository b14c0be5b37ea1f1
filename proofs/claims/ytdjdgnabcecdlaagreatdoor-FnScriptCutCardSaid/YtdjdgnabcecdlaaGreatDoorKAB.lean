/- What functions answer, and the plain laws behind it. -/
import Derived.Test.YtdjdgnabcecdlaaGreatDoorPrim
import Derived.Test.YtdjdgnabcecdlaaGreatDoorRun
/- Texts: numbers in digits, pieces between separators. Plain lists of bytes. -/
set_option linter.unusedSimpArgs false
set_option linter.unusedVariables false
namespace Go.Proofs.YtdjdgnabcecdlaaGreatDoor.X
open Go
/-- The pieces of a text between bytes c. -/
def pcs (c : UInt8) : List UInt8 → List (List UInt8)
  | [] => [[]]
  | b :: r => if b = c then [] :: pcs c r else
    match pcs c r with
    | [] => [[b]]
    | p :: q => (b :: p) :: q
theorem pcs_ne (c : UInt8) (l : List UInt8) : pcs c l ≠ [] := by
  cases l with
  | nil => simp [pcs]
  | cons b r =>
    unfold pcs
    split
    · simp
    · split <;> simp
theorem pcs_app {c : UInt8} : ∀ {a : List UInt8} (b : List UInt8), c ∉ a → pcs c (a ++ c :: b) = a :: pcs c b
  | [], b, _ => by simp [pcs]
  | x :: a, b, h => by
    simp only [List.mem_cons, not_or] at h
    rw [List.cons_append, pcs, if_neg (fun e => h.1 e.symm), pcs_app b h.2]
theorem pcs_none {c : UInt8} : ∀ {a : List UInt8}, c ∉ a → pcs c a = [a]
  | [], _ => rfl
  | x :: a, h => by
    simp only [List.mem_cons, not_or] at h
    rw [pcs, if_neg (fun e => h.1 e.symm), pcs_none h.2]
/-- The place of a byte, or -1. -/
def ixB (c : UInt8) (l : List UInt8) : Int := if c ∈ l then (l.idxOf c : Int) else -1
theorem ixB_at {c : UInt8} {l : List UInt8} {i : Nat} (h : l[i]? = some c) (hn : c ∉ l.take i) : ixB c l = i := by
  have hm : c ∈ l := List.mem_of_getElem? h
  unfold ixB
  rw [if_pos hm]
  have key : ∀ (l : List UInt8) (i : Nat), l[i]? = some c → c ∉ l.take i → l.idxOf c = i := by
    intro l
    induction l with
    | nil => intro i h; simp at h
    | cons x r ih =>
      intro i h hn
      cases i with
      | zero => simp at h; subst h; simp
      | succ i =>
        simp only [List.take_succ_cons, List.mem_cons, not_or] at hn
        have hx : (x == c) = false := by simpa using fun e => hn.1 e.symm
        rw [List.idxOf_cons, hx, ih i (by simpa using h) hn.2]; rfl
  rw [key l i h hn]
theorem ixB_none {c : UInt8} {l : List UInt8} (h : c ∉ l) : ixB c l = -1 := if_neg h
theorem ixB_lt {c : UInt8} {l : List UInt8} : ixB c l < l.length ∧ -1 ≤ ixB c l := by
  unfold ixB
  split
  · rename_i h
    have := List.idxOf_lt_length_of_mem h
    omega
  · omega
theorem ixB_split {c : UInt8} {l : List UInt8} (h : 0 ≤ ixB c l) : c ∉ l.take (ixB c l).toNat ∧ l = l.take (ixB c l).toNat ++ c :: l.drop ((ixB c l).toNat + 1) := by
  have hm : c ∈ l := by
    unfold ixB at h
    split at h
    · assumption
    · omega
  have e : (ixB c l).toNat = l.idxOf c := by unfold ixB; rw [if_pos hm]; omega
  rw [e]
  have key : ∀ l : List UInt8, c ∈ l → c ∉ l.take (l.idxOf c) ∧ l = l.take (l.idxOf c) ++ c :: l.drop (l.idxOf c + 1) := by
    intro l
    induction l with
    | nil => intro h; simp at h
    | cons x r ih =>
      intro h
      by_cases hx : x = c
      · subst hx; simp
      · have hb : (x == c) = false := by simpa using hx
        have hr : c ∈ r := by
          rcases List.mem_cons.1 h with h | h
          · exact absurd h.symm hx
          · exact h
        obtain ⟨h1, h2⟩ := ih hr
        have e0 : (x :: r).idxOf c = r.idxOf c + 1 := by rw [List.idxOf_cons, hb]; rfl
        rw [e0]
        refine ⟨?_, ?_⟩
        · rw [List.take_succ_cons, List.mem_cons, not_or]
          exact ⟨fun e => hx e.symm, h1⟩
        · rw [List.take_succ_cons, List.drop_succ_cons, List.cons_append, ← h2]
  exact key l hm
theorem ixB_neg {c : UInt8} {l : List UInt8} (h : ixB c l < 0) : c ∉ l := by
  intro hm
  unfold ixB at h
  rw [if_pos hm] at h
  omega
theorem pcs_step {c : UInt8} {l : List UInt8} (h : 0 ≤ ixB c l) : pcs c l = l.take (ixB c l).toNat :: pcs c (l.drop ((ixB c l).toNat + 1)) := by
  obtain ⟨h1, h2⟩ := ixB_split h
  generalize ixB c l = i at *
  rw [← pcs_app _ h1, ← h2]
theorem pcs_end {c : UInt8} {l : List UInt8} (h : ixB c l < 0) : pcs c l = [l] := pcs_none (ixB_neg h)
theorem pcs_len {c : UInt8} : ∀ (l : List UInt8), (pcs c l).length = l.count c + 1
  | [] => by simp [pcs]
  | b :: r => by
    have ih := pcs_len (c := c) r
    unfold pcs
    split
    · rename_i h
      subst h
      simp [ih]
    · rename_i h
      have hb : ¬ (b == c) = true := by simpa using h
      rw [List.count_cons, if_neg hb, Nat.add_zero, ← ih]
      have := pcs_ne c r
      split
      · rename_i e; exact absurd e this
      · rename_i p q e; simp [e]
theorem pcs_le {c : UInt8} (l : List UInt8) : (pcs c l).length ≤ l.length + 1 := by
  rw [pcs_len]
  have := List.count_le_length (a := c) (l := l)
  omega
theorem dec2_len {n : Nat} : 1 ≤ (dec2 n).length ∧ (dec2 n).length ≤ 2 := by unfold dec2; split <;> simp
theorem dec2_dig {n : Nat} (h : n < 100) : ∀ b ∈ dec2 n, 48 ≤ b.toNat ∧ b.toNat ≤ 57 := by
  have key : ∀ n : Fin 100, ∀ b ∈ dec2 n.1, 48 ≤ b.toNat ∧ b.toNat ≤ 57 := by decide
  exact key ⟨n, h⟩
theorem dec2_atoi {n : Nat} (h : n < 100) : Lib.atoi (dec2 n) = some n := by
  have key : ∀ n : Fin 100, Lib.atoi (dec2 n.1) = some (n.1 : Int) := by decide
  exact key ⟨n, h⟩
theorem dec2_no {n : Nat} (h : n < 100) {c : UInt8} (hc : c.toNat < 48) : c ∉ dec2 n := fun hm => by
  have := dec2_dig h c hm
  omega
abbrev dgt (n : Int) : List UInt8 := dec2 n.toNat
def numsT (l : List Int) : List UInt8 := l.flatMap fun n => 32 :: dgt n
def edT (e : Int × Int) : List UInt8 := dgt e.1 ++ 45 :: dgt e.2
def edsT (l : List (Int × Int)) : List UInt8 := l.flatMap fun e => 32 :: edT e
def fmtG (n : Int) (es : List (Int × Int)) : List UInt8 := dgt n ++ edsT es
def smallL (l : List Int) : Prop := ∀ n ∈ l, 0 ≤ n ∧ n < 100
def smallE (l : List (Int × Int)) : Prop := ∀ e ∈ l, (0 ≤ e.1 ∧ e.1 < 100) ∧ 0 ≤ e.2 ∧ e.2 < 100
theorem numsT_cons (n : Int) (l : List Int) : numsT (n :: l) = 32 :: (dgt n ++ numsT l) := by simp [numsT]
theorem numsT_snoc (n : Int) (l : List Int) : numsT (l ++ [n]) = numsT l ++ 32 :: dgt n := by simp [numsT]
theorem edsT_nil : edsT [] = [] := rfl
theorem edsT_cons (e : Int × Int) (l : List (Int × Int)) : edsT (e :: l) = 32 :: (edT e ++ edsT l) := by simp [edsT]
theorem edsT_snoc (e : Int × Int) (l : List (Int × Int)) : edsT (l ++ [e]) = edsT l ++ 32 :: edT e := by simp [edsT]
theorem numsT_len : ∀ l : List Int, (numsT l).length ≤ 3 * l.length
  | [] => by simp [numsT]
  | n :: l => by
    have := numsT_len l
    have : (dgt n).length ≤ 2 := (dec2_len (n := n.toNat)).2
    rw [numsT_cons]; simp only [List.length_cons, List.length_append]; omega
theorem edT_len (e : Int × Int) : 3 ≤ (edT e).length ∧ (edT e).length ≤ 5 := by
  have h1 : 1 ≤ (dgt e.1).length ∧ (dgt e.1).length ≤ 2 := dec2_len (n := e.1.toNat)
  have h2 : 1 ≤ (dgt e.2).length ∧ (dgt e.2).length ≤ 2 := dec2_len (n := e.2.toNat)
  unfold edT; simp only [List.length_cons, List.length_append]; omega
theorem edsT_len : ∀ l : List (Int × Int), (edsT l).length ≤ 6 * l.length
  | [] => by simp [edsT]
  | e :: l => by
    have := edsT_len l
    have := (edT_len e).2
    rw [edsT_cons]; simp only [List.length_cons, List.length_append]; omega
theorem fmtG_len (n : Int) (es : List (Int × Int)) : 1 ≤ (fmtG n es).length ∧ (fmtG n es).length ≤ 6 * es.length + 2 := by
  have h1 : 1 ≤ (dgt n).length ∧ (dgt n).length ≤ 2 := dec2_len (n := n.toNat)
  have h2 := edsT_len es
  unfold fmtG; simp only [List.length_append]; omega
theorem edT_no {e : Int × Int} (h : (0 ≤ e.1 ∧ e.1 < 100) ∧ 0 ≤ e.2 ∧ e.2 < 100) {c : UInt8} (hc : c.toNat < 48) (h45 : c ≠ 45) : c ∉ edT e := by
  unfold edT
  simp only [List.mem_append, List.mem_cons, not_or]
  exact ⟨dec2_no (by omega) hc, h45, dec2_no (by omega) hc⟩
theorem edsT_no {l : List (Int × Int)} (h : smallE l) {c : UInt8} (hc : c.toNat < 48) (h32 : c ≠ 32) (h45 : c ≠ 45) : c ∉ edsT l := by
  intro hm
  obtain ⟨e, he, hm⟩ := List.mem_flatMap.1 hm
  rcases List.mem_cons.1 hm with hm | hm
  · exact h32 hm
  · exact edT_no (h e he) hc h45 hm
theorem fmtG_no {n : Int} {es : List (Int × Int)} (hn : 0 ≤ n ∧ n < 100) (h : smallE es) {c : UInt8} (hc : c.toNat < 48) (h32 : c ≠ 32) (h45 : c ≠ 45) : c ∉ fmtG n es := by
  unfold fmtG
  rw [List.mem_append, not_or]
  exact ⟨dec2_no (by omega) hc, edsT_no h hc h32 h45⟩
/-- A graph's words. -/
theorem pcs_eds : ∀ {l : List (Int × Int)} (a : List UInt8), smallE l → (32 : UInt8) ∉ a → pcs 32 (a ++ edsT l) = a :: l.map edT
  | [], a, _, ha => by rw [edsT_nil, List.append_nil, pcs_none ha]; rfl
  | e :: l, a, h, ha => by
    have he := h e (by simp)
    rw [edsT_cons, pcs_app _ ha, pcs_eds (edT e) (fun x hx => h x (by simp [hx])) (edT_no he (by decide) (by decide))]
    rfl
theorem pcs_fmtG {n : Int} {es : List (Int × Int)} (hn : 0 ≤ n ∧ n < 100) (h : smallE es) : pcs 32 (fmtG n es) = dgt n :: es.map edT :=
  pcs_eds _ h (dec2_no (by omega) (by decide))
end Go.Proofs.YtdjdgnabcecdlaaGreatDoor.X

/- Strings: how operations on them are rewritten. -/
set_option linter.unusedSimpArgs false
set_option linter.unusedVariables false
namespace Go.Proofs.YtdjdgnabcecdlaaGreatDoor.X
open Go
/-- Are two texts the same? -/
def eqS : List UInt8 → List UInt8 → Bool
  | [], [] => true
  | a :: x, b :: y => (a.toNat == b.toNat) && eqS x y
  | _, _ => false
theorem eqS_eq : ∀ {a b : List UInt8}, eqS a b = decide (a = b)
  | [], [] => by simp [eqS]
  | [], b :: y => by simp [eqS]
  | a :: x, [] => by simp [eqS]
  | a :: x, b :: y => by
    rw [eqS, eqS_eq (a := x) (b := y), Bool.eq_iff_iff]
    simp only [Bool.and_eq_true, beq_iff_eq, decide_eq_true_eq, List.cons.injEq]
    exact ⟨fun h => ⟨UInt8.toNat_inj.1 h.1, h.2⟩, fun h => ⟨by rw [h.1], h.2⟩⟩
theorem eqS_refl {a : List UInt8} : eqS a a = true := by rw [eqS_eq]; simp
theorem eqS_ne {a b : List UInt8} (h : a ≠ b) : eqS a b = false := by rw [eqS_eq]; simp [h]
theorem eqS_nn : eqS [] [] = true := rfl
theorem eqS_nc {b : UInt8} {y : List UInt8} : eqS [] (b :: y) = false := rfl
theorem eqS_cn {b : UInt8} {y : List UInt8} : eqS (b :: y) [] = false := rfl
theorem eqS_cc {a b : UInt8} {x y : List UInt8} : eqS (a :: x) (b :: y) = ((a.toNat == b.toNat) && eqS x y) := rfl
theorem bs_size {l : List UInt8} : (ByteArray.mk l.toArray).size = l.length := by simp [ByteArray.size]
theorem bs_app {a b : List UInt8} : (ByteArray.mk a.toArray ++ ByteArray.mk b.toArray) = ByteArray.mk (a ++ b).toArray := by
  apply ByteArray.ext
  simp
theorem bs_ext {a : List UInt8} {i j : Nat} : (ByteArray.mk a.toArray).extract i j = ByteArray.mk ((a.drop i).take (j - i)).toArray := by
  apply ByteArray.ext
  simp [ByteArray.data_extract]
theorem bs_get {a : List UInt8} {i : Nat} : (ByteArray.mk a.toArray)[i]? = a[i]? := by
  rw [show (ByteArray.mk a.toArray)[i]? = (ByteArray.mk a.toArray).data[i]? from by
    simp only [getElem?_def]
    rfl]
  simp
theorem bs_list {a : List UInt8} : (ByteArray.mk a.toArray).toList = a := by
  rw [ByteArray.toList_eq]
section
variable {P : Program} {t : TypeId} {a b : List UInt8}
theorem binV_sadd (h : a.length + b.length ≤ 1000000000) : binV P .add t (S a) (S b) = some (.string ⟨(a ++ b).toArray⟩) := by
  have h2 : ¬ (((ByteArray.mk a.toArray).size + (ByteArray.mk b.toArray).size : Nat) : Int) > IntKind.i64.max := by
    rw [bs_size, bs_size]
    show ¬ _ > (9223372036854775807 : Int)
    omega
  simp only [binV, binOp, Op.stringOp, if_neg h2, bs_app]
  rfl
theorem binV_seql : binV P .eql t (S a) (S b) = some (.bool (eqS a b)) := by
  have : (a == b) = decide (a = b) := by rw [Bool.eq_iff_iff]; simp
  simp only [binV, binOp, Op.stringOp, bs_list, eqS_eq, this]
  rfl
theorem binV_sneq : binV P .neq t (S a) (S b) = some (.bool (!eqS a b)) := by
  have : (a == b) = decide (a = b) := by rw [Bool.eq_iff_iff]; simp
  simp only [binV, binOp, Op.stringOp, bs_list, eqS_eq, this]
  rfl
end
/-- A string as an element. -/
def encS (l : List UInt8) : List IV := [.v (.string ⟨l.toArray⟩)]
theorem getS (xs : List (List UInt8)) (i : Nat) (h : i < xs.length) : (xs.map encS)[i]? = some [.v (.string ⟨(xs.getD i []).toArray⟩)] := by
  simp [encS, h]
theorem appS (xs : List (List UInt8)) (x : List UInt8) : xs.map encS ++ [[.v (.string ⟨x.toArray⟩)]] = (xs ++ [x]).map encS := by simp [encS]
attribute [go_sem] eqS_refl eqS_nn eqS_nc eqS_cn eqS_cc bs_size bs_ext bs_get binV_sadd binV_seql binV_sneq
end Go.Proofs.YtdjdgnabcecdlaaGreatDoor.X
