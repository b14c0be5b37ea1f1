/- What functions answer, and the plain laws behind it. -/
import Derived.Test.YtmocnnknnbalkaaGreatDoorKAA
import Derived.Test.YtmocnnknnbalkaaGreatDoorRun
import Derived.Test.YtmocnnknnbalkaaGreatDoorC10
/- Texts: numbers in digits, pieces between separators. Plain lists of bytes. -/
set_option linter.unusedSimpArgs false
set_option linter.unusedVariables false
namespace Go.Proofs.YtmocnnknnbalkaaGreatDoor.X
open Go
/-- The pieces of a text between bytes c. -/
def pcs (c : UInt8) : List UInt8 → List (List UInt8)
  | [] => [[]]
  | b :: r => if b = c then [] :: pcs c r else
    match pcs c r with
    | [] => [[b]]
    | p :: q => (b :: p) :: q
theorem pcs_ne (c : UInt8) (l : List UInt8) : pcs c l ≠ [] := by
  cases l with
  | nil => simp [pcs]
  | cons b r =>
    unfold pcs
    split
    · simp
    · split <;> simp
theorem pcs_app {c : UInt8} : ∀ {a : List UInt8} (b : List UInt8), c ∉ a → pcs c (a ++ c :: b) = a :: pcs c b
  | [], b, _ => by simp [pcs]
  | x :: a, b, h => by
    simp only [List.mem_cons, not_or] at h
    rw [List.cons_append, pcs, if_neg (fun e => h.1 e.symm), pcs_app b h.2]
theorem pcs_none {c : UInt8} : ∀ {a : List UInt8}, c ∉ a → pcs c a = [a]
  | [], _ => rfl
  | x :: a, h => by
    simp only [List.mem_cons, not_or] at h
    rw [pcs, if_neg (fun e => h.1 e.symm), pcs_none h.2]
/-- The place of a byte, or -1. -/
def ixB (c : UInt8) (l : List UInt8) : Int := if c ∈ l then (l.idxOf c : Int) else -1
theorem ixB_at {c : UInt8} {l : List UInt8} {i : Nat} (h : l[i]? = some c) (hn : c ∉ l.take i) : ixB c l = i := by
  have hm : c ∈ l := List.mem_of_getElem? h
  unfold ixB
  rw [if_pos hm]
  have key : ∀ (l : List UInt8) (i : Nat), l[i]? = some c → c ∉ l.take i → l.idxOf c = i := by
    intro l
    induction l with
    | nil => intro i h; simp at h
    | cons x r ih =>
      intro i h hn
      cases i with
      | zero => simp at h; subst h; simp
      | succ i =>
        simp only [List.take_succ_cons, List.mem_cons, not_or] at hn
        have hx : (x == c) = false := by simpa using fun e => hn.1 e.symm
        rw [List.idxOf_cons, hx, ih i (by simpa using h) hn.2]; rfl
  rw [key l i h hn]
theorem ixB_none {c : UInt8} {l : List UInt8} (h : c ∉ l) : ixB c l = -1 := if_neg h
theorem ixB_lt {c : UInt8} {l : List UInt8} : ixB c l < l.length ∧ -1 ≤ ixB c l := by
  unfold ixB
  split
  · rename_i h
    have := List.idxOf_lt_length_of_mem h
    omega
  · omega
theorem ixB_split {c : UInt8} {l : List UInt8} (h : 0 ≤ ixB c l) : c ∉ l.take (ixB c l).toNat ∧ l = l.take (ixB c l).toNat ++ c :: l.drop ((ixB c l).toNat + 1) := by
  have hm : c ∈ l := by
    unfold ixB at h
    split at h
    · assumption
    · omega
  have e : (ixB c l).toNat = l.idxOf c := by unfold ixB; rw [if_pos hm]; omega
  rw [e]
  have key : ∀ l : List UInt8, c ∈ l → c ∉ l.take (l.idxOf c) ∧ l = l.take (l.idxOf c) ++ c :: l.drop (l.idxOf c + 1) := by
    intro l
    induction l with
    | nil => intro h; simp at h
    | cons x r ih =>
      intro h
      by_cases hx : x = c
      · subst hx; simp
      · have hb : (x == c) = false := by simpa using hx
        have hr : c ∈ r := by
          rcases List.mem_cons.1 h with h | h
          · exact absurd h.symm hx
          · exact h
        obtain ⟨h1, h2⟩ := ih hr
        have e0 : (x :: r).idxOf c = r.idxOf c + 1 := by rw [List.idxOf_cons, hb]; rfl
        rw [e0]
        refine ⟨?_, ?_⟩
        · rw [List.take_succ_cons, List.mem_cons, not_or]
          exact ⟨fun e => hx e.symm, h1⟩
        · rw [List.take_succ_cons, List.drop_succ_cons, List.cons_append, ← h2]
  exact key l hm
theorem ixB_neg {c : UInt8} {l : List UInt8} (h : ixB c l < 0) : c ∉ l := by
  intro hm
  unfold ixB at h
  rw [if_pos hm] at h
  omega
theorem pcs_step {c : UInt8} {l : List UInt8} (h : 0 ≤ ixB c l) : pcs c l = l.take (ixB c l).toNat :: pcs c (l.drop ((ixB c l).toNat + 1)) := by
  obtain ⟨h1, h2⟩ := ixB_split h
  generalize ixB c l = i at *
  rw [← pcs_app _ h1, ← h2]
theorem pcs_end {c : UInt8} {l : List UInt8} (h : ixB c l < 0) : pcs c l = [l] := pcs_none (ixB_neg h)
theorem pcs_len {c : UInt8} : ∀ (l : List UInt8), (pcs c l).length = l.count c + 1
  | [] => by simp [pcs]
  | b :: r => by
    have ih := pcs_len (c := c) r
    unfold pcs
    split
    · rename_i h
      subst h
      simp [ih]
    · rename_i h
      have hb : ¬ (b == c) = true := by simpa using h
      rw [List.count_cons, if_neg hb, Nat.add_zero, ← ih]
      have := pcs_ne c r
      split
      · rename_i e; exact absurd e this
      · rename_i p q e; simp [e]
theorem pcs_le {c : UInt8} (l : List UInt8) : (pcs c l).length ≤ l.length + 1 := by
  rw [pcs_len]
  have := List.count_le_length (a := c) (l := l)
  omega
theorem dec2_len {n : Nat} : 1 ≤ (dec2 n).length ∧ (dec2 n).length ≤ 2 := by unfold dec2; split <;> simp
theorem dec2_dig {n : Nat} (h : n < 100) : ∀ b ∈ dec2 n, 48 ≤ b.toNat ∧ b.toNat ≤ 57 := by
  have key : ∀ n : Fin 100, ∀ b ∈ dec2 n.1, 48 ≤ b.toNat ∧ b.toNat ≤ 57 := by decide
  exact key ⟨n, h⟩
theorem dec2_atoi {n : Nat} (h : n < 100) : Lib.atoi (dec2 n) = some n := by
  have key : ∀ n : Fin 100, Lib.atoi (dec2 n.1) = some (n.1 : Int) := by decide
  exact key ⟨n, h⟩
theorem dec2_no {n : Nat} (h : n < 100) {c : UInt8} (hc : c.toNat < 48) : c ∉ dec2 n := fun hm => by
  have := dec2_dig h c hm
  omega
abbrev dgt (n : Int) : List UInt8 := dec2 n.toNat
def numsT (l : List Int) : List UInt8 := l.flatMap fun n => 32 :: dgt n
def edT (e : Int × Int) : List UInt8 := dgt e.1 ++ 45 :: dgt e.2
def edsT (l : List (Int × Int)) : List UInt8 := l.flatMap fun e => 32 :: edT e
def fmtG (n : Int) (es : List (Int × Int)) : List UInt8 := dgt n ++ edsT es
def smallL (l : List Int) : Prop := ∀ n ∈ l, 0 ≤ n ∧ n < 100
def smallE (l : List (Int × Int)) : Prop := ∀ e ∈ l, (0 ≤ e.1 ∧ e.1 < 100) ∧ 0 ≤ e.2 ∧ e.2 < 100
theorem numsT_cons (n : Int) (l : List Int) : numsT (n :: l) = 32 :: (dgt n ++ numsT l) := by simp [numsT]
theorem numsT_snoc (n : Int) (l : List Int) : numsT (l ++ [n]) = numsT l ++ 32 :: dgt n := by simp [numsT]
theorem edsT_nil : edsT [] = [] := rfl
theorem edsT_cons (e : Int × Int) (l : List (Int × Int)) : edsT (e :: l) = 32 :: (edT e ++ edsT l) := by simp [edsT]
theorem edsT_snoc (e : Int × Int) (l : List (Int × Int)) : edsT (l ++ [e]) = edsT l ++ 32 :: edT e := by simp [edsT]
theorem numsT_len : ∀ l : List Int, (numsT l).length ≤ 3 * l.length
  | [] => by simp [numsT]
  | n :: l => by
    have := numsT_len l
    have : (dgt n).length ≤ 2 := (dec2_len (n := n.toNat)).2
    rw [numsT_cons]; simp only [List.length_cons, List.length_append]; omega
theorem edT_len (e : Int × Int) : 3 ≤ (edT e).length ∧ (edT e).length ≤ 5 := by
  have h1 : 1 ≤ (dgt e.1).length ∧ (dgt e.1).length ≤ 2 := dec2_len (n := e.1.toNat)
  have h2 : 1 ≤ (dgt e.2).length ∧ (dgt e.2).length ≤ 2 := dec2_len (n := e.2.toNat)
  unfold edT; simp only [List.length_cons, List.length_append]; omega
theorem edsT_len : ∀ l : List (Int × Int), (edsT l).length ≤ 6 * l.length
  | [] => by simp [edsT]
  | e :: l => by
    have := edsT_len l
    have := (edT_len e).2
    rw [edsT_cons]; simp only [List.length_cons, List.length_append]; omega
theorem fmtG_len (n : Int) (es : List (Int × Int)) : 1 ≤ (fmtG n es).length ∧ (fmtG n es).length ≤ 6 * es.length + 2 := by
  have h1 : 1 ≤ (dgt n).length ∧ (dgt n).length ≤ 2 := dec2_len (n := n.toNat)
  have h2 := edsT_len es
  unfold fmtG; simp only [List.length_append]; omega
theorem edT_no {e : Int × Int} (h : (0 ≤ e.1 ∧ e.1 < 100) ∧ 0 ≤ e.2 ∧ e.2 < 100) {c : UInt8} (hc : c.toNat < 48) (h45 : c ≠ 45) : c ∉ edT e := by
  unfold edT
  simp only [List.mem_append, List.mem_cons, not_or]
  exact ⟨dec2_no (by omega) hc, h45, dec2_no (by omega) hc⟩
theorem edsT_no {l : List (Int × Int)} (h : smallE l) {c : UInt8} (hc : c.toNat < 48) (h32 : c ≠ 32) (h45 : c ≠ 45) : c ∉ edsT l := by
  intro hm
  obtain ⟨e, he, hm⟩ := List.mem_flatMap.1 hm
  rcases List.mem_cons.1 hm with hm | hm
  · exact h32 hm
  · exact edT_no (h e he) hc h45 hm
theorem fmtG_no {n : Int} {es : List (Int × Int)} (hn : 0 ≤ n ∧ n < 100) (h : smallE es) {c : UInt8} (hc : c.toNat < 48) (h32 : c ≠ 32) (h45 : c ≠ 45) : c ∉ fmtG n es := by
  unfold fmtG
  rw [List.mem_append, not_or]
  exact ⟨dec2_no (by omega) hc, edsT_no h hc h32 h45⟩
/-- A graph's words. -/
theorem pcs_eds : ∀ {l : List (Int × Int)} (a : List UInt8), smallE l → (32 : UInt8) ∉ a → pcs 32 (a ++ edsT l) = a :: l.map edT
  | [], a, _, ha => by rw [edsT_nil, List.append_nil, pcs_none ha]; rfl
  | e :: l, a, h, ha => by
    have he := h e (by simp)
    rw [edsT_cons, pcs_app _ ha, pcs_eds (edT e) (fun x hx => h x (by simp [hx])) (edT_no he (by decide) (by decide))]
    rfl
theorem pcs_fmtG {n : Int} {es : List (Int × Int)} (hn : 0 ≤ n ∧ n < 100) (h : smallE es) : pcs 32 (fmtG n es) = dgt n :: es.map edT :=
  pcs_eds _ h (dec2_no (by omega) (by decide))
end Go.Proofs.YtmocnnknnbalkaaGreatDoor.X

/- Strings: how operations on them are rewritten. -/
set_option linter.unusedSimpArgs false
set_option linter.unusedVariables false
namespace Go.Proofs.YtmocnnknnbalkaaGreatDoor.X
open Go
/-- Are two texts the same? -/
def eqS : List UInt8 → List UInt8 → Bool
  | [], [] => true
  | a :: x, b :: y => (a.toNat == b.toNat) && eqS x y
  | _, _ => false
theorem eqS_eq : ∀ {a b : List UInt8}, eqS a b = decide (a = b)
  | [], [] => by simp [eqS]
  | [], b :: y => by simp [eqS]
  | a :: x, [] => by simp [eqS]
  | a :: x, b :: y => by
    rw [eqS, eqS_eq (a := x) (b := y), Bool.eq_iff_iff]
    simp only [Bool.and_eq_true, beq_iff_eq, decide_eq_true_eq, List.cons.injEq]
    exact ⟨fun h => ⟨UInt8.toNat_inj.1 h.1, h.2⟩, fun h => ⟨by rw [h.1], h.2⟩⟩
theorem eqS_refl {a : List UInt8} : eqS a a = true := by rw [eqS_eq]; simp
theorem eqS_ne {a b : List UInt8} (h : a ≠ b) : eqS a b = false := by rw [eqS_eq]; simp [h]
theorem eqS_nn : eqS [] [] = true := rfl
theorem eqS_nc {b : UInt8} {y : List UInt8} : eqS [] (b :: y) = false := rfl
theorem eqS_cn {b : UInt8} {y : List UInt8} : eqS (b :: y) [] = false := rfl
theorem eqS_cc {a b : UInt8} {x y : List UInt8} : eqS (a :: x) (b :: y) = ((a.toNat == b.toNat) && eqS x y) := rfl
theorem bs_size {l : List UInt8} : (ByteArray.mk l.toArray).size = l.length := by simp [ByteArray.size]
theorem bs_app {a b : List UInt8} : (ByteArray.mk a.toArray ++ ByteArray.mk b.toArray) = ByteArray.mk (a ++ b).toArray := by
  apply ByteArray.ext
  simp
theorem bs_ext {a : List UInt8} {i j : Nat} : (ByteArray.mk a.toArray).extract i j = ByteArray.mk ((a.drop i).take (j - i)).toArray := by
  apply ByteArray.ext
  simp [ByteArray.data_extract]
theorem bs_get {a : List UInt8} {i : Nat} : (ByteArray.mk a.toArray)[i]? = a[i]? := by
  rw [show (ByteArray.mk a.toArray)[i]? = (ByteArray.mk a.toArray).data[i]? from by
    simp only [getElem?_def]
    rfl]
  simp
theorem bs_list {a : List UInt8} : (ByteArray.mk a.toArray).toList = a := by
  rw [ByteArray.toList_eq]
section
variable {P : Program} {t : TypeId} {a b : List UInt8}
theorem binV_sadd (h : a.length + b.length ≤ 1000000000) : binV P .add t (S a) (S b) = some (.string ⟨(a ++ b).toArray⟩) := by
  have h2 : ¬ (((ByteArray.mk a.toArray).size + (ByteArray.mk b.toArray).size : Nat) : Int) > IntKind.i64.max := by
    rw [bs_size, bs_size]
    show ¬ _ > (9223372036854775807 : Int)
    omega
  simp only [binV, binOp, Op.stringOp, if_neg h2, bs_app]
  rfl
theorem binV_seql : binV P .eql t (S a) (S b) = some (.bool (eqS a b)) := by
  have : (a == b) = decide (a = b) := by rw [Bool.eq_iff_iff]; simp
  simp only [binV, binOp, Op.stringOp, bs_list, eqS_eq, this]
  rfl
theorem binV_sneq : binV P .neq t (S a) (S b) = some (.bool (!eqS a b)) := by
  have : (a == b) = decide (a = b) := by rw [Bool.eq_iff_iff]; simp
  simp only [binV, binOp, Op.stringOp, bs_list, eqS_eq, this]
  rfl
end
/-- A string as an element. -/
def encS (l : List UInt8) : List IV := [.v (.string ⟨l.toArray⟩)]
theorem getS (xs : List (List UInt8)) (i : Nat) (h : i < xs.length) : (xs.map encS)[i]? = some [.v (.string ⟨(xs.getD i []).toArray⟩)] := by
  simp [encS, h]
theorem appS (xs : List (List UInt8)) (x : List UInt8) : xs.map encS ++ [[.v (.string ⟨x.toArray⟩)]] = (xs ++ [x]).map encS := by simp [encS]
attribute [go_sem] eqS_refl eqS_nn eqS_nc eqS_cn eqS_cc bs_size bs_ext bs_get binV_sadd binV_seql binV_sneq
end Go.Proofs.YtmocnnknnbalkaaGreatDoor.X

/- What functions compute: places of bytes, pieces of strings. -/
set_option linter.unusedSimpArgs false
set_option linter.unusedVariables false
set_option maxHeartbeats 8000000
set_option maxRecDepth 100000
namespace Go.Proofs.YtmocnnknnbalkaaGreatDoor.X
open Go Go.Proofs
theorem u8_back (c : UInt8) : ((c.toNat : Int)).toNat.toUInt8 = c := by
  rw [Int.toNat_natCast]
  exact UInt8.ofNat_toNat
theorem ixB_index (l : List UInt8) (c : UInt8) : Lib.indexByte l c = ixB c l := by
  induction l with
  | nil => rfl
  | cons b l ih =>
    unfold Lib.indexByte
    rw [ih]
    by_cases h : b = c
    · subst h
      simp [ixB]
    · have hb : (b == c) = false := by simpa using h
      have h' : ¬ c = b := fun e => h e.symm
      rw [hb]
      unfold ixB
      by_cases hm : c ∈ l
      · rw [if_pos hm, if_pos (List.mem_cons_of_mem _ hm), List.idxOf_cons, hb]
        have : ¬ ((l.idxOf c : Int) == -1) = true := by simp
        simp only [Bool.false_eq_true, if_false, this]
        simp
      · rw [if_neg hm, if_neg (show ¬ c ∈ b :: l by rw [List.mem_cons, not_or]; exact ⟨h', hm⟩)]
        rfl
@[go_sem] theorem c_indexByte (l : List UInt8) (c : UInt8) : KP 145 [S l, .i (.v (.int .u8 c.toNat))] [] = some (I (ixB c l), [], []) := by
  refine KK_prim rfl ?_
  simp only [idxP, u8_back, ixB_index]
@[go_sem] theorem c_count (l : List UInt8) (c : UInt8) : KP 62 [S l, S [c]] [] = some (I (l.count c), [], []) := by
  refine KK_prim rfl ?_
  simp only [cntP, Lib.countByte]
@[go_sem] theorem c_sIndex (l : List UInt8) (c : UInt8) (hl : l.length ≤ 1048576) : KP 94 [S l, S [c]] [] = some (I (ixB c l), [], []) := by
  by_cases hz : l = [c]
  · subst hz
    have he : ixB c [c] = 0 := by simp [ixB]
    refine xw_call (fn := Tryz.f94) rfl Tryz.func94 rfl ⟨Nat.le_of_ble_eq_true rfl, rfl, rfl⟩ ?_
    repeat'(first|(refine na ?_;constructor)|(refine ite_two ?_ ?_<;>intro _<;>first|(exfalso;omega)|skip)|refine ord_split (by kernel_rfl) ?_|((first|(refine nb ?_;constructor)|refine pn rfl ?_|refine pe rfl ?_|((first|refine at2 ?_|refine at_cond ?_);split<;>first|(exfalso;omega;done)|skip))<;>try simp(config:={maxSteps:=3000000})(disch:=first|assumption|omega|exact VG.okg (by assumption)|(simp only[List.length_set,List.length_append,List.length_cons,List.length_nil,List.length_replicate];omega))only[go_sem,simprocAttr,Tryz.results94, he]))
  · have he : eqS [c] l = false := eqS_ne (fun h => hz h.symm)
    refine xw_call (fn := Tryz.f94) rfl Tryz.func94 rfl ⟨Nat.le_of_ble_eq_true rfl, rfl, rfl⟩ ?_
    repeat'(first|(refine na ?_;constructor)|(refine ite_two ?_ ?_<;>intro _<;>first|(exfalso;omega)|skip)|refine ord_split (by kernel_rfl) ?_|((first|(refine nb ?_;constructor)|refine pn rfl ?_|refine pe rfl ?_|((first|refine at2 ?_|refine at_cond ?_);split<;>first|(exfalso;omega;done)|skip))<;>try simp(config:={maxSteps:=3000000})(disch:=first|assumption|omega|exact VG.okg (by assumption)|(simp only[List.length_set,List.length_append,List.length_cons,List.length_nil,List.length_replicate];omega))only[go_sem,simprocAttr,Tryz.results94, he]))
@[go_sem] theorem c_Index (l : List UInt8) (c : UInt8) (hl : l.length ≤ 1048576) : KP 63 [S l, S [c]] [] = some (I (ixB c l), [], []) := by
  refine xw_call (fn := Tryz.f63) rfl Tryz.func63 rfl ⟨Nat.le_of_ble_eq_true rfl, rfl, rfl⟩ ?_
  repeat'(first|(refine na ?_;constructor)|(refine ite_two ?_ ?_<;>intro _<;>first|(exfalso;omega)|skip)|refine ord_split (by kernel_rfl) ?_|((first|(refine nb ?_;constructor)|refine pn rfl ?_|refine pe rfl ?_|((first|refine at2 ?_|refine at_cond ?_);split<;>first|(exfalso;omega;done)|skip))<;>try simp(config:={maxSteps:=3000000})(disch:=first|assumption|omega|exact VG.okg (by assumption)|(simp only[List.length_set,List.length_append,List.length_cons,List.length_nil,List.length_replicate];omega))only[go_sem,simprocAttr,Tryz.results63]))
theorem c_sCut (l : List UInt8) (c : UInt8) (hl : l.length ≤ 1048576) : KP 64 [S l, S [c]] [] = some (if 0 ≤ ixB c l then .tup [S (l.take (ixB c l).toNat), S (l.drop ((ixB c l).toNat + 1)), B true] else .tup [S l, S [], B false], [], []) := by
  have hb := ixB_lt (c := c) (l := l)
  by_cases h : 0 ≤ ixB c l
  · rw [if_pos h]
    obtain ⟨k, hk⟩ := Int.eq_ofNat_of_zero_le h
    rw [hk] at hb ⊢
    have hi := c_sIndex l c hl
    rw [hk] at hi
    have h1 : ((k : Int) + 1).toNat = k + 1 := by omega
    have h2 : (l.drop (k + 1)).take (l.length - (k + 1)) = l.drop (k + 1) := List.take_of_length_le (by simp)
    refine xw_call (fn := Tryz.f64) rfl Tryz.func64 rfl ⟨Nat.le_of_ble_eq_true rfl, rfl, rfl⟩ ?_
    repeat'(first|(refine na ?_;constructor)|(refine ite_two ?_ ?_<;>intro _<;>first|(exfalso;omega)|skip)|refine ord_split (by kernel_rfl) ?_|((first|(refine nb ?_;constructor)|refine pn rfl ?_|refine pe rfl ?_|((first|refine at2 ?_|refine at_cond ?_);split<;>first|(exfalso;omega;done)|skip))<;>try simp(config:={maxSteps:=3000000})(disch:=first|assumption|omega|exact VG.okg (by assumption)|(simp only[List.length_set,List.length_append,List.length_cons,List.length_nil,List.length_replicate];omega))only[go_sem,simprocAttr,Tryz.results64, hi, h1, h2]))
  · rw [if_neg h]
    refine xw_call (fn := Tryz.f64) rfl Tryz.func64 rfl ⟨Nat.le_of_ble_eq_true rfl, rfl, rfl⟩ ?_
    repeat'(first|(refine na ?_;constructor)|(refine ite_two ?_ ?_<;>intro _<;>first|(exfalso;omega)|skip)|refine ord_split (by kernel_rfl) ?_|((first|(refine nb ?_;constructor)|refine pn rfl ?_|refine pe rfl ?_|((first|refine at2 ?_|refine at_cond ?_);split<;>first|(exfalso;omega;done)|skip))<;>try simp(config:={maxSteps:=3000000})(disch:=first|assumption|omega|exact VG.okg (by assumption)|(simp only[List.length_set,List.length_append,List.length_cons,List.length_nil,List.length_replicate];omega))only[go_sem,simprocAttr,Tryz.results64]))
theorem c_Cut (l : List UInt8) (c : UInt8) (hl : l.length ≤ 1048576) : KP 41 [S l, S [c]] [] = some (if 0 ≤ ixB c l then .tup [S (l.take (ixB c l).toNat), S (l.drop ((ixB c l).toNat + 1)), B true] else .tup [S l, S [], B false], [], []) := by
  have h0 := c_sCut l c hl
  by_cases h : 0 ≤ ixB c l
  · rw [if_pos h] at h0 ⊢
    refine xw_call (fn := Tryz.f41) rfl Tryz.func41 rfl ⟨Nat.le_of_ble_eq_true rfl, rfl, rfl⟩ ?_
    repeat'(first|(refine na ?_;constructor)|(refine ite_two ?_ ?_<;>intro _<;>first|(exfalso;omega)|skip)|refine ord_split (by kernel_rfl) ?_|((first|(refine nb ?_;constructor)|refine pn rfl ?_|refine pe rfl ?_|((first|refine at2 ?_|refine at_cond ?_);split<;>first|(exfalso;omega;done)|skip))<;>try simp(config:={maxSteps:=3000000})(disch:=first|assumption|omega|exact VG.okg (by assumption)|(simp only[List.length_set,List.length_append,List.length_cons,List.length_nil,List.length_replicate];omega))only[go_sem,simprocAttr,Tryz.results41, h0]))
  · rw [if_neg h] at h0 ⊢
    refine xw_call (fn := Tryz.f41) rfl Tryz.func41 rfl ⟨Nat.le_of_ble_eq_true rfl, rfl, rfl⟩ ?_
    repeat'(first|(refine na ?_;constructor)|(refine ite_two ?_ ?_<;>intro _<;>first|(exfalso;omega)|skip)|refine ord_split (by kernel_rfl) ?_|((first|(refine nb ?_;constructor)|refine pn rfl ?_|refine pe rfl ?_|((first|refine at2 ?_|refine at_cond ?_);split<;>first|(exfalso;omega;done)|skip))<;>try simp(config:={maxSteps:=3000000})(disch:=first|assumption|omega|exact VG.okg (by assumption)|(simp only[List.length_set,List.length_append,List.length_cons,List.length_nil,List.length_replicate];omega))only[go_sem,simprocAttr,Tryz.results41, h0]))
/-- Cut at a byte that is not in the first part. -/
theorem c_Cut_at (a b : List UInt8) (c : UInt8) (hc : c ∉ a) (hl : a.length + b.length ≤ 1000000) : KP 41 [S (a ++ c :: b), S [c]] [] = some (.tup [S a, S b, B true], [], []) := by
  have h0 := c_Cut (a ++ c :: b) c (by simp; omega)
  have hi : ixB c (a ++ c :: b) = a.length := ixB_at (by simp) (by simpa using hc)
  rw [hi, if_pos (by omega)] at h0
  simpa using h0
theorem c_Cut_no (a : List UInt8) (c : UInt8) (hc : c ∉ a) (hl : a.length ≤ 1000000) : KP 41 [S a, S [c]] [] = some (.tup [S a, S [], B false], [], []) := by
  have h0 := c_Cut a c (by omega)
  rw [ixB_none hc, if_neg (by omega)] at h0
  exact h0
abbrev zS : List IV := [.v (.string ⟨(([] : List UInt8)).toArray⟩)]
theorem rep_set {d : List (List UInt8)} {k : Nat} {s : List UInt8} (hk : 0 < k) : (d.map encS ++ List.replicate k zS).set d.length (encS s) = (d ++ [s]).map encS ++ List.replicate (k - 1) zS := by
  obtain ⟨k, rfl⟩ : ∃ j, k = j + 1 := ⟨k - 1, by omega⟩
  rw [List.replicate_succ, List.set_append_right _ _ (by simp)]
  simp
/-- What an array that is split into holds. -/
def splA (d : List (List UInt8)) (k : Nat) : List (List IV) := d.map encS ++ List.replicate k zS
theorem splA_len (d : List (List UInt8)) (k : Nat) : (splA d k).length = d.length + k := by simp [splA]
theorem splA_set {d : List (List UInt8)} {k : Nat} {s : List UInt8} (hk : 0 < k) : (splA d k).set d.length [.v (.string ⟨s.toArray⟩)] = splA (d ++ [s]) (k - 1) := rep_set hk
theorem splA_get {d : List (List UInt8)} {k : Nat} (hk : 0 < k) : ∃ e, (splA d k)[d.length]? = some [e] := by
  obtain ⟨k, rfl⟩ : ∃ j, k = j + 1 := ⟨k - 1, by omega⟩
  unfold splA
  rw [List.replicate_succ, List.getElem?_append_right (by simp)]
  simp
theorem pcs_one {c : UInt8} {s : List UInt8} (h : (pcs c s).length ≤ 1) : pcs c s = [s] := by
  rw [pcs_len] at h
  exact pcs_none (fun hm => by have := List.one_le_count_iff.2 hm; omega)
theorem c_genSplit (l : List UInt8) (c : UInt8) (n : Int) (hl : l.length ≤ 1000000) (hn : n < 0 ∨ ((pcs c l).length : Int) ≤ n) (hn2 : n ≤ 1000000) :
    ∃ k, KP 40 [S l, S [c], I 0, I n] [] = some (.ref 2000 0 0 (pcs c l).length, [], [.arr 0 1 (splA (pcs c l) k)]) ∧ (n < 0 → k = 0) := by
  have hp1 := pcs_len (c := c) l
  have hp2 := pcs_le (c := c) l
  obtain ⟨N, hN1, hN2, hN3, hN4⟩ : ∃ N : Nat, (min (if n < 0 then (l.count c : Int) + 1 else n) (l.length + 1) = (N : Int)) ∧ (pcs c l).length ≤ N ∧ N ≤ 1000001 ∧ (n < 0 → N = (pcs c l).length) := by
    refine ⟨(min (if n < 0 then (l.count c : Int) + 1 else n) (l.length + 1)).toNat, ?_, ?_, ?_, ?_⟩
    · split <;> omega
    · split <;> omega
    · split <;> omega
    · intro h; rw [if_pos h]; omega
  refine ⟨N - (pcs c l).length, ?_, fun h => by rw [hN4 h]; omega⟩
  have hrep : List.replicate N zS = splA [] N := by simp [splA]
  have hsp : ∀ d k, (splA d k).length = d.length + k := splA_len
  by_cases hneg : n < 0
  all_goals
    first | rw [if_pos hneg] at hN1 | rw [if_neg hneg] at hN1
    refine xw_call (fn := Tryz.f40) rfl Tryz.func40 rfl ⟨Nat.le_of_ble_eq_true rfl, rfl, rfl⟩ ?_
    repeat'(first|(refine na ?_;constructor)|(refine ite_two ?_ ?_<;>intro _<;>first|(exfalso;omega)|skip)|refine ord_split (by kernel_rfl) ?_|((first|(refine nb ?_;constructor)|refine pn rfl ?_|refine pe rfl ?_|((first|refine at2 ?_|refine at_cond ?_);split<;>first|(exfalso;omega;done)|skip))<;>try simp(config:={maxSteps:=3000000})(disch:=first|assumption|omega|exact VG.okg (by assumption)|(simp only[List.length_set,List.length_append,List.length_cons,List.length_nil,List.length_replicate];omega))only[go_sem,simprocAttr,Tryz.results40, hN1, hrep]))
    refine xw_loopR (fun (x : List (List UInt8) × List UInt8) s => s.m 31 = some (.arr 0 1 (splA x.1 (N - x.1.length))) ∧ s.ρ 9 = .ref 31 0 0 N ∧ s.ρ 10 = I x.1.length ∧ s.ρ 0 = S x.2 ∧ s.ρ 1 = S [c] ∧ s.ρ 2 = I 0 ∧ s.ρ 3 = I (N - 1) ∧ pcs c l = x.1 ++ pcs c x.2 ∧ x.2.length ≤ l.length) (fun x => x.2.length) ([], l) ?_ ?_
    · refine ⟨?_, ?_, rfl, rfl, rfl, rfl, ?_, rfl, Nat.le_refl _⟩
      all_goals (simp [upd]; done)
    rintro ⟨d, s⟩ ⟨ρ, m⟩ ⟨m31, h9, h10, h0, h1, h2, h3, g1, g2⟩
    simp only at m31 h9 h10 h0 h1 h2 h3 g1 g2
    have g3 := congrArg List.length g1
    rw [List.length_append] at g3
    have g4 := List.length_pos_iff.2 (pcs_ne c s)
    have hk : 0 < N - d.length := by omega
    have hset : ∀ t : List UInt8, (splA d (N - d.length)).set d.length [.v (.string ⟨t.toArray⟩)] = splA (d ++ [t]) (N - d.length - 1) := fun t => splA_set hk
    obtain ⟨e0, hget⟩ := splA_get (d := d) hk
    have hdl : d.length < (splA d (N - d.length)).length := by rw [splA_len]; omega
    have hix := ixB_lt (c := c) (l := s)
    by_cases hd : (d.length : Int) < N - 1
    · by_cases hi : ixB c s < 0
      · have hfin : pcs c l = d ++ [s] := by rw [g1, pcs_end hi]
        rw [hfin]
        repeat'(first|(refine na ?_;constructor)|(refine ite_two ?_ ?_<;>intro _<;>first|(exfalso;omega)|skip)|refine ord_split (by kernel_rfl) ?_|((first|(refine nb ?_;constructor)|refine pn rfl ?_|refine pe rfl ?_|((first|refine at2 ?_|refine at_cond ?_);split<;>first|(exfalso;omega;done)|skip))<;>try simp(config:={maxSteps:=3000000})(disch:=first|assumption|omega|exact VG.okg (by assumption)|(simp only[List.length_set,List.length_append,List.length_cons,List.length_nil,List.length_replicate];omega))only[go_sem,simprocAttr,Tryz.results40, m31, h9, h10, h0, h1, h2, h3, hset, hget, hsp]))
        exact ⟨by omega, by rw [Nat.sub_sub]⟩
      · obtain ⟨k, hk0⟩ := Int.eq_ofNat_of_zero_le (show 0 ≤ ixB c s by omega)
        have hci := c_Index s c (by omega)
        have hst := pcs_step (c := c) (l := s) (by omega)
        rw [hk0] at hix hci hst
        repeat'(first|(refine na ?_;constructor)|(refine ite_two ?_ ?_<;>intro _<;>first|(exfalso;omega)|skip)|refine ord_split (by kernel_rfl) ?_|((first|(refine nb ?_;constructor)|refine pn rfl ?_|refine pe rfl ?_|((first|refine at2 ?_|refine at_cond ?_);split<;>first|(exfalso;omega;done)|skip))<;>try simp(config:={maxSteps:=3000000})(disch:=first|assumption|omega|exact VG.okg (by assumption)|(simp only[List.length_set,List.length_append,List.length_cons,List.length_nil,List.length_replicate];omega))only[go_sem,simprocAttr,Tryz.results40, m31, h9, h10, h0, h1, h2, h3, hset, hget, hsp, hci]))
        have e1 : ((k : Int) + 0).toNat = k := by omega
        have e2 : ((k : Int) + 1).toNat = k + 1 := by omega
        have e3 : ((k : Int)).toNat = k := by omega
        rw [e3] at hst
        rw [e1, e2]
        refine ⟨d ++ [s.take k], by rw [List.length_append, Nat.sub_sub]; rfl, by simp, s.drop (k + 1), ?_, ?_, ?_, ?_⟩
        · rw [List.take_of_length_le (by simp)]
        · rw [g1, hst]; simp
        · simp; omega
        · simp; omega
    · have hfin : pcs c l = d ++ [s] := by rw [g1, pcs_one (by omega)]
      rw [hfin]
      repeat'(first|(refine na ?_;constructor)|(refine ite_two ?_ ?_<;>intro _<;>first|(exfalso;omega)|skip)|refine ord_split (by kernel_rfl) ?_|((first|(refine nb ?_;constructor)|refine pn rfl ?_|refine pe rfl ?_|((first|refine at2 ?_|refine at_cond ?_);split<;>first|(exfalso;omega;done)|skip))<;>try simp(config:={maxSteps:=3000000})(disch:=first|assumption|omega|exact VG.okg (by assumption)|(simp only[List.length_set,List.length_append,List.length_cons,List.length_nil,List.length_replicate];omega))only[go_sem,simprocAttr,Tryz.results40, m31, h9, h10, h0, h1, h2, h3, hset, hget, hsp]))
      exact ⟨by omega, by rw [Nat.sub_sub]⟩
theorem splA_zero (d : List (List UInt8)) : splA d 0 = d.map encS := by simp [splA]
theorem c_Split (l : List UInt8) (c : UInt8) (hl : l.length ≤ 1000000) : KP 22 [S l, S [c]] [] = some (.i (.lst ((pcs c l).map encS)), [], []) := by
  obtain ⟨k, h1, h2⟩ := c_genSplit l c (-1) hl (.inl (by omega)) (by omega)
  rw [h2 (by omega), splA_zero] at h1
  have ht : ((pcs c l).map encS).take (pcs c l).length = (pcs c l).map encS := List.take_of_length_le (by simp)
  refine xw_call (fn := Tryz.f22) rfl Tryz.func22 rfl ⟨Nat.le_of_ble_eq_true rfl, rfl, rfl⟩ ?_
  repeat'(first|(refine na ?_;constructor)|(refine ite_two ?_ ?_<;>intro _<;>first|(exfalso;omega)|skip)|refine ord_split (by kernel_rfl) ?_|((first|(refine nb ?_;constructor)|refine pn rfl ?_|refine pe rfl ?_|((first|refine at2 ?_|refine at_cond ?_);split<;>first|(exfalso;omega;done)|skip))<;>try simp(config:={maxSteps:=3000000})(disch:=first|assumption|omega|exact VG.okg (by assumption)|(simp only[List.length_set,List.length_append,List.length_cons,List.length_nil,List.length_replicate];omega))only[go_sem,simprocAttr,Tryz.results22, h1, ht]))
theorem c_SplitN (l : List UInt8) (c : UInt8) (n : Int) (hl : l.length ≤ 1000000) (hn : ((pcs c l).length : Int) ≤ n) (hn2 : n ≤ 1000000) : KP 104 [S l, S [c], I n] [] = some (.i (.lst ((pcs c l).map encS)), [], []) := by
  obtain ⟨k, h1, h2⟩ := c_genSplit l c n hl (.inr hn) hn2
  have ht : (splA (pcs c l) k).take (pcs c l).length = (pcs c l).map encS := by
    unfold splA
    rw [List.take_left' (by simp)]
  refine xw_call (fn := Tryz.f104) rfl Tryz.func104 rfl ⟨Nat.le_of_ble_eq_true rfl, rfl, rfl⟩ ?_
  repeat'(first|(refine na ?_;constructor)|(refine ite_two ?_ ?_<;>intro _<;>first|(exfalso;omega)|skip)|refine ord_split (by kernel_rfl) ?_|((first|(refine nb ?_;constructor)|refine pn rfl ?_|refine pe rfl ?_|((first|refine at2 ?_|refine at_cond ?_);split<;>first|(exfalso;omega;done)|skip))<;>try simp(config:={maxSteps:=3000000})(disch:=first|assumption|omega|exact VG.okg (by assumption)|(simp only[List.length_set,List.length_append,List.length_cons,List.length_nil,List.length_replicate];omega))only[go_sem,simprocAttr,Tryz.results104, h1, ht]))
end Go.Proofs.YtmocnnknnbalkaaGreatDoor.X
