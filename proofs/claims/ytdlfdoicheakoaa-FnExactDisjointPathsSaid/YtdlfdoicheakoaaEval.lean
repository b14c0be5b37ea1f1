/- Evaluating code: how each operation is rewritten. -/
import Derived.Test.YtdlfdoicheakoaaSD
import Derived.IntWalk
namespace Go.Proofs.Ytdlfdoicheakoaa.X
open Go
/-- An integer. -/
abbrev I (n : Int) : PV := .i (.v (.int .i64 n))
abbrev B (b : Bool) : PV := .i (.v (.bool b))
section
variable {P : Program} {cf : Cfg} {C : CallS} {me : FuncId} {ops : Array Oper} {dst : Option Nat} {ty : TypeId} {pos : String} {aft : Array Edge} {st : St} {g : Option (Nat × Bool)}
theorem xw_reg {id : Nat} {Q : Ex → St → Prop} (h : ∃ st' rs, runOps P cf (KK P cf) me ops ops.toList st = some (st', rs) ∧ Q .normal st') : XW P cf me (.region id ops false) st Q := by
  obtain ⟨st', rs, h1, h2⟩ := h
  exact xw_region (by unfold regionP; rw [h1]; rfl) h2
theorem xw_regd {id : Nat} {Q : Ex → St → Prop} (h : ∃ st' rs, runOps P cf (KK P cf) me ops ops.toList st = some (st', rs) ∧ orderOk ops rs = true ∧ Q .normal st') : XW P cf me (.region id ops true) st Q := by
  obtain ⟨st', rs, h1, h3, h2⟩ := h
  exact xw_region (by unfold regionP; rw [h1]; simp only [h3, if_true]) h2
theorem xw_if {x : Operand} {a b : Code} {Q : Ex → St → Prop} (h : ∃ t, asBoolP (opnd st.ρ x) = some t ∧ if t = true then XW P cf me a st Q else XW P cf me b st Q) : XW P cf me (.cond x a b) st Q :=
  let ⟨_, h1, h2⟩ := h; xw_cond h1 h2
def fin1 (dst : Option Nat) (x : Option ((PV × List (Nat × Arr)) × List Nat)) : Option Rec := x.map fun x => ⟨dst, x.1.1, x.2, x.1.2⟩
theorem fin1_some {out : PV} {wr : List (Nat × Arr)} {rd : List Nat} : fin1 dst (some ((out, wr), rd)) = some ⟨dst, out, rd, wr⟩ := rfl
def gvv (p : PV) (want : Bool) : Option Bool :=
  match p with
  | .i (.v (.bool b)) => some (b == want)
  | .i (.v (.tuple _)) => some false
  | _ => none
theorem gvv_bool {b want : Bool} : gvv (.i (.v (.bool b))) want = some (b == want) := rfl
theorem gvv_undef {want : Bool} : gvv (.i (.v undef)) want = some false := rfl
def gv (ops : Array Oper) (j : Nat) (ρ : Nat → PV) (want : Bool) : Option Bool :=
  match (ops[j]?).bind (·.dst) with
  | some d => gvv (ρ d) want
  | none => none
/-- An operation whose guard is known. -/
def gdo (P : Program) (cf : Cfg) (C : CallS) (me : FuncId) (w : Option Bool) (o : Oper) (st : St) : Option Rec :=
  match w with
  | some true => fin1 o.dst ((opSem P cf C me o st.ρ).run st.m)
  | some false => some ⟨o.dst, .i (.v undef), [], []⟩
  | none => none
theorem gdo_true {o : Oper} : gdo P cf C me (some true) o st = fin1 o.dst ((opSem P cf C me o st.ρ).run st.m) := rfl
theorem gdo_false {o : Oper} : gdo P cf C me (some false) o st = some ⟨o.dst, .i (.v undef), [], []⟩ := rfl
/-- The rest of the operations, once the first one's record is known. -/
def ro (P : Program) (cf : Cfg) (C : CallS) (me : FuncId) (ops : Array Oper) (x : Option Rec) (l : List Oper) (st : St) : Option (St × List Rec) :=
  match x with
  | some r => match runOps P cf C me ops l (st.step r) with
    | some (st', rs) => some (st', r :: rs)
    | none => none
  | none => none
def rp (r : Rec) (x : Option (St × List Rec)) : Option (St × List Rec) :=
  match x with
  | some (st', rs) => some (st', r :: rs)
  | none => none
theorem rp_some {r : Rec} {rs : List Rec} {st' : St} : rp r (some (st', rs)) = some (st', r :: rs) := rfl
theorem b_tf : (true == false) = false := rfl
theorem b_ft : (false == true) = false := rfl
theorem runOps_nil : runOps P cf C me ops [] st = some (st, []) := rfl
theorem runOps_cons {o : Oper} {l : List Oper} : runOps P cf C me ops (o :: l) st = ro P cf C me ops (stepOp P cf C me ops o st) l st := rfl
theorem ro_some {r : Rec} {l : List Oper} : ro P cf C me ops (some r) l st = rp r (runOps P cf C me ops l (st.step r)) := rfl
theorem so_op {op : Op} : stepOp P cf C me ops ⟨dst, op, ty, pos, aft, none⟩ st = fin1 dst ((opSem P cf C me ⟨dst, op, ty, pos, aft, none⟩ st.ρ).run st.m) := rfl
theorem so_g {op : Op} {j : Nat} {want : Bool} : stepOp P cf C me ops ⟨dst, op, ty, pos, aft, some (j, want)⟩ st = gdo P cf C me (gv ops j st.ρ want) ⟨dst, op, ty, pos, aft, some (j, want)⟩ st := by
  unfold stepOp gdo gv wantedP
  rfl
variable {ρ : Nat → PV}
theorem os_move {x : Operand} : opSem P cf C me ⟨dst, .move x, ty, pos, aft, g⟩ ρ = .ret (opnd ρ x, []) := rfl
theorem os_assign {x : Operand} {d : Nat} : opSem P cf C me ⟨some d, .assign x, ty, pos, aft, g⟩ ρ = if cf.give me d = true then (cons1 (opnd ρ x)).bind fun c => .ret (.i c.1, c.2) else .ret (opnd ρ x, []) := rfl
theorem os_pick {c a b : Operand} : opSem P cf C me ⟨dst, .pick c a b, ty, pos, aft, g⟩ ρ = match asBoolP (opnd ρ c) with
    | some t => .ret (if t then opnd ρ a else opnd ρ b, [])
    | none => .fail := rfl
theorem os_box {t : TypeId} {x : Operand} {d : Nat} : opSem P cf C me ⟨some d, .box t x, ty, pos, aft, g⟩ ρ = (newVer d).bind fun v => Mm.chk ((opnd ρ x).cells.all (·.scalar)) (.ret (.ptr d v 0 0, [(d, .box v (opnd ρ x).cells)])) := rfl
theorem os_alloc {t : TypeId} {d : Nat} : opSem P cf C me ⟨some d, .alloc t, ty, pos, aft, g⟩ ρ = match zeroC P t with
    | some z => (newVer d).bind fun v => Mm.chk (z.all (·.flat)) (.ret (.ptr d v 0 0, [(d, .box v (z.map .i))]))
    | none => .fail := by
  unfold opSem; cases h : zeroC P t <;> simp only [h]
theorem os_build {t : TypeId} {ps : Array (Nat × Operand)} : opSem P cf C me ⟨dst, .build t ps, ty, pos, aft, g⟩ ρ = match zeroC P t, P.underlying t with
    | some z, some (.struct fs) =>
      match fillP P fs (z.map .i) (ps.toList.map fun x => (x.1, opnd ρ x.2)) with
      | some cs => Mm.chk (fs.toList.all fun f => (szOf P f.type).isSome) (.ret (.agg cs, []))
      | none => .fail
    | some z, some (.array _ el) =>
      match szOf P el with
      | some k =>
        match fillA k (z.map .i) (ps.toList.map fun x => (x.1, opnd ρ x.2)) with
        | some cs => .ret (.agg cs, [])
        | none => .fail
      | none => .fail
    | _, _ => .fail := rfl
theorem os_buildSlice {t : TypeId} {n d : Nat} {ps : Array (Nat × Operand)} : opSem P cf C me ⟨some d, .buildSlice t n ps, ty, pos, aft, g⟩ ρ = if clipD cf me (some d) then buildR P t n (ps.toList.map fun x => (x.1, opnd ρ x.2)) (some d) else match elemT P t with
    | some el =>
      match szOf P el, zeroC P el with
      | some k, some z =>
        (Mm.mapL (fun (x : Nat × Operand) => (consL (opnd ρ x.2).cells).bind fun c => .ret ((x.1, c.1), c.2)) ps.toList).bind fun l =>
        match fillE k (List.replicate n z) (l.map (·.1)) with
        | some xs => (newVer d).bind fun v => Mm.chk (decide (n * k ≤ 16777216) && z.length == k && z.all (·.flat) && decide (0 < k) && (l.flatMap (·.2)).all (·.1 != d)) (.ret (.ref d v 0 n, l.flatMap (·.2) ++ [(d, .arr v k xs)]))
        | none => .fail
      | _, _ => .fail
    | none => .fail := by
  show (if clipD cf me (some d) = true then _ else (match elemT P t, some d with | some el, some d => _ | _, _ => _)) = _
  generalize elemT P t = a
  cases a <;> rfl
theorem os_load {t : TypeId} {x : Operand} : opSem P cf C me ⟨dst, .load t x, ty, pos, aft, g⟩ ρ = (rdAt (opnd ρ x)).bind fun y => (takeT P t y.1 y.2).bind fun p => .ret (p, []) := rfl
def stR (a : PV) (n : Option Nat) (x : PV) : Mm (PV × List (Nat × Arr)) :=
  match a, n with
  | .ptr s ver i off, some n => .get s fun
    | some (.arr v k xs) =>
      (consL x.cells).bind fun c =>
      match xs[i]? with
      | some el => Mm.chk (v == ver && c.1.length == n && decide (off + n ≤ el.length) && c.2.all (·.1 != s)) (.ret (.bad, c.2 ++ [(s, .arr v k (xs.set i (splice el off c.1)))]))
      | none => .fail
    | some (.box v cs) => Mm.chk (v == ver && i == 0 && x.cells.length == n && decide (off + n ≤ cs.length) && x.cells.all (·.scalar)) (.ret (.bad, [(s, .box v (splice cs off x.cells))]))
    | _ => .fail
  | _, _ => .fail
theorem os_store {t : TypeId} {a x : Operand} : opSem P cf C me ⟨dst, .store t a x, ty, pos, aft, g⟩ ρ = stR (opnd ρ a) (szOf P t) (opnd ρ x) := rfl
theorem os_nilCheck {x : Operand} : opSem P cf C me ⟨dst, .nilCheck x, ty, pos, aft, g⟩ ρ = match opnd ρ x with
    | .ptr s ver i off => .ret (.ptr s ver i off, [])
    | .i (.eptr c off) => .ret (.i (.eptr c off), [])
    | _ => .fail := rfl
theorem os_binOp {op : BinOp} {t t' : TypeId} {x y : Operand} : opSem P cf C me ⟨dst, .binOp op t x y t', ty, pos, aft, g⟩ ρ = match nilT (P.underlying t) op y (opnd ρ x) with
    | some r => .ret (.i (.v (.bool r)), [])
    | none => (Mm.opt (binV P op t (opnd ρ x) (opnd ρ y))).bind fun v => .ret (.i (.v v), []) := rfl
theorem nilT_tmp {d : Option TypeDesc} {op : BinOp} {x : Nat} {p : PV} : nilT d op (.tmp x) p = none := by
  unfold nilT; split <;> simp_all
theorem nilT_int {d : Option TypeDesc} {op : BinOp} {k : IntKind} {n : Int} {p : PV} : nilT d op (.const (.int k n)) p = none := by
  unfold nilT; split <;> simp_all
theorem nilT_bool {d : Option TypeDesc} {op : BinOp} {b : Bool} {p : PV} : nilT d op (.const (.bool b)) p = none := by
  unfold nilT; split <;> simp_all
theorem nilT_str {d : Option TypeDesc} {op : BinOp} {b : ByteArray} {p : PV} : nilT d op (.const (.string b)) p = none := by
  unfold nilT; split <;> simp_all
theorem nilT_ne {el : TypeId} {xs : List (List IV)} (h : xs ≠ []) : nilT (some (.slice el)) .eql (.const (.slice none 0 0)) (.i (.lst xs)) = some false := by
  cases xs with
  | nil => exact absurd rfl h
  | cons x xs => rfl
theorem os_unOp {op : UnOp} {t : TypeId} {x : Operand} : opSem P cf C me ⟨dst, .unOp op t x, ty, pos, aft, g⟩ ρ = match opnd ρ x with
    | .i (.v a) => (Mm.opt (semPure (Op.unary op a))).bind fun v => .ret (.i (.v v), [])
    | _ => .fail := rfl
theorem os_convert {s t : TypeId} {x : Operand} : opSem P cf C me ⟨dst, .convert s t x, ty, pos, aft, g⟩ ρ = match P.underlying s, P.underlying t, opnd ρ x with
    | some (.int _), some (.int k), .i (.v (.int _ n)) => .ret (.i (.v (.int k (k.wrap n))), [])
    | some (.slice el), some .string, p => cvtB P el p
    | _, _, _ => .fail := rfl
theorem nilT_if0 {ms : Array (String × TypeId)} : nilT (some (.interface ms)) .eql (.const .nilIface) (.i (.v .nilIface)) = some true := rfl
theorem nilT_if1 {ms : Array (String × TypeId)} : nilT (some (.interface ms)) .neq (.const .nilIface) (.i (.v .nilIface)) = some false := rfl
theorem os_makeFunc {f : FuncId} {a b : Array Operand} : opSem P cf C me ⟨dst, .makeFunc (.func f) a b, ty, pos, aft, g⟩ ρ = .ret (.fn f (a.toList.map (opnd ρ)) (b.toList.map (opnd ρ)), []) := rfl
theorem os_makeSlice {t : TypeId} {l c : Operand} {d : Nat} : opSem P cf C me ⟨some d, .makeSlice t l c, ty, pos, aft, g⟩ ρ = match elemT P t, asInt (opnd ρ l), asInt (opnd ρ c) with
    | some el, some n, some m =>
      match P.info? el, zeroC P el with
      | some inf, some z =>
        (newVer d).bind fun v => Mm.chk (decide (0 ≤ n) && n == m && decide (n ≤ 4000000) && decide (inf.bytes ≤ 128) && z.length == inf.size && decide (0 < inf.size) && z.all (·.flat))
          (.ret (.ref d v 0 n.toNat, [(d, .arr v inf.size (List.replicate n.toNat z))]))
      | _, _ => .fail
    | _, _, _ => .fail := by
  show (match elemT P t, some d, asInt (opnd ρ l), asInt (opnd ρ c) with | some el, some d, some n, some m => _ | _, _, _, _ => _) = _
  generalize elemT P t = a
  generalize asInt (opnd ρ l) = x
  generalize asInt (opnd ρ c) = y
  cases a <;> cases x <;> cases y <;> rfl
def slR (P : Program) (t : TypeId) (x : PV) (lo hi : Option PV) : Mm (PV × List (Nat × Arr)) :=
  match optInt lo, optInt hi with
    | some l, some h =>
      match x, P.underlying t with
      | .ref s ver off len, some (.slice el) =>
        match boundsP len l h, szOf P el with
        | some (a, b), some k => .get s fun
          | some (.arr v k' _) => Mm.chk (v == ver && k == k') (.ret (.ref s ver (off + a) (b - a), []))
          | _ => .fail
        | none, some k => .get s fun
          | some (.arr v k' xs) =>
            match boundsX len (xs.length - off) l h with
            | some (a, b) => Mm.chk (v == ver && k == k') (.ret (.ref s ver (off + a) (b - a), []))
            | none => .fail
          | _ => .fail
        | _, _ => .fail
      | .i .emp, some (.slice el) =>
        match boundsP 0 l h, szOf P el with
        | some _, some _ => .ret (.i .emp, [])
        | _, _ => .fail
      | .i (.lst xs), some (.slice el) =>
        match boundsP xs.length l h, szOf P el with
        | some (a, b), some k => Mm.chk (xs.all (·.length == k)) (.ret (.i (.lst ((xs.drop a).take (b - a))), []))
        | _, _ => .fail
      | .i (.v (.string s)), some .string =>
        match boundsP s.size l h with
        | some (a, b) => .ret (.i (.v (.string (s.extract a b))), [])
        | none => .fail
      | _, _ => .fail
    | _, _ => .fail
theorem os_slice {t : TypeId} {x : Operand} {lo hi : Option Operand} : opSem P cf C me ⟨dst, .slice t x lo hi none, ty, pos, aft, g⟩ ρ = slR P t (opnd ρ x) (lo.map (opnd ρ)) (hi.map (opnd ρ)) := rfl
def slR3 (P : Program) (t : TypeId) (x : PV) (lo hi : Option PV) (mx : PV) (clip : Bool) : Mm (PV × List (Nat × Arr)) :=
  match optInt lo, optInt hi, asInt mx with
    | some l, some (some h), some c =>
      match x, P.underlying t with
      | .ref s ver off len, some (.slice el) =>
        match boundsP len l (some h), szOf P el with
        | some (a, b), some k => .get s fun
          | some (.arr v k' xs) =>
            match clip with
            | true => Mm.chk (v == ver && k == k' && c == h) (.ret (.ref s (v + 1) (off + a) (b - a), [(s, .arr (v + 1) k (xs.take (off + b)))]))
            | false => Mm.chk (v == ver && k == k' && decide (h ≤ c) && decide (c ≤ len)) (.ret (.bad, []))
          | _ => .fail
        | _, _ => .fail
      | .i .emp, some (.slice el) =>
        match boundsP 0 l (some h), szOf P el with
        | some _, some _ => Mm.chk (c == h) (.ret (.i .emp, []))
        | _, _ => .fail
      | _, _ => .fail
    | _, _, _ => .fail
theorem os_slice3 {t : TypeId} {x mx : Operand} {lo hi : Option Operand} : opSem P cf C me ⟨dst, .slice t x lo hi (some mx), ty, pos, aft, g⟩ ρ = slR3 P t (opnd ρ x) (lo.map (opnd ρ)) (hi.map (opnd ρ)) (opnd ρ mx) (clipD cf me dst) := rfl
def faR (P : Program) (fd : Option Field) (x : PV) : Mm (PV × List (Nat × Arr)) :=
  match fd with
  | some fd =>
    match szOf P fd.type, x with
    | some (_ + 1), .ptr s ver i off => .ret (.ptr s ver i (off + fd.offset), [])
    | some (_ + 1), .i (.eptr c off) => .ret (.i (.eptr c (off + fd.offset)), [])
    | _, _ => .fail
  | none => .fail
theorem os_fieldAddr {t : TypeId} {x : Operand} {f : Nat} : opSem P cf C me ⟨dst, .fieldAddr t x f, ty, pos, aft, g⟩ ρ = faR P (fieldT P t f) (opnd ρ x) := rfl
theorem os_field {t : TypeId} {x : Operand} {f : Nat} : opSem P cf C me ⟨dst, .field t x f, ty, pos, aft, g⟩ ρ = match fieldT P t f, opnd ρ x with
    | some fd, .agg cs => (takeT P fd.type cs fd.offset).bind fun p => .ret (p, [])
    | _, _ => .fail := rfl
def iaR (P : Program) (d : Option TypeDesc) (n : Option Int) (x : PV) : Mm (PV × List (Nat × Arr)) :=
  match d, n with
    | some (.slice el), some n =>
      match szOf P el, x with
      | some k, .ref s ver off len => .get s fun
        | some (.arr v k' _) => Mm.chk (v == ver && k == k' && decide (0 ≤ n) && decide (n < len)) (.ret (.ptr s ver (off + n.toNat) 0, []))
        | some (.rows v _) => Mm.chk (v == ver && k == 1 && decide (0 ≤ n) && decide (n < len)) (.ret (.ptr s ver (off + n.toNat) 0, []))
        | _ => .fail
      | some k, .i (.lst xs) =>
        match (if 0 ≤ n then xs[n.toNat]? else none) with
        | some el => Mm.chk (el.length == k) (.ret (.i (.eptr el 0), []))
        | none => .fail
      | _, _ => .fail
    | some (.array len el), some n =>
      match szOf P el, x with
      | some k, .ptr s ver i off => Mm.chk (decide (0 ≤ n) && decide (n < len)) (.ret (.ptr s ver i (off + n.toNat * k), []))
      | some k, .i (.eptr c off) => Mm.chk (decide (0 ≤ n) && decide (n < len)) (.ret (.i (.eptr c (off + n.toNat * k)), []))
      | _, _ => .fail
    | _, _ => .fail
theorem os_indexAddr {t : TypeId} {x ix : Operand} : opSem P cf C me ⟨dst, .indexAddr t x ix, ty, pos, aft, g⟩ ρ = iaR P (P.underlying t) (asInt (opnd ρ ix)) (opnd ρ x) := by
  unfold opSem iaR; rfl
theorem iaR_ref {el : TypeId} {n : Int} {s ver off len : Nat} : iaR P (some (.slice el)) (some n) (.ref s ver off len) = match szOf P el with
    | some k => .get s fun
        | some (.arr v k' _) => Mm.chk (v == ver && k == k' && decide (0 ≤ n) && decide (n < len)) (.ret (.ptr s ver (off + n.toNat) 0, []))
        | some (.rows v _) => Mm.chk (v == ver && k == 1 && decide (0 ≤ n) && decide (n < len)) (.ret (.ptr s ver (off + n.toNat) 0, []))
        | _ => .fail
    | none => .fail := by
  simp only [iaR]; cases szOf P el <;> rfl
theorem iaR_lst {el : TypeId} {n : Int} {xs : List (List IV)} : iaR P (some (.slice el)) (some n) (.i (.lst xs)) = match szOf P el with
    | some k => (match (if 0 ≤ n then xs[n.toNat]? else none) with
        | some el => Mm.chk (el.length == k) (.ret (.i (.eptr el 0), []))
        | none => .fail)
    | none => .fail := by
  simp only [iaR]; cases szOf P el <;> rfl
theorem iaR_aptr {len : Nat} {el : TypeId} {n : Int} {s ver i off : Nat} : iaR P (some (.array len el)) (some n) (.ptr s ver i off) = match szOf P el with
    | some k => Mm.chk (decide (0 ≤ n) && decide (n < len)) (.ret (.ptr s ver i (off + n.toNat * k), []))
    | none => .fail := by
  simp only [iaR]; cases szOf P el <;> rfl
theorem iaR_aeptr {len : Nat} {el : TypeId} {n : Int} {c : List IV} {off : Nat} : iaR P (some (.array len el)) (some n) (.i (.eptr c off)) = match szOf P el with
    | some k => Mm.chk (decide (0 ≤ n) && decide (n < len)) (.ret (.i (.eptr c (off + n.toNat * k)), []))
    | none => .fail := by
  simp only [iaR]; cases szOf P el <;> rfl
def ixR (P : Program) (d : Option TypeDesc) (x : PV) (n : Option Int) : Mm (PV × List (Nat × Arr)) :=
  match d, x, n with
    | some .string, .i (.v (.string s)), some n =>
      match (if 0 ≤ n then s[n.toNat]? else none) with
      | some b => .ret (.i (.v (.int .u8 b.toNat)), [])
      | none => .fail
    | some (.array len el), .agg cs, some n =>
      match szOf P el with
      | some k => Mm.chk (decide (0 ≤ n) && decide (n < len)) ((takeT P el cs (n.toNat * k)).bind fun p => .ret (p, []))
      | none => .fail
    | _, _, _ => .fail
theorem os_index {t : TypeId} {x ix : Operand} : opSem P cf C me ⟨dst, .index t x ix, ty, pos, aft, g⟩ ρ = ixR P (P.underlying t) (opnd ρ x) (asInt (opnd ρ ix)) := by
  unfold opSem ixR; rfl
theorem os_extract {x : Operand} {j : Nat} : opSem P cf C me ⟨dst, .extract x j, ty, pos, aft, g⟩ ρ = match opnd ρ x with
    | .tup cs => (Mm.opt cs[j]?).bind fun p => .ret (p, [])
    | _ => .fail := rfl
theorem os_builtin {b : Builtin} {args : Array Operand} {ats : Array TypeId} : opSem P cf C me ⟨dst, .call { callee := .builtin b, args := args, argTypes := ats }, ty, pos, aft, g⟩ ρ = builtinP P (clipD cf me dst) b ats dst (args.toList.map (opnd ρ)) := rfl
/-- A call that rewriting leaves as it is. -/
def callQ (cf : Cfg) (C : CallS) (me : FuncId) (dst : Option Nat) (f : FuncId) (args : List PV) : Mm (PV × List (Nat × Arr)) := callP cf C me dst f args
theorem os_call {f : FuncId} {args : Array Operand} {ats : Array TypeId} : opSem P cf C me ⟨dst, .call { callee := .value (.func f), args := args, argTypes := ats }, ty, pos, aft, g⟩ ρ = if cf.give f 999 then callQ cf C me dst f (args.toList.map (opnd ρ)) else callP cf C me dst f (args.toList.map (opnd ρ)) := by
  unfold opSem callQ; simp [opnd]
def dynP (cf : Cfg) (C : CallS) (me : FuncId) (dst : Option Nat) (fv : PV) (args : List PV) : Mm (PV × List (Nat × Arr)) :=
  match fv with
  | .fn f first caps => callP cf C me dst f (first ++ args ++ caps)
  | .i (.fn f first caps) => callP cf C me dst f (first.map toP ++ args ++ caps.map .i)
  | _ => .fail
theorem dynP_fn {cf : Cfg} {C : CallS} {me : FuncId} {dst : Option Nat} {f : FuncId} {first caps args : List PV} : dynP cf C me dst (.fn f first caps) args = callP cf C me dst f (first ++ args ++ caps) := rfl
theorem toP_v {x : Value} : toP (.v x) = .i (.v x) := rfl
theorem toP_ag {cs : List IV} : toP (.ag cs) = .agg (cs.map .i) := rfl
theorem toP_lst {xs : List (List IV)} : toP (.lst xs) = .i (.lst xs) := rfl
theorem toP_eptr {e : List IV} {o : Nat} : toP (.eptr e o) = .i (.eptr e o) := rfl
theorem dynP_ifn {cf : Cfg} {C : CallS} {me : FuncId} {dst : Option Nat} {f : FuncId} {first caps : List IV} {args : List PV} : dynP cf C me dst (.i (.fn f first caps)) args = callP cf C me dst f (first.map toP ++ args ++ caps.map .i) := rfl
theorem os_dyn {t : Nat} {args : Array Operand} {ats : Array TypeId} : opSem P cf C me ⟨dst, .call { callee := .value (.tmp t), args := args, argTypes := ats }, ty, pos, aft, g⟩ ρ = dynP cf C me dst (ρ t) (args.toList.map (opnd ρ)) := rfl
theorem lenP_ref {s ver off len : Nat} : lenP (.ref s ver off len) = some len := rfl
theorem lenP_lst {xs : List (List IV)} : lenP (.i (.lst xs)) = some xs.length := rfl
theorem lenP_emp : lenP (.i .emp) = some 0 := rfl
theorem elems_ref {k s ver off len : Nat} : elems k (.ref s ver off len) = .get s fun
    | some (.arr v k' xs) => Mm.chk (v == ver && k' == k) (.ret ((xs.drop off).take len))
    | _ => .fail := rfl
theorem elems_lst {k : Nat} {xs : List (List IV)} : elems k (.i (.lst xs)) = Mm.chk (xs.all (·.length == k)) (.ret xs) := rfl
theorem elems_emp {k : Nat} : elems k (.i .emp) = .ret [] := rfl
/-- The version that a new site gets. -/
def nv (x : Option Arr) : Nat :=
  match x with
  | some A => A.ver + 1
  | none => 0
theorem newVer_eq {d : Nat} : newVer d = .get d fun x => .ret (nv x) := by
  unfold newVer
  congr 1
  funext x
  cases x <;> rfl
theorem nv_none : nv none = 0 := rfl
theorem nv_some {A : Arr} : nv (some A) = A.ver + 1 := rfl
end
section
variable {α β : Type} {m : Mem}
theorem run_ret {a : α} : (Mm.ret a).run m = some (a, []) := rfl
theorem run_get {s : Nat} {k : Option Arr → Mm α} : (Mm.get s k).run m = match (k (m s)).run m with | some (a, r) => some (a, s :: r) | none => none := rfl
theorem bind_ret {a : α} {f : α → Mm β} : (Mm.ret a).bind f = f a := rfl
theorem bind_get {s : Nat} {k : Option Arr → Mm α} {f : α → Mm β} : (Mm.get s k).bind f = Mm.get s fun x => (k x).bind f := rfl
theorem run_bind_get {s : Nat} {k : Option Arr → Mm α} {f : α → Mm β} : ((Mm.get s k).bind f).run m = match ((k (m s)).bind f).run m with | some (a, r) => some (a, s :: r) | none => none := rfl
theorem opt_some {a : α} : Mm.opt (some a) = .ret a := rfl
theorem chk_true {x : Mm α} : Mm.chk true x = x := rfl
theorem bind_bind {γ : Type} {x : Mm α} {f : α → Mm β} {h : β → Mm γ} : (x.bind f).bind h = x.bind fun a => (f a).bind h := by
  induction x with
  | ret a => rfl
  | fail => rfl
  | get s k ih => simp only [Mm.bind]; congr 1; funext y; exact ih y
end
section
variable {P : Program} {a b : Int} {t : TypeId}
theorem binV_add : binV P .add t (I a) (I b) = some (.int .i64 (IntKind.i64.wrap (a + b))) := rfl
theorem binV_sub : binV P .sub t (I a) (I b) = some (.int .i64 (IntKind.i64.wrap (a - b))) := rfl
theorem binV_mul : binV P .mul t (I a) (I b) = some (.int .i64 (IntKind.i64.wrap (a * b))) := rfl
theorem binV_lss : binV P .lss t (I a) (I b) = some (.bool (decide (a < b))) := rfl
theorem binV_leq : binV P .leq t (I a) (I b) = some (.bool (decide (a ≤ b))) := rfl
theorem binV_gtr : binV P .gtr t (I a) (I b) = some (.bool (decide (b < a))) := rfl
theorem binV_geq : binV P .geq t (I a) (I b) = some (.bool (decide (b ≤ a))) := rfl
theorem binV_eql : binV P .eql t (I a) (I b) = some (.bool (decide (a = b))) := rfl
theorem binV_neq : binV P .neq t (I a) (I b) = some (.bool (!decide (a = b))) := rfl
theorem binV_gtrU {x y : Int} : binV P .gtr t (.i (.v (.int .u64 x))) (.i (.v (.int .u64 y))) = some (.bool (decide (y < x))) := rfl
theorem wrU {n : Int} (h1 : 0 ≤ n) (h2 : n < 18446744073709551616) : IntKind.u64.wrap n = n := by rw [IntKind.wrap_u64]; omega
theorem binV_eqlB {x y : Bool} : binV P .eql t (B x) (B y) = match P.underlying t with | some .bool => some (.bool (x == y)) | _ => none := by
  simp only [binV]; cases P.underlying t with
  | none => rfl
  | some d => cases d <;> rfl
theorem binV_neqB {x y : Bool} : binV P .neq t (B x) (B y) = match P.underlying t with | some .bool => some (.bool (!(x == y))) | _ => none := by
  simp only [binV]; cases P.underlying t with
  | none => rfl
  | some d => cases d <;> rfl
theorem binV_rem (h : b ≠ 0) : binV P .rem t (I a) (I b) = some (.int .i64 (a.tmod b)) := by
  simp [binV, binOp, Op.intDiv, h, semPure]
  rfl
theorem binV_quo (h : b ≠ 0) : binV P .quo t (I a) (I b) = some (.int .i64 (IntKind.i64.wrap (a.tdiv b))) := by
  simp [binV, binOp, Op.intDiv, h, semPure]
  rfl
def xorI (a b : Int) : Int := IntKind.i64.wrap ((BitVec.ofInt 64 a ^^^ BitVec.ofInt 64 b).toNat : Int)
theorem binV_xor : binV P .xor t (I a) (I b) = some (.int .i64 (xorI a b)) := rfl
theorem xorI_nonneg (h1 : 0 ≤ a) (h2 : 0 ≤ b) (h3 : a < 9223372036854775808) (h4 : b < 9223372036854775808) : 0 ≤ xorI a b ∧ xorI a b < 9223372036854775808 := by
  obtain ⟨x, rfl⟩ := Int.eq_ofNat_of_zero_le h1
  obtain ⟨y, rfl⟩ := Int.eq_ofNat_of_zero_le h2
  have hx : x < 2 ^ 63 := by omega
  have hy : y < 2 ^ 63 := by omega
  have hxy : x ^^^ y < 2 ^ 63 := Nat.xor_lt_two_pow hx hy
  have e : (BitVec.ofInt 64 (x : Int) ^^^ BitVec.ofInt 64 (y : Int)).toNat = x ^^^ y := by
    rw [BitVec.toNat_xor]
    simp only [BitVec.ofInt_natCast, BitVec.toNat_ofNat]
    rw [Nat.mod_eq_of_lt (by omega), Nat.mod_eq_of_lt (by omega)]
  have hxy' : ((x ^^^ y : Nat) : Int) < 9223372036854775808 := by omega
  unfold xorI
  rw [e, IntKind.wrap_i64]
  omega
theorem binV_eqlE {c d : Int} : binV P .eql t (.agg [I a, I b]) (.agg [I c, I d]) = if flatS P t 2 = true then some (.bool (decide (a = c ∧ b = d))) else none := by
  have e : (a == c && (b == d && true)) = decide (a = c ∧ b = d) := by
    by_cases h1 : a = c <;> by_cases h2 : b = d <;> simp [h1, h2]
  simp only [binV, List.length_cons, List.length_nil, Nat.reduceAdd, if_true, eqCells, Option.map_some, e]
theorem binV_neqE {c d : Int} : binV P .neq t (.agg [I a, I b]) (.agg [I c, I d]) = if flatS P t 2 = true then some (.bool (!decide (a = c ∧ b = d))) else none := by
  have e : (a == c && (b == d && true)) = decide (a = c ∧ b = d) := by
    by_cases h1 : a = c <;> by_cases h2 : b = d <;> simp [h1, h2]
  simp only [binV, List.length_cons, List.length_nil, Nat.reduceAdd, if_true, eqCells, Option.map_some, e]
theorem not_bool {x : Bool} : Op.unary .not (.bool x) = .pure (.bool (!x)) := rfl
theorem semPure_pure2 {α : Type} {x : α} : semPure (Pure.pure x) = some x := rfl
theorem semPure_pure {α : Type} {x : α} : semPure (.pure x) = some x := rfl
end
theorem wr {n : Int} (h1 : -9223372036854775808 ≤ n) (h2 : n ≤ 9223372036854775807) : IntKind.i64.wrap n = n := by rw [IntKind.wrap_i64]; omega
theorem wr1 {i : Nat} (h : i ≤ 1000000000000) : IntKind.i64.wrap ((i : Int) + 1) = ((i + 1 : Nat) : Int) := by rw [wr (by omega) (by omega)]; omega
theorem flat_v {x : Value} : (IV.v x).flat = x.oneCell' := rfl
theorem flat_emp : IV.emp.flat = true := rfl
theorem flat_lst {xs : List (List IV)} : (IV.lst xs).flat = true := rfl
theorem flat_ag {cs : List IV} : (IV.ag cs).flat = false := rfl
theorem flat_eptr {e : List IV} {o : Nat} : (IV.eptr e o).flat = true := rfl
theorem flat_fn {f : FuncId} {a b : List IV} : (IV.fn f a b).flat = true := rfl
theorem take_map {α β : Type} {f : α → β} {l : List α} : (l.map f).take l.length = l.map f := List.take_of_length_le (by simp)
theorem dle {a b : Nat} (h : a ≤ b) : decide (a ≤ b) = true := decide_eq_true h
theorem dlt {a b : Nat} (h : a < b) : decide (a < b) = true := decide_eq_true h
theorem upd_at {α : Type} {f : Nat → α} {i : Nat} {v : α} : upd f i v i = v := upd_same f i v
theorem upd_off {α : Type} {f : Nat → α} {i j : Nat} {v : α} (h : ¬ j = i) : upd f i v j = f j := upd_ne f v h
theorem isIntT_slice {e : TypeId} : isIntT (some (.slice e)) = false := rfl
theorem isIntT_int {k : IntKind} : isIntT (some (.int k)) = true := rfl
theorem isIntT_str : isIntT (some .string) = false := rfl
attribute [go_sem] upd_at upd_off
attribute [go_sem] List.mem_cons or_false not_or not_true_eq_false cond_true cond_false Int.le_refl exists_eq' List.nodup_nil List.nodup_cons List.not_mem_nil not_false_eq_true initP List.getD_cons_zero List.getD_cons_succ sq bl runOps_nil runOps_cons ro_some rp_some gdo_true gdo_false b_tf b_ft so_op so_g os_move os_assign os_pick os_box os_alloc os_build os_buildSlice os_load os_store
  os_nilCheck os_binOp nilT_ne nilT_tmp nilT_int nilT_bool nilT_str nilT_if0 nilT_if1 cvtB numsL os_unOp os_convert os_makeFunc os_makeSlice os_slice os_slice3 slR3 clipD capB boundsX os_fieldAddr os_field os_indexAddr os_index os_extract os_builtin os_call os_dyn run_ret run_get bind_ret
  bind_get bind_bind opt_some chk_true fin1_some newVer_eq nv_none nv_some St.step putρ updL opnd constP constC gv gvv_bool gvv_undef stR slR faR iaR_ref iaR_lst iaR_aptr iaR_aeptr ixR dynP_fn dynP_ifn toP_v toP_ag toP_lst toP_eptr rdAt takeT asInt asBoolP binV_add
  binV_sub binV_mul binV_lss binV_leq binV_gtr binV_geq binV_eql binV_neq binV_rem binV_quo binV_xor binV_gtrU wrU binV_eqlB binV_neqB binV_eqlE binV_neqE not_bool semPure_pure semPure_pure2 builtinP lenB lenP_ref lenP_lst lenP_emp appB zappB buildR appR isRow rowSite frz1 isIntT_slice isIntT_int isIntT_str clearB copyB consL cons1 elems_ref elems_lst elems_emp Mm.mapL splice fillP
  fillE fillA PV.cells PV.scalar take_map flat_v flat_emp flat_lst flat_eptr flat_fn Value.oneCell' optInt boundsP ownSite eqCells Arr.ver ite_true ite_false Bool.false_eq_true beq_self_eq_true bne_self_eq_false Bool.and_self
  Bool.and_true Bool.true_and Bool.and_false Bool.false_and Bool.or_false Bool.or_true Bool.false_or Bool.true_or Bool.not_true Bool.not_false decide_true decide_false
  decide_eq_true_eq Bool.not_eq_true' decide_eq_false_iff_not Nat.le_refl Nat.zero_le Int.natCast_nonneg Int.toNat_natCast Nat.add_zero Nat.zero_add Nat.sub_zero
  Nat.lt_add_left_iff_pos List.map_cons List.map_nil List.length_cons List.length_nil List.length_map List.length_append List.drop_zero List.drop_succ_cons List.drop_nil List.take_succ_cons
  List.take_zero List.take_nil List.append_nil List.nil_append List.cons_append List.all_cons List.all_nil List.any_cons List.any_nil List.flatMap_cons List.flatMap_nil
  List.set_cons_zero List.set_cons_succ List.replicate_succ List.replicate_zero List.getElem?_cons_zero List.getElem?_cons_succ List.getElem?_nil List.getElem?_toArray
  List.size_toArray Option.bind_some Option.bind_none Option.map_some Option.map_none Option.getD_some Option.getD_none Option.isSome_some Option.some.injEq Prod.mk.injEq
  exists_and_left exists_eq_left' and_assoc true_and and_true List.toList_toArray callP sendM coll PV.isI ren renArr lookIn backO lookOut siteOf imm imm1 mapO frz frzA hasRef flatP flatC
  flatIV flatA List.contains_cons List.contains_nil List.isEmpty_cons List.isEmpty_nil List.zip_cons_cons List.zip_nil_left List.range_succ List.range_zero List.idxOf_cons
  List.idxOf_nil outP resP tupR lookBack
end Go.Proofs.Ytdlfdoicheakoaa.X
