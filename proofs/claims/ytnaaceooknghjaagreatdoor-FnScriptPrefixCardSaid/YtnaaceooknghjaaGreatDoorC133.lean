/- What functions answer, and the plain laws behind it. -/
import Derived.Test.YtnaaceooknghjaaGreatDoorKAS
set_option linter.unusedSimpArgs false
set_option linter.unusedVariables false
set_option maxHeartbeats 8000000
set_option maxRecDepth 100000
namespace Go.Proofs.YtnaaceooknghjaaGreatDoor.X
open Go Go.Proofs
theorem jpx (c x:UInt8) (r:List UInt8):pcs c (x::r)=if x=c then []::pcs c r else match pcs c r with | []=>[[x]] | p::q=>(x::p)::q:=by
 rw[pcs]
 split
 ·rfl
 ·cases pcs c r<;>rfl
theorem jme {c:UInt8}:∀(a b:List UInt8),pcs c (a++c::b)=pcs c a++pcs c b
 | [],b=>by rw[List.nil_append,jpx,if_pos rfl];simp[pcs]
 | x::a,b=>by
  have ih:=jme (c:=c) a b
  rw[List.cons_append,jpx,jpx c x a,ih]
  by_cases h:x=c
  ·rw[if_pos h,if_pos h];rfl
  ·rw[if_neg h,if_neg h]
   have hne:=jx0 c a
   cases hp:pcs c a with
   | nil=>exact absurd hp hne
   | cons p q=>rfl
theorem jmi:∀(ls:List (List UInt8)) (i:Nat) (n:Int) (ts:List Tl) (o:List UInt8),o <+: runF ls i n ts o
 | [],i,n,ts,o=>List.prefix_refl o
 | l::r,i,n,ts,o=>by
  unfold runF
  split
  ·exact jmi r _ _ _ _
  split
  ·exact List.prefix_append o _
  ·exact(List.prefix_append o _).trans (jmi r _ _ _ _)
theorem jkm:∀(a b:List (List UInt8)) (i:Nat) (n:Int) (ts:List Tl) (o:List UInt8),runF (a++[[]]) i n ts o <+: runF (a++b) i n ts o
 | [],b,i,n,ts,o=>jmi b i n ts o
 | l::a,b,i,n,ts,o=>by
  rw[List.cons_append,List.cons_append]
  unfold runF
  split
  ·exact jkm a b _ _ _ _
  split
  ·exact List.prefix_refl _
  ·exact jkm a b _ _ _ _
theorem jve {T:List UInt8} {c:Nat} (hc:c≤T.length) (hl:T.length≤20000) (h:c=0∨T.getD (c-1) 0=10):jca (T.take c) <+: jca T:=by
 unfold jca
 rw[if_neg (by rw[List.length_take];omega),if_neg (by omega)]
 rcases Nat.eq_zero_or_pos c with h0|h0
 ·subst h0
  rw[List.take_zero]
  exact jkm [] (pcs 10 T) 0 1 [] []
 ·have h1:=h.resolve_left (by omega)
  obtain⟨k,rfl⟩:∃k,c=k+1:=⟨c-1,by omega⟩
  have e1:T.take (k+1)=T.take k++10::[]:=by
   rw[List.take_add_one]
   have hk:k<T.length:=by omega
   simp only[Nat.add_sub_cancel,List.getD_eq_getElem?_getD] at h1
   rw[List.getElem?_eq_getElem hk] at h1 ⊢
   simp only[Option.getD_some] at h1
   rw[h1];rfl
  have e2:T=T.take k++10::T.drop (k+1):=by
   have:=List.take_append_drop (k+1) T
   rw[e1] at this
   have h2:=this.symm
   rw[List.append_assoc] at h2
   exact h2
  have e3:pcs 10 (T.take (k+1))=pcs 10 (T.take k)++[[]]:=by rw[e1,jme];rfl
  have e4:pcs 10 T=pcs 10 (T.take k)++pcs 10 (T.drop (k+1)):=by
   have:=congrArg (pcs 10) e2
   rw[jme] at this
   exact this
  rw[e3,e4]
  exact jkm _ _ 0 1 [] []
end Go.Proofs.YtnaaceooknghjaaGreatDoor.X
