/- What functions answer, and the plain laws behind it. -/
import Derived.Test.YtnaaceooknghjaaGreatDoorKAD
set_option linter.unusedSimpArgs false
set_option linter.unusedVariables false
set_option maxHeartbeats 8000000
set_option maxRecDepth 100000
namespace Go.Proofs.YtnaaceooknghjaaGreatDoor.X
open Go Go.Proofs Tryz
theorem jqn {P:Program} {t:TypeId} {a:Int}:binV P .shr t (.i (.v (.int .u64 a))) (.i (.v (.int .u64 1)))=some (.int .u64 (a.fdiv 2)):=by
 simp[binV,binOp,Op.shift,jc4]
 rfl
theorem kht {a:Int} (h:0≤a):a.fdiv 2=a / 2:=Int.fdiv_eq_ediv_of_nonneg a (by omega)
theorem jwj {a b c d:Int}:cmpE a b c d<0↔lessE (a,b) (c,d)=true:=by
 unfold cmpE cmpI lessE
 rw[decide_eq_true_eq]
 simp only
 repeat' split
 all_goals omega
theorem j2t {a b c d:Int}:cmpE a b c d=0↔(a,b)=(c,d):=by
 unfold cmpE cmpI
 rw[Prod.mk.injEq]
 repeat' split
 all_goals omega
def atE (e:Int×Int) (es:List (Int×Int)) (k:Int):Prop:=0≤k∧k≤es.length∧(∀i:Nat,(i:Int)<k→lessE (es.getD i (0,0)) e=true)∧∀i:Nat,k≤(i:Int)→i<es.length→lessE (es.getD i (0,0)) e=false
theorem j5t {e:Int×Int}:∀{es:List (Int×Int)} {k:Nat},k≤es.length→(∀i:Nat,i<k→lessE (es.getD i (0,0)) e=true)→(∀i:Nat,k≤i→i<es.length→lessE (es.getD i (0,0)) e=false)→e∉es→putE e es=es.take k++e::es.drop k
 | [],k,hk,_,_,_=>by simp at hk;subst hk;rfl
 | x::r,0,_,_,h2,hn=>by
  have h:=h2 0 (Nat.le_refl _) (by simp)
  simp only[List.getD_cons_zero] at h
  simp only[List.mem_cons,not_or] at hn
  have:=jl1 h (fun q=>hn.1 q.symm)
  simp[putE,this]
 | x::r,k+1,hk,h1,h2,hn=>by
  have h:=h1 0 (by omega)
  simp only[List.getD_cons_zero] at h
  simp only[List.mem_cons,not_or] at hn
  have hx:lessE e x=false:=by
   rw[←Bool.not_eq_true]
   intro q
   rw[jdv] at h q
   omega
  have ih:=j5t (e:=e) (es:=r) (k:=k) (by simpa using hk) (fun i hi=>by simpa using h1 (i+1) (by omega)) (fun i hi hl=>by simpa using h2 (i+1) (by omega) (by simpa using hl)) hn.2
  simp only[putE,hx,Bool.false_eq_true,if_false,ih,List.take_succ_cons,List.drop_succ_cons,List.cons_append]
theorem Ord.get {es:List (Int×Int)} (h:Ord es) {i j:Nat} (hij:i<j) (hj:j<es.length):lessE (es.getD i (0,0)) (es.getD j (0,0))=true:=by
 have:=(List.pairwise_iff_getElem.1 h) i j (by omega) hj hij
 simpa[show i<es.length by omega,hj] using this
theorem j1s (a b:Int) (es:List (Int×Int)) (ho:Ord es) (hn:(a,b)∉es) (hl:es.length≤1000):∃k:Int,atE (a,b) es k∧KP 196 [LE es,PE a b,.i (.fn 181 [] [])] []=some (.tup [I k,B false],[],[]):=by
 suffices hgoal:∃res,(∃k:Int,atE (a,b) es k∧res=(.tup [I k,B false],[],[]))∧KP 196 [LE es,PE a b,.i (.fn 181 [] [])] []=some res by
  obtain⟨res,⟨k,h1,rfl⟩,h3⟩:=hgoal
  exact⟨k,h1,h3⟩
 refine ge func196 ?_
 have Fz:=fz1 results196
 repeat refine go1 ?_
 refine jaa (fun(u:Int×Int) s=>s.ρ 0=LE es∧s.ρ 2=.i (.fn 181 [] [])∧s.ρ 4=.ptr 4 0 0 0∧s.m 4=some (.box 0 [I a,I b])∧s.ρ 8=I es.length∧s.ρ 9=I u.1∧s.ρ 10=I u.2∧
  0≤u.1∧u.1≤u.2∧u.2≤es.length∧(∀i:Nat,(i:Int)<u.1→lessE (es.getD i (0,0)) (a,b)=true)∧∀i:Nat,u.2≤(i:Int)→i<es.length→lessE (es.getD i (0,0)) (a,b)=false) (fun u=>(u.2-u.1).toNat) (0,es.length) ?_ ?_
 ·refine⟨rfl,rfl,rfl,rfl,rfl,rfl,rfl,Int.le_refl _,by simp,by simp,fun i h=>?_,fun i h h2=>?_⟩
  ·simp only at h;omega
  ·simp only at h;omega
 rintro⟨i,j⟩ ⟨ρ,m⟩ ⟨h0,h2,h4,m4,h8,h9,h10,g0,g1,g2,g3,g4⟩
 simp only at h0 h2 h4 m4 h8 h9 h10 g0 g1 g2 g3 g4
 by_cases hij:i<j
 ·have w1:IntKind.u64.wrap (i+j)=i+j:=by rw[IntKind.wrap_u64];omega
  have w2:IntKind.i64.wrap ((i+j) / 2)=(i+j) / 2:=by rw[IntKind.wrap_i64];omega
  have d0:=kht (show 0≤i+j by omega)
  by_cases hc:lessE (es.getD ((i+j) / 2).toNat (0,0)) (a,b)=true
  ·have hc':cmpE (es.getD ((i+j) / 2).toNat (0,0)).1 (es.getD ((i+j) / 2).toNat (0,0)).2 a b<0:=jwj.2 hc
   have Fz:=fz13 results196 h0 h2 h4 m4 h8 h9 h10 w1 w2 @jqn d0 hc'
   repeat refine go1 ?_
   refine⟨by omega,by omega,g2,fun q hq=>?_,g4,by omega⟩
   by_cases hqe:q=((i+j) / 2).toNat
   ·rw[hqe];exact hc
   ·exact jdw (ho.get (show q<((i+j) / 2).toNat by omega) (by omega)) hc
  ·have hc':¬cmpE (es.getD ((i+j) / 2).toNat (0,0)).1 (es.getD ((i+j) / 2).toNat (0,0)).2 a b<0:=fun q=>hc (jwj.1 q)
   have Fz:=fz13 results196 h0 h2 h4 m4 h8 h9 h10 w1 w2 @jqn d0 hc'
   repeat refine go1 ?_
   refine⟨g0,by omega,by omega,g3,fun q hq hql=>?_,by omega⟩
   rw[←Bool.not_eq_true]
   intro hlt
   by_cases hqe:q=((i+j) / 2).toNat
   ·rw[hqe] at hlt;exact hc hlt
   ·exact hc (jdw (ho.get (show((i+j) / 2).toNat<q by omega) hql) hlt)
 ·have hfin:atE (a,b) es i:=⟨g0,by omega,g3,fun q hq hql=>g4 q (by omega) hql⟩
  by_cases hi:i<es.length
  ·have hc':¬cmpE (es.getD i.toNat (0,0)).1 (es.getD i.toNat (0,0)).2 a b=0:=fun q=>hn (by rw[←j2t.1 q];exact jab (by omega))
   have Fz:=fz9 results196 h0 h2 h4 m4 h8 h9 h10 hc'
   repeat refine go1 ?_
   exact⟨i,hfin,rfl⟩
  ·have Fz:=fz8 results196 h0 h2 h4 m4 h8 h9 h10
   repeat refine go1 ?_
   exact⟨i,hfin,rfl⟩
def pP (es:List (Int×Int)) (e:Int×Int):PV:=if es=[] then .i (.lst [encE e]) else .ref 2000 0 0 (es.length+1)
def pA (es:List (Int×Int)) (e:Int×Int):List Arr:=if es=[] then [] else [.arr 0 2 ((putE e es).map encE)]
theorem ka2 {es:List (Int×Int)} {e:Int×Int}:imm1 (pA es e) (pP es e)=some (.i (.lst ((putE e es).map encE))):=by
 unfold pA pP
 split
 ·rename_i h;subst h;rfl
 ·simp only[imm1,List.getElem?_cons_zero,Nat.lt_irrefl,if_false,Nat.sub_self]
  simp[List.take_of_length_le,jbg]
@[go_sem] theorem imm_p {es:List (Int×Int)} {e:Int×Int} {n:Nat}:imm n (pA es e) (pP es e)=some (.i (.lst ((putE e es).map encE))):=by
 have h:=ka2 (es:=es) (e:=e)
 unfold pP at h ⊢
 split at h
 ·rename_i hz;rw[if_pos hz];cases n<;>exact h
 ·rename_i hz;rw[if_neg hz];cases n<;>exact h
theorem j7h (es:List (Int×Int)) (a b k:Int) (hl:es.length≤1000) (h0:0≤k) (hk:k<es.length) :
 KP 197 [.ref 1000 0 0 es.length,I k,.ref 1001 0 0 1] [.arr 0 2 (es.map encE),.arr 0 2 [encE (a,b)]]=some (.ref 1000 1 0 (es.length+1),[.arr 1 2 ((es.take k.toNat++(a,b)::es.drop k.toNat).map encE),.arr 0 2 [encE (a,b)]],[]):=by
 refine jdd rfl ?_
 have:es.length≤1000000:=by omega
 simp[insP,h0,hk,this,encE]
theorem jqt (es:List (Int×Int)) (a b:Int) (hl:es.length≤1000) :
 KP 197 [.ref 1000 0 0 es.length,I es.length,.ref 1001 0 0 1] [.arr 0 2 (es.map encE),.arr 0 2 [[.v (.int .i64 a),.v (.int .i64 b)]]]=some (.ref 1000 1 0 (es.length+1),[.arr 1 2 ((es++[(a,b)]).map encE),.arr 0 2 [[.v (.int .i64 a),.v (.int .i64 b)]]],[]):=by
 have hp:primC cfg 197 [.ref 1000 0 0 es.length,I es.length,.ref 1001 0 0 1] [.arr 0 2 (es.map encE),.arr 0 2 [[.v (.int .i64 a),.v (.int .i64 b)]]]=none:=by
  first|rfl|simp[primC,cfg,insP]
 refine gp hp func197 ?_
 have Fz:=fz1 results197
 repeat(first|exact trivial|refine go1 ?_)
theorem jqu (a b:Int) :
 KP 197 [.i .emp,I 0,.ref 1000 0 0 1] [.arr 0 2 [[.v (.int .i64 a),.v (.int .i64 b)]]]=some (.ref 2000 0 0 1,[.arr 0 2 [[.v (.int .i64 a),.v (.int .i64 b)]]],[.arr 0 2 [[.v (.int .i64 a),.v (.int .i64 b)]]]):=by
 have hp:primC cfg 197 [.i .emp,I 0,.ref 1000 0 0 1] [.arr 0 2 [[.v (.int .i64 a),.v (.int .i64 b)]]]=none:=by
  first|rfl|simp[primC,cfg,insP]
 refine gp hp func197 ?_
 have Fz:=fz1 results197
 repeat(first|exact trivial|refine go1 ?_)
def jfl (n:Int) (es:List (Int×Int)) (e:Int×Int):Prop:=VG n es∧e∉es∧VG n (putE e es)
noncomputable instance decPutOK (n:Int) (es:List (Int×Int)) (e:Int×Int):Decidable (jfl n es e):=Classical.propDecidable _
theorem jkw (n a b:Int) (es:List (Int×Int)) (hl:es.length≤1000):KP 130 [GL n es,PE a b] []=
 some (if jfl n es (a,b) then(.tup [.agg [I n,pP es (a,b)],B true],[],pA es (a,b)) else(.tup [.agg [I 0,.i .emp],B false],[],[])):=by
 by_cases hV:VG n es∧(a,b)∉es
 rotate_left
 ·rw[if_neg (fun h=>hV ⟨h.1,h.2.1⟩)]
  by_cases hG:VG n es
  ·have hm:(a,b)∈es:=Classical.byContradiction fun h=>hV ⟨hG,h⟩
   have h1:=decide_eq_true hG
   have h2:=decide_eq_true hm
   refine gc func130 ?_
   have Fz:=fz3 results130 h1 h2
   repeat(first|exact trivial|refine go1 ?_)
  ·have h1:=decide_eq_false hG
   refine gc func130 ?_
   have Fz:=fz2 results130 h1
   repeat(first|exact trivial|refine go1 ?_)
 obtain⟨hG,hm⟩:=hV
 have h1:=decide_eq_true hG
 have h2:=decide_eq_false hm
 have hle:=hG.okg.len
 obtain⟨k,hk,hbs⟩:=j1s a b es hG.2.2.2.2 hm (by omega)
 obtain⟨k0,k1,k2,k3⟩:=hk
 have hput:=j5t (e:=(a,b)) (es:=es) (k:=k.toNat) (by omega) (fun i hi=>k2 i (by omega)) (fun i hi hl=>k3 i (by omega) hl) hm
 have hpl:=jbg (a,b) es
 have hgv:=jce n (putE (a,b) es) (by omega)
 by_cases hz:es=[]
 ·have k0':k=0:=by rw[hz] at k1;simp at k1;omega
  subst k0'
  have hin:=jqu a b
  have hcl:KP 198 [LE es] []=some (.i .emp,[],[]):=by rw[hz];exact j1t
  have hpe:putE (a,b) es=[(a,b)]:=by rw[hz];rfl
  have hgv':KP 112 [.agg [I n,.i (.lst [[.v (.int .i64 a),.v (.int .i64 b)]])]] []=some (B (decide (VG n (putE (a,b) es))),[],[]):=by rw[hpe];exact jce n [(a,b)] (by simp)
  by_cases hP:VG n (putE (a,b) es)
  ·rw[if_pos ⟨hG,hm,hP⟩]
   have h3:=decide_eq_true hP
   unfold pP pA
   rw[if_pos hz,if_pos hz]
   refine gc func130 ?_
   have Fz:=fz8 results130 h1 h2 hcl hbs hin hgv' h3
   repeat refine go1 ?_
   rfl
  ·rw[if_neg (fun q=>hP q.2.2)]
   have h3:=decide_eq_false hP
   refine gc func130 ?_
   have Fz:=fz8 results130 h1 h2 hcl hbs hin hgv' h3
   repeat(first|exact trivial|refine go1 ?_)
 ·have hin:KP 197 [.ref 1000 0 0 es.length,I k,.ref 1001 0 0 1] [.arr 0 2 (es.map encE),.arr 0 2 [[.v (.int .i64 a),.v (.int .i64 b)]]]=some (.ref 1000 1 0 (es.length+1),[.arr 1 2 ((putE (a,b) es).map encE),.arr 0 2 [[.v (.int .i64 a),.v (.int .i64 b)]]],[]):=by
   by_cases hke:k=es.length
   ·subst hke
    have:=jqt es a b (by omega)
    rw[hput]
    simpa using this
   ·rw[hput]
    exact j7h es a b k (by omega) k0 (by omega)
  by_cases hP:VG n (putE (a,b) es)
  ·rw[if_pos ⟨hG,hm,hP⟩]
   have h3:=decide_eq_true hP
   unfold pP pA
   rw[if_neg hz,if_neg hz]
   refine gc func130 ?_
   have hcl:=jow es hz (by omega)
   have htk:(putE (a,b) es).take (es.length+1)=putE (a,b) es:=by rw[←hpl,List.take_length]
   have Fz:=fz9 results130 h1 h2 hcl hbs hin hgv h3 htk
   repeat(first|exact trivial|refine go1 ?_)
  ·rw[if_neg (fun q=>hP q.2.2)]
   have h3:=decide_eq_false hP
   refine gc func130 ?_
   have hcl:=jow es hz (by omega)
   have htk:(putE (a,b) es).take (es.length+1)=putE (a,b) es:=by rw[←hpl,List.take_length]
   have Fz:=fz9 results130 h1 h2 hcl hbs hin hgv h3 htk
   repeat(first|exact trivial|refine go1 ?_)
theorem jni (n a b:Int) (es:List (Int×Int)) (hP:jfl n es (a,b)) (hl:es.length≤1000) :
 ∃r own,KP 130 [GL n es,PE a b] []=some (r,[],own)∧imm 2 own r=some (.tup [.agg [I n,LE (putE (a,b) es)],B true]):=by
 have hp:=jkw n a b es hl
 rw[if_pos hP] at hp
 have him:=ka2 (es:=es) (e:=(a,b))
 refine⟨_,_,hp,?_⟩
 ·unfold pP at him ⊢
  split at him
  ·rename_i hz;rw[if_pos hz];simp only[imm,mapO,him];rfl
  ·rename_i hz;rw[if_neg hz];simp only[imm,mapO,him];rfl
theorem jgb (n a b:Int) (es:List (Int×Int)) (hl:es.length≤1000):KP 164 [GL n es,PE a b] []=
 some (if jfl n es (a,b) then(.tup [.agg [I n,LE (putE (a,b) es)],B true],[],[]) else(.tup [.agg [I 0,.i .emp],B false],[],[])):=by
 by_cases hV:VG n es∧(a,b)∉es
 rotate_left
 ·rw[if_neg (fun h=>hV ⟨h.1,h.2.1⟩)]
  by_cases hG:VG n es
  ·have hm:(a,b)∈es:=Classical.byContradiction fun h=>hV ⟨hG,h⟩
   have h1:=decide_eq_true hG
   have h2:¬jco es (a,b)<0:=by unfold jco;rw[if_pos hm];omega
   refine gc func164 ?_
   have Fz:=fz3 results164 h1 h2
   repeat(first|exact trivial|refine go1 ?_)
  ·have h1:=decide_eq_false hG
   refine gc func164 ?_
   have Fz:=fz2 results164 h1
   repeat(first|exact trivial|refine go1 ?_)
 obtain⟨hG,hm⟩:=hV
 have h1:=decide_eq_true hG
 have h2:¬(0≤jco es (a,b)):=by unfold jco;rw[if_neg hm];omega
 have hle:=hG.okg.len
 have hpl:=jbg (a,b) es
 have hgv:=jbb n (putE (a,b) es) (by omega)
 by_cases hP:VG n (putE (a,b) es)
 ·rw[if_pos ⟨hG,hm,hP⟩]
  have h3:=decide_eq_true hP
  refine gc func164 ?_
  have Fz:=fz5 results164 h1 h2 hgv h3
  repeat(first|exact trivial|refine go1 ?_)
 ·rw[if_neg (fun q=>hP q.2.2)]
  have h3:=decide_eq_false hP
  refine gc func164 ?_
  have Fz:=fz5 results164 h1 h2 hgv h3
  repeat(first|exact trivial|refine go1 ?_)
end Go.Proofs.YtnaaceooknghjaaGreatDoor.X
