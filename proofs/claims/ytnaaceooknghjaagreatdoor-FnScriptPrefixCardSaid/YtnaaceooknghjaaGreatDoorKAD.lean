/- What functions answer, and the plain laws behind it. -/
import Derived.Test.YtnaaceooknghjaaGreatDoorC11
import Derived.Test.YtnaaceooknghjaaGreatDoorKAC
set_option linter.unusedSimpArgs false
set_option linter.unusedVariables false
set_option maxHeartbeats 4000000
namespace Go.Proofs.YtnaaceooknghjaaGreatDoor.X
open Go Go.Proofs Tryz
theorem je2 (n v:Int) (es:List (Int×Int)) (h:OKG n es) (hn:es.Nodup):KP 157 [GL n es,I v] []=some (.ref 2000 0 0 (nbS v es).length,[],[.arr 0 1 ((nbS v es).map encI)]):=by
 obtain⟨n0,n1,hl,ho⟩:=h
 rw[←kde ho hn v]
 refine gc func157 ?_
 have Fz:=fz1 results157
 repeat refine go1 ?_
 refine jaa (fun(x:Int×Nat×List Int) s=>s.m 7=some (.arr x.2.1 1 (x.2.2.map encI))∧s.ρ 5=.ref 7 x.2.1 0 x.2.2.length∧s.ρ 6=I x.1∧s.ρ 1=I v∧s.ρ 2=.ptr 2 0 0 0∧s.m 2=some (.box 0 [I n,LE es])∧
  0≤x.1∧x.1≤n∧(x.2.2.length:Int)≤x.1∧x.2.2=(iota x.1).filter fun y=>decide (y≠v∧edgeOf y v∈es)) (fun x=>(n-x.1).toNat) (0,0,[]) (by simp[upd,iota,n0]) ?_
 rintro⟨i,w,xs⟩ ⟨ρ,m⟩ ⟨m7,h5,h6,h1,h2,m2,g0,g1,g2,g3⟩
 simp only at m7 h5 h6 h1 h2 m2 g0 g1 g2 g3
 have hf:=@jrs es (edgeOf i v)
 have Fz:=fz7 results157 m7 h5 h6 h1 h2 m2
 repeat'(first|refine go1 ?_|(refine go2 ?_ ?_<;>intro _<;>try omega)|(refine go4 ?_;split<;>first|omega|refine go3 ?_|skip))
 all_goals first
  | (refine⟨by omega,by omega,by omega,?_,by omega⟩;rw[jby g0,List.filter_append,←g3];grind)
  | (have:i=n:=by omega
     subst this
     rw[←g3]
     exact⟨rfl,rfl⟩)
structure CloI (c:IV) (dom:Int→Prop) (p:Int→Bool):Prop where
 frz:∀n,X.frz n (.i c)=.ret c
 flat:c.flat=true
 call:∀me d x,dom x→dynP cfg (KK prog cfg) me (some d) (.i c) [I x]=.ret (B (p x),[])
def juq (p:Int→Bool) (xs:List Int):Int:=if xs.findIdx p<xs.length then(xs.findIdx p:Int) else -1
theorem j8g {p:Int→Bool} {xs:List Int} {i:Int} (h0:0≤i) (h:i<xs.length) (hp:p (xs.getD i.toNat 0)=true) (hn:∀e∈xs.take i.toNat,p e=false):juq p xs=i:=by
 have hi:i.toNat<xs.length:=by omega
 have:xs.findIdx p=i.toNat:=by
  rw[List.findIdx_eq hi]
  refine⟨by simpa[hi] using hp,fun j hj=>hn _ ?_⟩
  rw[List.mem_take_iff_getElem]
  exact⟨j,by omega,rfl⟩
 unfold juq
 rw[this,if_pos hi];omega
theorem jnx {p:Int→Bool} {xs:List Int} (hn:∀e∈xs,p e=false):juq p xs=-1:=by
 have:xs.findIdx p=xs.length:=List.findIdx_eq_length.2 hn
 unfold juq
 rw[this,if_neg (by omega)]
theorem j3t {p:Int→Bool} {xs:List Int}:decide (0≤juq p xs)=xs.any p:=by
 cases h:xs.any p with
 | true=>
  obtain⟨x,hx,hp⟩:=List.any_eq_true.1 h
  have:xs.findIdx p<xs.length:=List.findIdx_lt_length_of_exists ⟨x,hx,hp⟩
  unfold juq
  rw[if_pos this];simp
 | false=>
  rw[jnx fun e he=>by simpa using List.any_eq_false.1 h e he];rfl
theorem jqs {c:IV} {dom:Int→Prop} {p:Int→Bool} (hc:CloI c dom p) (xs:List Int) (hd:∀x∈xs,dom x) (hl:xs.length≤1048576):KP 224 [LI xs,.i c] []=some (I (juq p xs),[],[]):=by
 obtain⟨hc1,hc2,hc3⟩:=hc
 refine gc func224 ?_
 have Fz:=fz1 results224
 repeat refine go1 ?_
 refine jaa (fun(i:Int) s=>s.ρ 0=LI xs∧s.ρ 1=.i c∧s.ρ 7=I xs.length∧s.ρ 8=I i∧0≤i∧i≤xs.length∧∀e∈xs.take i.toNat,p e=false) (fun i=>(xs.length-i).toNat) 0 (by simp[upd]) ?_
 rintro i ⟨ρ,m⟩ ⟨h0,h1,h7,h8,hi0,hi,hp⟩
 simp only at h0 h1 h7 h8
 by_cases hj:i<xs.length
 ·have hm:dom (xs.getD i.toNat 0):=hd _ (jab (by omega))
  have Fz:=fz7 results224 h0 h1 h7 h8 hc3 hc1
  repeat'(first|refine go1 ?_|(refine go2 ?_ ?_<;>intro _<;>try omega))
  ·exact(j8g hi0 ‹_› ‹_› hp).symm
  ·refine⟨by omega,by omega,?_,by omega⟩
   rw[jae 0 hi0 ‹_›]
   grind
 ·have Fz:=fz7 results224 h0 h1 h7 h8 hc3 hc1
  repeat refine go1 ?_
  rw[jnx (by rwa [jac (by omega)] at hp)]
theorem jdq {c:IV} {dom:Int→Prop} {p:Int→Bool} (hc:CloI c dom p) (xs:List Int) (hd:∀x∈xs,dom x) (hl:xs.length≤1048576):KP 183 [LI xs,.i c] []=some (B (xs.any p),[],[]):=by
 have hx:=jqs hc xs hd hl
 obtain⟨hc1,hc2,hc3⟩:=hc
 refine gc func183 ?_
 have Fz:=fz4 results183 hc1 hc2 hx
 repeat refine go1 ?_
 exact j3t
def CutN (es:List (Int×Int)) (v:Int):Prop:=∃x∈nbS v es,¬Conn (alone v es) ((nbS v es).getD 0 0) x
noncomputable instance decCutN (es:List (Int×Int)) (v:Int):Decidable (CutN es v):=Classical.propDecidable _
theorem OKG.alone {n:Int} {es:List (Int×Int)} (h:OKG n es) (v:Int):OKG n (alone v es):=
 ⟨h.n0,h.n1,Nat.le_trans (List.length_filter_le _ _) h.len,fun e he=>h.ok e (List.mem_filter.1 he).1⟩
theorem jpa (P Q:List Int) (hP:P.length≤1048576) (hQ:Q.length≤1048576) (h0:∀x∈Q,0≤x∧x<P.length):CloI (.fn 184 [] [.eptr [.lst (P.map encI)] 0,.eptr [.lst (Q.map encI)] 0]) (·∈Q) (fun x=>!decide (P.getD x.toNat 0=P.getD (Q.getD 0 0).toNat 0)):=by
 have h:∀x:Int,x∈Q→KP 184 [I x,.i (.eptr [.lst (P.map encI)] 0),.i (.eptr [.lst (Q.map encI)] 0)] []=some (B (!decide (P.getD x.toNat 0=P.getD (Q.getD 0 0).toNat 0)),[],[]):=by
  intro x hx
  have h1:=h0 x hx
  have hQ0:0<Q.length:=List.length_pos_of_mem hx
  have h2:=h0 _ (jab (d:=0) hQ0)
  refine gc func184 ?_
  have Fz:=fz1 results184
  repeat(first|exact trivial|refine go1 ?_)
 refine⟨fun n=>by cases n<;>rfl,rfl,fun me d x hx=>?_⟩
 have hx':=h x hx
 simp only[go_sem,↓reduceIte,Int.reduceLE,Int.reduceLT,Int.reduceToNat,Int.reduceNeg,Int.reduceAdd,Int.reduceSub,Int.reduceMul,Int.reduceEq,Int.reduceNe,Nat.reduceEqDiff,Nat.reduceAdd,Nat.reduceSub,Nat.reduceMul,Nat.reduceLT,Nat.reduceLeDiff,Nat.reduceBEq,Nat.reduceBNe,UInt8.reduceToNat,hx',ite_self]
theorem jt4 (n v:Int) (es:List (Int×Int)) (h:VG n es) (hv:0≤v∧v<n):KP 116 [GL n es,I v] []=some (B (decide (CutN es v)),[],[]):=by
 have hal:(alone v es).length≤40:=Nat.le_trans (List.length_filter_le _ _) h.okg.len
 have hl:=h.okg.len
 have hlab:=jap n (alone v es)
 have hnb:(nbS v es).length≤1048576:=by have:=jak v es;omega
 have hok:=h.okg.alone v
 have hcut:=jky n v es (by omega)
 have hpar:=ji4 n (alone v es) hok
 have hnei:=jb8 n v es (by omega)
 have hnb2:∀x∈nbS v es,0≤x∧x<(lab n (alone v es)).length:=fun x hx=>by
  have:=((ja8 h.okg.ok).1 hx).ok h.okg.ok
  omega
 have hcf:=jdq (jpa (lab n (alone v es)) (nbS v es) (by have:=h.2.1;omega) hnb hnb2) (nbS v es) (fun _ h=>h) hnb
 refine gc func116 ?_
 have Fz:=fz6 results116 hcut hpar hnei @jho hcf
 repeat refine go1 ?_
 rw[Bool.eq_iff_iff,List.any_eq_true,decide_eq_true_eq]
 unfold CutN
 refine exists_congr fun x=>and_congr_right fun hx=>?_
 have h1:=hnb2 x hx
 have h2:=hnb2 _ (jab (d:=0) (List.length_pos_of_mem hx))
 rw[hlab] at h1 h2
 rw[Bool.not_eq_true',decide_eq_false_iff_not,jfz (by omega) (by omega)]
 exact not_congr ⟨Conn.symm,Conn.symm⟩
theorem VG.nodup {n:Int} {es:List (Int×Int)} (h:VG n es):es.Nodup:=Ord.nodup h.2.2.2.2
theorem kbx (n v:Int) (es:List (Int×Int)) (h:VG n es) (hv:0≤v∧v<n):KP 88 [GL n es,I v] []=some (B (decide (CutN es v)),[],[]):=by
 have hl:=h.okg.len
 have hok:=h.okg.alone v
 have hal:=hok.len
 have hnb:(nbS v es).length≤1048576:=by have:=jak v es;omega
 have hnx:=je2 n v es h.okg h.nodup
 have hnb2:∀x∈nbS v es,0≤x∧x<n:=fun x hx=>by
  have:=((ja8 h.okg.ok).1 hx).ok h.okg.ok
  omega
 refine gc func88 ?_
 have Fz:=fz2 results88 hnx
 repeat refine go1 ?_
 refine jaa (fun(i:Int) s=>s.ρ 5=LI (nbS v es)∧s.ρ 6=.ptr 6 0 0 0∧s.m 6=some (.box 0 [I n,LE (alone v es)])∧s.ρ 7=I i∧1≤i∧∀e∈(nbS v es).take i.toNat,Conn (alone v es) ((nbS v es).getD 0 0) e) (fun i=>((nbS v es).length-i).toNat) 1 (by
  refine⟨rfl,rfl,rfl,rfl,by omega,?_⟩
  cases hq:nbS v es with
  | nil=>simp
  | cons q r=>simp;exact .refl _) ?_
 rintro i ⟨ρ,m⟩ ⟨h5,h6,m6,h7,g0,g1⟩
 simp only at h5 h6 m6 h7
 by_cases hj:i<(nbS v es).length
 ·have h1:=hnb2 _ (jab (d:=0) (show 0<(nbS v es).length by omega))
  have h2:=hnb2 _ (jab (d:=0) (show i.toNat<(nbS v es).length by omega))
  have Fz:=fz5 results88 h5 h6 m6 h7
  repeat'(first|refine go1 ?_|(refine go2 ?_ ?_<;>intro _<;>try omega))
  ·refine⟨by omega,?_,by omega⟩
   rw[jae 0 (by omega) hj]
   intro e he
   rcases List.mem_append.1 he with he|he
   ·exact g1 e he
   ·rw[List.mem_singleton.1 he];assumption
  ·have:CutN es v:=⟨_,jab (d:=0) (show i.toNat<(nbS v es).length by omega),by assumption⟩
   simp[this]
 ·have Fz:=fz5 results88 h5 h6 m6 h7
  repeat refine go1 ?_
  rw[jac (by omega)] at g1
  have:¬CutN es v:=fun⟨x,hx,hc⟩=>hc (g1 x hx)
  simp[this]
@[go_sem] theorem kgn (x:Int):KP 140 [I x] []=some (B (decide (0≤x∧x<16)),[],[]):=by
 refine gc func140 ?_
 have Fz:=fz1 results140
 repeat'(first|refine go1 ?_|(refine go4 ?_;split<;>first|omega|refine go3 ?_|skip))
 all_goals grind
def eOk (x y:Int):Prop:=0≤x∧x<16∧0≤y∧y<16∧x≠y
instance (x y:Int):Decidable (eOk x y):=by unfold eOk;infer_instance
@[go_sem] theorem jc8 (x y:Int):KP 78 [I x,I y] []=some (if eOk x y then .tup [PE (edgeOf x y).1 (edgeOf x y).2,B true] else .tup [PE 0 0,B false],[],[]):=by
 by_cases h:eOk x y
 ·rw[if_pos h]
  have h':=h
  unfold eOk at h'
  have e1:(edgeOf x y).1=min x y:=by unfold edgeOf;split<;>(simp only;omega)
  have e2:(edgeOf x y).2=max x y:=by unfold edgeOf;split<;>(simp only;omega)
  rw[e1,e2]
  refine gc func78 ?_
  have Fz:=fz1 results78
  repeat(first|exact trivial|refine go1 ?_)
  all_goals grind
 ·rw[if_neg h]
  unfold eOk at h
  refine gc func78 ?_
  have Fz:=fz1 results78
  repeat'(first|exact trivial|refine go1 ?_|(refine go4 ?_;split<;>first|omega|refine go3 ?_|skip))
  all_goals grind
def cutE (e0:Int×Int) (es:List (Int×Int)):List (Int×Int):=es.filter fun e=>decide (e≠e0)
theorem j2y (a b:Int) (es:List (Int×Int)):(es.filter fun e=>!decide (e.1=a∧e.2=b))=cutE (a,b) es:=by
 unfold cutE
 congr 1
 funext e
 by_cases h:e=(a,b)
 ·subst h;simp
 ·have:¬(e.1=a∧e.2=b):=fun h'=>h (Prod.ext h'.1 h'.2)
  simp[h,this]
theorem j75 (e0:Int×Int) (es:List (Int×Int)):(cutE e0 es).length≤es.length:=List.length_filter_le _ _
theorem kb9 (a b:Int):Clo (.fn 204 [] [.eptr [.v (.int .i64 a),.v (.int .i64 b)] 0]) (fun _=>True) (fun e=>decide (e.1=a∧e.2=b)):=by
 have h:∀x y:Int,KP 204 [PE x y,.i (.eptr [.v (.int .i64 a),.v (.int .i64 b)] 0)] []=some (B (decide (x=a∧y=b)),[],[]):=by
  intro x y
  refine gc func204 ?_
  have Fz:=fz1 results204
  repeat(first|exact trivial|refine go1 ?_)
 refine⟨fun n=>by cases n<;>rfl,rfl,fun me d x y _=>?_⟩
 simp only[go_sem,↓reduceIte,Int.reduceLE,Int.reduceLT,Int.reduceToNat,Int.reduceNeg,Int.reduceAdd,Int.reduceSub,Int.reduceMul,Int.reduceEq,Int.reduceNe,Nat.reduceEqDiff,Nat.reduceAdd,Nat.reduceSub,Nat.reduceMul,Nat.reduceLT,Nat.reduceLeDiff,Nat.reduceBEq,Nat.reduceBNe,UInt8.reduceToNat,h,ite_self]
@[go_sem] theorem khc (n a b:Int) (es:List (Int×Int)) (hl:es.length≤1048576):KP 142 [GL n es,PE a b] []=some (.agg [I n,.i (delE (fun e=>decide (e.1=a∧e.2=b)) es)],[],[]):=by
 have hw:=jhy (kb9 a b) n es (fun _ _=>trivial) hl
 refine gc func142 ?_
 have Fz:=fz2 results142 hw
 repeat(first|exact trivial|refine go1 ?_)
@[go_sem] theorem jk3 (a b:Int) (es:List (Int×Int)) (hl:es.length≤1048576):KP 172 [LE es,PE a b] []=some (.ref 2000 0 0 (cutE (a,b) es).length,[],[.arr 0 2 ((cutE (a,b) es).map encE)]):=by
 refine gc func172 ?_
 have Fz:=fz1 results172
 repeat refine go1 ?_
 refine jaa (fun(x:Int×Nat×List (Int×Int)) s=>s.m 7=some (.arr x.2.1 2 (x.2.2.map encE))∧s.ρ 5=.ref 7 x.2.1 0 x.2.2.length∧s.ρ 6=I x.1∧s.ρ 0=LE es∧s.ρ 3=.ptr 3 0 0 0∧s.m 3=some (.box 0 [I a,I b])∧
  0≤x.1∧x.1≤es.length∧(x.2.2.length:Int)≤x.1∧x.2.2=cutE (a,b) (es.take x.1.toNat)) (fun x=>(es.length-x.1).toNat) (0,0,[]) (by simp[upd,cutE]) ?_
 rintro⟨i,w,xs⟩ ⟨ρ,m⟩ ⟨m7,h5,h6,h0,h3,m3,g0,g1,g2,g3⟩
 simp only at m7 h5 h6 h0 h3 m3 g0 g1 g2 g3
 have Fz:=fz7 results172 m7 h5 h6 h0 h3 m3
 repeat'(first|refine go1 ?_|(refine go2 ?_ ?_<;>intro _<;>try omega))
 all_goals first
  | (refine⟨by omega,by omega,by omega,?_,by omega⟩
     rw[jae (0,0) g0 (by assumption),cutE,List.filter_append]
     rw[cutE] at g3
     rw[←g3]
     generalize es.getD i.toNat (0,0)=e at *
     have:e=(a,b)↔e.1=a∧e.2=b:=Prod.ext_iff
     grind)
  | (rw[jac (by omega)] at g3
     rw[←g3]
     exact⟨rfl,rfl⟩)
@[go_sem] theorem c_mul1 (n:Int) (h:0≤n∧n≤1048576):KP 236 [.i (.v (.int .u64 1)),.i (.v (.int .u64 n))] []=some (.tup [.i (.v (.int .u64 0)),.i (.v (.int .u64 n))],[],[]):=by
 refine jdd rfl ?_
 have h1:1*n / 18446744073709551616=0:=by omega
 have h2:1*n % 18446744073709551616=n:=by omega
 simp only[mulP,h1,h2]
 rw[if_pos (by omega)]
@[go_sem] theorem kfe (x n:Int) (hn:0≤n∧n≤1048576):KP 206 [.i (.lst [[.v (.int .i64 x)]]),I n] []=some (.ref 2000 0 0 n.toNat,[],[.arr 0 1 ((List.replicate n.toNat x).map encI)]):=by
 by_cases h0:n=0
 ·subst h0
  refine gc func206 ?_
  have Fz:=fz1 results206
  repeat refine go1 ?_
  refine jaa (fun(y:Unit) s=>s.m 30=some (.arr 0 1 [])∧s.ρ 7=.ref 30 0 0 0∧s.ρ 8=I 0) (fun _=>0) () ⟨rfl,rfl,rfl⟩ ?_
  rintro⟨⟩ ⟨ρ,m⟩ ⟨m30,h7,h8⟩
  simp only at m30 h7 h8
  have Fz:=fz4 results206 m30 h7 h8
  repeat(first|exact trivial|refine go1 ?_)
  all_goals simp
 refine gc func206 ?_
 have Fz:=fz2 results206 @jac
 repeat refine go1 ?_
 refine jaa (fun(y:Int×List Int) s=>s.m 30=some (.arr 0 1 (y.2.map encI))∧s.ρ 7=.ref 30 0 0 n.toNat∧s.ρ 8=I y.1∧0<y.1∧y.1≤n∧y.2.length=n.toNat∧y.2.take y.1.toNat=List.replicate y.1.toNat x)
  (fun y=>(n-y.1).toNat) (1,x::(zI n.toNat).drop 1) ?_ ?_
 ·have e1:min 1 (n.toNat)=1:=by omega
  refine⟨rfl,rfl,?_,by simp,by simp only;omega,by simp[zI];omega,by simp⟩
  simp[upd,e1]
 rintro⟨k,xs⟩ ⟨ρ,m⟩ ⟨m30,h7,h8,g0,g1,g3,g4⟩
 simp only at m30 h7 h8 g0 g1 g3 g4
 have Fz:=fz6 results206 m30 h7 h8 @llt g3
 repeat'(first|refine go1 ?_|(refine go2 ?_ ?_<;>intro _<;>try omega))
 ·refine⟨by omega,by omega,by simp[g3];omega,?_,by omega⟩
  have e1:min k.toNat n.toNat=k.toNat:=by omega
  rw[e1,g4,List.take_replicate]
  have e2:min (n.toNat-k.toNat) k.toNat=min k.toNat (n.toNat-k.toNat):=Nat.min_comm ..
  rw[List.replicate_append_replicate,e2]
  have e3:(k+((min k.toNat (n.toNat-k.toNat):Nat):Int)).toNat=k.toNat+min k.toNat (n.toNat-k.toNat):=by omega
  rw[e3]
  exact List.take_left' (by simp)
 ·have:k.toNat=n.toNat:=by omega
  rw[this,jac (by omega)] at g4
  rw[g4]
theorem jcp (a b:List Int) (x:Int):(a++x::b).getD a.length 0=x:=by simp
theorem khd (n t:Int) (es:List (Int×Int)) (h:VG n es) (ht:0≤t∧t<n):KP 147 [GL n es,I t] []=some (.ref 2000 0 0 (dstL n es t).length,[],[.arr 0 1 ((dstL n es t).map encI)]):=by
 have hl:=h.okg.len
 have hn16:=h.2.1
 have ho:=h.okg.ok
 obtain⟨hi1,hi2⟩:=Bfs.init (es:=es) ht
 refine gc func147 ?_
 have Fz:=fz2 results147 @llr
 repeat refine go1 ?_
 refine jaa (fun(y:Nat×List Int×List Int×List Int) s=>s.m 3104=some (.arr 0 1 (y.2.2.2.map encI))∧s.ρ 5=.ref 3104 0 0 n.toNat∧s.m 18=some (.arr y.1 1 ((y.2.1++y.2.2.1).map encI))∧s.ρ 6=.ref 18 y.1 y.2.1.length y.2.2.1.length∧
  s.ρ 2=.ptr 2 0 0 0∧s.m 2=some (.box 0 [I n,LE es])∧Bfs n es t y.2.2.2 y.2.2.1∧Done n es y.2.2.2 (·∈y.2.2.1)∧y.2.1.length+y.2.2.1.length≤1048576∧y.2.1.length+y.2.2.1.length+und y.2.2.2≤100)
  (fun y=>y.2.2.1.length+und y.2.2.2) (0,[],[t],(List.replicate n.toNat (-1)).set t.toNat 0) ?_ ?_
 ·have hu:und ((List.replicate n.toNat (-1)).set t.toNat 0)≤n.toNat:=by
   unfold und
   exact Nat.le_trans (List.length_filter_le _ _) (by simp)
  exact⟨rfl,rfl,rfl,rfl,rfl,rfl,hi1,hi2,by simp,by simp only[List.length_nil,List.length_cons];omega⟩
 rintro⟨w,pre,q,out⟩ ⟨ρ,m⟩ ⟨m1,h5,m18,h6,h2,m2,g0,g1,g2,g3⟩
 simp only at m1 h5 m18 h6 h2 m2 g0 g1 g2 g3
 cases q with
 | nil=>
  have Fz:=fz7 results147 m1 h5 m18 h6 h2 m2
  repeat refine go1 ?_
  rw[g0.end ho g1]
  exact⟨jds.symm,rfl⟩
 | cons a q=>
  have hg:=jcp pre q a
  have hat:=BfsAt.start g0 g1
  have hnb:=jb8 n a es (by omega)
  have hlen:=g0.len
  have ha:=g0.que a (by simp)
  have hnbl:(nbS a es).length≤40:=by have:=jak a es;omega
  simp only[List.length_cons] at h6 g2 g3
  have Fz:=fz9 results147 m1 h5 m18 h6 h2 m2 hg hnb
  repeat refine go1 ?_
  refine jaa (fun(y:Int×Nat×List Int×List Int×List Int) s=>s.m 3104=some (.arr 0 1 (y.2.2.2.2.map encI))∧s.ρ 5=.ref 3104 0 0 n.toNat∧s.m 18=some (.arr y.2.1 1 ((y.2.2.1++y.2.2.2.1).map encI))∧s.ρ 6=.ref 18 y.2.1 y.2.2.1.length y.2.2.2.1.length∧
   s.ρ 2=.ptr 2 0 0 0∧s.m 2=some (.box 0 [I n,LE es])∧s.ρ 29=LI (nbS a es)∧s.ρ 30=I (nbS a es).length∧s.ρ 31=I y.1∧s.ρ 7=I a∧0≤y.1∧y.1≤(nbS a es).length∧BfsAt n es t a y.1.toNat y.2.2.2.2 y.2.2.2.1∧
   y.2.2.1.length+y.2.2.2.1.length≤1048576∧y.2.2.1.length+y.2.2.2.1.length+und y.2.2.2.2≤100∧y.2.2.2.1.length+und y.2.2.2.2=q.length+und out)
   (fun y=>((nbS a es).length-y.1).toNat) (0,w,pre++[a],q,out) ?_ ?_
  ·refine⟨by simp[upd,m1],by simp[upd,h5],by simp[upd,m18],by simp[upd],by simp[upd,h2],by simp[upd,m2],by simp[upd],by simp[upd],by simp[upd],by simp[upd],by simp,by simp,hat,?_,?_,rfl⟩
   ·simp only[List.length_append,List.length_cons,List.length_nil];omega
   ·simp only[List.length_append,List.length_cons,List.length_nil];omega
  rintro⟨i,w',pr,q',ou⟩ ⟨ρ,m⟩ ⟨m1,h5,m18,h6,h2,m2,h29,h30,h31,h7,f0,f1,f2,f3,f4,f5⟩
  simp only at m1 h5 m18 h6 h2 m2 h29 h30 h31 h7 f0 f1 f2 f3 f4 f5
  have hol:=f2.bfs.len
  by_cases hj:i<(nbS a es).length
  ·have hadj:=(ja8 ho).1 (jab (d:=0) (show i.toNat<(nbS a es).length by omega))
   have hok:=hadj.ok ho
   have hlow:=f2.bfs.low _ hok.2.2.1 hok.2.2.2.1
   have hga:=f2.hn a ha.1 ha.2.1
   have hge:0≤ou.getD a.toNat 0:=f2.a0.2.2
   have hgu:ou.getD a.toNat 0+und ou≤n-1:=f2.bfs.top a ha.1 ha.2.1
   have hi1':(i+1).toNat=i.toNat+1:=by omega
   have Fz:=fz11 results147 m1 h5 m18 h6 h2 m2 h29 h30 h31 h7
   repeat'(first|refine go1 ?_|(refine go2 ?_ ?_<;>intro _<;>try omega))
   ·have hx:gI ou ((nbS a es).getD i.toNat 0)<0:=by assumption
    obtain⟨k1,k2⟩:=f2.find ho (by omega) hx
    have k3:und (ou.set ((nbS a es).getD i.toNat 0).toNat (ou.getD a.toNat 0+1))+1=und ou:=k2
    refine⟨i+1,[],q'++[(nbS a es).getD i.toNat 0],by simp,rfl,by simp,rfl,by omega,by omega,by rw[hi1'];exact k1,?_,?_,?_,by omega⟩
    all_goals simp only[List.length_append,List.length_cons,List.length_nil]
    all_goals omega
   ·have hx:0≤gI ou ((nbS a es).getD i.toNat 0):=by unfold gI;omega
    exact⟨i+1,pr,q',rfl,rfl,rfl,rfl,by omega,by omega,by rw[hi1'];exact f2.skip ho (by omega) hx,by omega,by omega,by omega,by omega⟩
  ·have Fz:=fz11 results147 m1 h5 m18 h6 h2 m2 h29 h30 h31 h7
   repeat refine go1 ?_
   obtain⟨k1,k2⟩:=f2.stop ho (by omega)
   exact⟨pr,q',rfl,rfl,rfl,k1,k2,by omega,by omega,by omega⟩
theorem j7l (n t:Int) (es:List (Int×Int)) (h:VG n es) (ht:0≤t∧t<n):KP 218 [GL n es,I t] []=some (.ref 2000 0 0 (dstL n es t).length,[],[.arr 0 1 ((dstL n es t).map encI)]):=by
 have hl:=h.okg.len
 have hn16:=h.2.1
 have ho:=h.okg.ok
 have hog:=h.okg
 have hnd:=h.nodup
 obtain⟨hi1,hi2⟩:=Bfs.init (es:=es) ht
 refine gc func218 ?_
 have Fz:=fz1 results218
 repeat refine go1 ?_
 refine jaa (fun(x:Int×Nat×List Int) s=>s.m 11=some (.arr x.2.1 1 (x.2.2.map encI))∧s.ρ 5=.ref 11 x.2.1 0 x.2.2.length∧s.ρ 6=I x.1∧s.ρ 1=I t∧s.ρ 2=.ptr 2 0 0 0∧s.m 2=some (.box 0 [I n,LE es])∧
  0≤x.1∧x.1≤n∧x.2.2.length=x.1.toNat∧x.2.2=List.replicate x.1.toNat (-1)) (fun x=>(n-x.1).toNat) (0,0,[]) ⟨rfl,rfl,rfl,rfl,rfl,rfl,by simp,by simp only;omega,rfl,rfl⟩ ?_
 rintro⟨i,v,xs⟩ ⟨ρ,m⟩ ⟨m11,h5,h6,h1,h2,m2,g0,g1,g2,g3⟩
 simp only at m11 h5 h6 h1 h2 m2 g0 g1 g2 g3
 have Fz:=fz7 results218 m11 h5 h6 h1 h2 m2
 repeat'(first|refine go1 ?_|(refine go2 ?_ ?_<;>intro _<;>try omega))
 ·refine⟨by omega,by omega,by omega,?_,by omega⟩
  rw[g3,show(i+1).toNat=i.toNat+1 by omega,List.replicate_succ']
 have hin:i.toNat=n.toNat:=by omega
 rw[hin] at g2 g3
 subst g3
 refine jaa (fun(y:Nat×List Int×List Int×List Int) s=>s.m 11=some (.arr v 1 (y.2.2.2.map encI))∧s.ρ 5=.ref 11 v 0 n.toNat∧s.m 25=some (.arr y.1 1 ((y.2.1++y.2.2.1).map encI))∧s.ρ 7=.ref 25 y.1 y.2.1.length y.2.2.1.length∧
  s.ρ 2=.ptr 2 0 0 0∧s.m 2=some (.box 0 [I n,LE es])∧Bfs n es t y.2.2.2 y.2.2.1∧Done n es y.2.2.2 (·∈y.2.2.1)∧y.2.1.length+y.2.2.1.length≤1048576∧y.2.1.length+y.2.2.1.length+und y.2.2.2≤100)
  (fun y=>y.2.2.1.length+und y.2.2.2) (nv (m 25),[],[t],(List.replicate n.toNat (-1)).set t.toNat 0) ?_ ?_
 ·have hu:und ((List.replicate n.toNat (-1)).set t.toNat 0)≤n.toNat:=by
   unfold und
   exact Nat.le_trans (List.length_filter_le _ _) (by simp)
  refine⟨by simp[upd],by simp[upd,h5],by simp[upd,encI],by simp[upd],by simp[upd,h2],by simp[upd,m2],hi1,hi2,by simp,by simp only[List.length_nil,List.length_cons];omega⟩
 rintro⟨w,pre,q,out⟩ ⟨ρ,m⟩ ⟨m1,h5,m25,h7,h2,m2,g0,g1,g2,g3⟩
 simp only at m1 h5 m25 h7 h2 m2 g0 g1 g2 g3
 cases q with
 | nil=>
  have Fz:=fz7 results218 m1 h5 m25 h7 h2 m2
  repeat refine go1 ?_
  rw[g0.end ho g1]
  exact⟨jds.symm,rfl⟩
 | cons a q=>
  have hg:=jcp pre q a
  have hat:=BfsAt.start g0 g1
  have hnb:=je2 n a es hog hnd
  have hlen:=g0.len
  have ha:=g0.que a (by simp)
  have hnbl:(nbS a es).length≤40:=by have:=jak a es;omega
  simp only[List.length_cons] at h7 g2 g3
  have Fz:=fz9 results218 m1 h5 m25 h7 h2 m2 hg hnb
  repeat refine go1 ?_
  refine jaa (fun(y:Int×Nat×List Int×List Int×List Int) s=>s.m 11=some (.arr v 1 (y.2.2.2.2.map encI))∧s.ρ 5=.ref 11 v 0 n.toNat∧s.m 25=some (.arr y.2.1 1 ((y.2.2.1++y.2.2.2.1).map encI))∧s.ρ 7=.ref 25 y.2.1 y.2.2.1.length y.2.2.2.1.length∧
   s.ρ 2=.ptr 2 0 0 0∧s.m 2=some (.box 0 [I n,LE es])∧s.ρ 9=LI (nbS a es)∧s.ρ 10=I y.1∧s.ρ 8=I a∧0≤y.1∧y.1≤(nbS a es).length∧BfsAt n es t a y.1.toNat y.2.2.2.2 y.2.2.2.1∧
   y.2.2.1.length+y.2.2.2.1.length≤1048576∧y.2.2.1.length+y.2.2.2.1.length+und y.2.2.2.2≤100∧y.2.2.2.1.length+und y.2.2.2.2=q.length+und out)
   (fun y=>((nbS a es).length-y.1).toNat) (0,w,pre++[a],q,out) ?_ ?_
  ·refine⟨by simp[upd,m1],by simp[upd,h5],by simp[upd,m25],by simp[upd],by simp[upd,h2],by simp[upd,m2],by simp[upd],by simp[upd],by simp[upd],by simp,by simp,hat,?_,?_,rfl⟩
   ·simp only[List.length_append,List.length_cons,List.length_nil];omega
   ·simp only[List.length_append,List.length_cons,List.length_nil];omega
  rintro⟨i,w',pr,q',ou⟩ ⟨ρ,m⟩ ⟨m1,h5,m25,h7,h2,m2,h9,h10,h8,f0,f1,f2,f3,f4,f5⟩
  simp only at m1 h5 m25 h7 h2 m2 h9 h10 h8 f0 f1 f2 f3 f4 f5
  have hol:=f2.bfs.len
  by_cases hj:i<(nbS a es).length
  ·have hadj:=(ja8 ho).1 (jab (d:=0) (show i.toNat<(nbS a es).length by omega))
   have hok:=hadj.ok ho
   have hge:0≤ou.getD a.toNat 0:=f2.a0.2.2
   have hgu:ou.getD a.toNat 0+und ou≤n-1:=f2.bfs.top a ha.1 ha.2.1
   have hi1':(i+1).toNat=i.toNat+1:=by omega
   have Fz:=fz10 results218 m1 h5 m25 h7 h2 m2 h9 h10 h8
   repeat'(first|refine go1 ?_|(refine go2 ?_ ?_<;>intro _<;>try omega))
   ·have hx:gI ou ((nbS a es).getD i.toNat 0)<0:=by assumption
    obtain⟨k1,k2⟩:=f2.find ho (by omega) hx
    have k3:und (ou.set ((nbS a es).getD i.toNat 0).toNat (ou.getD a.toNat 0+1))+1=und ou:=k2
    refine⟨i+1,[],q'++[(nbS a es).getD i.toNat 0],by simp,rfl,by simp,rfl,by omega,by omega,by rw[hi1'];exact k1,?_,?_,?_,by omega⟩
    all_goals simp only[List.length_append,List.length_cons,List.length_nil]
    all_goals omega
   ·have hx:0≤gI ou ((nbS a es).getD i.toNat 0):=by unfold gI;omega
    exact⟨i+1,pr,q',rfl,rfl,rfl,rfl,by omega,by omega,by rw[hi1'];exact f2.skip ho (by omega) hx,by omega,by omega,by omega,by omega⟩
  ·have Fz:=fz10 results218 m1 h5 m25 h7 h2 m2 h9 h10 h8
   repeat refine go1 ?_
   obtain⟨k1,k2⟩:=f2.stop ho (by omega)
   exact⟨pr,q',rfl,rfl,rfl,k1,k2,by omega,by omega,by omega⟩
theorem jn0 (es:List (Int×Int)) (far:List Int) (k:Nat) (x:Int):gpath es far k x=[x]++(gpath es far k x).tail:=by
 cases k<;>rfl
theorem jrk {n:Int} {es:List (Int×Int)} {t x:Int} (ho:∀e∈es,okE n e) (hn:0≤n):dst n es t x≤n:=by
 by_cases hc:Conn es t x
 ·have ho':∀e∈es,okE ((n.toNat:Nat):Int) e:=fun e he=>by have:=ho e he;unfold okE at this ⊢;omega
  have:=(jbu ho hc).2.2 _ (Rk.all ho' hc)
  omega
 ·unfold dst;rw[if_neg hc];omega
@[go_sem] theorem jht (n x y:Int) (es:List (Int×Int)) (hl:es.length≤1048576):KP 81 [GL n es,I x,I y] []=
 some (if VG n es∧0≤x∧x<n∧0≤y∧y<n∧Conn es x y then(.tup [.ref 2000 0 0 (jb2 n es x y).length,B true],[],[.arr 0 1 ((jb2 n es x y).map encI)]) else(.tup [.i .emp,B false],[],[])):=by
 by_cases h:VG n es∧0≤x∧x<n∧0≤y∧y<n∧Conn es x y
 rotate_left
 ·rw[if_neg h]
  refine gc func81 ?_
  have Fz:=fz1 results81
  repeat(first|exact trivial|refine go1 ?_)
  all_goals grind
 rw[if_pos h]
 obtain⟨hV,hx0,hx1,hy0,hy1,hc⟩:=h
 have ho:=hV.okg.ok
 have hn16:=hV.2.1
 have hle:=hV.okg.len
 have hfar:=khd n y es hV ⟨hy0,hy1⟩
 have hdl:(dstL n es y).length=n.toNat:=jds
 have hdx:=jrk (t:=y) (x:=x) ho (show 0≤n by omega)
 refine gc func81 ?_
 have Fz:=fz2 results81 hfar
 repeat refine go1 ?_
 refine jaa (fun(u:Int×Nat×List Int) s=>s.m 18=some (.arr u.2.1 1 (u.2.2.map encI))∧s.ρ 8=.ref 18 u.2.1 0 u.2.2.length∧s.ρ 1=I u.1∧s.ρ 2=I y∧s.ρ 9=LI (dstL n es y)∧s.ρ 3=.ptr 3 0 0 0∧s.m 3=some (.box 0 [I n,LE es])∧
  0≤u.1∧u.1<n∧Conn es y u.1∧(u.2.2.length:Int)+dst n es y u.1=dst n es y x+1∧jb2 n es x y=u.2.2++(gpath es (dstL n es y) (dst n es y u.1).toNat u.1).tail) (fun u=>(dst n es y u.1).toNat) (x,0,[x]) ?_ ?_
 ·refine⟨by simp[upd,encI],by simp[upd],by simp[upd],by simp[upd],by simp[upd],by simp[upd],by simp[upd],hx0,hx1,hc.symm,by simp;omega,?_⟩
  exact jn0 ..
 rintro⟨z,w,xs⟩ ⟨ρ,m⟩ ⟨m18,h8,h1,h2,h9,h3,m3,g0,g1,g2,g3,g4⟩
 simp only at m18 h8 h1 h2 h9 h3 m3 g0 g1 g2 g3 g4
 have hd0:=(jbu ho g2).1
 have hnb:=jb8 n z es (by omega)
 have hnbl:(nbS z es).length≤40:=by have:=jak z es;omega
 by_cases hzy:z=y
 ·subst hzy
  have h0:=jkg (t:=z) ho (show 0≤n by omega)
  rw[h0] at g4
  have Fz:=fz8 results81 m18 h8 h1 h2 h9 h3 m3
  repeat refine go1 ?_
  have e1:jb2 n es x z=xs:=by rw[g4];simp[gpath]
  rw[e1]
  exact⟨rfl,rfl⟩
 have hne:dst n es y z≠0:=fun h=>hzy (jh8 ho g2 h)
 obtain⟨s1,s2,s3,s4⟩:=jl8 ho (show 0≤n by omega) g2 hne
 have hgz:(dstL n es y).getD z.toNat 0=dst n es y z:=jdj g0 g1
 have hlez:=jrk (t:=y) (x:=z) ho (show 0≤n by omega)
 have Fz:=fz9 results81 m18 h8 h1 h2 h9 h3 m3 hnb
 repeat refine go1 ?_
 refine jaa (fun(i:Int) s=>s.m 18=some (.arr w 1 (xs.map encI))∧s.ρ 8=.ref 18 w 0 xs.length∧s.ρ 1=I z∧s.ρ 2=I y∧s.ρ 9=LI (dstL n es y)∧s.ρ 3=.ptr 3 0 0 0∧s.m 3=some (.box 0 [I n,LE es])∧
  s.ρ 27=LI (nbS z es)∧s.ρ 28=I (nbS z es).length∧s.ρ 29=I i∧0≤i∧i≤(nbS z es).length∧∀e∈(nbS z es).take i.toNat,decide (gI (dstL n es y) e=gI (dstL n es y) z-1)=false) (fun i=>((nbS z es).length-i).toNat) 0
  ⟨by simp[upd,m18],by simp[upd,h8],by simp[upd,h1],by simp[upd,h2],by simp[upd,h9],by simp[upd,h3],by simp[upd,m3],by simp[upd],by simp[upd],by simp[upd],by simp,by simp,by simp⟩ ?_
 rintro i ⟨ρ,m⟩ ⟨m18,h8,h1,h2,h9,h3,m3,h27,h28,h29,f0,f1,f2⟩
 simp only at m18 h8 h1 h2 h9 h3 m3 h27 h28 h29 f0 f1 f2
 by_cases hj:i<(nbS z es).length
 ·have hadj:=(ja8 ho).1 (jab (d:=0) (show i.toNat<(nbS z es).length by omega))
  have hok:=hadj.ok ho
  have hgi:(dstL n es y).getD ((nbS z es).getD i.toNat 0).toNat 0=dst n es y ((nbS z es).getD i.toNat 0):=jdj (by omega) (by omega)
  have Fz:=fz12 results81 m18 h8 h1 h2 h9 h3 m3 h27 h28 h29 hgz
  repeat'(first|refine go1 ?_|(refine go2 ?_ ?_<;>intro _<;>try omega))
  ·have hq:(dstL n es y).getD ((nbS z es).getD i.toNat 0).toNat 0=dst n es y z-1:=by assumption
   have hfi:=j3x (p:=fun e=>decide (gI (dstL n es y) e=gI (dstL n es y) z-1)) (show i.toNat<(nbS z es).length by omega) (by simp only[gI,hq,hgz,decide_eq_true_eq]) f2
   have hnx:=s3 _ hfi
   rw[hgi] at hq
   refine⟨by omega,by omega,g2.step hadj,by omega,?_,by omega⟩
   have hk:(dst n es y z).toNat=(dst n es y ((nbS z es).getD i.toNat 0)).toNat+1:=by omega
   rw[g4,hk,gpath,List.tail_cons,hnx,List.append_assoc,←jn0]
  ·refine⟨by omega,by omega,?_,by omega⟩
   rw[jae 0 f0 hj]
   intro e he
   rcases List.mem_append.1 he with he|he
   ·have:=f2 e he
    simpa only[gI,hgz,decide_eq_false_iff_not] using this
   ·rw[List.mem_singleton.1 he];assumption
 ·rw[jac (by omega)] at f2
  obtain⟨u,hu⟩:=s4
  have:=List.find?_some hu
  rw[f2 u (List.mem_of_find?_eq_some hu)] at this
  cases this
theorem j7m (n x y:Int) (es:List (Int×Int)) (h:VG n es∧0≤x∧x<n∧0≤y∧y<n∧Conn es x y):KP 171 [GL n es,I x,I y] []=
 some (.ref 2000 0 0 (jb2 n es x y).length,[],[.arr 0 1 ((jb2 n es x y).map encI)]):=by
 obtain⟨hV,hx0,hx1,hy0,hy1,hc⟩:=h
 have ho:=hV.okg.ok
 have hog:=hV.okg
 have hnd:=hV.nodup
 have hn16:=hV.2.1
 have hle:=hV.okg.len
 have hfar:=j7l n y es hV ⟨hy0,hy1⟩
 have hdl:(dstL n es y).length=n.toNat:=jds
 have hdx:=jrk (t:=y) (x:=x) ho (show 0≤n by omega)
 refine gc func171 ?_
 have Fz:=fz2 results171 hfar
 repeat refine go1 ?_
 refine jaa (fun(u:Int×Nat×List Int) s=>s.m 15=some (.arr u.2.1 1 (u.2.2.map encI))∧s.ρ 8=.ref 15 u.2.1 0 u.2.2.length∧s.ρ 9=I u.1∧s.ρ 2=I y∧s.ρ 7=LI (dstL n es y)∧s.ρ 3=.ptr 3 0 0 0∧s.m 3=some (.box 0 [I n,LE es])∧
  0≤u.1∧u.1<n∧Conn es y u.1∧(u.2.2.length:Int)+dst n es y u.1=dst n es y x∧jb2 n es x y=u.2.2++gpath es (dstL n es y) (dst n es y u.1).toNat u.1) (fun u=>(dst n es y u.1).toNat) (x,0,[]) ?_ ?_
 ·exact⟨rfl,rfl,rfl,rfl,rfl,rfl,rfl,hx0,hx1,hc.symm,by simp,rfl⟩
 rintro⟨z,w,xs⟩ ⟨ρ,m⟩ ⟨m15,h8,h9,h2,h7,h3,m3,g0,g1,g2,g3,g4⟩
 simp only at m15 h8 h9 h2 h7 h3 m3 g0 g1 g2 g3 g4
 have hd0:=(jbu ho g2).1
 have hnb:=je2 n z es hog hnd
 have hnbl:(nbS z es).length≤40:=by have:=jak z es;omega
 have hgz:(dstL n es y).getD z.toNat 0=dst n es y z:=jdj g0 g1
 have hlez:=jrk (t:=y) (x:=z) ho (show 0≤n by omega)
 by_cases h0:dst n es y z=0
 ·have:=jh8 ho g2 h0
  subst this
  have Fz:=fz9 results171 m15 h8 h9 h2 h7 h3 m3 hgz
  repeat refine go1 ?_
  have e1:jb2 n es x z=xs++[z]:=by rw[g4,h0];rfl
  rw[e1]
  simp
 obtain⟨s1,s2,s3,s4⟩:=jl8 ho (show 0≤n by omega) g2 h0
 have Fz:=fz10 results171 m15 h8 h9 h2 h7 h3 m3 hgz hnb
 repeat refine go1 ?_
 refine jaa (fun(i:Int) s=>s.m 15=some (.arr (w+1) 1 ((xs++[z]).map encI))∧s.ρ 8=.ref 15 (w+1) 0 (xs.length+1)∧s.ρ 9=I z∧s.ρ 2=I y∧s.ρ 7=LI (dstL n es y)∧s.ρ 3=.ptr 3 0 0 0∧s.m 3=some (.box 0 [I n,LE es])∧
  s.ρ 10=LI (nbS z es)∧s.ρ 11=I i∧0≤i∧i≤(nbS z es).length∧∀e∈(nbS z es).take i.toNat,decide (gI (dstL n es y) e=gI (dstL n es y) z-1)=false) (fun i=>((nbS z es).length-i).toNat) 0
  ⟨by simp[upd],by simp[upd],by simp[upd,h9],by simp[upd,h2],by simp[upd,h7],by simp[upd,h3],by simp[upd,m3],by simp[upd],by simp[upd],by simp,by simp,by simp⟩ ?_
 rintro i ⟨ρ,m⟩ ⟨m15,h8,h9,h2,h7,h3,m3,h10,h11,f0,f1,f2⟩
 simp only at m15 h8 h9 h2 h7 h3 m3 h10 h11 f0 f1 f2
 by_cases hj:i<(nbS z es).length
 ·have hadj:=(ja8 ho).1 (jab (d:=0) (show i.toNat<(nbS z es).length by omega))
  have hok:=hadj.ok ho
  have hgi:(dstL n es y).getD ((nbS z es).getD i.toNat 0).toNat 0=dst n es y ((nbS z es).getD i.toNat 0):=jdj (by omega) (by omega)
  have Fz:=fz11 results171 m15 h8 h9 h2 h7 h3 m3 h10 h11 hgz
  repeat'(first|refine go1 ?_|(refine go2 ?_ ?_<;>intro _<;>try omega))
  ·have hq:(dstL n es y).getD ((nbS z es).getD i.toNat 0).toNat 0=dst n es y z-1:=by assumption
   have hfi:=j3x (p:=fun e=>decide (gI (dstL n es y) e=gI (dstL n es y) z-1)) (show i.toNat<(nbS z es).length by omega) (by simp only[gI,hq,hgz,decide_eq_true_eq]) f2
   have hnx:=s3 _ hfi
   rw[hgi] at hq
   have hk:(dst n es y z).toNat=(dst n es y ((nbS z es).getD i.toNat 0)).toNat+1:=by omega
   refine⟨by omega,by omega,g2.step hadj,by omega,?_,by omega⟩
   rw[g4,hk,gpath,hnx,List.append_assoc];rfl
  ·refine⟨by omega,by omega,?_,by omega⟩
   rw[jae 0 f0 hj]
   intro e he
   rcases List.mem_append.1 he with he|he
   ·have:=f2 e he
    simpa only[gI,hgz,decide_eq_false_iff_not] using this
   ·rw[List.mem_singleton.1 he];assumption
 ·rw[jac (by omega)] at f2
  obtain⟨u,hu⟩:=s4
  have:=List.find?_some hu
  rw[f2 u (List.mem_of_find?_eq_some hu)] at this
  cases this
@[go_sem] theorem jm1 (n x y:Int) (es:List (Int×Int)) (hl:es.length≤1048576):KP 104 [GL n es,I x,I y] []=
 some (if VG n es∧0≤x∧x<n∧0≤y∧y<n∧Conn es x y then(.tup [LI (jb2 n es x y),B true],[],[]) else(.tup [.ref 2000 0 0 0,B false],[],[.arr 0 1 []])):=by
 by_cases h:VG n es∧0≤x∧x<n∧0≤y∧y<n∧Conn es x y
 ·have hp:=j7m n x y es h
  refine gc func104 ?_
  have Fz:=fz2 results104 hp
  repeat(first|exact trivial|refine go1 ?_)
 ·rw[if_neg h]
  refine gc func104 ?_
  have Fz:=fz1 results104
  repeat(first|exact trivial|refine go1 ?_)
  all_goals grind

theorem jb4 {es:List (Int×Int)} {a b x y:Int}:Conn ((a,b)::es) x y↔Conn es x y∨(Conn es x a∧Conn es b y)∨(Conn es x b∧Conn es a y):=by
 constructor
 ·intro h
  induction h with
  | refl=>exact .inl (.refl _)
  | step _ ad ih=>
   have key:(∀{y z:Int},Adj ((a,b)::es) y z→Adj es y z∨(y=a∧z=b)∨(y=b∧z=a)):=by
    intro y z h
    rcases h with h|h
    ·rcases List.mem_cons.1 h with h|h
     ·simp only[Prod.mk.injEq] at h;exact .inr (.inl h)
     ·exact .inl (.inl h)
    ·rcases List.mem_cons.1 h with h|h
     ·simp only[Prod.mk.injEq] at h;exact .inr (.inr ⟨h.2,h.1⟩)
     ·exact .inl (.inr h)
   rcases key ad with ad | ⟨rfl,rfl⟩ | ⟨rfl,rfl⟩
   ·rcases ih with ih | ⟨i1,i2⟩ | ⟨i1,i2⟩
    ·exact .inl (.step ih ad)
    ·exact .inr (.inl ⟨i1,.step i2 ad⟩)
    ·exact .inr (.inr ⟨i1,.step i2 ad⟩)
   ·rcases ih with ih | ⟨i1,i2⟩ | ⟨i1,i2⟩
    ·exact .inr (.inl ⟨ih,.refl _⟩)
    ·exact .inr (.inl ⟨i1,.refl _⟩)
    ·exact .inl i1
   ·rcases ih with ih | ⟨i1,i2⟩ | ⟨i1,i2⟩
    ·exact .inr (.inr ⟨ih,.refl _⟩)
    ·exact .inl i1
    ·exact .inr (.inr ⟨i1,.refl _⟩)
 ·have hm:∀e∈es,e∈(a,b)::es:=fun e he=>List.mem_cons_of_mem _ he
  have hab:Conn ((a,b)::es) a b:=.of (.inl (by simp))
  rintro(h | ⟨h1,h2⟩ | ⟨h1,h2⟩)
  ·exact h.mono hm
  ·exact((h1.mono hm).trans hab).trans (h2.mono hm)
  ·exact((h1.mono hm).trans hab.symm).trans (h2.mono hm)
theorem Conn.via {es fs:List (Int×Int)} (h:∀e∈es,Conn fs e.1 e.2) {x y:Int} (hc:Conn es x y):Conn fs x y:=by
 induction hc with
 | refl=>exact .refl _
 | step _ a ih=>
  rcases a with a|a
  ·exact ih.trans (h _ a)
  ·exact ih.trans (h _ a).symm
theorem Conn.edge {es:List (Int×Int)} {e:Int×Int} (h:e∈es):Conn es e.1 e.2:=.of (.inl h)
def root (es:List (Int×Int)) (x:Nat):Prop:=∀y:Nat,y<x→¬Conn es (y:Nat) (x:Nat)
theorem jc1 {es:List (Int×Int)} {x:Nat}:least es x=x↔root es x:=by
 obtain⟨h1,h2,h3⟩:=jaz es x
 constructor
 ·intro h y hy
  exact h3 y (by omega)
 ·intro h
  refine Nat.le_antisymm h1 ?_
  refine Nat.le_of_not_lt fun hl=>h _ hl h2
noncomputable def cnt (n:Int) (es:List (Int×Int)):Nat:=((List.range n.toNat).filter fun x=>decide (least es x=x)).length
theorem jgy {α:Type} [DecidableEq α] {p:α→Bool} {m:α}:∀{l:List α},l.Nodup→m∈l→p m=true→(l.filter fun x=>p x && decide (x≠m)).length+1=(l.filter p).length
 | [],_,h,_=>by simp at h
 | x::l,hn,hm,hp=>by
  rw[List.nodup_cons] at hn
  by_cases hx:x=m
  ·subst hx
   have:l.filter (fun y=>p y && decide (y≠x))=l.filter p:=List.filter_congr fun y hy=>by
    have:y≠x:=fun e=>hn.1 (e▸hy)
    simp[this]
   simp only[List.filter_cons,hp,ne_eq,not_true_eq_false,decide_false,Bool.and_false,Bool.false_eq_true,if_false,if_true,List.length_cons]
   rw[←this]
  ·have hm':m∈l:=(List.mem_cons.1 hm).resolve_left fun e=>hx e.symm
   have ih:=jgy hn.2 hm' hp
   simp only[List.filter_cons,ne_eq,hx,not_false_eq_true,decide_true,Bool.and_true]
   split
   ·simp only[List.length_cons]
    simp only[ne_eq] at ih
    omega
   ·simpa only[ne_eq] using ih
theorem jfv {n:Int} {es fs:List (Int×Int)} (h:∀x y:Int,Conn es x y↔Conn fs x y):cnt n es=cnt n fs:=by
 unfold cnt
 congr 1
 refine List.filter_congr fun x _=>?_
 rw[decide_eq_decide,jc1,jc1]
 unfold root
 exact forall_congr' fun y=>imp_congr_right fun _=>not_congr (h _ _)
theorem jrr {α:Type} {p q:α→Bool}:∀{l:List α},(∀x∈l,p x=true→q x=true)→(l.filter p).length≤(l.filter q).length
 | [],_=>by simp
 | x::l,h=>by
  have ih:=jrr (l:=l) (p:=p) (q:=q) fun y hy=>h y (List.mem_cons_of_mem _ hy)
  simp only[List.filter_cons]
  cases hp:p x with
  | true=>rw[h x (by simp) hp];simp only[if_true,List.length_cons];omega
  | false=>simp only[Bool.false_eq_true,if_false];split<;>(try simp only[List.length_cons])<;>omega
theorem Conn.nil {x y:Int} (h:Conn [] x y):x=y:=by
 induction h with
 | refl=>rfl
 | step _ a _=>rcases a with a|a<;>simp at a
theorem jlb (n:Int):cnt n []=n.toNat:=by
 unfold cnt
 rw[List.filter_eq_self.2,List.length_range]
 intro x _
 rw[decide_eq_true_eq,jc1]
 intro y hy hc
 have:=hc.nil
 omega
theorem kax {n:Int} {es:List (Int×Int)}:cnt n es≤n.toNat:=by
 unfold cnt
 exact Nat.le_trans (List.length_filter_le _ _) (by simp)
theorem jgc {n a b:Int} {es:List (Int×Int)} (h:Conn es a b):cnt n ((a,b)::es)=cnt n es:=by
 refine jfv fun x y=>⟨fun hc=>?_,fun hc=>hc.mono fun e he=>List.mem_cons_of_mem _ he⟩
 refine hc.via fun e he=>?_
 rcases List.mem_cons.1 he with rfl|he
 ·exact h
 ·exact .edge he
theorem jd3 {n a b:Int} {es:List (Int×Int)} (ha:0≤a∧a<n) (hb:0≤b∧b<n) (h:¬Conn es a b):cnt n ((a,b)::es)+1=cnt n es:=by
 obtain⟨x,rfl⟩:=Int.eq_ofNat_of_zero_le ha.1
 obtain⟨y,rfl⟩:=Int.eq_ofNat_of_zero_le hb.1
 obtain⟨x1,x2,x3⟩:=jaz es x
 obtain⟨y1,y2,y3⟩:=jaz es y
 have hne:least es x≠least es y:=fun e=>h (jl0.1 e)
 have hroot:∀z:Nat,root ((((x:Nat):Int),((y:Nat):Int))::es) z↔root es z∧z≠max (least es x) (least es y):=by
  intro z
  constructor
  ·intro hz
   refine⟨fun w hw hc=>hz w hw (jb4.2 (.inl hc)),fun e=>?_⟩
   by_cases hl:least es x<least es y
   ·have e':z=least es y:=by omega
    subst e'
    exact hz _ hl (jb4.2 (.inr (.inl ⟨x2,y2.symm⟩)))
   ·have e':z=least es x:=by omega
    subst e'
    exact hz _ (by omega) (jb4.2 (.inr (.inr ⟨y2,x2.symm⟩)))
  ·rintro⟨hz,hm⟩ w hw hc
   have hzz:=jc1.2 hz
   rcases jb4.1 hc with hc | ⟨c1,c2⟩ | ⟨c1,c2⟩
   ·exact hz w hw hc
   ·have e1:=jer c1
    have e2:=jer c2
    have:=(jaz es w).1
    omega
   ·have e1:=jer c1
    have e2:=jer c2
    have:=(jaz es w).1
    omega
 have hmx:root es (max (least es x) (least es y)):=by
  by_cases hl:least es x<least es y
  ·rw[show max (least es x) (least es y)=least es y by omega]
   exact fun w hw hc=>y3 w hw (hc.trans y2)
  ·rw[show max (least es x) (least es y)=least es x by omega]
   exact fun w hw hc=>x3 w hw (hc.trans x2)
 have hf:=jgy (l:=List.range n.toNat) (p:=fun z=>decide (least es z=z)) (m:=max (least es x) (least es y)) List.nodup_range (List.mem_range.2 (by omega)) (decide_eq_true (jc1.2 hmx))
 have hq:((List.range n.toNat).filter fun z=>decide (least ((((x:Nat):Int),((y:Nat):Int))::es) z=z))=(List.range n.toNat).filter fun z=>decide (least es z=z) && decide (z≠max (least es x) (least es y)):=by
  refine List.filter_congr fun z _=>?_
  rw[Bool.eq_iff_iff]
  simp only[Bool.and_eq_true,decide_eq_true_eq]
  rw[jc1,jc1]
  exact hroot z
 unfold cnt
 rw[hq]
 exact hf
theorem jdi {e0 e:Int×Int} {es:List (Int×Int)}:e∈cutE e0 es↔e∈es∧e≠e0:=by simp[cutE]
theorem jwn {e:Int×Int} {es:List (Int×Int)} (h:e∈es) (x y:Int):Conn es x y↔Conn ((e.1,e.2)::cutE e es) x y:=by
 constructor
 ·exact Conn.mono fun f hf=>by
   by_cases hq:f=e
   ·subst hq;simp
   ·exact List.mem_cons_of_mem _ (jdi.2 ⟨hf,hq⟩)
 ·exact Conn.mono fun f hf=>by
   rcases List.mem_cons.1 hf with rfl|hf
   ·exact h
   ·exact(jdi.1 hf).1
theorem kca {n:Int} {e:Int×Int} {es:List (Int×Int)} (h:e∈es) (ho:okE n e):(cnt n (cutE e es)=cnt n es+1∧¬Conn (cutE e es) e.1 e.2)∨(cnt n (cutE e es)=cnt n es∧Conn (cutE e es) e.1 e.2):=by
 unfold okE at ho
 have e1:=jfv (n:=n) (jwn h)
 by_cases hc:Conn (cutE e es) e.1 e.2
 ·exact .inr ⟨by rw[e1,jgc hc],hc⟩
 ·exact .inl ⟨by rw[e1,jd3 (by omega) (by omega) hc],hc⟩
theorem jqi {v x y:Int} {es:List (Int×Int)} (h:Adj (alone v es) x y):x≠v∧y≠v∧Adj es x y:=by
 unfold Adj alone at h
 simp only[List.mem_filter,decide_eq_true_eq] at h
 rcases h with⟨h,h1,h2⟩ | ⟨h,h1,h2⟩
 ·exact⟨h1,h2,.inl h⟩
 ·exact⟨h2,h1,.inr h⟩
theorem jyn {v y:Int} {es:List (Int×Int)} (h:Conn (alone v es) v y):y=v:=by
 refine h.closed (p:=fun y=>y=v) (fun x y a hx=>?_) rfl
 exact absurd hx (jqi a).1
theorem j00 {v:Int} {es:List (Int×Int)}:∀e∈alone v es,e∈es:=fun e he=>(List.mem_filter.1 he).1
theorem Rk.one {es:List (Int×Int)} {x y:Int} (h:Adj es x y):Rk es x 1 y:=.inr ⟨x,rfl,h⟩
theorem Rk.comp {es:List (Int×Int)} {x y:Int} {j:Nat} (h:Rk es x j y):∀(k:Nat) {z:Int},Rk es y k z→Rk es x (j+k) z
 | 0,z,hk=>by cases hk;exact h
 | k+1,z,hk=>by
  rcases hk with hk | ⟨w,hw,ha⟩
  ·exact .inl (Rk.comp h k hk)
  ·exact .inr ⟨w,Rk.comp h k hw,ha⟩
theorem Rk.symm {es:List (Int×Int)} {x:Int}:∀(k:Nat) {y:Int},Rk es x k y→Rk es y k x
 | 0,y,h=>by cases h;rfl
 | k+1,y,h=>by
  rcases h with h | ⟨z,h,a⟩
  ·exact .inl (Rk.symm k h)
  ·have:=(Rk.one a.symm).comp k (Rk.symm k h)
   rwa [Nat.add_comm 1 k] at this
theorem jr2 (es:List (Int×Int)) (far:List Int):∀(k:Nat) (x:Int),(gpath es far k x).length=k+1
 | 0,_=>rfl
 | k+1,x=>by rw[gpath,List.length_cons,jr2 es far k]
theorem jmc {n:Int} {es:List (Int×Int)} {x y:Int}:(jb2 n es x y).length=(dst n es y x).toNat+1:=jr2 _ _ _ _
theorem jw0 {n:Int} {es:List (Int×Int)} {t:Int} (ho:∀e∈es,okE n e) (hn:0≤n):∀(k:Nat) {x:Int},Conn es t x→dst n es t x=k→
 ∀i:Nat,i≤k→Conn es t ((gpath es (dstL n es t) k x).getD i 0)∧dst n es t ((gpath es (dstL n es t) k x).getD i 0)=k-i∧
  (i<k→Adj es ((gpath es (dstL n es t) k x).getD i 0) ((gpath es (dstL n es t) k x).getD (i+1) 0))
 | 0,x,hc,hd,i,hi=>by
  obtain rfl:i=0:=by omega
  exact⟨hc,by simpa[gpath] using hd,fun h=>by omega⟩
 | k+1,x,hc,hd,i,hi=>by
  obtain⟨s1,s2,-,-⟩:=jl8 ho hn hc (by omega)
  have ha:=(ja8 ho).1 s1
  have ih:=jw0 ho hn k (hc.step ha) (by omega)
  cases i with
  | zero=>
   refine⟨by simpa[gpath] using hc,by simp only[gpath,List.getD_cons_zero];omega,fun _=>?_⟩
   have e:∀x,(gpath es (dstL n es t) k x).getD 0 0=x:=fun x=>by cases k<;>rfl
   simp only[gpath,List.getD_cons_zero,List.getD_cons_succ,e]
   exact ha
  | succ i=>
   obtain⟨i1,i2,i3⟩:=ih i (by omega)
   simp only[gpath,List.getD_cons_succ]
   exact⟨i1,by omega,fun h=>i3 (by omega)⟩
theorem jkl {n:Int} {es:List (Int×Int)} {x y:Int} (ho:∀e∈es,okE n e) (hn:0≤n) (hc:Conn es x y) {i:Nat} (hi:i<(jb2 n es x y).length) :
 Conn es y ((jb2 n es x y).getD i 0)∧dst n es y ((jb2 n es x y).getD i 0)=dst n es y x-i∧
  (i+1<(jb2 n es x y).length→Adj es ((jb2 n es x y).getD i 0) ((jb2 n es x y).getD (i+1) 0)):=by
 have h0:=(jbu ho hc.symm).1
 rw[jmc] at hi ⊢
 obtain⟨h1,h2,h3⟩:=jw0 ho hn (dst n es y x).toNat hc.symm (by omega) i (by omega)
 exact⟨h1,by unfold jb2;omega,fun h=>h3 (by omega)⟩
def Brg (es:List (Int×Int)) (e:Int×Int):Prop:=¬Conn (cutE e es) e.1 e.2
noncomputable instance decBrg (es:List (Int×Int)) (e:Int×Int):Decidable (Brg es e):=Classical.propDecidable _
theorem jbc {x y:Int}:(edgeOf x y=(x,y))∨(edgeOf x y=(y,x)):=by unfold edgeOf;split<;>simp
theorem jka {n:Int} {es:List (Int×Int)} (ho:∀e∈es,okE n e) {x y:Int}:Adj es x y↔x≠y∧edgeOf x y∈es:=by
 rw[←jn7 ho]
 have:edgeOf y x=edgeOf x y∨x=y:=by
  unfold edgeOf
  by_cases h1:x<y
  ·rw[if_neg (by omega),if_pos h1];exact .inl rfl
  ·by_cases h2:y<x
   ·rw[if_pos h2,if_neg h1];exact .inl rfl
   ·exact .inr (by omega)
 constructor
 ·rintro⟨h1,h2⟩
  refine⟨fun e=>h1 e.symm,?_⟩
  rcases this with h|h
  ·rw[←h];exact h2
  ·exact absurd h.symm h1
 ·rintro⟨h1,h2⟩
  refine⟨fun e=>h1 e.symm,?_⟩
  rcases this with h|h
  ·rw[h];exact h2
  ·exact absurd h h1
theorem kbl {n:Int} {es:List (Int×Int)} (ho:∀e∈es,okE n e) {e:Int×Int} {x y:Int} (h:Adj es x y) (hn:¬Adj (cutE e es) x y):(x=e.1∧y=e.2)∨(x=e.2∧y=e.1):=by
 rcases h with h|h
 ·by_cases hq:(x,y)=e
  ·subst hq;exact .inl ⟨rfl,rfl⟩
  ·exact absurd (.inl (jdi.2 ⟨h,hq⟩)) hn
 ·by_cases hq:(y,x)=e
  ·subst hq;exact .inr ⟨rfl,rfl⟩
  ·exact absurd (.inr (jdi.2 ⟨h,hq⟩)) hn
theorem j0z {v:Int} {es:List (Int×Int)} {e:Int×Int} (h:e.1=v∨e.2=v):∀f∈alone v es,f∈cutE e es:=by
 intro f hf
 have:=List.mem_filter.1 hf
 simp only[decide_eq_true_eq] at this
 refine jdi.2 ⟨this.1,fun he=>?_⟩
 subst he
 rcases h with h|h
 ·exact this.2.1 h
 ·exact this.2.2 h
noncomputable def fstep (acc:List (Int×Int)) (e:Int×Int):List (Int×Int):=if Conn acc e.1 e.2 then acc else acc++[e]
noncomputable def jai (es:List (Int×Int)):List (Int×Int):=es.foldl fstep []
theorem j4b {acc:List (Int×Int)} {e:Int×Int}:acc.Sublist (fstep acc e):=by
 unfold fstep;split
 ·exact List.Sublist.refl _
 ·exact List.sublist_append_left _ _
theorem jz7 {acc:List (Int×Int)} {e:Int×Int}:Conn (fstep acc e) e.1 e.2:=by
 unfold fstep;split
 ·assumption
 ·exact .edge (by simp)
theorem j2v {es:List (Int×Int)} {e:Int×Int} {x y:Int}:Conn (es++[e]) x y↔Conn (e::es) x y:=
 ⟨Conn.mono fun f hf=>(by rcases List.mem_append.1 hf with h|h;exact List.mem_cons_of_mem _ h;exact List.mem_cons.2 (.inl (List.mem_singleton.1 h))),Conn.mono fun f hf=>(by rcases List.mem_cons.1 hf with h|h;exact List.mem_append.2 (.inr (List.mem_singleton.2 h));exact List.mem_append.2 (.inl h))⟩
theorem jd6 {n:Int}:∀{fs acc:List (Int×Int)},(∀e∈fs,okE n e)→cnt n acc+acc.length=n.toNat→
 acc.Sublist (fs.foldl fstep acc)∧(fs.foldl fstep acc).Sublist (acc++fs)∧(∀e∈fs,Conn (fs.foldl fstep acc) e.1 e.2)∧cnt n (fs.foldl fstep acc)+(fs.foldl fstep acc).length=n.toNat
 | [],acc,_,h=>⟨List.Sublist.refl _,by simp,by simp,h⟩
 | e::fs,acc,ho,h=>by
  have hok:=ho e (by simp)
  unfold okE at hok
  have hc:cnt n (fstep acc e)+(fstep acc e).length=n.toNat:=by
   unfold fstep
   split
   ·exact h
   ·rename_i hn
    have h1:=jd3 (n:=n) (a:=e.1) (b:=e.2) (es:=acc) (by omega) (by omega) hn
    have h2:=jfv (n:=n) (es:=acc++[e]) (fs:=(e.1,e.2)::acc) fun x y=>j2v
    simp only[List.length_append,List.length_cons,List.length_nil]
    omega
  obtain⟨i1,i2,i3,i4⟩:=jd6 (fs:=fs) (acc:=fstep acc e) (fun f hf=>ho f (List.mem_cons_of_mem _ hf)) hc
  refine⟨j4b.trans i1,?_,?_,i4⟩
  ·refine i2.trans ?_
   unfold fstep
   split
   ·exact List.Sublist.append_left (List.sublist_cons_self _ _) _
   ·simp
  ·intro f hf
   rcases List.mem_cons.1 hf with rfl|hf
   ·exact jz7.mono fun g hg=>i1.subset hg
   ·exact i3 f hf
theorem jcz {n:Int} {es:List (Int×Int)} (ho:∀e∈es,okE n e):(jai es).Sublist es:=by
 exact(jd6 (fs:=es) (acc:=[]) ho (by simp[jlb])).2.1
theorem jz5 {n:Int} {es:List (Int×Int)} (ho:∀e∈es,okE n e):cnt n (jai es)+(jai es).length=n.toNat:=
 (jd6 (fs:=es) (acc:=[]) ho (by simp[jlb])).2.2.2
theorem jhd {n:Int} {es:List (Int×Int)} (ho:∀e∈es,okE n e) {x y:Int}:Conn (jai es) x y↔Conn es x y:=
 ⟨fun h=>h.mono fun e he=>(jcz ho).subset he,fun h=>h.via (jd6 (fs:=es) (acc:=[]) ho (by simp[jlb])).2.2.1⟩
theorem jz6 {n:Int} {es:List (Int×Int)} (ho:∀e∈es,okE n e):(jai es).length+cnt n es=n.toNat:=by
 have h1:=jz5 ho
 have h2:=jfv (n:=n) (es:=jai es) (fs:=es) fun x y=>jhd ho
 omega
theorem jwl {n:Int}:∀{es:List (Int×Int)},(∀e∈es,okE n e)→n.toNat≤cnt n es+es.length
 | [],_=>by simp[jlb]
 | e::es,ho=>by
  have ih:=jwl (es:=es) fun f hf=>ho f (List.mem_cons_of_mem _ hf)
  have hok:=ho e (by simp)
  unfold okE at hok
  have e1:((e.1,e.2):Int×Int)=e:=rfl
  simp only[List.length_cons]
  by_cases hc:Conn es e.1 e.2
  ·have:=jgc (n:=n) hc
   rw[e1] at this;omega
  ·have:=jd3 (n:=n) (a:=e.1) (b:=e.2) (by omega) (by omega) hc
   rw[e1] at this;omega
theorem kcb {e:Int×Int} {es:List (Int×Int)} (h:e∈es):(cutE e es).length<es.length:=by
 have:=jlr (l:=es) (p:=fun f=>decide (f≠e)) (q:=fun _=>true) (fun _ _ _=>rfl) ⟨e,h,rfl,by simp⟩
 rw[List.filter_eq_self.2 (fun _ _=>rfl)] at this
 exact this
theorem kag {n:Int} {es:List (Int×Int)} (ho:∀e∈es,okE n e) (h:cnt n es+es.length=n.toNat) {e:Int×Int} (he:e∈es):Brg es e:=by
 intro hc
 rcases kca (n:=n) he (ho e he) with⟨_,h2⟩ | ⟨h1,_⟩
 ·exact h2 hc
 ·have h3:=jwl (n:=n) (es:=cutE e es) fun f hf=>ho f (jdi.1 hf).1
  have:=kcb he
  omega
theorem VG.sub {n:Int} {es fs:List (Int×Int)} (h:VG n es) (hs:fs.Sublist es):VG n fs:=by
 obtain⟨h1,h2,h3,h4,h5⟩:=h
 have:=hs.length_le
 exact⟨h1,h2,by omega,fun e he=>h4 e (hs.subset he),List.Pairwise.sublist hs h5⟩
def Walk (es:List (Int×Int)) (p:List Int):Prop:=∀i,i+1<p.length→Adj es (p.getD i 0) (p.getD (i+1) 0)
theorem Walk.conn {es:List (Int×Int)} {p:List Int} (h:Walk es p):∀i,i<p.length→Conn es (p.getD 0 0) (p.getD i 0)
 | 0,_=>.refl _
 | i+1,hi=>.step (h.conn i (by omega)) (h i hi)
theorem jan {α:Type} [DecidableEq α]:∀{l m:List α},l.Nodup→(∀x∈l,x∈m)→l.length≤m.length
 | [],m,_,_=>by simp
 | x::l,m,hn,h=>by
  rw[List.nodup_cons] at hn
  have hx:=h x (by simp)
  have ih:=jan (l:=l) (m:=m.erase x) hn.2 fun y hy=>by
   have:y≠x:=fun e=>hn.1 (e▸hy)
   exact(List.mem_erase_of_ne this).2 (h y (List.mem_cons_of_mem _ hy))
  rw[List.length_erase_of_mem hx] at ih
  have:=List.length_pos_of_mem hx
  simp only[List.length_cons];omega
theorem jwm {es:List (Int×Int)} {i:Int} (h:0≤i):(((List.range (i+1).toNat).filter fun x=>decide (least es x=x)).length:Int)=((List.range i.toNat).filter fun x=>decide (least es x=x)).length+if least es i.toNat=i.toNat then 1 else 0:=by
 rw[show(i+1).toNat=i.toNat+1 by omega,List.range_succ,List.filter_append,List.length_append]
 simp only[List.filter_cons,List.filter_nil,decide_eq_true_eq]
 split<;>simp
@[go_sem] theorem jtz (n:Int) (es:List (Int×Int)) (hl:es.length≤1048576):KP 79 [GL n es] []=some (I (if VG n es then(cnt n es:Int) else 0),[],[]):=by
 by_cases h:VG n es
 rotate_left
 ·refine gc func79 ?_
  have Fz:=fz1 results79
  repeat refine go1 ?_
  refine jaa (fun(x:Int) s=>s.ρ 8=I 0∧s.ρ 9=I 0∧s.ρ 3=I 0∧x=0) (fun x=>0) 0 (by simp[upd]) ?_
  rintro x ⟨ρ,m⟩ ⟨h8,h9,h3,hx⟩
  simp only at h8 h9 h3
  have Fz:=fz4 results79 h8 h9 h3
  repeat(first|exact trivial|refine go1 ?_)
 have hn:=h.1
 have hn':=h.2.1
 have hll:=jap n es
 refine gc func79 ?_
 have Fz:=fz1 results79
 repeat refine go1 ?_
 refine jaa (fun(x:Int×Int) s=>s.ρ 7=LI (lab n es)∧s.ρ 8=I (lab n es).length∧s.ρ 9=I x.1∧s.ρ 3=I x.2∧0≤x.1∧x.1≤n∧0≤x.2∧x.2≤x.1∧x.2=((List.range x.1.toNat).filter fun y=>decide (least es y=y)).length) (fun x=>(n-x.1).toNat) (0,0) (by
  refine⟨by simp[upd],by simp[upd],by simp[upd],by simp[upd],by simp,by simp only;omega,by simp,by simp,by simp⟩) ?_
 rintro⟨i,c⟩ ⟨ρ,m⟩ ⟨h7,h8,h9,h3,g0,g1,g2,g3,g4⟩
 simp only at h7 h8 h9 h3 g0 g1 g2 g3 g4
 by_cases hi:i<n
 ·have hg:(lab n es).getD i.toNat 0=(least es i.toNat:Nat):=jee (by omega)
  have hs:=jwm (es:=es) g0
  have Fz:=fz6 results79 h7 h8 h9 h3 hg
  repeat'(first|refine go1 ?_|(refine go2 ?_ ?_<;>intro _<;>try omega))
  all_goals(first | (rw[if_pos (by omega)] at hs;refine⟨_,_,⟨rfl,rfl⟩,?_⟩;omega) | (rw[if_neg (by omega)] at hs;omega) | (rw[if_pos (by omega)] at hs;omega))
 ·have:i=n:=by omega
  subst this
  have Fz:=fz5 results79 h7 h8 h9 h3
  repeat refine go1 ?_
  unfold cnt
  omega
noncomputable def bare (es:List (Int×Int)):List (Int×Int):=es.filter fun e=>!decide (Brg es e)
noncomputable def brgs (es:List (Int×Int)):List (Int×Int):=es.filter fun e=>decide (Brg es e)
theorem j9k {es:List (Int×Int)} {e:Int×Int}:e∈bare es↔e∈es∧¬Brg es e:=by simp[bare]
theorem jxv {es:List (Int×Int)} {e:Int×Int}:e∈brgs es↔e∈es∧Brg es e:=by simp[brgs]
theorem VG.bare {n:Int} {es:List (Int×Int)} (h:VG n es):VG n (X.bare es):=h.sub List.filter_sublist
theorem VG.brgs {n:Int} {es:List (Int×Int)} (h:VG n es):VG n (X.brgs es):=h.sub List.filter_sublist
noncomputable def sl (es:List (Int×Int)) (x:Int):Int:=(least (bare es) x.toNat:Nat)
noncomputable def kie (es:List (Int×Int)) (e:Int×Int):Int×Int:=edgeOf (sl es e.1) (sl es e.2)
noncomputable def treeL (es:List (Int×Int)):List (Int×Int):=(brgs es).map (kie es)
theorem j3n {n x y:Int} (hx:0≤x∧x<n) (hy:0≤y∧y<n) (h:x≠y):okE n (edgeOf x y):=by
 unfold okE edgeOf
 split<;>simp only<;>omega
theorem jl7 {α β:Type} {f:α→β}:∀{l:List α},l.Nodup→(∀x∈l,∀y∈l,f x=f y→x=y)→(l.map f).Nodup
 | [],_,_=>by simp
 | a::l,hn,h=>by
  rw[List.nodup_cons] at hn
  rw[List.map_cons,List.nodup_cons]
  refine⟨fun hm=>?_,jl7 hn.2 fun x hx y hy=>h x (List.mem_cons_of_mem _ hx) y (List.mem_cons_of_mem _ hy)⟩
  obtain⟨b,hb,he⟩:=List.mem_map.1 hm
  have:=h a (by simp) b (List.mem_cons_of_mem _ hb) he.symm
  exact hn.1 (this▸hb)
theorem jia {α:Type} {l:List α} {p:α→Bool} {i:Int} {d:α} (h0:0≤i) (h1:i<l.length) (hp:p (l.getD i.toNat d)=true):(l.take (i+1).toNat).filter p=(l.take i.toNat).filter p++[l.getD i.toNat d]:=by
 rw[jae d h0 h1,List.filter_append,List.filter_cons_of_pos hp];rfl
theorem jlq {α:Type} {l:List α} {p:α→Bool} {i:Int} {d:α} (h0:0≤i) (h1:i<l.length) (hp:¬p (l.getD i.toNat d)=true):(l.take (i+1).toNat).filter p=(l.take i.toNat).filter p:=by
 rw[jae d h0 h1,List.filter_append,List.filter_cons_of_neg hp,List.filter_nil,List.append_nil]
theorem OKG.cutE {n:Int} {es:List (Int×Int)} (h:OKG n es) (e:Int×Int):OKG n (X.cutE e es):=⟨h.n0,h.n1,Nat.le_trans (j75 e es) h.len,fun f hf=>h.ok f (jdi.1 hf).1⟩
theorem OKG.bare {n:Int} {es:List (Int×Int)} (h:OKG n es):OKG n (X.bare es):=⟨h.n0,h.n1,Nat.le_trans (List.length_filter_le _ _) h.len,fun f hf=>h.ok f (j9k.1 hf).1⟩
theorem j6p {es:List (Int×Int)}:(es.filter fun e=>!decide (Brg es e))=bare es:=rfl
theorem j1l {es:List (Int×Int)} {a b:Int}:(!decide (Conn (cutE (a,b) es) a b))=decide (Brg es (a,b)):=by
 by_cases h:Conn (cutE (a,b) es) a b
 ·have:¬Brg es (a,b):=fun k=>k h
  rw[decide_eq_true h,decide_eq_false this];rfl
 ·rw[decide_eq_false h,decide_eq_true (show Brg es (a,b) from h)];rfl
def delF (p:Int×Int→Bool) (es:List (Int×Int)):IV:=if es=[] then .emp else .lst ((es.filter p).map encE)
theorem jgd {p:Int×Int→Bool} {es:List (Int×Int)}:delE (fun e=>!p e) es=delF p es:=by
 unfold delE delF;simp only[Bool.not_not]
theorem j8l {p:Int×Int→Bool} {es:List (Int×Int)} {n:Nat}:frz n (.i (delF p es))=.ret (.lst ((es.filter p).map encE)):=by
 rw[←jgd,j38];simp only[Bool.not_not]
theorem jrv {p:Int×Int→Bool} {es:List (Int×Int)}:(delF p es).flat=true:=by rw[←jgd];exact jww
theorem jsd {p:Int×Int→Bool} {es:List (Int×Int)}:lenP (.i (delF p es))=some (es.filter p).length:=by
 rw[←jgd,jxq];simp only[Bool.not_not]
theorem j8s {p:Int×Int→Bool} {es:List (Int×Int)} {el:TypeId} {n:Int} (h0:0≤n) (h:n<(es.filter p).length) :
 iaR prog (some (.slice el)) (some n) (.i (delF p es))=iaR prog (some (.slice el)) (some n) (.i (.lst ((es.filter p).map encE))):=by
 have:=j4h (p:=fun e=>!p e) (es:=es) (el:=el) (n:=n) h0 (by simpa only[Bool.not_not] using h)
 rw[jgd] at this
 simpa only[Bool.not_not] using this
attribute [go_sem] j8l jrv jsd j8s
@[go_sem] theorem ji2 (n a b:Int) (es:List (Int×Int)) (h:OKG n es) (he:okE n (a,b)):KP 119 [GL n es,PE a b] []=some (B (decide (Brg es (a,b))),[],[]):=by
 have hl:=h.len
 have hok:=h.cutE (a,b)
 unfold okE at he;simp only at he
 refine gc func119 ?_
 have Fz:=fz2 results119 @j2y
 repeat refine go1 ?_
 all_goals exact j1l
theorem jjo (n:Int) (es:List (Int×Int)) (h:OKG n es):Clo (.fn 119 [.ag [.v (.int .i64 n),.lst (es.map encE)]] []) (okE n) (fun e=>decide (Brg es e)):=by
 refine⟨fun n=>by cases n<;>rfl,rfl,fun me d x y hd=>?_⟩
 have hx:=ji2 n x y es h hd
 simp only[go_sem,↓reduceIte,Int.reduceLE,Int.reduceLT,Int.reduceToNat,Int.reduceNeg,Int.reduceAdd,Int.reduceSub,Int.reduceMul,Int.reduceEq,Int.reduceNe,Nat.reduceEqDiff,Nat.reduceAdd,Nat.reduceSub,Nat.reduceMul,Nat.reduceLT,Nat.reduceLeDiff,Nat.reduceBEq,Nat.reduceBNe,UInt8.reduceToNat,hx,ite_self]
theorem juk {c:IV} {dom:Int×Int→Prop} {p:Int×Int→Bool} (hc:Clo c dom p):Clo (.fn 186 [] [.eptr [c] 0]) dom (fun e=>!p e):=by
 obtain⟨hc1,hc2,hc3⟩:=hc
 have h:∀x y:Int,dom (x,y)→KP 186 [PE x y,.i (.eptr [c] 0)] []=some (B (!p (x,y)),[],[]):=by
  intro x y hd
  refine gc func186 ?_
  have Fz:=fz4 results186 hc1 hc2 hc3
  repeat(first|exact trivial|refine go1 ?_)
 refine⟨fun n=>by cases n<;>rfl,rfl,fun me d x y hd=>?_⟩
 have hx:=h x y hd
 simp only[go_sem,↓reduceIte,Int.reduceLE,Int.reduceLT,Int.reduceToNat,Int.reduceNeg,Int.reduceAdd,Int.reduceSub,Int.reduceMul,Int.reduceEq,Int.reduceNe,Nat.reduceEqDiff,Nat.reduceAdd,Nat.reduceSub,Nat.reduceMul,Nat.reduceLT,Nat.reduceLeDiff,Nat.reduceBEq,Nat.reduceBNe,UInt8.reduceToNat,hx,ite_self]
theorem jph {p:Int×Int→Bool} {es:List (Int×Int)} {n:Nat}:imm (n+1) (delA (fun e=>!p e) es) (delP (fun e=>!p e) es)=some (.i (delF p es)):=by rw[j4i,jgd]
theorem jkz {c:IV} {dom:Int×Int→Prop} {p:Int×Int→Bool} (hc:Clo c dom p) (n:Int) (es:List (Int×Int)) (hd:∀e∈es,dom e) (hl:es.length≤1048576):KP 118 [GL n es,.i c] []=some (delP (fun e=>!p e) es,[],delA (fun e=>!p e) es):=by
 have hw:=jhy (juk hc) n es hd hl
 obtain⟨hc1,hc2,hc3⟩:=hc
 unfold delP delA at hw ⊢
 by_cases he:es=[]
 ·simp only[if_pos he] at hw ⊢
  refine gc func118 ?_
  have Fz:=fz4 results118 hc1 hc2 hw
  repeat(first|exact trivial|refine go1 ?_)
 ·simp only[if_neg he] at hw ⊢
  refine gc func118 ?_
  have Fz:=fz4 results118 hc1 hc2 hw
  repeat(first|exact trivial|refine go1 ?_)
theorem jtx (n:Int) (es:List (Int×Int)) (hl:es.length≤1048576):KP 66 [GL n es] []=some (if VG n es then .i (delF (fun e=>decide (Brg es e)) es) else .i .emp,[],[]):=by
 by_cases h:VG n es
 ·have hw:=jkz (jjo n es h.okg) n es h.okg.ok hl
  refine gc func66 ?_
  have Fz:=fz3 results66 hw @jph
  repeat(first|exact trivial|refine go1 ?_)
 ·refine gc func66 ?_
  have Fz:=fz1 results66
  repeat(first|exact trivial|refine go1 ?_)
@[go_sem] theorem kb2 (n:Int) (es:List (Int×Int)) (h:OKG n es):KP 117 [GL n es] []=some (LI (lab n (bare es)),[],[]):=by
 have hl:=h.len
 have hb:=h.bare
 have hw:=jhy (jjo n es h) n es h.ok (by omega)
 refine gc func117 ?_
 have Fz:=fz3 results117 hw @j6p
 repeat(first|exact trivial|refine go1 ?_)
@[go_sem] theorem jt0 (n:Int) (es:List (Int×Int)) (hl:es.length≤1048576):KP 64 [GL n es] []=some (if VG n es then LI (lab n (bare es)) else .i .emp,[],[]):=by
 by_cases h:VG n es
 ·have hb:=h.okg
  refine gc func64 ?_
  have Fz:=fz1 results64
  repeat(first|exact trivial|refine go1 ?_)
 ·refine gc func64 ?_
  have Fz:=fz1 results64
  repeat(first|exact trivial|refine go1 ?_)
theorem jq0 {c:IV} {dom:Int→Prop} {p:Int→Bool} (hc:CloI c dom p) (n:Int) (es:List (Int×Int)) (hn:0≤n∧n≤1048576) (hd:∀x,0≤x→x<n→dom x) (hl:es.length≤1048576) :
 KP 115 [GL n es,.i c] []=some (.ref 2000 0 0 ((iota n).filter p).length,[],[.arr 0 1 (((iota n).filter p).map encI)]):=by
 obtain⟨hc1,hc2,hc3⟩:=hc
 refine gc func115 ?_
 have Fz:=fz3 results115 hc1 hc2
 repeat refine go1 ?_
 refine jaa (fun(x:Int×Nat×List Int) s=>s.m 7=some (.arr x.2.1 1 (x.2.2.map encI))∧s.ρ 5=.ref 7 x.2.1 0 x.2.2.length∧s.ρ 10=I x.1∧s.ρ 9=I n∧s.ρ 1=.i c∧
  0≤x.1∧x.1≤n∧(x.2.2.length:Int)≤x.1∧x.2.2=(iota x.1).filter p) (fun x=>(n-x.1).toNat) (0,0,[]) (by simp[upd,iota,hn.1]) ?_
 rintro⟨i,w,xs⟩ ⟨ρ,m⟩ ⟨m7,h5,h10,h9,h1,g0,g1,g2,g3⟩
 simp only at m7 h5 h10 h9 h1 g0 g1 g2 g3
 by_cases hj:i<n
 ·have hdi:=hd i g0 hj
  have Fz:=fz9 results115 m7 h5 h10 h9 h1 hc3 hc1 hc2
  repeat'(first|refine go1 ?_|(refine go2 ?_ ?_<;>intro _<;>try omega))
  all_goals(refine⟨by omega,by omega,by omega,?_,by omega⟩;rw[jby g0,List.filter_append,←g3];simp_all)
 ·have:i=n:=by omega
  subst this
  have Fz:=fz8 results115 m7 h5 h10 h9 h1 hc1 hc2
  repeat refine go1 ?_
  rw[←g3]
  exact⟨rfl,rfl⟩
structure EQ (x:IV) (es:List (Int×Int)):Prop extends EL x es where
 len:lenP (.i x)=some es.length
 ia:∀(el:TypeId) (i:Int),0≤i→i<es.length→iaR prog (some (.slice el)) (some i) (.i x)=iaR prog (some (.slice el)) (some i) (.i (.lst (es.map encE)))
theorem EQ.lst (es:List (Int×Int)):EQ (.lst (es.map encE)) es:=⟨EL.lst es,by simp[lenP],fun _ _ _ _=>rfl⟩
theorem EQ.qe (es:List (Int×Int)):EQ (qe es) es:=⟨EL.qe es,ji8,fun el i h0 h1=>by
 cases es with
 | nil=>simp at h1;omega
 | cons e r=>rfl⟩
theorem jly {n:Int} {es fs:List (Int×Int)} (h:∀x y:Int,Conn es x y↔Conn fs x y):lab n es=lab n fs:=by
 unfold lab
 refine List.map_congr_left fun x _=>?_
 have:least es x=least fs x:=by
  obtain⟨a1,a2,a3⟩:=jaz es x
  obtain⟨b1,b2,b3⟩:=jaz fs x
  refine Nat.le_antisymm (Nat.le_of_not_lt fun hl=>a3 _ hl ((h _ _).2 b2)) (Nat.le_of_not_lt fun hl=>b3 _ hl ((h _ _).1 a2))
 rw[this]
theorem OKG.sub {n:Int} {es fs:List (Int×Int)} (h:OKG n es) (hs:fs.Sublist es):OKG n fs:=⟨h.n0,h.n1,Nat.le_trans hs.length_le h.len,fun e he=>h.ok e (hs.subset he)⟩
theorem VG.cut {n:Int} {es:List (Int×Int)} (h:VG n es) (e:Int×Int):VG n (cutE e es):=h.sub List.filter_sublist
theorem jwy:∀(fs acc:List (Int×Int)),(fs.foldl fstep acc).Sublist (acc++fs)
 | [],acc=>by simp
 | e::fs,acc=>by
  refine(jwy fs (fstep acc e)).trans ?_
  unfold fstep
  split
  ·exact List.Sublist.append_left (List.sublist_cons_self _ _) _
  ·simp
theorem jrz {n:Int} {es:List (Int×Int)} (h:OKG n es) (k:Nat):OKG n ((es.take k).foldl fstep []):=
 h.sub ((jwy (es.take k) []).trans (by simpa using List.take_sublist k es))
theorem jry {es:List (Int×Int)} {i:Int} (h0:0≤i) (h1:i<es.length):(es.take (i+1).toNat).foldl fstep []=fstep ((es.take i.toNat).foldl fstep []) (es.getD i.toNat (0,0)):=by
 rw[jae (0,0) h0 h1,List.foldl_append];rfl
@[go_sem] theorem jnl (n:Int) (es:List (Int×Int)) (h:OKG n es):KP 50 [I n,LE es] []=some (.ref 2000 0 0 (jai es).length,[],[.arr 0 2 ((jai es).map encE)]):=by
 have hl:=h.len
 refine gc func50 ?_
 have Fz:=fz1 results50
 repeat refine go1 ?_
 refine jaa (fun(x:Int×Nat×List (Int×Int)) s=>s.m 7=some (.arr x.2.1 2 (x.2.2.map encE))∧s.ρ 5=.ref 7 x.2.1 0 x.2.2.length∧s.ρ 6=I x.1∧s.ρ 0=I n∧s.ρ 1=LE es∧
  0≤x.1∧x.1≤es.length∧(x.2.2.length:Int)≤x.1∧x.2.2=(es.take x.1.toNat).foldl fstep []) (fun x=>(es.length-x.1).toNat) (0,0,[]) (by simp[upd]) ?_
 rintro⟨i,w,xs⟩ ⟨ρ,m⟩ ⟨m7,h5,h6,h0,h1,g0,g1,g2,g3⟩
 simp only at m7 h5 h6 h0 h1 g0 g1 g2 g3
 have hxs:OKG n xs:=by rw[g3];exact jrz h _
 by_cases hj:i<es.length
 ·have hoe:=h.ok _ (jab (d:=(0,0)) (show i.toNat<es.length by omega))
  unfold okE at hoe
  have hnx:=jry g0 hj
  rw[←g3,fstep] at hnx
  have Fz:=fz6 results50 m7 h5 h6 h0 h1
  repeat'(first|refine go1 ?_|(refine go2 ?_ ?_<;>intro _<;>try omega))
  all_goals
   refine⟨by omega,by omega,by omega,?_,by omega⟩
   rw[hnx]
   first|rw[if_pos (by assumption)] | rw[if_neg (by assumption)]
 ·have Fz:=fz6 results50 m7 h5 h6 h0 h1
  repeat refine go1 ?_
  rw[jac (by omega)] at g3
  rw[g3]
  exact⟨rfl,rfl⟩
def fP (d v:Nat) (xs:List (Int×Int)):PV:=if xs=[] then .i .emp else .ref d v 0 xs.length
def qP (xs:List (Int×Int)):PV:=if xs=[] then .i .emp else .ref 2000 0 0 xs.length
def qA (xs:List (Int×Int)):List Arr:=if xs=[] then [] else [.arr 0 2 (xs.map encE)]
@[go_sem] theorem imm_q {xs:List (Int×Int)} {n:Nat}:imm (n+1) (qA xs) (qP xs)=some (.i (qe xs)):=by
 unfold qA qP qe
 split
 ·rfl
 ·simp only[imm,imm1]
  simp[List.take_of_length_le]
@[go_sem] theorem jv9 (n:Int) (es:List (Int×Int)) (h:OKG n es):KP 138 [GL n es] []=some (qP (jai es),[],qA (jai es)):=by
 have hl:=h.len
 refine gc func138 ?_
 have Fz:=fz1 results138
 repeat refine go1 ?_
 refine jaa (fun(x:Int×Nat×List (Int×Int)) s=>s.m 3=some (.box 0 [I n,fP 27 x.2.1 x.2.2])∧s.ρ 3=.ptr 3 0 0 0∧(x.2.2≠[]→s.m 27=some (.arr x.2.1 2 (x.2.2.map encE)))∧s.ρ 12=I x.1∧s.ρ 10=LE es∧s.ρ 11=I es.length∧
  0≤x.1∧x.1≤es.length∧(x.2.2.length:Int)≤x.1∧x.2.2=(es.take x.1.toNat).foldl fstep []) (fun x=>(es.length-x.1).toNat) (0,0,[]) (by simp[upd,fP]) ?_
 rintro⟨i,w,xs⟩ ⟨ρ,m⟩ ⟨m3,h3,m27,h12,h10,h11,g0,g1,g2,g3⟩
 simp only at m3 h3 m27 h12 h10 h11 g0 g1 g2 g3
 have hxs:OKG n xs:=by rw[g3];exact jrz h _
 by_cases hj:i<es.length
 ·have hoe:=h.ok _ (jab (d:=(0,0)) (show i.toNat<es.length by omega))
  unfold okE at hoe
  have hnx:=jry g0 hj
  rw[←g3,fstep] at hnx
  by_cases hx:xs=[]
  ·subst hx
   have m3':m 3=some (.box 0 [I n,.i .emp]):=m3
   have hkeep:(es.getD i.toNat (0,0)).1≠(es.getD i.toNat (0,0)).2:=by omega
   have hno:¬Conn [] (es.getD i.toNat (0,0)).1 (es.getD i.toNat (0,0)).2:=fun hc=>hkeep hc.nil
   rw[if_neg hno] at hnx
   have hcc:=jg6 n (es.getD i.toNat (0,0)).1 (es.getD i.toNat (0,0)).2 [] hxs (by omega) (by omega)
   rw[decide_eq_false hno] at hcc
   have hcc':KP 136 [.agg [I n,.i (.lst [])],I (es.getD i.toNat (0,0)).1,I (es.getD i.toNat (0,0)).2] []=some (B false,[],[]):=hcc
   have Fz:=fz7 results138 m3' h3 h12 h10 h11 hcc'
   repeat refine go1 ?_
   exact⟨i+1,nv (m 27),[es.getD i.toNat (0,0)],by simp[fP],fun _=>⟨rfl,by simp[encE]⟩,rfl,by omega,by omega,by simp;omega,by rw[hnx];rfl,by omega⟩
  ·have m27':=m27 hx
   have m3':m 3=some (.box 0 [I n,.ref 27 w 0 xs.length]):=by rw[m3,fP,if_neg hx]
   have Fz:=fz7 results138 m3' m27' h3 h12 h10 h11
   repeat'(first|refine go1 ?_|(refine go2 ?_ ?_<;>intro _<;>try omega))
   ·exact⟨i+1,w,xs,by rw[fP,if_neg hx],fun _=>⟨rfl,rfl⟩,rfl,by omega,by omega,by omega,by rw[hnx,if_pos (by assumption)],by omega⟩
   ·exact⟨i+1,w+1,xs++[es.getD i.toNat (0,0)],by rw[fP,if_neg (by simp)];simp,fun _=>⟨rfl,rfl⟩,rfl,by omega,by omega,by simp;omega,by rw[hnx,if_neg (by assumption)],by omega⟩
 ·have hxe:xs=jai es:=by rw[jac (by omega)] at g3;exact g3
  by_cases hx:xs=[]
  ·have m3':m 3=some (.box 0 [I n,.i .emp]):=by rw[m3,fP,if_pos hx]
   unfold qP qA
   rw[←hxe,if_pos hx,if_pos hx]
   have Fz:=fz6 results138 m3' h3 h12 h10 h11
   repeat(first|exact trivial|refine go1 ?_)
  ·have m27':=m27 hx
   have m3':m 3=some (.box 0 [I n,.ref 27 w 0 xs.length]):=by rw[m3,fP,if_neg hx]
   unfold qP qA
   rw[←hxe,if_neg hx,if_neg hx]
   have Fz:=fz7 results138 m3' m27' h3 h12 h10 h11
   repeat(first|exact trivial|refine go1 ?_)
theorem jnh (n:Int) (es:List (Int×Int)) (hl:es.length≤1048576):KP 77 [GL n es] []=some (if VG n es then .i (qe (jai es)) else .i .emp,[],[]):=by
 by_cases h:VG n es
 ·have hb:=h.okg
  refine gc func77 ?_
  have Fz:=fz1 results77
  repeat(first|exact trivial|refine go1 ?_)
 ·refine gc func77 ?_
  have Fz:=fz1 results77
  repeat(first|exact trivial|refine go1 ?_)
def look (goes:Int→Int→Bool) (a:Int) (st:List Int×List Int) (v:Int):List Int×List Int:=
 if st.1.getD v.toNat 0<0∧goes a v=true then(st.1.set v.toNat a,st.2++[v]) else st
def jtw (es:List (Int×Int)) (goes:Int→Int→Bool) (st:List Int×List Int) (i:Nat):List Int×List Int:=
 if i<st.2.length then(nbS (st.2.getD i 0) es).foldl (look goes (st.2.getD i 0)) st else st
def bfsS (n:Int) (es:List (Int×Int)) (goes:Int→Int→Bool) (x:Int):Nat→List Int×List Int
 | 0=>((List.replicate n.toNat (-1)).set x.toNat x,[x])
 | i+1=>jtw es goes (bfsS n es goes x i) i
def bfs (n:Int) (es:List (Int×Int)) (goes:Int→Int→Bool) (x:Int):List Int×List Int:=bfsS n es goes x n.toNat
structure BI (n:Int) (es:List (Int×Int)) (goes:Int→Int→Bool) (x:Int) (st:List Int×List Int):Prop where
 len:st.1.length=n.toNat
 nd:st.2.Nodup
 pos:0<st.2.length
 hd:st.2.getD 0 0=x
 mem:∀v,0≤v→v<n→(0≤st.1.getD v.toNat 0↔v∈st.2)
 neg:∀v,0≤v→v<n→st.1.getD v.toNat 0<0→st.1.getD v.toNat 0=-1
 rng:∀v∈st.2,0≤v∧v<n
 self:st.1.getD x.toNat 0=x
 par:∀k,0<k→k<st.2.length→∃j,j<k∧st.1.getD (st.2.getD k 0).toNat 0=st.2.getD j 0∧Adj es (st.2.getD j 0) (st.2.getD k 0)∧goes (st.2.getD j 0) (st.2.getD k 0)=true
theorem BI.init {n:Int} {es:List (Int×Int)} {goes:Int→Int→Bool} {x:Int} (hx:0≤x∧x<n):BI n es goes x (bfsS n es goes x 0):=by
 have hl:x.toNat<(List.replicate n.toNat (-1:Int)).length:=by simp;omega
 have hg:∀v:Int,0≤v→v<n→((List.replicate n.toNat (-1:Int)).set x.toNat x).getD v.toNat 0=if x=v then x else -1:=fun v h0 h1=>by
  rw[jcq (by simp;omega)]
  by_cases h:x=v
  ·subst h;simp
  ·rw[if_neg h,if_neg (by omega)]
   have:v.toNat<n.toNat:=by omega
   simp[this]
 refine⟨by simp[bfsS],by simp[bfsS],by simp[bfsS],rfl,fun v h0 h1=>?_,fun v h0 h1 h=>?_,fun v hv=>?_,?_,fun k h0 h1=>?_⟩
 ·simp only[bfsS];rw[hg v h0 h1]
  by_cases h:x=v
  ·subst h;simp;omega
  ·rw[if_neg h];simp;exact fun h'=>h h'.symm
 ·simp only[bfsS] at h ⊢;rw[hg v h0 h1] at h ⊢
  split
  ·rw[if_pos ‹_›] at h;omega
  ·rfl
 ·simp only[bfsS,List.mem_singleton] at hv;subst hv;exact hx
 ·simp only[bfsS];rw[hg x hx.1 hx.2,if_pos rfl]
 ·simp only[bfsS,List.length_cons,List.length_nil] at h1;omega
theorem jay {l r:List Int} {i:Nat} (h:i<l.length):(l++r).getD i 0=l.getD i 0:=by
 simp[List.getD,List.getElem?_append_left h]
theorem jde {l:List Int} {v:Int}:(l++[v]).getD l.length 0=v:=by
 simp[List.getD]
theorem BI.look {n:Int} {es:List (Int×Int)} {goes:Int→Int→Bool} {x a v:Int} {st:List Int×List Int} (h:BI n es goes x st) (ha:a∈st.2) (hv:0≤v∧v<n) (hav:Adj es a v) :
 BI n es goes x (look goes a st v)∧st.2 <+: (X.look goes a st v).2∧(goes a v=true→v∈(X.look goes a st v).2):=by
 unfold X.look
 split
 ·rename_i hc
  obtain⟨hneg,hgo⟩:=hc
  have hnm:v∉st.2:=fun hm=>by have:=(h.mem v hv.1 hv.2).2 hm;omega
  have hvl:v.toNat<st.1.length:=by rw[h.len];omega
  have hg:∀u:Int,0≤u→u<n→(st.1.set v.toNat a).getD u.toNat 0=if v=u then a else st.1.getD u.toNat 0:=fun u h0 h1=>by
   rw[jcq (by rw[h.len];omega)]
   by_cases he:v=u
   ·subst he;simp
   ·rw[if_neg he,if_neg (by omega)]
  have har:=h.rng a ha
  refine⟨⟨by simp[h.len],?_,by simp,?_,fun u h0 h1=>?_,fun u h0 h1 hn=>?_,fun u hu=>?_,?_,fun k h0 h1=>?_⟩,List.prefix_append _ _,fun _=>by simp⟩
  ·rw[List.nodup_append]
   exact⟨h.nd,by simp,fun y hy z hz=>by simp only[List.mem_singleton] at hz;subst hz;exact fun e=>hnm (e▸hy)⟩
  ·rw[jay h.pos];exact h.hd
  ·simp only[List.mem_append,List.mem_singleton]
   rw[hg u h0 h1]
   by_cases he:v=u
   ·subst he;simp;exact har.1
   ·rw[if_neg he,h.mem u h0 h1]
    exact⟨.inl,fun h'=>h'.resolve_right fun e=>he e.symm⟩
  ·simp only at hn ⊢
   rw[hg u h0 h1] at hn ⊢
   split
   ·rw[if_pos ‹_›] at hn;omega
   ·rw[if_neg ‹_›] at hn;exact h.neg u h0 h1 hn
  ·simp only[List.mem_append,List.mem_singleton] at hu
   rcases hu with hu|rfl
   ·exact h.rng u hu
   ·exact hv
  ·have hx:x∈st.2:=by
    have:=jab (d:=0) h.pos
    rw[h.hd] at this;exact this
   have hxr:=h.rng x hx
   simp only
   rw[hg x hxr.1 hxr.2,if_neg (fun e:v=x=>hnm (by rw[e];exact hx))]
   exact h.self
  ·simp only[List.length_append,List.length_cons,List.length_nil] at h1
   simp only
   by_cases hk:k<st.2.length
   ·obtain⟨j,j1,j2,j3,j4⟩:=h.par k h0 hk
    have hkm:=jab (d:=0) hk
    have hkr:=h.rng _ hkm
    refine⟨j,j1,?_⟩
    rw[jay hk,jay (show j<st.2.length by omega) (r:=[v]),hg _ hkr.1 hkr.2,if_neg (fun e:v=st.2.getD k 0=>hnm (by rw[e];exact hkm))]
    exact⟨j2,j3,j4⟩
   ·obtain rfl:k=st.2.length:=by omega
    rw[jde,hg v hv.1 hv.2,if_pos rfl]
    obtain⟨j,hj,he⟩:=List.mem_iff_getElem.1 ha
    refine⟨j,hj,?_⟩
    have e1:st.2.getD j 0=a:=by simp[List.getD,hj,he]
    rw[jay hj,e1]
    exact⟨rfl,hav,hgo⟩
 ·rename_i hc
  refine⟨h,List.prefix_refl _,fun hgo=>?_⟩
  refine(h.mem v hv.1 hv.2).1 (Classical.byContradiction fun hn=>hc ⟨by omega,hgo⟩)
theorem BI.fold {n:Int} {es:List (Int×Int)} {goes:Int→Int→Bool} {x a:Int}:∀{vs:List Int} {st:List Int×List Int},BI n es goes x st→a∈st.2→(∀v∈vs,(0≤v∧v<n)∧Adj es a v)→
 BI n es goes x (vs.foldl (X.look goes a) st)∧st.2 <+: (vs.foldl (X.look goes a) st).2∧∀v∈vs,goes a v=true→v∈(vs.foldl (X.look goes a) st).2
 | [],st,h,_,_=>⟨h,List.prefix_refl _,fun v hv=>by simp at hv⟩
 | v::vs,st,h,ha,hvs=>by
  obtain⟨h1,h2⟩:=hvs v (by simp)
  obtain⟨k1,k2,k3⟩:=h.look ha h1 h2
  obtain⟨i1,i2,i3⟩:=BI.fold (vs:=vs) k1 (k2.subset ha) fun u hu=>hvs u (List.mem_cons_of_mem _ hu)
  refine⟨i1,k2.trans i2,fun u hu hg=>?_⟩
  rcases List.mem_cons.1 hu with rfl|hu
  ·exact i2.subset (k3 hg)
  ·exact i3 u hu hg
theorem jhe {l r:List Int} (h:l <+: r) {i:Nat} (hi:i<l.length):r.getD i 0=l.getD i 0:=by
 obtain⟨t,rfl⟩:=h
 exact jay hi
theorem je0 {n:Int} {es:List (Int×Int)} {goes:Int→Int→Bool} {x:Int} (ho:∀e∈es,okE n e) (hx:0≤x∧x<n):∀i,BI n es goes x (bfsS n es goes x i)∧
 ∀j,j<i→j<(bfsS n es goes x i).2.length→∀v,Adj es ((bfsS n es goes x i).2.getD j 0) v→goes ((bfsS n es goes x i).2.getD j 0) v=true→v∈(bfsS n es goes x i).2
 | 0=>⟨BI.init hx,fun j h=>by omega⟩
 | i+1=>by
  obtain⟨h1,h2⟩:=je0 ho hx i
  rw[bfsS]
  generalize bfsS n es goes x i=st at *
  unfold jtw
  split
  ·rename_i hi
   have hm:=jab (d:=0) hi
   obtain⟨k1,k2,k3⟩:=h1.fold (a:=st.2.getD i 0) (vs:=nbS (st.2.getD i 0) es) hm fun v hv=>by
    have ha:=(ja8 ho).1 hv
    have:=ha.ok ho
    exact⟨⟨by omega,by omega⟩,ha⟩
   refine⟨k1,fun j hj hjl v ha hg=>?_⟩
   by_cases hji:j<i
   ·rw[jhe k2 (by omega)] at ha hg
    exact k2.subset (h2 j hji (by omega) v ha hg)
   ·obtain rfl:j=i:=by omega
    rw[jhe k2 hi] at ha hg
    exact k3 v ((ja8 ho).2 ha) hg
  ·refine⟨h1,fun j hj hjl v ha hg=>h2 j (by omega) hjl v ha hg⟩
theorem BI.le {n:Int} {es:List (Int×Int)} {goes:Int→Int→Bool} {x:Int} {st:List Int×List Int} (h:BI n es goes x st):st.2.length≤n.toNat:=by
 have:=jan (m:=iota n) h.nd fun v hv=>mem_iota.2 (h.rng v hv)
 rwa [jat] at this
theorem jqm {n:Int} {es:List (Int×Int)} {goes:Int→Int→Bool} {x:Int} {i:Nat} (h:(bfsS n es goes x i).2.length≤i):∀k,bfsS n es goes x (i+k)=bfsS n es goes x i
 | 0=>rfl
 | k+1=>by
  have ih:=jqm h k
  show jtw es goes (bfsS n es goes x (i+k)) (i+k)=_
  rw[ih,jtw,if_neg (by omega)]
theorem j09 {n:Int} {es:List (Int×Int)} {goes:Int→Int→Bool} {x:Int} (ho:∀e∈es,okE n e) (hx:0≤x∧x<n) {i:Nat} (h:(bfsS n es goes x i).2.length=i):bfsS n es goes x i=bfs n es goes x:=by
 have hle:=(je0 (goes:=goes) ho hx i).1.le
 rw[h] at hle
 have:=jqm (Nat.le_of_eq h) (n.toNat-i)
 rw[show i+(n.toNat-i)=n.toNat by omega] at this
 exact this.symm
theorem jiy {n:Int} {es:List (Int×Int)} {goes:Int→Int→Bool} {x:Int} (ho:∀e∈es,okE n e) (hx:0≤x∧x<n):BI n es goes x (bfs n es goes x):=(je0 ho hx _).1
theorem jnf {n:Int} {es:List (Int×Int)} {goes:Int→Int→Bool} {x:Int} (ho:∀e∈es,okE n e) (hx:0≤x∧x<n) {u v:Int} (hu:u∈(bfs n es goes x).2) (ha:Adj es u v) (hg:goes u v=true):v∈(bfs n es goes x).2:=by
 obtain⟨h1,h2⟩:=je0 (goes:=goes) ho hx n.toNat
 have hle:=h1.le
 obtain⟨j,hj,he⟩:=List.mem_iff_getElem.1 hu
 have e1:(bfsS n es goes x n.toNat).2.getD j 0=u:=by
  have:j<(bfsS n es goes x n.toNat).2.length:=hj
  simp only[List.getD,List.getElem?_eq_getElem this,Option.getD_some];exact he
 have hj':j<(bfsS n es goes x n.toNat).2.length:=hj
 exact h2 j (by omega) hj' v (by rw[e1];exact ha) (by rw[e1];exact hg)
def upL (fr:List Int) (x:Int):Nat→Int→List Int
 | 0,y=>[y]
 | k+1,y=>if y=x then [y] else y::upL fr x k (fr.getD y.toNat 0)
def wayL (n:Int) (fr:List Int) (x y:Int):List Int:=(upL fr x n.toNat y).reverse
structure Way (es:List (Int×Int)) (goes:Int→Int→Bool) (x y:Int) (p:List Int):Prop where
 pos:0<p.length
 nd:p.Nodup
 hd:p.getD 0 0=x
 la:p.getD (p.length-1) 0=y
 st:∀i,i+1<p.length→Adj es (p.getD i 0) (p.getD (i+1) 0)∧goes (p.getD i 0) (p.getD (i+1) 0)=true
theorem kgg {n:Int} {es:List (Int×Int)} {goes:Int→Int→Bool} {x:Int} {st:List Int×List Int} (h:BI n es goes x st):∀(k:Nat),k<st.2.length→∀f,k≤f→
 Way es goes x (st.2.getD k 0) (upL st.1 x f (st.2.getD k 0)).reverse∧∀v∈upL st.1 x f (st.2.getD k 0),∃t,t≤k∧st.2.getD t 0=v:=by
 have hinj:∀s t,s<st.2.length→t<st.2.length→st.2.getD s 0=st.2.getD t 0→s=t:=fun s t hs ht hq=>by
  simp only[List.getD,List.getElem?_eq_getElem hs,List.getElem?_eq_getElem ht,Option.getD_some] at hq
  exact(List.getElem_inj h.nd).1 hq
 intro k
 induction k using Nat.strongRecOn with
 | _ k ih=>
  intro hk f hf
  by_cases hk0:k=0
  ·subst hk0
   rw[h.hd]
   have e:upL st.1 x f x=[x]:=by cases f<;>simp[upL]
   rw[e]
   exact⟨⟨by simp,by simp,rfl,rfl,fun i hi=>by simp at hi⟩,fun v hv=>⟨0,Nat.le_refl _,by rw[h.hd];exact(List.mem_singleton.1 hv).symm⟩⟩
  ·obtain⟨j,j1,j2,j3,j4⟩:=h.par k (by omega) hk
   have hne:st.2.getD k 0≠x:=fun e=>by
    rw[←h.hd] at e
    have:=hinj k 0 hk h.pos e
    omega
   match f,hf with
   | 0,hf=>omega
   | f+1,hf=>
    rw[upL,if_neg hne,j2]
    obtain⟨w,w2⟩:=ih j j1 (by omega) f (by omega)
    rw[List.reverse_cons]
    have hnm:st.2.getD k 0∉upL st.1 x f (st.2.getD j 0):=fun hm=>by
     obtain⟨t,t1,t2⟩:=w2 _ hm
     have:=hinj t k (by omega) hk t2
     omega
    generalize hp:(upL st.1 x f (st.2.getD j 0)).reverse=p at w ⊢
    have hpm:∀v,v∈p↔v∈upL st.1 x f (st.2.getD j 0):=fun v=>by rw[←hp];simp
    refine⟨⟨by simp,?_,?_,?_,fun i hi=>?_⟩,fun v hv=>?_⟩
    ·rw[List.nodup_append]
     exact⟨w.nd,by simp,fun a ha b hb=>by simp only[List.mem_singleton] at hb;subst hb;exact fun e=>hnm ((hpm _).1 (e▸ha))⟩
    ·rw[jay w.pos];exact w.hd
    ·simp only[List.length_append,List.length_cons,List.length_nil,Nat.add_sub_cancel]
     exact jde
    ·simp only[List.length_append,List.length_cons,List.length_nil] at hi
     by_cases hi':i+1<p.length
     ·rw[jay hi',jay (by omega)];exact w.st i hi'
     ·have e1:i=p.length-1:=by omega
      have hpp:=w.pos
      rw[jay (by omega),show i+1=p.length by omega,jde,e1,w.la]
      exact⟨j3,j4⟩
    ·rcases List.mem_cons.1 hv with rfl|hv
     ·exact⟨k,Nat.le_refl _,rfl⟩
     ·obtain⟨t,t1,t2⟩:=w2 v hv
      exact⟨t,by omega,t2⟩
theorem jiz {n:Int} {es:List (Int×Int)} {goes:Int→Int→Bool} {x y:Int} (ho:∀e∈es,okE n e) (hx:0≤x∧x<n) (hy:y∈(bfs n es goes x).2):Way es goes x y (wayL n (bfs n es goes x).1 x y):=by
 have h:=jiy (goes:=goes) ho hx
 have hle:=h.le
 obtain⟨k,hk,he⟩:=List.mem_iff_getElem.1 hy
 have e1:(bfs n es goes x).2.getD k 0=y:=by simp only[List.getD,List.getElem?_eq_getElem hk,Option.getD_some];exact he
 have:=(kgg h k hk n.toNat (by omega)).1
 rw[e1] at this
 exact this
theorem jio {fr:List Int} {x:Int}:∀(k:Nat) (y:Int),upL fr x k y=y::(upL fr x k y).tail
 | 0,y=>rfl
 | k+1,y=>by rw[upL];split<;>rfl
theorem jyh {fr:List Int} {x:Int}:∀(k:Nat) (y:Int) (i:Nat),i+1<(upL fr x k y).length→(upL fr x k y).getD (i+1) 0=fr.getD ((upL fr x k y).getD i 0).toNat 0
 | 0,y,i,h=>by simp[upL] at h
 | k+1,y,i,h=>by
  rw[upL] at h ⊢
  split
  ·rw[if_pos ‹_›] at h;simp at h
  ·rw[if_neg ‹_›] at h
   cases i with
   | zero=>
    rw[List.getD_cons_succ,List.getD_cons_zero,jio];rfl
   | succ i=>
    rw[List.getD_cons_succ,List.getD_cons_succ]
    exact jyh k _ i (by simpa using h)
theorem jjw {l:List Int} {i:Nat} (h:i<l.length):l.reverse.getD i 0=l.getD (l.length-1-i) 0:=by
 simp only[List.getD_eq_getElem?_getD]
 rw[List.getElem?_reverse h]
theorem jyl {n:Int} {fr:List Int} {x y:Int} {t:Nat} (h0:0<t) (h1:t<(wayL n fr x y).length):fr.getD ((wayL n fr x y).getD t 0).toNat 0=(wayL n fr x y).getD (t-1) 0:=by
 unfold wayL at h1 ⊢
 rw[List.length_reverse] at h1
 rw[jjw (by omega),jjw (by omega)]
 have:=jyh (fr:=fr) (x:=x) n.toNat y ((upL fr x n.toNat y).length-1-t) (by omega)
 rw[←this]
 congr 1
 omega
section
def Near (es:List (Int×Int)) (e f:Int×Int):Prop:=∃v x y,((e.1=v∧e.2=x)∨(e.2=v∧e.1=x))∧((f.1=v∧f.2=y)∨(f.2=v∧f.1=y))∧x≠y∧Conn (alone v es) x y
noncomputable instance decNear (es:List (Int×Int)) (e f:Int×Int):Decidable (Near es e f):=Classical.propDecidable _
theorem Near.symm {es:List (Int×Int)} {e f:Int×Int}:Near es e f→Near es f e:=fun⟨v,x,y,h1,h2,h3,h4⟩=>⟨v,y,x,h2,h1,fun h=>h3 h.symm,h4.symm⟩
abbrev eAt (es:List (Int×Int)) (i:Int):Int×Int:=es.getD i.toNat (0,0)
noncomputable def relL (es:List (Int×Int)):List (Int×Int):=((iota es.length).flatMap fun i=>(iota i).map fun k=>(k,i)).filter fun q=>decide (Near es (eAt es q.1) (eAt es q.2))
theorem je6 {es:List (Int×Int)} {k i:Int}:(k,i)∈relL es↔0≤k∧k<i∧i<es.length∧Near es (eAt es k) (eAt es i):=by
 simp only[relL,List.mem_filter,List.mem_flatMap,List.mem_map,decide_eq_true_eq,Prod.mk.injEq,mem_iota]
 constructor
 ·rintro⟨⟨i',h1,k',h2,rfl,rfl⟩,h3⟩;exact⟨by omega,by omega,by omega,h3⟩
 ·rintro⟨h1,h2,h3,h4⟩;exact⟨⟨i,by omega,k,by omega,rfl,rfl⟩,h4⟩
theorem job {es:List (Int×Int)}:∀q∈relL es,okE es.length q:=fun q hq=>by
 have:=je6.1 (show(q.1,q.2)∈relL es from hq)
 exact⟨this.1,this.2.1,this.2.2.1⟩
noncomputable def blkL (es:List (Int×Int)):List Int:=lab es.length (relL es)
theorem jkt (es:List (Int×Int)):(blkL es).length=es.length:=by rw[blkL,jap];omega
def Blk (es:List (Int×Int)) (e f:Int×Int):Prop:=∃i k:Int,(0≤i∧i<es.length)∧(0≤k∧k<es.length)∧eAt es i=e∧eAt es k=f∧Conn (relL es) i k
theorem j3k {es:List (Int×Int)} (hn:es.Nodup) {i k:Int} (hi:0≤i∧i<es.length) (hk:0≤k∧k<es.length) (h:eAt es i=eAt es k):i=k:=by
 have h1:i.toNat<es.length:=by omega
 have h2:k.toNat<es.length:=by omega
 simp only[eAt,List.getD,List.getElem?_eq_getElem h1,List.getElem?_eq_getElem h2,Option.getD_some] at h
 have:=(List.getElem_inj hn).1 h
 omega
theorem j3l {es:List (Int×Int)} {i:Int} (hi:0≤i∧i<es.length):eAt es i∈es:=jab (by omega)
theorem j3m {es:List (Int×Int)} {e:Int×Int} (h:e∈es):∃i:Int,(0≤i∧i<es.length)∧eAt es i=e:=by
 obtain⟨i,hi,he⟩:=List.mem_iff_getElem.1 h
 exact⟨i,by omega,by simp[eAt,hi,he]⟩
section
variable {n:Int} {es:List (Int×Int)}
theorem Blk.refl {e:Int×Int} (h:e∈es):Blk es e e:=by
 obtain⟨i,hi,he⟩:=j3m h
 exact⟨i,i,hi,hi,he,he,.refl i⟩
theorem Blk.symm {e f:Int×Int}:Blk es e f→Blk es f e:=fun⟨i,k,h1,h2,h3,h4,h5⟩=>⟨k,i,h2,h1,h4,h3,h5.symm⟩
theorem Blk.trans (hn:es.Nodup) {e f g:Int×Int}:Blk es e f→Blk es f g→Blk es e g:=fun⟨i,k,h1,h2,h3,h4,h5⟩ ⟨i',k',g1,g2,g3,g4,g5⟩=>by
 have:=j3k hn h2 g1 (h4.trans g3.symm)
 subst this
 exact⟨i,k',h1,g2,h3,g4,h5.trans g5⟩
theorem Blk.near {e f:Int×Int} (he:e∈es) (hf:f∈es) (h:Near es e f):Blk es e f:=by
 obtain⟨i,hi,rfl⟩:=j3m he
 obtain⟨k,hk,rfl⟩:=j3m hf
 refine⟨i,k,hi,hk,rfl,rfl,?_⟩
 by_cases h1:i<k
 ·exact .of (.inl (je6.2 ⟨hi.1,h1,hk.2,h⟩))
 ·by_cases h2:k<i
  ·exact .of (.inr (je6.2 ⟨hk.1,h2,hi.2,h.symm⟩))
  ·have:i=k:=by omega
   subst this;exact .refl i
theorem Blk.mem {e f:Int×Int}:Blk es e f→e∈es∧f∈es:=fun⟨i,k,h1,h2,h3,h4,_⟩=>⟨h3▸j3l h1,h4▸j3l h2⟩
def On (v:Int) (e:Int×Int):Prop:=e.1=v∨e.2=v
instance (v:Int) (e:Int×Int):Decidable (On v e):=by unfold On;infer_instance
theorem On.conn {e:Int×Int} (he:e∈es) {v a b:Int} (ha:On a e) (hb:On b e) (hav:a≠v) (hbv:b≠v):Conn (alone v es) a b:=by
 by_cases hab:a=b
 ·subst hab;exact .refl a
 ·have hm:∀x y,e.1=x→e.2=y→x≠v→y≠v→e∈alone v es:=fun x y h1 h2 h3 h4=>by
   unfold alone
   rw[List.mem_filter]
   refine⟨he,decide_eq_true ⟨?_,?_⟩⟩<;>simp_all
  rcases ha with ha|ha<;>rcases hb with hb|hb
  ·exact absurd (ha.symm.trans hb) hab
  ·exact .of (.inl (by rw[←ha,←hb];exact hm a b ha hb hav hbv))
  ·exact .of (.inr (by rw[←ha,←hb];exact hm b a hb ha hbv hav))
  ·exact absurd (ha.symm.trans hb) hab
theorem On.other (ho:∀e∈es,okE n e) {e:Int×Int} (he:e∈es) (v:Int):∃a,On a e∧a≠v:=by
 have:=ho e he
 unfold okE at this
 by_cases h:e.1=v
 ·exact⟨e.2,.inr rfl,by omega⟩
 ·exact⟨e.1,.inl rfl,h⟩
theorem On.ends {e:Int×Int} {v:Int} (h:On v e):∃x,(e.1=v∧e.2=x)∨(e.2=v∧e.1=x):=h.elim (fun h=>⟨e.2,.inl ⟨h,rfl⟩⟩) fun h=>⟨e.1,.inr ⟨h,rfl⟩⟩
theorem On.adj {e:Int×Int} (he:e∈es) {v x:Int} (h:(e.1=v∧e.2=x)∨(e.2=v∧e.1=x)):Adj es v x:=by
 rcases h with⟨rfl,rfl⟩ | ⟨rfl,rfl⟩
 ·exact .inl he
 ·exact .inr he
end
theorem jic {l:List Int} {f:Int→Int} {i:Nat} (h:i<l.length):(l.map f).getD i 0=f (l.getD i 0):=by
 simp[h]
def j85 (out:List Int) (a b:Int):List Int:=out.map fun x=>if x=max (out.getD a.toNat 0) (out.getD b.toNat 0) then min (out.getD a.toNat 0) (out.getD b.toNat 0) else x
theorem j42 {m a b:Int} {fs:List (Int×Int)} (ho:∀q∈fs,okE m q) (hab:okE m (a,b)):j85 (lab m fs) a b=lab m ((a,b)::fs):=by
 have hab':=hab
 unfold okE at hab'
 simp only at hab'
 have hla:(lab m fs).getD a.toNat 0=(least fs a.toNat:Nat):=jee (by omega)
 have hlb:(lab m fs).getD b.toNat 0=(least fs b.toNat:Nat):=jee (by omega)
 have ea:((a.toNat:Nat):Int)=a:=by omega
 have eb:((b.toNat:Nat):Int)=b:=by omega
 obtain⟨-,ca,-⟩:=jaz fs a.toNat
 obtain⟨-,cb,-⟩:=jaz fs b.toNat
 rw[ea] at ca
 rw[eb] at cb
 have hmono:∀{x y:Int},Conn fs x y→Conn ((a,b)::fs) x y:=fun h=>h.mono fun q hq=>List.mem_cons_of_mem _ hq
 have hedge:Conn ((a,b)::fs) a b:=Conn.edge (e:=(a,b)) (by simp)
 have hlen:=jap m fs
 unfold j85
 rw[hla,hlb]
 refine jxo (es:=(a,b)::fs) (fun q hq=>?_) ⟨by simp[jap],fun x hx=>?_⟩ fun e he=>?_
 ·rcases List.mem_cons.1 hq with rfl|hq
  ·exact hab
  ·exact ho q hq
 ·rw[jic (by omega),jee hx]
  obtain⟨lx,cx,-⟩:=jaz fs x
  split
  ·rename_i h
   have hall:Conn ((a,b)::fs) (least fs a.toNat:Nat) (x:Nat)∧Conn ((a,b)::fs) (least fs b.toNat:Nat) (x:Nat):=by
    have h1:Conn ((a,b)::fs) (least fs a.toNat:Nat) (least fs b.toNat:Nat):=(hmono ca).trans (hedge.trans (hmono cb).symm)
    by_cases hle:least fs a.toNat≤least fs b.toNat
    ·have e:least fs x=least fs b.toNat:=by omega
     have h2:=hmono cx
     rw[e] at h2
     exact⟨h1.trans h2,h2⟩
    ·have e:least fs x=least fs a.toNat:=by omega
     have h2:=hmono cx
     rw[e] at h2
     exact⟨h2,h1.symm.trans h2⟩
   by_cases hle:least fs a.toNat≤least fs b.toNat
   ·exact⟨least fs a.toNat,by omega,by omega,hall.1⟩
   ·exact⟨least fs b.toNat,by omega,by omega,hall.2⟩
  ·exact⟨least fs x,rfl,lx,hmono cx⟩
 ·rcases List.mem_cons.1 he with rfl|he
  ·simp only
   rw[jic (by omega),jic (by omega),hla,hlb]
   split<;>split<;>omega
  ·have ho1:=ho e he
   unfold okE at ho1
   have h1:(lab m fs).getD e.1.toNat 0=(lab m fs).getD e.2.toNat 0:=(jfz (n:=m) ⟨by omega,by omega⟩ ⟨by omega,by omega⟩).2 (Conn.edge he)
   rw[jic (by omega),jic (by omega),h1]
def comV (e f:Int×Int):Option (Int×Int×Int):=
 if e.1=f.1 then some (e.1,e.2,f.2) else if e.1=f.2 then some (e.1,e.2,f.1) else if e.2=f.1 then some (e.2,e.1,f.2) else if e.2=f.2 then some (e.2,e.1,f.1) else none
theorem j73 {n:Int} {es:List (Int×Int)} {e f:Int×Int} {v x y:Int} (he:okE n e) (hf:okE n f) (hne:e≠f) (h:comV e f=some (v,x,y)) :
 (0≤v∧v<n)∧(0≤x∧x<n)∧(0≤y∧y<n)∧(Near es e f↔Conn (alone v es) x y):=by
 have hne':¬(e.1=f.1∧e.2=f.2):=fun k=>hne (Prod.ext k.1 k.2)
 unfold okE at he hf
 have key:((e.1=v∧e.2=x)∨(e.2=v∧e.1=x))∧((f.1=v∧f.2=y)∨(f.2=v∧f.1=y))∧x≠y:=by
  unfold comV at h
  split at h
  ·simp only[Option.some.injEq,Prod.mk.injEq] at h;omega
  ·split at h
   ·simp only[Option.some.injEq,Prod.mk.injEq] at h;omega
   ·split at h
    ·simp only[Option.some.injEq,Prod.mk.injEq] at h;omega
    ·split at h
     ·simp only[Option.some.injEq,Prod.mk.injEq] at h;omega
     ·cases h
 obtain⟨k1,k2,k3⟩:=key
 refine⟨by omega,by omega,by omega,fun⟨v',x',y',h1,h2,h3,h4⟩=>?_,fun hc=>⟨v,x,y,k1,k2,k3,hc⟩⟩
 have e1:v'=v∧x'=x∧y'=y:=by omega
 obtain⟨rfl,rfl,rfl⟩:=e1
 exact h4
theorem j72 {es:List (Int×Int)} {e f:Int×Int} (h:comV e f=none):¬Near es e f:=by
 rintro⟨v,x,y,h1,h2,h3,h4⟩
 unfold comV at h
 split at h
 ·cases h
 ·split at h
  ·cases h
  ·split at h
   ·cases h
   ·split at h
    ·cases h
    ·omega
noncomputable def relK (es:List (Int×Int)) (i k:Int):List (Int×Int):=(relL es).filter fun q=>decide (q.2<i∨(q.2=i∧q.1<k))
theorem jdb {es:List (Int×Int)} {i k:Int} {q:Int×Int}:q∈relK es i k↔q∈relL es∧(q.2<i∨(q.2=i∧q.1<k)):=by
 unfold relK
 rw[List.mem_filter,decide_eq_true_eq]
theorem kdv {es:List (Int×Int)} {i k:Int}:∀q∈relK es i k,okE es.length q:=fun q hq=>job q (jdb.1 hq).1
theorem j5w (es:List (Int×Int)):lab es.length (relK es 0 0)=iota es.length:=by
 have h:relK es 0 0=[]:=by
  refine List.eq_nil_iff_forall_not_mem.2 fun q hq=>?_
  have h1:=jdb.1 hq
  have h2:=job q h1.1
  unfold okE at h2
  omega
 rw[h]
 exact(jxo (es:=[]) (by simp) (jki _ _) (by simp)).symm
theorem jsx (es:List (Int×Int)) (i:Int):relK es i i=relK es (i+1) 0:=by
 unfold relK
 refine List.filter_congr fun q hq=>?_
 have h2:=job q hq
 unfold okE at h2
 rw[decide_eq_decide]
 omega
theorem jx3 (es:List (Int×Int)):relK es es.length 0=relL es:=by
 unfold relK
 refine List.filter_eq_self.2 fun q hq=>?_
 have h2:=job q hq
 unfold okE at h2
 rw[decide_eq_true_eq]
 omega
theorem j87 {es:List (Int×Int)} {i k:Int} (h0:0≤k) (h1:k<i) (h2:i<es.length) :
 lab es.length (relK es i (k+1))=if Near es (eAt es i) (eAt es k)∧(lab es.length (relK es i k)).getD i.toNat 0≠(lab es.length (relK es i k)).getD k.toNat 0 then j85 (lab es.length (relK es i k)) k i else lab es.length (relK es i k):=by
 by_cases hN:Near es (eAt es i) (eAt es k)
 ·have hm:(k,i)∈relL es:=je6.2 ⟨h0,h1,h2,hN.symm⟩
  have hc:∀x y:Int,Conn (relK es i (k+1)) x y↔Conn ((k,i)::relK es i k) x y:=fun x y=>by
   constructor
   ·refine fun h=>h.mono fun q hq=>?_
    have hq':=jdb.1 hq
    by_cases he:q=(k,i)
    ·rw[he];simp
    ·refine List.mem_cons_of_mem _ (jdb.2 ⟨hq'.1,?_⟩)
     have:¬(q.1=k∧q.2=i):=fun h=>he (Prod.ext h.1 h.2)
     have:=hq'.2
     omega
   ·refine fun h=>h.mono fun q hq=>?_
    rcases List.mem_cons.1 hq with rfl|hq
    ·exact jdb.2 ⟨hm,.inr ⟨rfl,by show k<k+1;omega⟩⟩
    ·have hq':=jdb.1 hq
     exact jdb.2 ⟨hq'.1,hq'.2.imp id fun h=>⟨h.1,by omega⟩⟩
  rw[jly hc]
  by_cases hl:(lab es.length (relK es i k)).getD i.toNat 0=(lab es.length (relK es i k)).getD k.toNat 0
  ·rw[if_neg (fun h=>h.2 hl)]
   have hck:Conn (relK es i k) k i:=((jfz (n:=es.length) ⟨by omega,by omega⟩ ⟨by omega,by omega⟩).1 hl).symm
   refine jly fun x y=>⟨fun h=>h.via fun e he=>?_,fun h=>h.mono fun q hq=>List.mem_cons_of_mem _ hq⟩
   rcases List.mem_cons.1 he with rfl|he
   ·exact hck
   ·exact Conn.edge he
  ·rw[if_pos ⟨hN,hl⟩]
   exact(j42 kdv ⟨h0,h1,h2⟩).symm
 ·rw[if_neg (fun h=>hN h.1)]
  congr 1
  unfold relK
  refine List.filter_congr fun q hq=>?_
  have hne:¬(q.1=k∧q.2=i):=fun h=>hN (by
   have h3:=je6.1 (show(q.1,q.2)∈relL es from hq)
   rw[h.1,h.2] at h3
   exact h3.2.2.2.symm)
  rw[decide_eq_decide]
  omega
theorem j9j {out:List Int} {f:Int→Int} {j:Int} (h0:0≤j) (h1:j<out.length):((out.take j.toNat).map f++out.drop j.toNat).getD j.toNat 0=out.getD j.toNat 0∧
 ((out.take j.toNat).map f++out.drop j.toNat).set j.toNat (f (out.getD j.toNat 0))=(out.take (j+1).toNat).map f++out.drop (j+1).toNat:=by
 have hj:j.toNat<out.length:=by omega
 have hl:((out.take j.toNat).map f).length=j.toNat:=by simp;omega
 have hd:out.drop j.toNat=out.getD j.toNat 0::out.drop (j.toNat+1):=by
  rw[List.drop_eq_getElem_cons hj]
  simp[hj]
 constructor
 ·rw[hd]
  simp only[List.getD]
  rw[List.getElem?_append_right (by omega),hl]
  simp
 ·rw[jae 0 h0 h1,hd,List.map_append,show(j+1).toNat=j.toNat+1 by omega,List.set_append_right _ _ (by omega),hl]
  simp
end
end Go.Proofs.YtnaaceooknghjaaGreatDoor.X
