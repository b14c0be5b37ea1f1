/- What functions answer, and the plain laws behind it. -/
import Derived.Test.YtnaaceooknghjaaGreatDoorKAH
import Derived.Test.YtnaaceooknghjaaGreatDoorKAG
import Derived.Test.YtnaaceooknghjaaGreatDoorKAD
set_option linter.unusedSimpArgs false
set_option linter.unusedVariables false
set_option maxHeartbeats 8000000
set_option maxRecDepth 100000
namespace Go.Proofs.YtnaaceooknghjaaGreatDoor.X
open Go Go.Proofs Tryz
def jhb (b:List (Int×Int)):List IV:=[.lst (b.map encE)]
abbrev LLE (bs:List (List (Int×Int))):PV:=.i (.lst (bs.map jhb))
theorem khz (ps:List (List (Int×Int))) (i:Nat) (h:i<ps.length):(ps.map jhb)[i]?=some [.lst ((ps.getD i []).map encE)]:=by simp[jhb,h]
theorem kg5 (ps:List (List (Int×Int))) (p:List (Int×Int)):ps.map jhb++[[.lst (p.map encE)]]=(ps++[p]).map jhb:=by simp[jhb]
attribute [go_sem] khz kg5
def blkE (es:List (Int×Int)) (ls:List Int) (k:Int):List (Int×Int):=(es.zip ls).filterMap fun q=>if q.2=k then some q.1 else none
theorem jqo {es:List (Int×Int)} {ls:List Int} {k i:Int} (h0:0≤i) (h1:i<es.length) (hl:ls.length=es.length) :
 blkE (es.take (i+1).toNat) (ls.take (i+1).toNat) k=blkE (es.take i.toNat) (ls.take i.toNat) k++if ls.getD i.toNat 0=k then [es.getD i.toNat (0,0)] else []:=by
 have h2:i<ls.length:=by omega
 unfold blkE
 rw[jae (0,0) h0 h1,jae 0 h0 h2,List.zip_append (by simp;omega),List.filterMap_append]
 congr 1
 simp only[List.zip_cons_cons,List.zip_nil_right,List.filterMap_cons,List.filterMap_nil]
 split
 ·rename_i h;rw[if_neg];intro e;rw[if_pos e] at h;cases h
 ·rename_i h
  split at h
  ·rename_i e;rw[if_pos e];cases h;rfl
  ·cases h
theorem joq {es:List (Int×Int)} {ls:List Int} {k:Int}:(blkE es ls k).length≤es.length:=by
 unfold blkE
 refine Nat.le_trans (List.length_filterMap_le _ _) ?_
 simp;omega
theorem kbr (n k:Int) (es:List (Int×Int)) (ls:List Int) (hl:ls.length=es.length) (he:es.length≤1000):KP 121 [GL n es,LI ls,I k] []=some (.ref 2000 0 0 (blkE es ls k).length,[],[.arr 0 2 ((blkE es ls k).map encE)]):=by
 refine gc func121 ?_
 have Fz:=fz1 results121
 repeat refine go1 ?_
 refine jaa (fun(u:Int×Nat) s=>s.m 10=some (.arr u.2 2 ((blkE (es.take u.1.toNat) (ls.take u.1.toNat) k).map encE))∧s.ρ 7=.ref 10 u.2 0 (blkE (es.take u.1.toNat) (ls.take u.1.toNat) k).length∧s.ρ 1=LI ls∧s.ρ 2=I k∧s.ρ 12=LE es∧s.ρ 13=I es.length∧s.ρ 14=I u.1∧0≤u.1∧u.1≤es.length) (fun u=>(es.length-u.1).toNat) (0,0) ?_ ?_
 ·exact⟨rfl,rfl,rfl,rfl,rfl,rfl,rfl,by simp,by simp only;omega⟩
 rintro⟨i,v⟩ ⟨ρ,m⟩ ⟨m10,h7,h1,h2,h12,h13,h14,g0,g1⟩
 simp only at m10 h7 h1 h2 h12 h13 h14 g0 g1
 by_cases hi:i<es.length
 ·have hsn:=jqo (k:=k) g0 hi hl
  have hbl:=joq (es:=es.take i.toNat) (ls:=ls.take i.toNat) (k:=k)
  rw[List.length_take] at hbl
  by_cases hk:ls.getD i.toNat 0=k
  ·rw[if_pos hk] at hsn
   have Fz:=fz9 results121 m10 h7 h1 h2 h12 h13 h14 hk
   repeat refine go1 ?_
   exact⟨i+1,hsn.symm,by rw[hsn,List.length_append];rfl,rfl,by omega,by omega,by omega⟩
  ·rw[if_neg hk,List.append_nil] at hsn
   have Fz:=fz9 results121 m10 h7 h1 h2 h12 h13 h14 hk
   repeat refine go1 ?_
   exact⟨i+1,hsn.symm,by rw[hsn],rfl,by omega,by omega,by omega⟩
 ·rw[jac (by omega),jac (by omega)] at m10 h7
  have Fz:=fz8 results121 m10 h7 h1 h2 h12 h13 h14
  repeat(first|exact trivial|refine go1 ?_)
noncomputable def jb7 (es:List (Int×Int)) (i:Int):List (List (Int×Int)):=((iota i).filter fun j=>decide ((blkL es).getD j.toNat 0=j)).map fun j=>blkE es (blkL es) j
noncomputable def blocksL (es:List (Int×Int)):List (List (Int×Int)):=jb7 es es.length
theorem jji {es:List (Int×Int)} {i:Int} (h:0≤i):jb7 es (i+1)=jb7 es i++if(blkL es).getD i.toNat 0=i then [blkE es (blkL es) i] else []:=by
 unfold jb7
 rw[jby h,List.filter_append,List.map_append]
 congr 1
 by_cases c:(blkL es).getD i.toNat 0=i
 ·rw[if_pos c,List.filter_cons,if_pos (decide_eq_true c)];rfl
 ·rw[if_neg c,List.filter_cons,if_neg (by simpa using c)];rfl
theorem jg5 {es:List (Int×Int)} {i:Int} (h:0≤i):(jb7 es i).length≤i.toNat:=by
 unfold jb7
 rw[List.length_map]
 refine Nat.le_trans (List.length_filter_le _ _) ?_
 rw[jat];omega
theorem jyu (n:Int) (es:List (Int×Int)) (hl:es.length≤1000):KP 67 [GL n es] []=
 some (if VG n es then(.ref 2000 0 0 (blocksL es).length,[],[.arr 0 1 ((blocksL es).map jhb)]) else(.i .emp,[],[])):=by
 by_cases hV:VG n es
 rotate_left
 ·rw[if_neg hV]
  have h1:=decide_eq_false hV
  refine gc func67 ?_
  have Fz:=fz2 results67 h1
  repeat(first|exact trivial|refine go1 ?_)
 rw[if_pos hV]
 have h1:=decide_eq_true hV
 have hbk:=j7d n es hV.okg hV.nodup
 have hbl:=jkt es
 refine gc func67 ?_
 have Fz:=fz3 results67 h1 hbk
 repeat refine go1 ?_
 refine jaa (fun(u:Int×Nat) s=>s.m 10=some (.arr u.2 1 ((jb7 es u.1).map jhb))∧s.ρ 3=.ref 10 u.2 0 (jb7 es u.1).length∧s.ρ 4=LI (blkL es)∧s.ρ 1=.ptr 1 0 0 0∧s.m 1=some (.box 0 [I n,LE es])∧s.ρ 13=LI (blkL es)∧s.ρ 14=I (blkL es).length∧s.ρ 15=I u.1∧0≤u.1∧u.1≤es.length) (fun u=>(es.length-u.1).toNat) (0,0) ?_ ?_
 ·exact⟨rfl,rfl,rfl,rfl,rfl,rfl,rfl,rfl,by simp,by simp only;omega⟩
 rintro⟨i,v⟩ ⟨ρ,m⟩ ⟨m10,h3,h4,h1',m1,h13,h14,h15,g0,g1⟩
 simp only at m10 h3 h4 h1' m1 h13 h14 h15 g0 g1
 by_cases hi:i<es.length
 ·have hsn:=jji (es:=es) g0
  have hbt:=jg5 (es:=es) g0
  have hcb:=kbr n i es (blkL es) hbl (by omega)
  by_cases hk:(blkL es).getD i.toNat 0=i
  ·rw[if_pos hk] at hsn
   have Fz:=fz11 results67 m10 h3 h4 h1' m1 h13 h14 h15 hk hcb
   repeat refine go1 ?_
   exact⟨i+1,by rw[hsn],by rw[hsn,List.length_append];rfl,rfl,by omega,by omega,by omega⟩
  ·rw[if_neg hk,List.append_nil] at hsn
   have hk':¬i=(blkL es).getD i.toNat 0:=fun e=>hk e.symm
   have Fz:=fz11 results67 m10 h3 h4 h1' m1 h13 h14 h15 hk hk'
   repeat refine go1 ?_
   exact⟨i+1,by rw[hsn],by rw[hsn],rfl,by omega,by omega,by omega⟩
 ·have he:i=es.length:=by omega
  subst he
  have e:jb7 es es.length=blocksL es:=rfl
  rw[e] at m10 h3
  have Fz:=fz9 results67 m10 h3 h4 h1' m1 h13 h14 h15
  repeat(first|exact trivial|refine go1 ?_)
noncomputable def bnL (n:Int) (es:List (Int×Int)) (e:Int×Int):List Int:=kf5 n (blkE es (blkL es) ((blkL es).getD (jco es e).toNat 0))
theorem kbo {n:Int} {es:List (Int×Int)} {ls:List Int} {k:Int} (ho:∀e∈es,okE n e):∀e∈blkE es ls k,okE n e:=fun e he=>by
 unfold blkE at he
 rw[List.mem_filterMap] at he
 obtain⟨q,hq,h⟩:=he
 split at h
 ·cases h;exact ho _ (List.of_mem_zip hq).1
 ·cases h
theorem jy6 (n:Int) (es:List (Int×Int)) (hG:OKG n es) (hnd:es.Nodup):KP 159 [GL n es] []=some (.ref 2000 0 0 (blocksL es).length,[],[.arr 0 1 ((blocksL es).map jhb)]):=by
 have hl:=hG.len
 have hbk:=jy7 n es hG hnd
 have hbl:=jkt es
 refine gc func159 ?_
 have Fz:=fz2 results159 hbk
 repeat refine go1 ?_
 refine jaa (fun(u:Int×Nat) s=>s.m 8=some (.arr u.2 1 ((jb7 es u.1).map jhb))∧s.ρ 3=.ref 8 u.2 0 (jb7 es u.1).length∧s.ρ 4=LI (blkL es)∧s.ρ 1=.ptr 1 0 0 0∧s.m 1=some (.box 0 [I n,LE es])∧s.ρ 5=I u.1∧0≤u.1∧u.1≤es.length) (fun u=>(es.length-u.1).toNat) (0,0) ?_ ?_
 ·exact⟨rfl,rfl,rfl,rfl,rfl,rfl,by simp,by simp only;omega⟩
 rintro⟨i,v⟩ ⟨ρ,m⟩ ⟨m8,h3,h4,h1,m1,h5,g0,g1⟩
 simp only at m8 h3 h4 h1 m1 h5 g0 g1
 by_cases hi:i<es.length
 rotate_left
 ·have he:i=es.length:=by omega
  subst he
  have e:jb7 es es.length=blocksL es:=rfl
  rw[e] at m8 h3
  have Fz:=fz7 results159 m8 h3 h4 h1 m1 h5
  repeat(first|exact trivial|refine go1 ?_)
 have hsn:=jji (es:=es) g0
 have hbt:=jg5 (es:=es) g0
 by_cases hk:(blkL es).getD i.toNat 0=i
 rotate_left
 ·rw[if_neg hk,List.append_nil] at hsn
  have Fz:=fz8 results159 m8 h3 h4 h1 m1 h5 hk
  repeat refine go1 ?_
  exact⟨i+1,by rw[hsn],by rw[hsn],rfl,by omega,by omega,by omega⟩
 rw[if_pos hk] at hsn
 have Fz:=fz8 results159 m8 h3 h4 h1 m1 h5 hk
 repeat refine go1 ?_
 generalize nv (m 23)=V
 refine jaa (fun(u:Int×Nat) s=>s.m 8=some (.arr v 1 ((jb7 es i).map jhb))∧s.ρ 3=.ref 8 v 0 (jb7 es i).length∧s.ρ 4=LI (blkL es)∧s.ρ 1=.ptr 1 0 0 0∧s.m 1=some (.box 0 [I n,LE es])∧s.ρ 5=I i∧
  s.m 23=some (.arr u.2 2 ((blkE (es.take u.1.toNat) ((blkL es).take u.1.toNat) i).map encE))∧s.ρ 6=.ref 23 u.2 0 (blkE (es.take u.1.toNat) ((blkL es).take u.1.toNat) i).length∧s.ρ 7=I u.1∧0≤u.1∧u.1≤es.length) (fun u=>(es.length-u.1).toNat) (0,V) ?_ ?_
 ·exact⟨m8,h3,h4,h1,m1,h5,rfl,rfl,rfl,by simp,by simp only;omega⟩
 rintro⟨j,w⟩ ⟨ρ,m⟩ ⟨m8,h3,h4,h1,m1,h5,m23,h6,h7,f0,f1⟩
 simp only at m8 h3 h4 h1 m1 h5 m23 h6 h7 f0 f1
 by_cases hj:j<es.length
 ·have hs2:=jqo (ls:=blkL es) (k:=i) f0 hj hbl
  have hb2:=joq (es:=es.take j.toNat) (ls:=(blkL es).take j.toNat) (k:=i)
  rw[List.length_take] at hb2
  by_cases hk2:(blkL es).getD j.toNat 0=i
  ·rw[if_pos hk2] at hs2
   have Fz:=fz11 results159 m8 h3 h4 h1 m1 h5 m23 h6 h7 hk2
   repeat refine go1 ?_
   exact⟨j+1,hs2.symm,by rw[hs2,List.length_append];rfl,rfl,by omega,by omega,by omega⟩
  ·rw[if_neg hk2,List.append_nil] at hs2
   have Fz:=fz11 results159 m8 h3 h4 h1 m1 h5 m23 h6 h7 hk2
   repeat refine go1 ?_
   exact⟨j+1,hs2.symm,by rw[hs2],rfl,by omega,by omega,by omega⟩
 ·rw[jac (by omega),jac (by omega)] at m23 h6
  have Fz:=fz10 results159 m8 h3 h4 h1 m1 h5 m23 h6 h7
  repeat refine go1 ?_
  exact⟨i+1,by rw[hsn],by rw[hsn,List.length_append];rfl,rfl,by omega,by omega,by omega⟩
theorem jub (n:Int) (es:List (Int×Int)) (hl:es.length≤1000):KP 90 [GL n es] []=some (if VG n es then(LLE (blocksL es),[],[]) else(.ref 2000 0 0 0,[],[.arr 0 1 []])):=by
 by_cases hV:VG n es
 ·rw[if_pos hV]
  have h1:=decide_eq_true hV
  have hc:=jy6 n es hV.okg hV.nodup
  refine gc func90 ?_
  have Fz:=fz3 results90 h1 hc
  repeat(first|exact trivial|refine go1 ?_)
 ·rw[if_neg hV]
  have h1:=decide_eq_false hV
  refine gc func90 ?_
  have Fz:=fz2 results90 h1
  repeat(first|exact trivial|refine go1 ?_)
theorem j0d {es:List (Int×Int)} {b:List (Int×Int)}:b∈blocksL es↔∃k:Int,(0≤k∧k<es.length)∧(blkL es).getD k.toNat 0=k∧b=blkE es (blkL es) k:=by
 unfold blocksL jb7
 rw[List.mem_map]
 simp only[List.mem_filter,mem_iota,decide_eq_true_eq]
 exact⟨fun⟨k,⟨h1,h2⟩,h3⟩=>⟨k,h1,h2,h3.symm⟩,fun⟨k,h1,h2,h3⟩=>⟨k,⟨h1,h2⟩,h3.symm⟩⟩
theorem jys {es:List (Int×Int)}:(blocksL es).length≤es.length:=by
 have:=jg5 (es:=es) (i:=es.length) (by omega)
 unfold blocksL;omega
theorem j1k {n:Int} {es:List (Int×Int)} (ho:∀e∈es,okE n e) {b:List (Int×Int)} (hb:b∈blocksL es):(∀e∈b,okE n e)∧b.length≤es.length:=by
 obtain⟨k,h1,h2,rfl⟩:=j0d.1 hb
 exact⟨kbo ho,joq⟩
abbrev boxS (n:Int):Arr:=.box 0 [.ref 1001 0 0 n.toNat,.ref 1002 0 0 n.toNat,.ref 1003 0 0 n.toNat]
abbrev arrS (l:List Int):Arr:=.arr 0 1 (l.map encI)
theorem jny {rec:Int→Int→Sr×Int→Sr×Int} {v p:Int} {vs:List Int} {st:Sr×Int} {j:Int} (h0:0≤j) (h1:j<vs.length):(vs.take (j+1).toNat).foldl (jbr rec v p) st=jbr rec v p ((vs.take j.toNat).foldl (jbr rec v p) st) (vs.getD j.toNat 0):=by
 rw[jae 0 h0 h1,List.foldl_append];rfl
theorem kfa (n:Int) (es:List (Int×Int)) (hV:VG n es):∀(f:Nat) (v p:Int) (st:Sr×Int),OkS n es st→inR n v→gI st.1.num v=0→(p=-1∨(inR n p∧gI st.1.num p≠0))→jba st.1.num≤f→st.2+jba st.1.num=n→
 KP 188 [.ptr 1000 0 0 0,GL n es,I v,I p,I st.2] [boxS n,arrS st.1.num,arrS st.1.par,arrS st.1.low]=
  some (I (ja1 es f v p st).2,[boxS n,arrS (ja1 es f v p st).1.num,arrS (ja1 es f v p st).1.par,arrS (ja1 es f v p st).1.low],[]):=by
 have ho:=hV.okg.ok
 have hn16:=hV.2.1
 have hnd:=hV.nodup
 have hle:=hV.okg.len
 intro f
 induction f with
 | zero=>
  intro v p st hs hv hv0 hp hz hc
  have:=jb5 (l:=st.1.num) (i:=v.toNat) (v:=1) (by rw[hs.ln];obtain⟨h0,h1⟩:=hv;omega) hv0 (by omega)
  omega
 | succ f ih=>
  intro v p st hs hv hv0 hp hz hc
  have hzs:=jb5 (l:=st.1.num) (i:=v.toNat) (v:=st.2+1) (by rw[hs.ln];obtain⟨h0,h1⟩:=hv;omega) hv0 (by have:=hs.c0;omega)
  have hln:=hs.ln
  have hlp:=hs.lp
  have hll:=hs.ll
  have hc0:=hs.c0
  have hE:=jeq ho hs hv hv0 hp
  have hpost:=jc5 ho hnd f
  have hnbn:(nbS v es).Nodup:=(List.mergeSort_perm _ _).nodup_iff.2 (jf1 ho hnd v)
  have hnb:=jb8 n v es (by omega)
  have hnbl:(nbS v es).length≤40:=by have:=jak v es;omega
  have hvr:0≤v∧v<n:=hv
  have hfin:ja1 es (f+1) v p st=(nbS v es).foldl (jbr (ja1 es f) v p) (enterS st v p):=rfl
  refine gc func188 ?_
  have Fz:=fz2 results188 hnb
  repeat refine go1 ?_
  refine jaa (fun(u:Int×(Sr×Int)) s=>s.m 1000=some (boxS n)∧s.m 1001=some (arrS u.2.1.num)∧s.m 1002=some (arrS u.2.1.par)∧s.m 1003=some (arrS u.2.1.low)∧s.ρ 0=.ptr 1000 0 0 0∧s.ρ 6=.ptr 6 0 0 0∧s.m 6=some (.box 0 [I n,LE es])∧s.ρ 2=I v∧s.ρ 3=I p∧s.ρ 4=I u.2.2∧s.ρ 38=LI (nbS v es)∧s.ρ 39=I ((nbS v es).length:Int)∧s.ρ 40=I u.1∧
   0≤u.1∧u.1≤(nbS v es).length∧u.2=((nbS v es).take u.1.toNat).foldl (jbr (ja1 es f) v p) (enterS st v p)∧LoopS n es v p st u.2 ((nbS v es).take u.1.toNat)∧u.2.2+jba u.2.1.num=n) (fun u=>((nbS v es).length-u.1).toNat) (0,enterS st v p) ?_ ?_
  ·refine⟨by simp[upd,jdk,enterS],by simp[upd,jdk,enterS],by simp[upd,jdk,enterS],by simp[upd,jdk,enterS],by simp[upd,jdk],by simp[upd],by simp[upd],by simp[upd,jdk],by simp[upd,jdk],by simp[upd,enterS],by simp[upd],by simp[upd],by simp[upd],by simp,by simp,by simp,hE,?_⟩
   simp only[enterS]
   omega
  rintro⟨j,s⟩ ⟨ρ,m⟩ ⟨m0,m1,m2,m3,h0,h6,m6,h2,h3,h4,h38,h39,h40,g0,g1,g2,gL,gc⟩
  simp only at m0 m1 m2 m3 h0 h6 m6 h2 h3 h4 h38 h39 h40 g0 g1 g2 gL gc
  have sln:=gL.ok.ln
  have slp:=gL.ok.lp
  have sll:=gL.ok.ll
  have sc0:=gL.ok.c0
  by_cases hj:j<(nbS v es).length
  rotate_left
  ·rw[jac (by omega),←hfin] at g2
   rw[←g2]
   have Fz:=fz14 results188 m0 m1 m2 m3 h0 h6 m6 h2 h3 h4 h38 h39 h40
   repeat(first|exact trivial|refine go1 ?_)
  have hum:=jab (d:=0) (show j.toNat<(nbS v es).length by omega)
  have hfs:=jny (rec:=ja1 es f) (v:=v) (p:=p) (st:=enterS st v p) g0 hj
  rw[←g2] at hfs
  have hsp:nbS v es=(nbS v es).take j.toNat++(nbS v es).getD j.toNat 0::(nbS v es).drop (j.toNat+1):=by
   have hjl:j.toNat<(nbS v es).length:=by omega
   have:(nbS v es).getD j.toNat 0=(nbS v es)[j.toNat]:=by simp[hjl]
   rw[this,←List.drop_eq_getElem_cons hjl,List.take_append_drop]
  have hstep:=jil ho hpost hnbn hsp hs.c0 hv hv0 hp hz gL
  have htk:=jae 0 g0 hj
  have hur:=jfk ho hum
  generalize hue:(nbS v es).getD j.toNat 0=u at hum hfs hsp hstep htk hur
  rw[←htk] at hstep
  have hu:=hur.1
  have hur':0≤u∧u<n:=hur.1
  by_cases h1:gI s.1.num u=0
  ·have hvn:gI s.1.num v≠0:=by rw[gL.vn];omega
   have hzf:jba s.1.num≤f:=by have:=gL.zz;omega
   have hrec:=ih u v s gL.ok hu h1 (.inr ⟨hv,hvn⟩) hzf gc
   have hP:=hpost u v s gL.ok hu h1 (.inr ⟨hv,hvn⟩) hzf
   have hC:=(jip ho f u v s sln sc0 hu h1 hzf).2.2
   have hvs:jbr (ja1 es f) v p s u=jbd (ja1 es f u v s) v (gI (ja1 es f u v s).1.low u):=by unfold jbr;rw[if_pos h1]
   rw[hvs] at hfs hstep
   have rln:=hP.ok.ln
   have rlp:=hP.ok.lp
   have rll:=hP.ok.ll
   generalize ja1 es f u v s=r at *
   unfold gI at h1
   have Fz:=fz17 results188 m0 m1 m2 m3 h0 h6 m6 h2 h3 h4 h38 h39 h40 hue hrec h1
   repeat refine go1 ?_
   exact⟨j+1,⟨r.1.num,r.1.par,r.1.low.set v.toNat (min (r.1.low.getD v.toNat 0) (r.1.low.getD u.toNat 0))⟩,rfl,rfl,rfl,rfl,by omega,by omega,hfs.symm,hstep,by show r.2+(jba r.1.num:Int)=n;omega,by omega⟩
  ·have hvs:jbr (ja1 es f) v p s u=if u=p then s else jbd s v (gI s.1.num u):=by unfold jbr;rw[if_neg h1]
   unfold gI at h1
   by_cases hup:u=p
   ·rw[if_pos hup] at hvs
    rw[hvs] at hfs hstep
    have Fz:=fz15 results188 m0 m1 m2 m3 h0 h6 m6 h2 h3 h4 h38 h39 h40 hue
    repeat refine go1 ?_
    exact⟨j+1,s.1,rfl,rfl,rfl,rfl,by omega,by omega,hfs.symm,hstep,gc,by omega⟩
   ·rw[if_neg hup] at hvs
    rw[hvs] at hfs hstep
    have Fz:=fz15 results188 m0 m1 m2 m3 h0 h6 m6 h2 h3 h4 h38 h39 h40 hue
    repeat refine go1 ?_
    exact⟨j+1,⟨s.1.num,s.1.par,s.1.low.set v.toNat (min (s.1.low.getD v.toNat 0) (s.1.num.getD u.toNat 0))⟩,rfl,rfl,rfl,rfl,by omega,by omega,hfs.symm,hstep,gc,by omega⟩
theorem j7v (n:Int) (es:List (Int×Int)) (hV:VG n es):KP 122 [GL n es] []=some (.agg [.ref 2000 0 0 (seek n es).num.length,.ref 2001 0 0 (seek n es).par.length,.ref 2002 0 0 (seek n es).low.length],[],[arrS (seek n es).num,arrS (seek n es).par,arrS (seek n es).low]):=by
 have ho:=hV.okg.ok
 have hn16:=hV.2.1
 have hn1:=hV.1
 have hnd:=hV.nodup
 refine gc func122 ?_
 have Fz:=fz1 results122
 repeat refine go1 ?_
 refine jaa (fun(k:Nat) s=>s.m 3=some (.box 0 [.ref 8 0 0 n.toNat,.ref 11 0 0 n.toNat,.ref 14 0 0 n.toNat])∧s.ρ 3=.ptr 3 0 0 0∧s.m 8=some (arrS (seekS n es k).1.num)∧s.m 11=some (arrS (seekS n es k).1.par)∧s.m 14=some (arrS (seekS n es k).1.low)∧s.ρ 4=I (seekS n es k).2∧s.ρ 17=I n∧s.ρ 18=I (k:Int)∧s.ρ 1=.ptr 1 0 0 0∧s.m 1=some (.box 0 [I n,LE es])∧s.ρ 2=.ptr 2 0 0 0∧s.m 2=some (.box 0 [.i .emp,.i .emp,.i .emp])∧(k:Int)≤n) (fun k=>n.toNat-k) 0 ?_ ?_
 ·refine⟨?_,?_,?_,?_,?_,?_,?_,?_,?_,?_,?_,?_,?_⟩
  all_goals first|rfl|omega | (simp[upd,seekS,zI];done) | (simp only;omega)|trace_state
 rintro k ⟨ρ,m⟩ ⟨m3,h3,m8,m11,m14,h4,h17,h18,h1,m1,h2,m2,g0⟩
 simp only at m3 h3 m8 m11 m14 h4 h17 h18 h1 m1 h2 m2 g0
 obtain⟨hs,-,-⟩:=jea ho hnd k g0
 have hln:=hs.ln
 have hlp:=hs.lp
 have hll:=hs.ll
 have hcn:=jkn ho hnd (by omega) k g0
 by_cases hk:(k:Int)<n
 rotate_left
 ·have hkn:k=n.toNat:=by omega
  have hse:seek n es=(seekS n es k).1:=by rw[seek,hkn]
  rw[hse,hln,hlp,hll]
  have Fz:=fz13 results122 m3 h3 m8 m11 m14 h4 h17 h18 h1 m1 h2 m2
  repeat(first|exact trivial|refine go1 ?_)
 have hnext:seekS n es (k+1)=if gI (seekS n es k).1.num (k:Int)=0 then ja1 es n.toNat (k:Int) (-1) (seekS n es k) else seekS n es k:=rfl
 have e0:((k:Int)).toNat=k:=by omega
 by_cases h0:gI (seekS n es k).1.num (k:Int)=0
 ·rw[if_pos h0] at hnext
  have hz:jba (seekS n es k).1.num≤n.toNat:=by have:=jis (seekS n es k).1.num;omega
  have hf:=kfa n es hV n.toNat (k:Int) (-1) (seekS n es k) hs ⟨by omega,hk⟩ h0 (.inl rfl) hz hcn
  rw[←hnext] at hf
  unfold gI at h0
  rw[e0] at h0
  have Fz:=fz15 results122 m3 h3 m8 m11 m14 h4 h17 h18 h1 m1 h2 m2 h0 hf
  repeat refine go1 ?_
  exact⟨k+1,rfl,rfl,rfl,rfl,by omega,by omega,by omega⟩
 ·rw[if_neg h0] at hnext
  unfold gI at h0
  rw[e0] at h0
  have Fz:=fz14 results122 m3 h3 m8 m11 m14 h4 h17 h18 h1 m1 h2 m2 h0
  repeat refine go1 ?_
  exact⟨k+1,by rw[hnext],by rw[hnext],by rw[hnext],by rw[hnext],by omega,by omega,by omega⟩
def jdx:Code→Option Code
 | .seq a b=>match jdx a with
  | some x=>some x
  | none=>jdx b
 | .block _ b=>jdx b
 | .loop b=>some b
 | .cond _ a b=>match jdx a with
  | some x=>some x
  | none=>jdx b
 | _=>none
def L4F (n:Int) (es:List (Int×Int)) (v p j:Int) (u:Sr×Int) (s:St):Prop:=
 s.m 1000=some (arrS u.1.num)∧s.m 1001=some (arrS u.1.par)∧s.m 1002=some (arrS u.1.low)∧s.ρ 8=.ptr 8 0 0 0∧s.m 8=some (.box 0 [.ref 1000 0 0 n.toNat,.ref 1001 0 0 n.toNat,.ref 1002 0 0 n.toNat])∧s.ρ 5=.ptr 5 0 0 0∧s.m 5=some (.box 0 [I n,LE es])∧s.ρ 10=.ptr 10 0 0 0∧s.m 10=some (.box 0 [.i .emp,.i .emp,.i .emp])∧s.ρ 1=I v∧s.ρ 2=I p∧s.ρ 4=I u.2∧s.ρ 12=LI (nbS v es)∧s.ρ 13=I j
theorem j5y {l:List Int} {v x:Int} (hv:v.toNat<l.length) (hx:¬x<l.getD v.toNat 0):l.set v.toNat (min (l.getD v.toNat 0) x)=l:=by
 rw[Int.min_eq_left (by omega)]
 refine List.ext_getElem (by simp) fun i h1 h2=>?_
 rw[List.getElem_set]
 split
 ·rename_i e;subst e;simp[h2]
 ·rfl
theorem kc4 (n:Int) (es:List (Int×Int)) (v p j u:Int) (s:Sr×Int) (hn:0≤n∧n≤17) (hj:0≤j∧j<(nbS v es).length) (hjl:(nbS v es).length≤40) (sln:s.1.num.length=n.toNat) (slp:s.1.par.length=n.toNat) (sll:s.1.low.length=n.toNat) (hvr:0≤v∧v<n) (hur:0≤u∧u<n) (hue:(nbS v es).getD j.toNat 0=u) (hup:u=p) (h1:s.1.num.getD u.toNat 0≠0) (st:St) (hst:L4F n es v p j s st) (b:Code) (hb:(Tryz.f240.body).bind jdx=some b) :
 XW prog cfg 240 b st (LQ (fun(_:Unit) t=>L4F n es v p (j+1) s t) (fun _=>0) 1 (fun _ _=>False)):=by
 obtain⟨ρ,m⟩:=st
 obtain⟨m1,m2,m3,h8,m8,h5,m5,h10,m10,h1',h2,h4,h12,h13⟩:=hst
 simp only at m1 m2 m3 h8 m8 h5 m5 h10 m10 h1' h2 h4 h12 h13
 simp only[Tryz.f240,Option.bind_some,jdx,Option.some.injEq] at hb
 subst hb
 have Fz:=fz17 results240 m1 m2 m3 h8 m8 h5 m5 h10 m10 h1' h2 h4 h12 h13 hue @L4F.eq_1
 repeat refine go1 ?_
 exact⟨(),trivial⟩
theorem kc0 (n:Int) (es:List (Int×Int)) (v p j u:Int) (s:Sr×Int) (hn:0≤n∧n≤17) (hj:0≤j∧j<(nbS v es).length) (hjl:(nbS v es).length≤40) (sln:s.1.num.length=n.toNat) (slp:s.1.par.length=n.toNat) (sll:s.1.low.length=n.toNat) (hvr:0≤v∧v<n) (hur:0≤u∧u<n) (hue:(nbS v es).getD j.toNat 0=u) (hup:u≠p) (h1:s.1.num.getD u.toNat 0≠0) (hlt:s.1.num.getD u.toNat 0<s.1.low.getD v.toNat 0) (st:St) (hst:L4F n es v p j s st) (b:Code) (hb:(Tryz.f240.body).bind jdx=some b) :
 XW prog cfg 240 b st (LQ (fun(_:Unit) t=>L4F n es v p (j+1) (⟨s.1.num,s.1.par,s.1.low.set v.toNat (s.1.num.getD u.toNat 0)⟩,s.2) t) (fun _=>0) 1 (fun _ _=>False)):=by
 obtain⟨ρ,m⟩:=st
 obtain⟨m1,m2,m3,h8,m8,h5,m5,h10,m10,h1',h2,h4,h12,h13⟩:=hst
 simp only at m1 m2 m3 h8 m8 h5 m5 h10 m10 h1' h2 h4 h12 h13
 simp only[Tryz.f240,Option.bind_some,jdx,Option.some.injEq] at hb
 subst hb
 have Fz:=fz18 results240 m1 m2 m3 h8 m8 h5 m5 h10 m10 h1' h2 h4 h12 h13 hue @L4F.eq_1 h1
 repeat refine go1 ?_
 exact⟨(),trivial⟩
theorem kc1 (n:Int) (es:List (Int×Int)) (v p j u:Int) (s:Sr×Int) (hn:0≤n∧n≤17) (hj:0≤j∧j<(nbS v es).length) (hjl:(nbS v es).length≤40) (sln:s.1.num.length=n.toNat) (slp:s.1.par.length=n.toNat) (sll:s.1.low.length=n.toNat) (hvr:0≤v∧v<n) (hur:0≤u∧u<n) (hue:(nbS v es).getD j.toNat 0=u) (hup:u≠p) (h1:s.1.num.getD u.toNat 0≠0) (hlt:¬s.1.num.getD u.toNat 0<s.1.low.getD v.toNat 0) (st:St) (hst:L4F n es v p j s st) (b:Code) (hb:(Tryz.f240.body).bind jdx=some b) :
 XW prog cfg 240 b st (LQ (fun(_:Unit) t=>L4F n es v p (j+1) s t) (fun _=>0) 1 (fun _ _=>False)):=by
 obtain⟨ρ,m⟩:=st
 obtain⟨m1,m2,m3,h8,m8,h5,m5,h10,m10,h1',h2,h4,h12,h13⟩:=hst
 simp only at m1 m2 m3 h8 m8 h5 m5 h10 m10 h1' h2 h4 h12 h13
 simp only[Tryz.f240,Option.bind_some,jdx,Option.some.injEq] at hb
 subst hb
 have Fz:=fz18 results240 m1 m2 m3 h8 m8 h5 m5 h10 m10 h1' h2 h4 h12 h13 hue @L4F.eq_1 h1
 repeat refine go1 ?_
 exact⟨(),trivial⟩
theorem kc2 (n:Int) (es:List (Int×Int)) (v p j u:Int) (s:Sr×Int) (hn:0≤n∧n≤17) (hj:0≤j∧j<(nbS v es).length) (hjl:(nbS v es).length≤40) (sln:s.1.num.length=n.toNat) (slp:s.1.par.length=n.toNat) (sll:s.1.low.length=n.toNat) (hvr:0≤v∧v<n) (hur:0≤u∧u<n) (hue:(nbS v es).getD j.toNat 0=u) (hup:u≠p) (h1:s.1.num.getD u.toNat 0=0) (r:Sr×Int) (rln:r.1.num.length=n.toNat) (rlp:r.1.par.length=n.toNat) (rll:r.1.low.length=n.toNat) (hrec:KP 240 [GL n es,I u,I v,.agg [.ref 1000 0 0 n.toNat,.ref 1001 0 0 n.toNat,.ref 1002 0 0 n.toNat],I s.2] [arrS s.1.num,arrS s.1.par,arrS s.1.low]=
 some (.tup [.agg [.ref 1000 0 0 n.toNat,.ref 1001 0 0 n.toNat,.ref 1002 0 0 n.toNat],I r.2],[arrS r.1.num,arrS r.1.par,arrS r.1.low],[])) (hlt:r.1.low.getD u.toNat 0<r.1.low.getD v.toNat 0) (st:St) (hst:L4F n es v p j s st) (b:Code) (hb:(Tryz.f240.body).bind jdx=some b) :
 XW prog cfg 240 b st (LQ (fun(_:Unit) t=>L4F n es v p (j+1) (⟨r.1.num,r.1.par,r.1.low.set v.toNat (r.1.low.getD u.toNat 0)⟩,r.2) t) (fun _=>0) 1 (fun _ _=>False)):=by
 obtain⟨ρ,m⟩:=st
 obtain⟨m1,m2,m3,h8,m8,h5,m5,h10,m10,h1',h2,h4,h12,h13⟩:=hst
 simp only at m1 m2 m3 h8 m8 h5 m5 h10 m10 h1' h2 h4 h12 h13
 simp only[Tryz.f240,Option.bind_some,jdx,Option.some.injEq] at hb
 subst hb
 have Fz:=fz19 results240 m1 m2 m3 h8 m8 h5 m5 h10 m10 h1' h2 h4 h12 h13 hue @L4F.eq_1 hrec h1
 repeat refine go1 ?_
 exact⟨(),trivial⟩
theorem kc3 (n:Int) (es:List (Int×Int)) (v p j u:Int) (s:Sr×Int) (hn:0≤n∧n≤17) (hj:0≤j∧j<(nbS v es).length) (hjl:(nbS v es).length≤40) (sln:s.1.num.length=n.toNat) (slp:s.1.par.length=n.toNat) (sll:s.1.low.length=n.toNat) (hvr:0≤v∧v<n) (hur:0≤u∧u<n) (hue:(nbS v es).getD j.toNat 0=u) (hup:u≠p) (h1:s.1.num.getD u.toNat 0=0) (r:Sr×Int) (rln:r.1.num.length=n.toNat) (rlp:r.1.par.length=n.toNat) (rll:r.1.low.length=n.toNat) (hrec:KP 240 [GL n es,I u,I v,.agg [.ref 1000 0 0 n.toNat,.ref 1001 0 0 n.toNat,.ref 1002 0 0 n.toNat],I s.2] [arrS s.1.num,arrS s.1.par,arrS s.1.low]=
 some (.tup [.agg [.ref 1000 0 0 n.toNat,.ref 1001 0 0 n.toNat,.ref 1002 0 0 n.toNat],I r.2],[arrS r.1.num,arrS r.1.par,arrS r.1.low],[])) (hlt:¬r.1.low.getD u.toNat 0<r.1.low.getD v.toNat 0) (st:St) (hst:L4F n es v p j s st) (b:Code) (hb:(Tryz.f240.body).bind jdx=some b) :
 XW prog cfg 240 b st (LQ (fun(_:Unit) t=>L4F n es v p (j+1) r t) (fun _=>0) 1 (fun _ _=>False)):=by
 obtain⟨ρ,m⟩:=st
 obtain⟨m1,m2,m3,h8,m8,h5,m5,h10,m10,h1',h2,h4,h12,h13⟩:=hst
 simp only at m1 m2 m3 h8 m8 h5 m5 h10 m10 h1' h2 h4 h12 h13
 simp only[Tryz.f240,Option.bind_some,jdx,Option.some.injEq] at hb
 subst hb
 have Fz:=fz19 results240 m1 m2 m3 h8 m8 h5 m5 h10 m10 h1' h2 h4 h12 h13 hue @L4F.eq_1 hrec h1
 repeat refine go1 ?_
 exact⟨(),trivial⟩
theorem jy5 (n:Int) (es:List (Int×Int)) (hV:VG n es):∀(f:Nat) (v p:Int) (st:Sr×Int),OkS n es st→inR n v→gI st.1.num v=0→(p=-1∨(inR n p∧gI st.1.num p≠0))→jba st.1.num≤f→st.2+jba st.1.num=n→
 KP 240 [GL n es,I v,I p,.agg [.ref 1000 0 0 n.toNat,.ref 1001 0 0 n.toNat,.ref 1002 0 0 n.toNat],I st.2] [arrS st.1.num,arrS st.1.par,arrS st.1.low]=
  some (.tup [.agg [.ref 1000 0 0 n.toNat,.ref 1001 0 0 n.toNat,.ref 1002 0 0 n.toNat],I (ja1 es f v p st).2],[arrS (ja1 es f v p st).1.num,arrS (ja1 es f v p st).1.par,arrS (ja1 es f v p st).1.low],[]):=by
 have ho:=hV.okg.ok
 have hn16:=hV.2.1
 have hnd:=hV.nodup
 have hle:=hV.okg.len
 intro f
 induction f with
 | zero=>
  intro v p st hs hv hv0 hp hz hc
  have:=jb5 (l:=st.1.num) (i:=v.toNat) (v:=1) (by rw[hs.ln];obtain⟨h0,h1⟩:=hv;omega) hv0 (by omega)
  omega
 | succ f ih=>
  intro v p st hs hv hv0 hp hz hc
  have hzs:=jb5 (l:=st.1.num) (i:=v.toNat) (v:=st.2+1) (by rw[hs.ln];obtain⟨h0,h1⟩:=hv;omega) hv0 (by have:=hs.c0;omega)
  have hln:=hs.ln
  have hlp:=hs.lp
  have hll:=hs.ll
  have hc0:=hs.c0
  have hE:=jeq ho hs hv hv0 hp
  have hpost:=jc5 ho hnd f
  have hnbn:(nbS v es).Nodup:=(List.mergeSort_perm _ _).nodup_iff.2 (jf1 ho hnd v)
  have hnb:=je2 n v es hV.okg hnd
  have hnbl:(nbS v es).length≤40:=by have:=jak v es;omega
  have hvr:0≤v∧v<n:=hv
  have hfin:ja1 es (f+1) v p st=(nbS v es).foldl (jbr (ja1 es f) v p) (enterS st v p):=rfl
  refine gc func240 ?_
  have Fz:=fz2 results240 hnb
  repeat refine go1 ?_
  refine jaa (fun(u:Int×(Sr×Int)) s=>L4F n es v p u.1 u.2 s∧0≤u.1∧u.1≤(nbS v es).length∧u.2=((nbS v es).take u.1.toNat).foldl (jbr (ja1 es f) v p) (enterS st v p)∧LoopS n es v p st u.2 ((nbS v es).take u.1.toNat)∧u.2.2+jba u.2.1.num=n) (fun u=>((nbS v es).length-u.1).toNat) (0,enterS st v p) ?_ ?_
  ·refine⟨⟨by simp[upd,jdk,enterS],by simp[upd,jdk,enterS],by simp[upd,jdk,enterS],by simp[upd],by simp[upd],by simp[upd],by simp[upd],by simp[upd],by simp[upd],by simp[upd,jdk],by simp[upd,jdk],by simp[upd,enterS],by simp[upd],by simp[upd]⟩,by simp,by simp,by simp,hE,?_⟩
   simp only[enterS]
   omega
  rintro⟨j,s⟩ st0 ⟨hst,g0,g1,g2,gL,gc⟩
  simp only at hst g0 g1 g2 gL gc
  have sln:=gL.ok.ln
  have slp:=gL.ok.lp
  have sll:=gL.ok.ll
  have sc0:=gL.ok.c0
  by_cases hj:j<(nbS v es).length
  rotate_left
  ·rw[jac (by omega),←hfin] at g2
   rw[←g2]
   obtain⟨ρ,m⟩:=st0
   obtain⟨m1,m2,m3,h8,m8,h5,m5,h10,m10,h1',h2,h4,h12,h13⟩:=hst
   simp only at m1 m2 m3 h8 m8 h5 m5 h10 m10 h1' h2 h4 h12 h13
   have Fz:=fz15 results240 m1 m2 m3 h8 m8 h5 m5 h10 m10 h1' h2 h4 h12 h13
   repeat(first|exact trivial|refine go1 ?_)
  have hum:=jab (d:=0) (show j.toNat<(nbS v es).length by omega)
  have hfs:=jny (rec:=ja1 es f) (v:=v) (p:=p) (st:=enterS st v p) g0 hj
  rw[←g2] at hfs
  have hsp:nbS v es=(nbS v es).take j.toNat++(nbS v es).getD j.toNat 0::(nbS v es).drop (j.toNat+1):=by
   have hjl:j.toNat<(nbS v es).length:=by omega
   have:(nbS v es).getD j.toNat 0=(nbS v es)[j.toNat]:=by simp[hjl]
   rw[this,←List.drop_eq_getElem_cons hjl,List.take_append_drop]
  have hstep:=jil ho hpost hnbn hsp hs.c0 hv hv0 hp hz gL
  have htk:=jae 0 g0 hj
  have hur:=jfk ho hum
  generalize hue:(nbS v es).getD j.toNat 0=u at hum hfs hsp hstep htk hur
  rw[←htk] at hstep
  have hu:=hur.1
  have hur':0≤u∧u<n:=hur.1
  have hpn:u=p→gI s.1.num u≠0:=fun e=>by
   rcases hp with hp | ⟨hp1,hp2⟩
   ·omega
   ·have:=(gL.old p hp1 hp2).1
    rw[e,this];exact hp2
  have hvl:v.toNat<s.1.low.length:=by omega
  have fin:∀s':Sr×Int,jbr (ja1 es f) v p s u=s'→s'.2+(jba s'.1.num:Int)=n→∀b,XW prog cfg 240 b st0 (LQ (fun(_:Unit) t=>L4F n es v p (j+1) s' t) (fun _=>0) 1 (fun _ _=>False))→∀Q,XW prog cfg 240 b st0 (LQ (fun(u:Int×(Sr×Int)) s=>L4F n es v p u.1 u.2 s∧0≤u.1∧u.1≤(nbS v es).length∧u.2=((nbS v es).take u.1.toNat).foldl (jbr (ja1 es f) v p) (enterS st v p)∧LoopS n es v p st u.2 ((nbS v es).take u.1.toNat)∧u.2.2+jba u.2.1.num=n) (fun u=>((nbS v es).length-u.1).toNat) ((nbS v es).length-j).toNat Q):=by
   intro s' e hz b hx Q
   refine hx.mono fun e' t ht=>?_
   cases e' with
   | normal=>
    obtain⟨_,hF,_⟩:=ht
    exact⟨(j+1,s'),⟨hF,by omega,by omega,by rw[←e];exact hfs.symm,by rw[←e];exact hstep,hz⟩,by show((nbS v es).length-(j+1)).toNat < _;omega⟩
   | exit i=>exact ht.elim
   | ret=>exact ht.elim
  by_cases hup:u=p
  ·have h1:=hpn hup
   have hvs:jbr (ja1 es f) v p s u=s:=by unfold jbr;rw[if_neg h1,if_pos hup]
   exact fin s hvs gc _ (kc4 n es v p j u s ⟨by omega,by omega⟩ ⟨g0,hj⟩ hnbl sln slp sll hvr hur' hue hup h1 st0 hst _ rfl) _
  by_cases h1:gI s.1.num u=0
  ·have hvn:gI s.1.num v≠0:=by rw[gL.vn];omega
   have hzf:jba s.1.num≤f:=by have:=gL.zz;omega
   have hrec:=ih u v s gL.ok hu h1 (.inr ⟨hv,hvn⟩) hzf gc
   have hP:=hpost u v s gL.ok hu h1 (.inr ⟨hv,hvn⟩) hzf
   have hC:=(jip ho f u v s sln sc0 hu h1 hzf).2.2
   have hvs:jbr (ja1 es f) v p s u=jbd (ja1 es f u v s) v (gI (ja1 es f u v s).1.low u):=by unfold jbr;rw[if_pos h1]
   have rln:=hP.ok.ln
   have rlp:=hP.ok.lp
   have rll:=hP.ok.ll
   generalize ja1 es f u v s=r at hrec hC hvs rln rlp rll
   unfold gI at h1
   by_cases hlt:r.1.low.getD u.toNat 0<r.1.low.getD v.toNat 0
   ·have hmin:min (r.1.low.getD v.toNat 0) (r.1.low.getD u.toNat 0)=r.1.low.getD u.toNat 0:=by omega
    unfold jbd gI at hvs
    rw[hmin] at hvs
    exact fin _ hvs (by show r.2+(jba r.1.num:Int)=n;omega) _ (kc2 n es v p j u s ⟨by omega,by omega⟩ ⟨g0,hj⟩ hnbl sln slp sll hvr hur' hue hup h1 r rln rlp rll hrec hlt st0 hst _ rfl) _
   ·unfold jbd gI at hvs
    rw[j5y (by omega) hlt] at hvs
    exact fin _ hvs (by show r.2+(jba r.1.num:Int)=n;omega) _ (kc3 n es v p j u s ⟨by omega,by omega⟩ ⟨g0,hj⟩ hnbl sln slp sll hvr hur' hue hup h1 r rln rlp rll hrec hlt st0 hst _ rfl) _
  ·have hvs:jbr (ja1 es f) v p s u=jbd s v (gI s.1.num u):=by unfold jbr;rw[if_neg h1,if_neg hup]
   unfold gI at h1
   by_cases hlt:s.1.num.getD u.toNat 0<s.1.low.getD v.toNat 0
   ·have hmin:min (s.1.low.getD v.toNat 0) (s.1.num.getD u.toNat 0)=s.1.num.getD u.toNat 0:=by omega
    unfold jbd gI at hvs
    rw[hmin] at hvs
    exact fin _ hvs gc _ (kc0 n es v p j u s ⟨by omega,by omega⟩ ⟨g0,hj⟩ hnbl sln slp sll hvr hur' hue hup h1 hlt st0 hst _ rfl) _
   ·unfold jbd gI at hvs
    rw[j5y (by omega) hlt] at hvs
    exact fin _ hvs gc _ (kc1 n es v p j u s ⟨by omega,by omega⟩ ⟨g0,hj⟩ hnbl sln slp sll hvr hur' hue hup h1 hlt st0 hst _ rfl) _
theorem kby (n:Int) (es:List (Int×Int)) (hV:VG n es):KP 211 [GL n es] []=some (.agg [.ref 2000 0 0 (seek n es).num.length,.ref 2001 0 0 (seek n es).par.length,.ref 2002 0 0 (seek n es).low.length],[],[arrS (seek n es).num,arrS (seek n es).par,arrS (seek n es).low]):=by
 have ho:=hV.okg.ok
 have hn16:=hV.2.1
 have hn1:=hV.1
 have hnd:=hV.nodup
 refine gc func211 ?_
 have Fz:=fz1 results211
 repeat refine go1 ?_
 refine jaa (fun(k:Nat) s=>s.m 3=some (.box 0 [.ref 8 0 0 n.toNat,.ref 11 0 0 n.toNat,.ref 14 0 0 n.toNat])∧s.ρ 3=.ptr 3 0 0 0∧s.m 8=some (arrS (seekS n es k).1.num)∧s.m 11=some (arrS (seekS n es k).1.par)∧s.m 14=some (arrS (seekS n es k).1.low)∧s.ρ 4=I (seekS n es k).2∧s.ρ 5=I (k:Int)∧s.ρ 1=.ptr 1 0 0 0∧s.m 1=some (.box 0 [I n,LE es])∧s.ρ 2=.ptr 2 0 0 0∧s.m 2=some (.box 0 [.i .emp,.i .emp,.i .emp])∧(k:Int)≤n) (fun k=>n.toNat-k) 0 ?_ ?_
 ·refine⟨?_,?_,?_,?_,?_,?_,?_,?_,?_,?_,?_,?_⟩
  all_goals first|rfl|omega | (simp[upd,seekS,zI];done) | (simp only;omega)|trace_state
 rintro k ⟨ρ,m⟩ ⟨m3,h3,m8,m11,m14,h4,h18,h1,m1,h2,m2,g0⟩
 simp only at m3 h3 m8 m11 m14 h4 h18 h1 m1 h2 m2 g0
 obtain⟨hs,-,-⟩:=jea ho hnd k g0
 have hln:=hs.ln
 have hlp:=hs.lp
 have hll:=hs.ll
 have hcn:=jkn ho hnd (by omega) k g0
 by_cases hk:(k:Int)<n
 rotate_left
 ·have hkn:k=n.toNat:=by omega
  have hse:seek n es=(seekS n es k).1:=by rw[seek,hkn]
  rw[hse,hln,hlp,hll]
  have Fz:=fz12 results211 m3 h3 m8 m11 m14 h4 h18 h1 m1 h2 m2
  repeat(first|exact trivial|refine go1 ?_)
 have hnext:seekS n es (k+1)=if gI (seekS n es k).1.num (k:Int)=0 then ja1 es n.toNat (k:Int) (-1) (seekS n es k) else seekS n es k:=rfl
 have e0:((k:Int)).toNat=k:=by omega
 by_cases h0:gI (seekS n es k).1.num (k:Int)=0
 ·rw[if_pos h0] at hnext
  have hz:jba (seekS n es k).1.num≤n.toNat:=by have:=jis (seekS n es k).1.num;omega
  have hf:=jy5 n es hV n.toNat (k:Int) (-1) (seekS n es k) hs ⟨by omega,hk⟩ h0 (.inl rfl) hz hcn
  rw[←hnext] at hf
  unfold gI at h0
  rw[e0] at h0
  have Fz:=fz14 results211 m3 h3 m8 m11 m14 h4 h18 h1 m1 h2 m2 h0 hf
  repeat refine go1 ?_
  exact⟨k+1,rfl,rfl,rfl,rfl,by omega,by omega,by omega⟩
 ·rw[if_neg h0] at hnext
  unfold gI at h0
  rw[e0] at h0
  have Fz:=fz13 results211 m3 h3 m8 m11 m14 h4 h18 h1 m1 h2 m2 h0
  repeat refine go1 ?_
  exact⟨k+1,by rw[hnext],by rw[hnext],by rw[hnext],by rw[hnext],by omega,by omega,by omega⟩
end Go.Proofs.YtnaaceooknghjaaGreatDoor.X
