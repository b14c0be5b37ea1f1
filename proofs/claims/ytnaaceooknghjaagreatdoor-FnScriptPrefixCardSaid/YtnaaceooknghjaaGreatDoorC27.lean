/- What functions answer, and the plain laws behind it. -/
import Derived.Test.YtnaaceooknghjaaGreatDoorKAL
import Derived.Test.YtnaaceooknghjaaGreatDoorKAE
set_option linter.unusedSimpArgs false
set_option linter.unusedVariables false
set_option maxHeartbeats 8000000
namespace Go.Proofs.YtnaaceooknghjaaGreatDoor.X
open Go Go.Proofs Tryz
theorem jy3 (n x:Int) (es fs:List (Int×Int)) (F:Un) (hV:VG n es) (hx:0≤x∧x<n) (hF:FR fs F) (hfl:fs.length≤1048576) :
 KP 165 [GL n es,FL fs,I x] []=some (.ref 2000 0 0 (bfs n es (jb1 F) x).1.length,[],[.arr 0 1 ((bfs n es (jb1 F) x).1.map encI)]):=by
 have ho:=hV.okg.ok
 have hn16:=hV.2.1
 have hle:=hV.okg.len
 have hog:=hV.okg
 have hnd:=hV.nodup
 refine gc func165 ?_
 unfold FL
 have Fz:=fz1 results165
 repeat refine go1 ?_
 refine jaa (fun(u:Int×Nat×List Int) s=>s.m 13=some (.arr u.2.1 1 (u.2.2.map encI))∧s.ρ 7=.ref 13 u.2.1 0 u.2.2.length∧s.ρ 8=I u.1∧s.ρ 2=I x∧s.ρ 3=.ptr 3 0 0 0∧s.m 3=some (.box 0 [I n,LE es])∧s.ρ 4=.ptr 4 0 0 0∧s.m 4=some (.box 0 [LI (fsI fs),LI (snI fs)])∧
  0≤u.1∧u.1≤n∧u.2.2.length=u.1.toNat∧u.2.2=List.replicate u.1.toNat (-1)) (fun u=>(n-u.1).toNat) (0,0,[]) ⟨rfl,rfl,rfl,rfl,rfl,rfl,rfl,rfl,by simp,by simp only;omega,rfl,rfl⟩ ?_
 rintro⟨i,v,xs⟩ ⟨ρ,m⟩ ⟨m13,h7,h8,h2,h3,m3,h4,m4,g0,g1,g2,g3⟩
 simp only at m13 h7 h8 h2 h3 m3 h4 m4 g0 g1 g2 g3
 have Fz:=fz9 results165 m13 h7 h8 h2 h3 m3 h4 m4
 repeat'(first|refine go1 ?_|(refine go2 ?_ ?_<;>intro _<;>try omega))
 ·refine⟨by omega,by omega,by omega,?_,by omega⟩
  rw[g3,show(i+1).toNat=i.toNat+1 by omega,List.replicate_succ']
 have hin:i.toNat=n.toNat:=by omega
 rw[hin] at g2 g3
 subst g3
 refine jaa (fun(u:Nat×Nat×List Int×List Int×List Int×List Int) s=>s.m 13=some (.arr v 1 (u.2.2.2.2.1.map encI))∧s.ρ 7=.ref 13 v 0 n.toNat∧s.m 28=some (.arr u.2.1 1 ((u.2.2.1++u.2.2.2.1).map encI))∧s.ρ 9=.ref 28 u.2.1 u.2.2.1.length u.2.2.2.1.length∧s.ρ 2=I x∧s.ρ 3=.ptr 3 0 0 0∧s.m 3=some (.box 0 [I n,LE es])∧s.ρ 4=.ptr 4 0 0 0∧s.m 4=some (.box 0 [LI (fsI fs),LI (snI fs)])∧
  u.1≤u.2.2.2.2.2.length∧u.2.2.2.1=u.2.2.2.2.2.drop u.1∧u.2.2.2.2=bfsS n es (jb1 F) x u.1) (fun u=>n.toNat+1-u.1) (0,nv (m 28),[],[x],bfsS n es (jb1 F) x 0) ?_ ?_
 ·refine⟨by simp[upd,bfsS],by simp[upd,h7],by simp[upd,encI],by simp[upd],by simp[upd,h2],by simp[upd,h3],by simp[upd,m3],by simp[upd,h4],by simp[upd,m4],by simp,by simp[bfsS],rfl⟩
 rintro⟨k,w,pre,q,fr,ord⟩ ⟨ρ,m⟩ ⟨m13,h7,m28,h9,h2,h3,m3,h4,m4,g0,gq,g1⟩
 simp only at m13 h7 m28 h9 h2 h3 m3 h4 m4 g0 gq g1
 obtain⟨hI,-⟩:=je0 (goes:=jb1 F) ho hx k
 rw[←g1] at hI
 have hol:=hI.le
 have hfl':=hI.len
 simp only at hol hfl'
 cases q with
 | nil=>
  have hk:ord.length≤k:=List.drop_eq_nil_iff.1 gq.symm
  have hst:=j09 (goes:=jb1 F) ho hx (i:=k) (by rw[←g1];simp only;omega)
  rw[←g1] at hst
  rw[←hfl'] at h7
  have Fz:=fz10 results165 m13 h7 m28 h9 h2 h3 m3 h4 m4
  repeat refine go1 ?_
  rw[←hst]
  exact⟨rfl,rfl⟩
 | cons a q=>
  have hk:k<ord.length:=by
   refine Classical.byContradiction fun h=>?_
   rw[List.drop_eq_nil_of_le (by omega)] at gq
   cases gq
  have hae:ord.getD k 0=a∧ord.drop (k+1)=q:=by
   rw[List.drop_eq_getElem_cons hk,List.cons.injEq] at gq
   refine⟨?_,gq.2.symm⟩
   simp only[List.getD,List.getElem?_eq_getElem hk,Option.getD_some]
   exact gq.1.symm
  obtain⟨hae,hqe⟩:=hae
  have hatm:=jab (d:=0) (show k<ord.length by omega)
  have hat:=hI.rng _ hatm
  rw[hae] at hatm hat
  have hg:=jcp pre q a
  have hnb:=je2 n a es hog hnd
  have hnbl:(nbS a es).length≤40:=by have:=jak a es;omega
  have hql:q.length≤n.toNat:=by rw[←hqe,List.length_drop];omega
  simp only[List.length_cons] at h9
  have Fz:=fz12 results165 m13 h7 m28 h9 h2 h3 m3 h4 m4 hg hnb
  repeat refine go1 ?_
  refine jaa (fun(u:Int×Nat×List Int×List Int×List Int×List Int) s=>s.m 13=some (.arr v 1 (u.2.2.2.2.1.map encI))∧s.ρ 7=.ref 13 v 0 n.toNat∧s.m 28=some (.arr u.2.1 1 ((u.2.2.1++u.2.2.2.1).map encI))∧s.ρ 9=.ref 28 u.2.1 u.2.2.1.length u.2.2.2.1.length∧s.ρ 2=I x∧s.ρ 3=.ptr 3 0 0 0∧s.m 3=some (.box 0 [I n,LE es])∧s.ρ 4=.ptr 4 0 0 0∧s.m 4=some (.box 0 [LI (fsI fs),LI (snI fs)])∧
   s.ρ 10=I a∧s.ρ 11=LI (nbS a es)∧s.ρ 12=I u.1∧0≤u.1∧u.1≤(nbS a es).length∧u.2.2.2.1=u.2.2.2.2.2.drop (k+1)∧u.2.2.2.2=((nbS a es).take u.1.toNat).foldl (look (jb1 F) a) (fr,ord)) (fun u=>((nbS a es).length-u.1).toNat) (0,w,pre++[a],q,fr,ord) ?_ ?_
  ·refine⟨by simp[upd,m13],by simp[upd,h7],by simp[upd,m28],by simp[upd],by simp[upd,h2],by simp[upd,h3],by simp[upd,m3],by simp[upd,h4],by simp[upd,m4],by simp[upd],by simp[upd],by simp[upd],by simp,by simp,hqe.symm,by simp⟩
  rintro⟨j,w',pr,q',fr',ord'⟩ ⟨ρ,m⟩ ⟨m13,h7,m28,h9,h2,h3,m3,h4,m4,h10,h11,h12,f0,f1,fq,f2⟩
  simp only at m13 h7 m28 h9 h2 h3 m3 h4 m4 h10 h11 h12 f0 f1 fq f2
  have hadj:∀v∈nbS a es,(0≤v∧v<n)∧Adj es a v:=fun v hv=>by
   have h1:=(ja8 ho).1 hv
   have:=h1.ok ho
   exact⟨⟨by omega,by omega⟩,h1⟩
  obtain⟨hFo,hpre,-⟩:=hI.fold (vs:=(nbS a es).take j.toNat) hatm fun v hv=>hadj v (List.mem_of_mem_take hv)
  rw[←f2] at hFo hpre
  have hol':=hFo.le
  have hfl2:=hFo.len
  simp only at hol' hfl2 hpre
  have hpl:=hpre.length_le
  have hql':q'.length≤n.toNat:=by rw[fq,List.length_drop];omega
  by_cases hj:j<(nbS a es).length
  rotate_left
  ·rw[jac (by omega)] at f2
   have hb:(fr',ord')=bfsS n es (jb1 F) x (k+1):=by
    rw[f2,bfsS,←g1,jtw,if_pos (by simp only;omega)]
    simp only[hae]
   have Fz:=fz13 results165 m13 h7 m28 h9 h2 h3 m3 h4 m4 h10 h11 h12
   repeat refine go1 ?_
   exact⟨k+1,pr,q',rfl,rfl,rfl,ord',by omega,fq,hb,by omega⟩
  have hvm:=jab (d:=0) (show j.toNat<(nbS a es).length by omega)
  have hlk:=jrx (g:=jb1 F) (a:=a) (st:=(fr,ord)) f0 hj
  rw[←f2] at hlk
  generalize hve:(nbS a es).getD j.toNat 0=u at hvm hlk
  obtain⟨hv,hav⟩:=hadj u hvm
  have hhas:=joz fs a u hfl
  unfold FL at hhas
  have hgo:jb1 F a u=!decide ((a,u)∈fs):=by
   have:=hF a u
   unfold jb1
   cases q:F a u<;>simp_all
  rw[jpq,hgo] at hlk
  simp only at hlk
  by_cases h0:fr'.getD u.toNat 0<0
  ·by_cases h1:(a,u)∈fs
   ·rw[decide_eq_true h1] at hhas hlk
    rw[if_neg (by simp)] at hlk
    have Fz:=fz15 results165 m13 h7 m28 h9 h2 h3 m3 h4 m4 h10 h11 h12 hve hhas
    repeat refine go1 ?_
    exact⟨j+1,pr,q',rfl,rfl,rfl,rfl,by omega,by omega,ord',fq,hlk.symm,by omega⟩
   ·rw[decide_eq_false h1] at hhas hlk
    rw[if_pos ⟨h0,rfl⟩] at hlk
    have Fz:=fz15 results165 m13 h7 m28 h9 h2 h3 m3 h4 m4 h10 h11 h12 hve hhas
    repeat refine go1 ?_
    exact⟨j+1,[],q'++[u],by simp,rfl,by simp,rfl,by omega,by omega,ord'++[u],by rw[List.drop_append_of_le_length (by omega),←fq],hlk.symm,by omega⟩
  ·rw[if_neg (fun k=>h0 k.1)] at hlk
   have Fz:=fz15 results165 m13 h7 m28 h9 h2 h3 m3 h4 m4 h10 h11 h12 hve hhas
   repeat refine go1 ?_
   exact⟨j+1,pr,q',rfl,rfl,rfl,rfl,by omega,by omega,ord',fq,hlk.symm,by omega⟩
theorem j1z (fs:List (Int×Int)) (a b:Int) (hl:fs.length≤1000):KP 166 [FL fs,I a,I b] []=some (gq (jvk fs a b),[],gqA (jvk fs a b)):=by
 have hhas:=joz fs b a (by omega)
 have hw1:=jfs fs b a (by omega)
 have hw2:=jfs fs a b (by omega)
 have hl2:=jqe fs a b
 have hne:woL fs a b++[(a,b)]≠[]:=by simp
 unfold jvk FL at *
 by_cases hm:(b,a)∈fs
 ·rw[if_pos hm]
  rw[decide_eq_true hm] at hhas
  by_cases hx:woL fs b a=[]
  ·unfold gq gqA at hw1 ⊢
   rw[if_pos hx,if_pos hx] at hw1 ⊢
   refine gc func166 ?_
   have Fz:=fz3 results166 hhas hw1
   repeat(first|exact trivial|refine go1 ?_)
   all_goals first|done|simp[fsI,snI,encI]
  ·unfold gq gqA at hw1 ⊢
   rw[if_neg hx,if_neg hx] at hw1 ⊢
   refine gc func166 ?_
   have Fz:=fz3 results166 hhas hw1
   repeat(first|exact trivial|refine go1 ?_)
   all_goals first|done|simp[fsI,snI,encI]
 ·rw[if_neg hm]
  rw[decide_eq_false hm] at hhas
  unfold gq gqA at hw2 ⊢
  rw[if_neg hne,if_neg hne]
  by_cases hx:woL fs a b=[]
  ·rw[if_pos hx,if_pos hx] at hw2
   rw[hx]
   refine gc func166 ?_
   have Fz:=fz3 results166 hhas hw2
   repeat refine go1 ?_
   all_goals first|done|simp[fsI,snI,encI]
  ·rw[if_neg hx,if_neg hx] at hw2
   refine gc func166 ?_
   have Fz:=fz3 results166 hhas hw2
   repeat refine go1 ?_
   all_goals first|done|simp[fsI,snI,encI]
theorem jwb (n x y:Int) (es:List (Int×Int)) (hV:VG n es) (hx:0≤x∧x<n) (hy:0≤y∧y<n) (hxy:x≠y) :
 ∃fs,FR fs (flU n es x y)∧fs.length≤1000∧KP 95 [GL n es,I x,I y] []=some (.tup [FQ fs,I (flN n es x y:Int)],[],[]):=by
 have ho:=hV.okg.ok
 have hn16:=hV.2.1
 have hnd:=hV.nodup
 have hle:=hV.okg.len
 suffices h:∃res,(∃fs,FR fs (flU n es x y)∧fs.length≤1000∧res=(PV.tup [FQ fs,I (flN n es x y:Int)],([]:List Arr),([]:List Arr)))∧KP 95 [GL n es,I x,I y] []=some res by
  obtain⟨res,⟨fs,h1,h2,rfl⟩,h3⟩:=h
  exact⟨fs,h1,h2,h3⟩
 refine ge func95 ?_
 have Fz:=fz1 results95
 repeat refine go1 ?_
 refine jaa (fun(u:Nat×List (Int×Int)) s=>s.m 8=some (.box 0 [.i (iq (fsI u.2)),.i (iq (snI u.2))])∧s.ρ 8=.ptr 8 0 0 0∧s.ρ 9=I (u.1:Int)∧s.ρ 1=I x∧s.ρ 2=I y∧s.ρ 3=.ptr 3 0 0 0∧s.m 3=some (.box 0 [I n,LE es])∧s.ρ 6=.ptr 6 0 0 0∧s.m 6=some (.box 0 [.i .emp,.i .emp])∧
  FR u.2 (flS n es x y u.1)∧(∀j,j<u.1→more n es x y j)∧u.2.length≤20*u.1) (fun u=>50-u.1) (0,[]) ?_ ?_
 ·refine⟨by simp[upd,iq,fsI,snI],by simp[upd],by simp[upd],by simp[upd],by simp[upd],by simp[upd],by simp[upd],by simp[upd],by simp[upd],fun a b=>by simp[flS],fun j h=>by simp at h,by simp⟩
 rintro⟨k,fs⟩ ⟨ρ,m⟩ ⟨m8,h8,h9,h1,h2,h3,m3,h6,m6,g0,g1,g2⟩
 simp only at m8 h8 h9 h1 h2 h3 m3 h6 m6 g0 g1 g2
 have hk16:k≤16:=by
  have:=jgj ho hnd hx hxy g1
  have:=j24 (x:=x) ho hnd
  omega
 have hr:=jy3 n x es fs _ hV hx g0 (by omega)
 unfold FL at hr
 have hB:=jiy (goes:=jb1 (flS n es x y k)) ho hx
 have hlen:=hB.len
 by_cases hm:more n es x y k
 rotate_left
 ·have hk:=ka1 ho hnd hx hxy g1 hm
  have hfy:(bfs n es (jb1 (flS n es x y k)) x).1.getD y.toNat 0<0:=by
   have:=(hB.mem y hy.1 hy.2).1
   exact Int.not_le.1 fun h=>hm (this h)
  have Fz:=fz11 results95 m8 h8 h9 h1 h2 h3 m3 h6 m6 hr
  repeat refine go1 ?_
  refine⟨fs,?_,by omega,?_⟩
  ·rw[flU,←hk];exact g0
  ·rw[←hk];rfl
 have hfy:0≤(bfs n es (jb1 (flS n es x y k)) x).1.getD y.toNat 0:=(hB.mem y hy.1 hy.2).2 hm
 have hway:=jiz ho hx hm
 have hS:flS n es x y (k+1)=augF (flS n es x y k) (wayL n (bfs n es (jb1 (flS n es x y k)) x).1 x y):=rfl
 have hbk:=fun t h0 h1=>jyl (n:=n) (fr:=(bfs n es (jb1 (flS n es x y k)) x).1) (x:=x) (y:=y) (t:=t) h0 h1
 generalize wayL n (bfs n es (jb1 (flS n es x y k)) x).1 x y=p at hway hS hbk
 have hin:∀i,i<p.length→0≤p.getD i 0∧p.getD i 0<n:=fun i hi=>by
  by_cases h0:i+1<p.length
  ·have:=(hway.st i h0).1.ok ho;omega
  ·have e:i=p.length-1:=by omega
   rw[e,hway.la];exact hy
 have hpl:p.length≤16:=by
  have:=jan (l:=p) (m:=iota n) hway.nd fun v hv=>by
   obtain⟨i,hi,he⟩:=List.mem_iff_getElem.1 hv
   have:=hin i hi
   simp only[List.getD,List.getElem?_eq_getElem hi,Option.getD_some,he] at this
   exact mem_iota.2 this
  rw[jat] at this
  omega
 have hpp:=hway.pos
 have Fz:=fz11 results95 m8 h8 h9 h1 h2 h3 m3 h6 m6 hr
 repeat refine go1 ?_
 generalize (bfs n es (jb1 (flS n es x y k)) x).1=fr at *
 refine jaa (fun(v:Nat×List (Int×Int)) s=>s.m 8=some (.box 0 [.i (iq (fsI v.2)),.i (iq (snI v.2))])∧s.ρ 8=.ptr 8 0 0 0∧s.ρ 9=I (k:Int)∧s.ρ 1=I x∧s.ρ 2=I y∧s.ρ 3=.ptr 3 0 0 0∧s.m 3=some (.box 0 [I n,LE es])∧s.ρ 6=.ptr 6 0 0 0∧s.m 6=some (.box 0 [.i .emp,.i .emp])∧
  s.ρ 10=LI fr∧s.ρ 11=I (p.getD v.1 0)∧v.1<p.length∧FR v.2 (augB (flS n es x y k) (p.drop v.1))∧v.2.length≤20*k+(p.length-1-v.1)) (fun v=>v.1) (p.length-1,fs) ?_ ?_
 ·refine⟨by simp[upd,m8],by simp[upd,h8],by simp[upd,h9],by simp[upd,h1],by simp[upd,h2],by simp[upd,h3],by simp[upd,m3],by simp[upd,h6],by simp[upd,m6],by simp[upd],by rw[hway.la];simp[upd],by simp only;omega,?_,by simp only;omega⟩
  have e1:p.drop (p.length-1)=[y]:=by
   rw[List.drop_eq_getElem_cons (by omega),List.drop_eq_nil_of_le (by omega)]
   have:=hway.la
   simp only[List.getD,List.getElem?_eq_getElem (show p.length-1<p.length by omega),Option.getD_some] at this
   rw[this]
  simp only[e1]
  exact g0
 rintro⟨t,gs⟩ ⟨ρ,m⟩ ⟨m8,h8,h9,h1,h2,h3,m3,h6,m6,h10,h11,f0,f1,f2⟩
 simp only at m8 h8 h9 h1 h2 h3 m3 h6 m6 h10 h11 f0 f1 f2
 by_cases ht:t=0
 ·subst ht
  rw[List.drop_zero,j05 hway.nd,←hS] at f1
  rw[hway.hd] at h11
  have Fz:=fz12 results95 m8 h8 h9 h1 h2 h3 m3 h6 m6 h10 h11
  repeat refine go1 ?_
  refine⟨k+1,gs,rfl,by omega,f1,fun j hj=>?_,by omega,by omega⟩
  by_cases hjk:j=k
  ·subst hjk;exact hm
  ·exact g1 j (by omega)
 have hne:p.getD t 0≠x:=fun e=>by
  rw[←hway.hd] at e
  simp only[List.getD,List.getElem?_eq_getElem f0,List.getElem?_eq_getElem hpp,Option.getD_some] at e
  exact ht ((List.getElem_inj hway.nd).1 e)
 have hbt:=hbk t (by omega) f0
 have hpt:=hin t f0
 have hst:=f1.step (p.getD (t-1) 0) (p.getD t 0)
 rw[←j04 (by omega) f0] at hst
 have hcs:=j1z gs (p.getD (t-1) 0) (p.getD t 0) (by omega)
 have hcl:=j54 gs (p.getD (t-1) 0) (p.getD t 0)
 unfold FL at hcs
 generalize hq:p.getD t 0=q at *
 have Fz:=fz15 results95 m8 h8 h9 h1 h2 h3 m3 h6 m6 h10 h11 hbt hcs @FQ.eq_1
 repeat refine go1 ?_
 exact⟨t-1,_,rfl,rfl,by omega,hst,by omega,by omega⟩
end Go.Proofs.YtnaaceooknghjaaGreatDoor.X
