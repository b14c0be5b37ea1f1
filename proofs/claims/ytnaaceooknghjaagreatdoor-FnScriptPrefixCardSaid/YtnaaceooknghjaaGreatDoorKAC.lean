/- What functions answer, and the plain laws behind it. -/
import Derived.Test.YtnaaceooknghjaaGreatDoorKAB
import Derived.Lib.AtoiTie
set_option linter.unusedSimpArgs false
set_option linter.unusedVariables false
set_option maxHeartbeats 8000000
set_option maxRecDepth 100000
namespace Go.Proofs.YtnaaceooknghjaaGreatDoor.X
open Go Go.Proofs Tryz
theorem keh (c:UInt8):((c.toNat:Int)).toNat.toUInt8=c:=by
 rw[Int.toNat_natCast]
 exact UInt8.ofNat_toNat
theorem j41 (l:List UInt8) (c:UInt8):Lib.indexByte l c=ixB c l:=by
 induction l with
 | nil=>rfl
 | cons b l ih=>
  unfold Lib.indexByte
  rw[ih]
  by_cases h:b=c
  ·subst h
   simp[ixB]
  ·have hb:(b == c)=false:=by simpa using h
   have h':¬c=b:=fun e=>h e.symm
   rw[hb]
   unfold ixB
   by_cases hm:c∈l
   ·rw[if_pos hm,if_pos (List.mem_cons_of_mem _ hm),List.idxOf_cons,hb]
    have:¬((l.idxOf c:Int) == -1)=true:=by simp
    simp only[Bool.false_eq_true,if_false,this]
    simp
   ·rw[if_neg hm,if_neg (show ¬c∈b::l by rw[List.mem_cons,not_or];exact⟨h',hm⟩)]
    rfl
@[go_sem] theorem kbt (l:List UInt8) (c:UInt8):KP 177 [S l,.i (.v (.int .u8 c.toNat))] []=some (I (ixB c l),[],[]):=by
 refine jdd rfl ?_
 simp only[idxP,keh,j41]
@[go_sem] theorem khb (l:List UInt8) (c:UInt8):KP 57 [S l,S [c]] []=some (I (l.count c),[],[]):=by
 refine jdd rfl ?_
 simp only[cntP,Lib.countByte]
@[go_sem] theorem j7u (l:List UInt8) (c:UInt8) (hl:l.length≤1048576):KP 111 [S l,S [c]] []=some (I (ixB c l),[],[]):=by
 by_cases hz:l=[c]
 ·subst hz
  have he:ixB c [c]=0:=by simp[ixB]
  refine gc func111 ?_
  have Fz:=fz2 results111 he
  repeat(first|exact trivial|refine go1 ?_)
 ·have he:eqS [c] l=false:=ja2 (fun h=>hz h.symm)
  refine gc func111 ?_
  have Fz:=fz2 results111 he
  repeat(first|exact trivial|refine go1 ?_)
@[go_sem] theorem j1n (l:List UInt8) (c:UInt8) (hl:l.length≤1048576):KP 58 [S l,S [c]] []=some (I (ixB c l),[],[]):=by
 refine gc func58 ?_
 have Fz:=fz1 results58
 repeat(first|exact trivial|refine go1 ?_)
theorem kfg (l:List UInt8) (c:UInt8) (hl:l.length≤1048576):KP 59 [S l,S [c]] []=some (if 0≤ixB c l then .tup [S (l.take (ixB c l).toNat),S (l.drop ((ixB c l).toNat+1)),B true] else .tup [S l,S [],B false],[],[]):=by
 have hb:=jxn (c:=c) (l:=l)
 by_cases h:0≤ixB c l
 ·rw[if_pos h]
  obtain⟨k,hk⟩:=Int.eq_ofNat_of_zero_le h
  rw[hk] at hb ⊢
  have hi:=j7u l c hl
  rw[hk] at hi
  have h1:((k:Int)+1).toNat=k+1:=by omega
  have h2:(l.drop (k+1)).take (l.length-(k+1))=l.drop (k+1):=List.take_of_length_le (by simp)
  refine gc func59 ?_
  have Fz:=fz4 results59 hi h1 h2
  repeat(first|exact trivial|refine go1 ?_)
 ·rw[if_neg h]
  refine gc func59 ?_
  have Fz:=fz1 results59
  repeat(first|exact trivial|refine go1 ?_)
theorem j67 (l:List UInt8) (c:UInt8) (hl:l.length≤1048576):KP 24 [S l,S [c]] []=some (if 0≤ixB c l then .tup [S (l.take (ixB c l).toNat),S (l.drop ((ixB c l).toNat+1)),B true] else .tup [S l,S [],B false],[],[]):=by
 have h0:=kfg l c hl
 by_cases h:0≤ixB c l
 ·rw[if_pos h] at h0 ⊢
  refine gc func24 ?_
  have Fz:=fz2 results24 h0
  repeat(first|exact trivial|refine go1 ?_)
 ·rw[if_neg h] at h0 ⊢
  refine gc func24 ?_
  have Fz:=fz2 results24 h0
  repeat(first|exact trivial|refine go1 ?_)
theorem j68 (a b:List UInt8) (c:UInt8) (hc:c∉a) (hl:a.length+b.length≤1000000):KP 24 [S (a++c::b),S [c]] []=some (.tup [S a,S b,B true],[],[]):=by
 have h0:=j67 (a++c::b) c (by simp;omega)
 have hi:ixB c (a++c::b)=a.length:=kfz (by simp) (by simpa using hc)
 rw[hi,if_pos (by omega)] at h0
 simpa using h0
theorem j69 (a:List UInt8) (c:UInt8) (hc:c∉a) (hl:a.length≤1000000):KP 24 [S a,S [c]] []=some (.tup [S a,S [],B false],[],[]):=by
 have h0:=j67 a c (by omega)
 rw[j84 hc,if_neg (by omega)] at h0
 exact h0
abbrev zS:List IV:=[.v (.string ⟨(([]:List UInt8)).toArray⟩)]
theorem kdx {d:List (List UInt8)} {k:Nat} {s:List UInt8} (hk:0<k):(d.map encS++List.replicate k zS).set d.length (encS s)=(d++[s]).map encS++List.replicate (k-1) zS:=by
 obtain⟨k,rfl⟩:∃j,k=j+1:=⟨k-1,by omega⟩
 rw[List.replicate_succ,List.set_append_right _ _ (by simp)]
 simp
def splA (d:List (List UInt8)) (k:Nat):List (List IV):=d.map encS++List.replicate k zS
theorem jkp (d:List (List UInt8)) (k:Nat):(splA d k).length=d.length+k:=by simp[splA]
theorem jyb {d:List (List UInt8)} {k:Nat} {s:List UInt8} (hk:0<k):(splA d k).set d.length [.v (.string ⟨s.toArray⟩)]=splA (d++[s]) (k-1):=kdx hk
theorem jya {d:List (List UInt8)} {k:Nat} (hk:0<k):∃e,(splA d k)[d.length]?=some [e]:=by
 obtain⟨k,rfl⟩:∃j,k=j+1:=⟨k-1,by omega⟩
 unfold splA
 rw[List.replicate_succ,List.getElem?_append_right (by simp)]
 simp
theorem j5r {c:UInt8} {s:List UInt8} (h:(pcs c s).length≤1):pcs c s=[s]:=by
 rw[jpy] at h
 exact jfa (fun hm=>by have:=List.one_le_count_iff.2 hm;omega)
theorem jnk (l:List UInt8) (c:UInt8) (n:Int) (hl:l.length≤1000000) (hn:n<0∨((pcs c l).length:Int)≤n) (hn2:n≤1000000) :
 ∃k,KP 23 [S l,S [c],I 0,I n] []=some (.ref 2000 0 0 (pcs c l).length,[],[.arr 0 1 (splA (pcs c l) k)])∧(n<0→k=0):=by
 have hp1:=jpy (c:=c) l
 have hp2:=jsv (c:=c) l
 obtain⟨N,hN1,hN2,hN3,hN4⟩:∃N:Nat,(min (if n<0 then(l.count c:Int)+1 else n) (l.length+1)=(N:Int))∧(pcs c l).length≤N∧N≤1000001∧(n<0→N=(pcs c l).length):=by
  refine⟨(min (if n<0 then(l.count c:Int)+1 else n) (l.length+1)).toNat,?_,?_,?_,?_⟩
  ·split<;>omega
  ·split<;>omega
  ·split<;>omega
  ·intro h;rw[if_pos h];omega
 refine⟨N-(pcs c l).length,?_,fun h=>by rw[hN4 h];omega⟩
 have hrep:List.replicate N zS=splA [] N:=by simp[splA]
 have hsp:∀d k,(splA d k).length=d.length+k:=jkp
 by_cases hneg:n<0
 all_goals
  first|rw[if_pos hneg] at hN1|rw[if_neg hneg] at hN1
  refine gc func23 ?_
  have Fz:=fz3 results23 hN1 hrep
  repeat refine go1 ?_
  refine jaa (fun(x:List (List UInt8)×List UInt8) s=>s.m 31=some (.arr 0 1 (splA x.1 (N-x.1.length)))∧s.ρ 9=.ref 31 0 0 N∧s.ρ 10=I x.1.length∧s.ρ 0=S x.2∧s.ρ 1=S [c]∧s.ρ 2=I 0∧s.ρ 3=I (N-1)∧pcs c l=x.1++pcs c x.2∧x.2.length≤l.length) (fun x=>x.2.length) ([],l) ?_ ?_
  ·refine⟨?_,?_,rfl,rfl,rfl,rfl,?_,rfl,Nat.le_refl _⟩
   all_goals(simp[upd];done)
  rintro⟨d,s⟩ ⟨ρ,m⟩ ⟨m31,h9,h10,h0,h1,h2,h3,g1,g2⟩
  simp only at m31 h9 h10 h0 h1 h2 h3 g1 g2
  have g3:=congrArg List.length g1
  rw[List.length_append] at g3
  have g4:=List.length_pos_iff.2 (jx0 c s)
  have hk:0<N-d.length:=by omega
  have hset:∀t:List UInt8,(splA d (N-d.length)).set d.length [.v (.string ⟨t.toArray⟩)]=splA (d++[t]) (N-d.length-1):=fun t=>jyb hk
  obtain⟨e0,hget⟩:=jya (d:=d) hk
  have hdl:d.length<(splA d (N-d.length)).length:=by rw[jkp];omega
  have hix:=jxn (c:=c) (l:=s)
  by_cases hd:(d.length:Int)<N-1
  ·by_cases hi:ixB c s<0
   ·have hfin:pcs c l=d++[s]:=by rw[g1,kdp hi]
    rw[hfin]
    have Fz:=fz11 results23 m31 h9 h10 h0 h1 h2 h3 hset hget hsp
    repeat refine go1 ?_
    exact⟨by omega,by rw[Nat.sub_sub]⟩
   ·obtain⟨k,hk0⟩:=Int.eq_ofNat_of_zero_le (show 0≤ixB c s by omega)
    have hci:=j1n s c (by omega)
    have hst:=j93 (c:=c) (l:=s) (by omega)
    rw[hk0] at hix hci hst
    have Fz:=fz12 results23 m31 h9 h10 h0 h1 h2 h3 hset hget hsp hci
    repeat refine go1 ?_
    have e1:((k:Int)+0).toNat=k:=by omega
    have e2:((k:Int)+1).toNat=k+1:=by omega
    have e3:((k:Int)).toNat=k:=by omega
    rw[e3] at hst
    rw[e1,e2]
    refine⟨d++[s.take k],by rw[List.length_append,Nat.sub_sub];rfl,by simp,s.drop (k+1),?_,?_,?_,?_⟩
    ·rw[List.take_of_length_le (by simp)]
    ·rw[g1,hst];simp
    ·simp;omega
    ·simp;omega
  ·have hfin:pcs c l=d++[s]:=by rw[g1,j5r (by omega)]
   rw[hfin]
   have Fz:=fz11 results23 m31 h9 h10 h0 h1 h2 h3 hset hget hsp
   repeat refine go1 ?_
   exact⟨by omega,by rw[Nat.sub_sub]⟩
theorem j52 (d:List (List UInt8)):splA d 0=d.map encS:=by simp[splA]
theorem j1p (l:List UInt8) (c:UInt8) (hl:l.length≤1000000):KP 11 [S l,S [c]] []=some (.i (.lst ((pcs c l).map encS)),[],[]):=by
 obtain⟨k,h1,h2⟩:=jnk l c (-1) hl (.inl (by omega)) (by omega)
 rw[h2 (by omega),j52] at h1
 have ht:((pcs c l).map encS).take (pcs c l).length=(pcs c l).map encS:=List.take_of_length_le (by simp)
 refine gc func11 ?_
 have Fz:=fz3 results11 h1 ht
 repeat(first|exact trivial|refine go1 ?_)
theorem j7b (l:List UInt8) (c:UInt8) (n:Int) (hl:l.length≤1000000) (hn:((pcs c l).length:Int)≤n) (hn2:n≤1000000):KP 128 [S l,S [c],I n] []=some (.i (.lst ((pcs c l).map encS)),[],[]):=by
 obtain⟨k,h1,h2⟩:=jnk l c n hl (.inr hn) hn2
 have ht:(splA (pcs c l) k).take (pcs c l).length=(pcs c l).map encS:=by
  unfold splA
  rw[List.take_left' (by simp)]
 refine gc func128 ?_
 have Fz:=fz3 results128 h1 ht
 repeat(first|exact trivial|refine go1 ?_)
theorem jkj {n:Int} (h0:0≤n) (h1:n<100):Lib.itoa n=dgt n:=by
 unfold Lib.itoa
 rw[if_neg (by omega)]
 show Lib.decDigits n.toNat=dec2 n.toNat
 unfold dec2
 split
 ·rename_i h;exact Lib.decDigits_one h
 ·rename_i h;exact Lib.decDigits_two h (by omega)
theorem joy (n:Int) (h0:-9223372036854775808≤n) (h1:n≤9223372036854775807):KP 113 [I n] []=some (S (Lib.itoa n),[],[]):=by
 refine jdd rfl ?_
 simp[j82,h0,h1]
@[go_sem] theorem jwa (n:Int) (h0:0≤n) (h1:n<100):KP 113 [I n] []=some (S (dgt n),[],[]):=by
 rw[←jkj h0 h1];exact joy n (by omega) (by omega)
theorem jt1 (l:List UInt8) (h:l.length≤1048576):KP 129 [S l] []=some (jiw l,[],[]):=by
 refine jdd rfl ?_
 show(if(ByteArray.mk l.toArray).size≤1048576 then some (jiw (ByteArray.mk l.toArray).data.toList,[],[]) else none)=_
 rw[if_pos (by rw[jor];exact h)]
theorem jks {l:List UInt8} {n:Int} (hl:l.length≤18) (h:Lib.atoi l=some n):jiw l=.tup [I n,.i (.v .nilIface)]:=by
 unfold jiw
 rw[Lib.atoiAll_short l hl,h]
 rfl
theorem j1r (n:Int) (h0:0≤n) (h1:n<100):KP 129 [S (dgt n)] []=some (.tup [I n,.i (.v .nilIface)],[],[]):=by
 have h2:Lib.atoi (dgt n)=some n:=by
  have h:=j23 (show n.toNat<100 by omega)
  have e:((n.toNat:Nat):Int)=n:=by omega
  show Lib.atoi (dec2 n.toNat)=some n
  rw[←e]
  exact h
 have h3:(dgt n).length≤2:=(jbj (n:=n.toNat)).2
 rw[←jks (by omega) h2]
 exact jt1 _ (by omega)
theorem VG.alone {n v:Int} {es:List (Int×Int)} (h:VG n es):VG n (alone v es):=by
 obtain⟨h1,h2,h3,h4,h5⟩:=h
 have hl:(X.alone v es).length≤es.length:=List.length_filter_le _ _
 exact⟨h1,h2,by omega,fun e he=>h4 e (List.mem_filter.1 he).1,h5.filter _⟩
theorem jyo (v:Int) (e:Int×Int) (es:List (Int×Int)):alone v (e::es)=if v=e.1∨v=e.2 then alone v es else e::alone v es:=by
 unfold alone
 by_cases h1:v=e.1
 ·have:¬(e.1≠v∧e.2≠v):=fun h=>h.1 h1.symm
  rw[List.filter_cons_of_neg (by simpa using fun h=>absurd h1.symm h),if_pos (.inl h1)]
 ·by_cases h2:v=e.2
  ·rw[List.filter_cons_of_neg (by simpa using fun _=>h2.symm),if_pos (.inr h2)]
  ·rw[List.filter_cons_of_pos (by simpa using ⟨fun h=>h1 h.symm,fun h=>h2 h.symm⟩),if_neg (by simp[h1,h2])]
theorem jpu (v:Int) (e:Int×Int) (es:List (Int×Int)):nbL v (e::es)=if v=e.1 then e.2::nbL v es else if v=e.2 then e.1::nbL v es else nbL v es:=by
 unfold nbL
 by_cases h1:v=e.1
 ·rw[List.filterMap_cons,if_pos h1,if_pos h1]
 ·by_cases h2:v=e.2
  ·rw[List.filterMap_cons,if_neg h1,if_neg h1,if_pos h2,if_pos h2]
  ·rw[List.filterMap_cons,if_neg h1,if_neg h1,if_neg h2,if_neg h2]
theorem jn8 (v:Int) (es:List (Int×Int)):(nbS v es).length=(nbL v es).length:=jf6 _
theorem jak (v:Int) (es:List (Int×Int)):(alone v es).length+(nbS v es).length=es.length:=by
 rw[jn8]
 induction es with
 | nil=>rfl
 | cons e es ih=>
  rw[jyo,jpu]
  by_cases h1:v=e.1
  ·rw[if_pos (.inl h1),if_pos h1];simp only[List.length_cons];omega
  ·by_cases h2:v=e.2
   ·rw[if_pos (.inr h2),if_neg h1,if_pos h2];simp only[List.length_cons];omega
   ·rw[if_neg (by simp[h1,h2]),if_neg h1,if_neg h2];simp only[List.length_cons];omega
theorem jgo:∀{l r:List Int},l.Pairwise (· < ·)→r.Pairwise (· < ·)→(∀x,x∈l↔x∈r)→l=r
 | [],[],_,_,_=>rfl
 | [],y::r,_,_,h=>by have:=(h y).2 (by simp);simp at this
 | x::l,[],_,_,h=>by have:=(h x).1 (by simp);simp at this
 | x::l,y::r,hl,hr,h=>by
  rw[List.pairwise_cons] at hl hr
  have hxy:x=y:=by
   rcases List.mem_cons.1 ((h x).1 (by simp)) with e|e
   ·exact e
   ·rcases List.mem_cons.1 ((h y).2 (by simp)) with e' | e'
    ·exact e'.symm
    ·have:=hl.1 y e';have:=hr.1 x e;omega
  subst hxy
  rw[jgo hl.2 hr.2 fun z=>?_]
  constructor
  ·intro hz
   rcases List.mem_cons.1 ((h z).1 (by simp[hz])) with e|e
   ·have:=hl.1 z hz;omega
   ·exact e
  ·intro hz
   rcases List.mem_cons.1 ((h z).2 (by simp[hz])) with e|e
   ·have:=hr.1 z hz;omega
   ·exact e
theorem Ord.nodup {es:List (Int×Int)} (h:Ord es):es.Nodup:=by
 refine List.Pairwise.imp (fun {a b} hab e=>?_) h
 subst e
 rw[jdv] at hab;omega
theorem ju3 {n:Int} {es:List (Int×Int)} (ho:∀e∈es,okE n e) {v x:Int}:x∈nbL v es↔Adj es v x:=by
 unfold nbL Adj
 rw[List.mem_filterMap]
 constructor
 ·rintro⟨e,he,h⟩
  split at h
  ·rename_i h1;cases h;subst h1;exact .inl he
  ·split at h
   ·rename_i h2;cases h;subst h2;exact .inr he
   ·cases h
 ·rintro(h|h)
  ·exact⟨_,h,by simp⟩
  ·have:=ho _ h
   unfold okE at this
   exact⟨_,h,by rw[if_neg (by simp only;omega),if_pos rfl]⟩
theorem ja8 {n:Int} {es:List (Int×Int)} (ho:∀e∈es,okE n e) {v x:Int}:x∈nbS v es↔Adj es v x:=by
 unfold nbS jje
 rw[List.mem_mergeSort]
 exact ju3 ho
theorem jf1 {n:Int} {es:List (Int×Int)} (ho:∀e∈es,okE n e) (hn:es.Nodup) (v:Int):(nbL v es).Nodup:=by
 induction es with
 | nil=>simp[nbL]
 | cons e es ih=>
  rw[List.nodup_cons] at hn
  have ho':=fun f hf=>ho f (List.mem_cons_of_mem _ hf)
  have ih:=ih ho' hn.2
  have he:=ho e (by simp)
  unfold okE at he
  rw[jpu]
  split
  ·rename_i h1
   rw[List.nodup_cons,ju3 ho']
   refine⟨fun h=>?_,ih⟩
   rcases h with h|h
   ·exact hn.1 (by rw[h1] at h;exact h)
   ·have:=ho' _ h;unfold okE at this;simp only at this;omega
  ·split
   ·rename_i h1 h2
    rw[List.nodup_cons,ju3 ho']
    refine⟨fun h=>?_,ih⟩
    rcases h with h|h
    ·have:=ho' _ h;unfold okE at this;simp only at this;omega
    ·exact hn.1 (by rw[h2] at h;exact h)
   ·exact ih
theorem jgp {n:Int} {es:List (Int×Int)} (ho:∀e∈es,okE n e) (hn:es.Nodup) (v:Int):(nbS v es).Pairwise (· < ·):=by
 have h1:(nbS v es).Pairwise fun a b=>decide (a≤b)=true:=List.pairwise_mergeSort (by intro a b c;simp;omega) (by intro a b;simp;omega) _
 have h2:(nbS v es).Nodup:=(List.mergeSort_perm _ _).nodup_iff.2 (jf1 ho hn v)
 have h3:=h1.and h2
 refine List.Pairwise.imp (fun {a b} h=>?_) h3
 have:=h.1
 simp only[decide_eq_true_eq] at this
 have:=h.2
 omega
theorem jd0 (n:Int):(iota n).Pairwise (· < ·):=by
 unfold iota
 rw[List.pairwise_map]
 refine List.Pairwise.imp (fun {a b} h=>?_) (List.pairwise_lt_range)
 omega
theorem mem_iota {n x:Int}:x∈iota n↔0≤x∧x<n:=by
 unfold iota
 rw[List.mem_map]
 constructor
 ·rintro⟨y,hy,rfl⟩
  have:=List.mem_range.1 hy
  omega
 ·rintro⟨h1,h2⟩
  exact⟨x.toNat,List.mem_range.2 (by omega),by omega⟩
theorem jn7 {n:Int} {es:List (Int×Int)} (ho:∀e∈es,okE n e) {x v:Int}:(x≠v∧edgeOf x v∈es)↔Adj es v x:=by
 unfold edgeOf Adj
 constructor
 ·rintro⟨h1,h2⟩
  split at h2
  ·exact .inr h2
  ·exact .inl h2
 ·rintro(h|h)
  ·have:=ho _ h;unfold okE at this;simp only at this
   rw[if_neg (by omega)];exact⟨by omega,h⟩
  ·have:=ho _ h;unfold okE at this;simp only at this
   rw[if_pos (by omega)];exact⟨by omega,h⟩
theorem kde {n:Int} {es:List (Int×Int)} (ho:∀e∈es,okE n e) (hn:es.Nodup) (v:Int):(iota n).filter (fun x=>decide (x≠v∧edgeOf x v∈es))=nbS v es:=by
 refine jgo ((jd0 n).filter _) (jgp ho hn v) fun x=>?_
 rw[List.mem_filter,mem_iota,decide_eq_true_eq,jn7 ho,ja8 ho]
 constructor
 ·exact fun h=>h.2
 ·exact fun h=>⟨by have:=h.ok ho;omega,h⟩
theorem jrs {es:List (Int×Int)} {e:Int×Int}:0≤jco es e↔e∈es:=by
 have:=@jjt es e
 simpa using this
abbrev gI (l:List Int) (x:Int):Int:=l.getD x.toNat 0
theorem jfg {l:List Int} {x y v:Int} (hx:0≤x) (hy:0≤y) (h:y<l.length):gI (l.set x.toNat v) y=if x=y then v else gI l y:=by
 unfold gI
 rw[jcq (by omega)]
 by_cases e:x=y
 ·subst e;simp
 ·rw[if_neg (by omega),if_neg e]
def und (out:List Int):Nat:=(out.filter fun d=>decide (d<0)).length
theorem jvp {out:List Int} {i:Nat} {v:Int} (h:i<out.length) (h1:out.getD i 0<0) (h2:0≤v):und (out.set i v)+1=und out:=by
 unfold und
 induction out generalizing i with
 | nil=>simp at h
 | cons d out ih=>
  cases i with
  | zero=>
   simp only[List.getD_cons_zero] at h1
   simp only[List.set_cons_zero,List.filter_cons,decide_eq_true_eq]
   rw[if_neg (by omega),if_pos h1];simp
  | succ i=>
   have:=ih (i:=i) (by simpa using h) (by simpa using h1)
   simp only[List.set_cons_succ,List.filter_cons,decide_eq_true_eq]
   split<;>(try simp only[List.length_cons])<;>omega
structure Bfs (n:Int) (es:List (Int×Int)) (t:Int) (out q:List Int):Prop where
 len:out.length=n.toNat
 t0:0≤t∧t<n
 src:gI out t=0
 low:∀x,0≤x→x<n→-1≤gI out x
 reach:∀x,0≤x→x<n→0≤gI out x→Rk es t (gI out x).toNat x
 que:∀x∈q,0≤x∧x<n∧0≤gI out x
 sorted:q.Pairwise fun a b=>gI out a≤gI out b
 near:∀a∈q,∀x,0≤x→x<n→gI out x≤gI out a+1
 top:∀x,0≤x→x<n→gI out x+und out≤n-1
def Done (n:Int) (es:List (Int×Int)) (out:List Int) (ex:Int→Prop):Prop:=∀x,0≤x→x<n→0≤gI out x→¬ex x→∀y,Adj es x y→0≤gI out y∧gI out y≤gI out x+1
theorem j5x {n:Int} {x:Int} (h0:0≤x) (h1:x<n):gI (List.replicate n.toNat (-1)) x=-1:=by
 have:x.toNat<n.toNat:=by omega
 simp[gI,this]
theorem Bfs.init {n:Int} {es:List (Int×Int)} {t:Int} (ht:0≤t∧t<n):Bfs n es t ((List.replicate n.toNat (-1)).set t.toNat 0) [t]∧Done n es ((List.replicate n.toNat (-1)).set t.toNat 0) (·∈[t]):=by
 have hg:∀x,0≤x→x<n→gI ((List.replicate n.toNat (-1)).set t.toNat 0) x=if t=x then 0 else -1:=fun x h0 h1=>by
  rw[jfg ht.1 h0 (by simp;omega),j5x h0 h1]
 refine⟨⟨by simp,ht,by rw[hg t ht.1 ht.2];simp,fun x h0 h1=>by rw[hg x h0 h1];split<;>omega,fun x h0 h1 h=>?_,fun x hx=>?_,by simp,fun a ha x h0 h1=>?_,fun x h0 h1=>?_⟩,fun x h0 h1 h hx=>?_⟩
 ·rw[hg x h0 h1] at h ⊢
  split at h
  ·rename_i e;subst e;rw[if_pos rfl];exact rfl
  ·omega
 ·rw[List.mem_singleton.1 hx,hg t ht.1 ht.2];simp;omega
 ·rw[List.mem_singleton.1 ha,hg t ht.1 ht.2,hg x h0 h1];split<;>simp
 ·have hu:=jvp (out:=List.replicate n.toNat (-1)) (i:=t.toNat) (v:=0) (by simp;omega) (by have:=j5x ht.1 ht.2;unfold gI at this;omega) (by omega)
  have hr:und (List.replicate n.toNat (-1))=n.toNat:=by simp[und]
  rw[hg x h0 h1]
  split<;>omega
 ·rw[hg x h0 h1] at h
  split at h
  ·rename_i e;subst e;exact absurd (List.mem_singleton.2 rfl) hx
  ·omega
theorem Bfs.find {n:Int} {es:List (Int×Int)} {t:Int} {out q:List Int} {a x:Int} (ho:∀e∈es,okE n e) (h:Bfs n es t out q) (ha:0≤a∧a<n) (ha0:0≤gI out a) (hq:∀y∈q,gI out a≤gI out y)
 (hn:∀y,0≤y→y<n→gI out y≤gI out a+1) (hadj:Adj es a x) (hx:gI out x<0) :
 Bfs n es t (out.set x.toNat (gI out a+1)) (q++[x])∧und (out.set x.toNat (gI out a+1))+1=und out:=by
 have hok:=hadj.ok ho
 have hxl:x<(out.length:Int):=by rw[h.len];omega
 have hg:∀y,0≤y→y<n→gI (out.set x.toNat (gI out a+1)) y=if x=y then gI out a+1 else gI out y:=fun y h0 h1=>jfg (by omega) h0 (by rw[h.len];omega)
 have hxt:x≠t:=fun e=>by rw[e,h.src] at hx;omega
 refine⟨⟨by simp[h.len],h.t0,by rw[hg t h.t0.1 h.t0.2,if_neg hxt];exact h.src,fun y h0 h1=>?_,fun y h0 h1 hy=>?_,fun y hy=>?_,?_,fun b hb y h0 h1=>?_,fun y h0 h1=>?_⟩,jvp (by omega) hx (by omega)⟩
 ·rw[hg y h0 h1];have:=h.low y h0 h1;split<;>omega
 ·rw[hg y h0 h1] at hy ⊢
  split
  ·rename_i e;subst e
   rw[show(gI out a+1).toNat=(gI out a).toNat+1 by omega]
   exact .inr ⟨a,h.reach a ha.1 ha.2 ha0,hadj⟩
  ·rename_i e;rw[if_neg e] at hy;exact h.reach y h0 h1 hy
 ·rcases List.mem_append.1 hy with hy|hy
  ·have:=h.que y hy
   refine⟨this.1,this.2.1,?_⟩
   rw[hg y this.1 this.2.1];split<;>omega
  ·rw[List.mem_singleton.1 hy,hg x (by omega) (by omega),if_pos rfl];omega
 ·rw[List.pairwise_append]
  refine⟨?_,by simp,fun b hb c hc=>?_⟩
  ·refine List.Pairwise.imp_of_mem (fun {b c} hb hc hbc=>?_) h.sorted
   have hb':=h.que b hb
   have hc':=h.que c hc
   have nb:x≠b:=fun e=>by rw[←e] at hb';omega
   have nc:x≠c:=fun e=>by rw[←e] at hc';omega
   rw[hg b hb'.1 hb'.2.1,hg c hc'.1 hc'.2.1,if_neg nb,if_neg nc];exact hbc
  ·have hb':=h.que b hb
   have nb:x≠b:=fun e=>by rw[←e] at hb';omega
   rw[List.mem_singleton.1 hc,hg b hb'.1 hb'.2.1,hg x (by omega) (by omega),if_neg nb,if_pos rfl]
   exact hn b hb'.1 hb'.2.1
 ·have key:∀z,0≤z→z<n→gI (out.set x.toNat (gI out a+1)) z≤gI out a+1:=fun z h0 h1=>by
   rw[hg z h0 h1];have:=hn z h0 h1;split<;>omega
  have hb2:gI out a≤gI (out.set x.toNat (gI out a+1)) b:=by
   rcases List.mem_append.1 hb with hb|hb
   ·have hb':=h.que b hb
    rw[hg b hb'.1 hb'.2.1];have:=hq b hb;split<;>omega
   ·rw[List.mem_singleton.1 hb,hg x (by omega) (by omega),if_pos rfl];omega
  have:=key y h0 h1
  omega
 ·have hu:=jvp (v:=gI out a+1) (show x.toNat<out.length by omega) hx (by omega)
  rw[hg y h0 h1]
  have h1':=h.top a ha.1 ha.2
  have h2':=h.top y h0 h1
  split<;>omega
theorem j37 {n:Int} {out:List Int} {x v:Int} (hl:out.length=n.toNat) (hx0:0≤x) (hx:gI out x<0) {y:Int} (h0:0≤y) (h1:y<n) (hy:0≤gI out y):gI (out.set x.toNat v) y=gI out y:=by
 rw[jfg hx0 h0 (by omega),if_neg fun e=>by rw[e] at hx;omega]
structure BfsAt (n:Int) (es:List (Int×Int)) (t a:Int) (i:Nat) (out q:List Int):Prop where
 bfs:Bfs n es t out q
 a0:0≤a∧a<n∧0≤gI out a
 hq:∀y∈q,gI out a≤gI out y
 hn:∀y,0≤y→y<n→gI out y≤gI out a+1
 done:Done n es out (fun x=>x∈q∨x=a)
 seen:∀y∈(nbS a es).take i,0≤gI out y∧gI out y≤gI out a+1
theorem BfsAt.start {n:Int} {es:List (Int×Int)} {t a:Int} {out q:List Int} (h:Bfs n es t out (a::q)) (hd:Done n es out (·∈a::q)):BfsAt n es t a 0 out q:=by
 have ha:=h.que a (by simp)
 have hs:=h.sorted
 rw[List.pairwise_cons] at hs
 refine⟨⟨h.len,h.t0,h.src,h.low,h.reach,fun x hx=>h.que x (by simp[hx]),hs.2,fun b hb=>h.near b (by simp[hb]),h.top⟩,ha,hs.1,fun y=>h.near a (by simp) y,fun x h0 h1 hx hex=>hd x h0 h1 hx fun hm=>hex ?_,by simp⟩
 rcases List.mem_cons.1 hm with e|e
 ·exact .inr e
 ·exact .inl e
theorem BfsAt.find {n:Int} {es:List (Int×Int)} {t a:Int} {i:Nat} {out q:List Int} (ho:∀e∈es,okE n e) (h:BfsAt n es t a i out q) (hi:i<(nbS a es).length) (hx:gI out ((nbS a es).getD i 0)<0) :
 BfsAt n es t a (i+1) (out.set ((nbS a es).getD i 0).toNat (gI out a+1)) (q++[(nbS a es).getD i 0])∧und (out.set ((nbS a es).getD i 0).toNat (gI out a+1))+1=und out:=by
 have hadj:=(ja8 ho).1 (jab (d:=0) hi)
 have htk:(nbS a es).take (i+1)=(nbS a es).take i++[(nbS a es).getD i 0]:=by rw[List.take_add_one];simp[hi]
 generalize (nbS a es).getD i 0=x at *
 have hok:=hadj.ok ho
 obtain⟨h1,h2⟩:=h.bfs.find ho ⟨h.a0.1,h.a0.2.1⟩ h.a0.2.2 h.hq h.hn hadj hx
 have hkeep:∀y,0≤y→y<n→0≤gI out y→gI (out.set x.toNat (gI out a+1)) y=gI out y:=fun y g0 g1 g2=>j37 h.bfs.len (by omega) hx g0 g1 g2
 have hnew:gI (out.set x.toNat (gI out a+1)) x=gI out a+1:=by rw[jfg (by omega) (by omega) (by have:=h.bfs.len;omega),if_pos rfl]
 have hany:∀y,0≤y→y<n→gI (out.set x.toNat (gI out a+1)) y=if x=y then gI out a+1 else gI out y:=fun y g0 g1=>jfg (by omega) g0 (by have:=h.bfs.len;omega)
 have ha:=hkeep a h.a0.1 h.a0.2.1 h.a0.2.2
 refine⟨⟨h1,⟨h.a0.1,h.a0.2.1,by rw[ha];exact h.a0.2.2⟩,fun y hy=>?_,fun y g0 g1=>?_,fun z g0 g1 hz hex y hy=>?_,fun y hy=>?_⟩,h2⟩
 ·rw[ha]
  rcases List.mem_append.1 hy with hy|hy
  ·have:=h.bfs.que y hy
   rw[hkeep y this.1 this.2.1 this.2.2];exact h.hq y hy
  ·rw[List.mem_singleton.1 hy,hnew];omega
 ·rw[ha,hany y g0 g1]
  have:=h.hn y g0 g1
  split<;>omega
 ·have hzx:x≠z:=fun e=>hex (.inl (by simp[e]))
  rw[hany z g0 g1,if_neg hzx] at hz ⊢
  have:=h.done z g0 g1 hz (fun h'=>hex (h'.elim (fun h'=>.inl (by simp[h'])) .inr)) y hy
  have hyk:=hy.ok ho
  rw[hkeep y (by omega) (by omega) this.1]
  exact this
 ·rw[ha]
  rw[htk] at hy
  rcases List.mem_append.1 hy with hy|hy
  ·have:=h.seen y hy
   have hyk:=((ja8 ho).1 (List.mem_of_mem_take hy)).ok ho
   rw[hkeep y (by omega) (by omega) this.1];exact this
  ·rw[List.mem_singleton.1 hy,hnew];have:=h.a0.2.2;omega
theorem BfsAt.skip {n:Int} {es:List (Int×Int)} {t a:Int} {i:Nat} {out q:List Int} (ho:∀e∈es,okE n e) (h:BfsAt n es t a i out q) (hi:i<(nbS a es).length) (hx:0≤gI out ((nbS a es).getD i 0)):BfsAt n es t a (i+1) out q:=by
 have hadj:=(ja8 ho).1 (jab (d:=0) hi)
 have hok:=hadj.ok ho
 refine⟨h.bfs,h.a0,h.hq,h.hn,h.done,fun y hy=>?_⟩
 have htk:(nbS a es).take (i+1)=(nbS a es).take i++[(nbS a es).getD i 0]:=by rw[List.take_add_one];simp[hi]
 rw[htk] at hy
 rcases List.mem_append.1 hy with hy|hy
 ·exact h.seen y hy
 ·rw[List.mem_singleton.1 hy];exact⟨hx,h.hn _ (by omega) (by omega)⟩
theorem BfsAt.stop {n:Int} {es:List (Int×Int)} {t a:Int} {i:Nat} {out q:List Int} (ho:∀e∈es,okE n e) (h:BfsAt n es t a i out q) (hi:(nbS a es).length≤i):Bfs n es t out q∧Done n es out (·∈q):=by
 refine⟨h.bfs,fun x h0 h1 hx hex y hy=>?_⟩
 by_cases hxa:x=a
 ·subst hxa
  have:=h.seen y (by rw[jac hi];exact(ja8 ho).2 hy)
  exact this
 ·exact h.done x h0 h1 hx (fun h'=>h'.elim hex hxa) y hy
open Classical in
noncomputable def dst (n:Int) (es:List (Int×Int)) (t x:Int):Int:=if Conn es t x then(((List.range (n.toNat+1)).find? fun k=>decide (Rk es t k x)).getD 0:Nat) else -1
open Classical in
theorem j3j {n:Int} {es:List (Int×Int)} {t x:Int} {k:Nat} (hk:Rk es t k x) (hm:∀j,Rk es t j x→k≤j) (ho:∀e∈es,okE n e) (hn:0≤n):dst n es t x=k:=by
 unfold dst
 rw[if_pos hk.conn]
 have ho':∀e∈es,okE ((n.toNat:Nat):Int) e:=fun e he=>by have:=ho e he;unfold okE at this ⊢;omega
 have hle:=hm _ (Rk.all ho' hk.conn)
 have:(List.range (n.toNat+1)).find? (fun k=>decide (Rk es t k x))=some k:=by
  rw[List.find?_range_eq_some]
  refine⟨by simpa using hk,List.mem_range.2 (by omega),fun j hj=>?_⟩
  have:¬Rk es t j x:=fun h=>by have:=hm j h;omega
  simp[this]
 rw[this];rfl
open Classical in
theorem jbu {n:Int} {es:List (Int×Int)} {t x:Int} (ho:∀e∈es,okE n e) (hc:Conn es t x):0≤dst n es t x∧Rk es t (dst n es t x).toNat x∧∀j,Rk es t j x→dst n es t x≤j:=by
 unfold dst
 rw[if_pos hc]
 have ho':∀e∈es,okE ((n.toNat:Nat):Int) e:=fun e he=>by have:=ho e he;unfold okE at this ⊢;omega
 have hall:=Rk.all ho' hc
 cases hf:(List.range (n.toNat+1)).find? (fun k=>decide (Rk es t k x)) with
 | none=>
  rw[List.find?_eq_none] at hf
  exact absurd hall (by simpa using hf n.toNat (by simp))
 | some k=>
  rw[List.find?_range_eq_some] at hf
  obtain⟨h1,h2,h3⟩:=hf
  refine⟨by omega,by simpa using h1,fun j hj=>?_⟩
  simp only[Option.getD_some]
  refine Int.ofNat_le.2 (Nat.le_of_not_lt fun hlt=>?_)
  have:=h3 j hlt
  simp[hj] at this
noncomputable def dstL (n:Int) (es:List (Int×Int)) (t:Int):List Int:=(iota n).map fun x=>dst n es t x
theorem jdj {n:Int} {es:List (Int×Int)} {t x:Int} (h0:0≤x) (h1:x<n):gI (dstL n es t) x=dst n es t x:=by
 unfold gI dstL iota
 have:x.toNat<n.toNat:=by omega
 simp[this,Int.toNat_of_nonneg h0]
theorem jds {n:Int} {es:List (Int×Int)} {t:Int}:(dstL n es t).length=n.toNat:=by simp[dstL,iota]
theorem j49 {l r:List Int} {n:Int} (hl:l.length=n.toNat) (hr:r.length=n.toNat) (h:∀x,0≤x→x<n→gI l x=gI r x):l=r:=by
 refine List.ext_getElem (by omega) fun i h1 h2=>?_
 have:=h (i:Int) (by omega) (by omega)
 unfold gI at this
 simpa[h1,h2] using this
theorem Bfs.end {n:Int} {es:List (Int×Int)} {t:Int} {out:List Int} (ho:∀e∈es,okE n e) (h:Bfs n es t out []) (hd:Done n es out (·∈([]:List Int))):out=dstL n es t:=by
 have key:∀(k:Nat) (x:Int),Rk es t k x→0≤x∧x<n∧0≤gI out x∧gI out x≤k:=by
  intro k
  induction k with
  | zero=>intro x hx;cases hx;exact⟨h.t0.1,h.t0.2,by rw[h.src];omega,by rw[h.src];omega⟩
  | succ k ih=>
   intro x hx
   rcases hx with hx | ⟨z,hz,ha⟩
   ·have:=ih x hx;omega
   ·have h1:=ih z hz
    have h2:=hd z h1.1 h1.2.1 h1.2.2.1 (by simp) x ha
    have h3:=ha.ok ho
    omega
 refine j49 h.len jds fun x h0 h1=>?_
 rw[jdj h0 h1]
 by_cases hx:0≤gI out x
 ·have hr:=h.reach x h0 h1 hx
  rw[j3j hr (fun j hj=>by have:=(key j x hj).2.2.2;omega) ho (by have:=h.t0;omega)]
  omega
 ·have hlow:=h.low x h0 h1
  have:¬Conn es t x:=fun hc=>by
   have ho':∀e∈es,okE ((n.toNat:Nat):Int) e:=fun e he=>by have:=ho e he;unfold okE at this ⊢;omega
   have:=(key _ x (Rk.all ho' hc)).2.2.1
   omega
  unfold dst
  rw[if_neg this];omega
def nxtN (es:List (Int×Int)) (far:List Int) (x:Int):Int:=((nbS x es).find? fun y=>decide (gI far y=gI far x-1)).getD x
def gpath (es:List (Int×Int)) (far:List Int):Nat→Int→List Int
 | 0,x=>[x]
 | k+1,x=>x::gpath es far k (nxtN es far x)
noncomputable def jb2 (n:Int) (es:List (Int×Int)) (x y:Int):List Int:=gpath es (dstL n es y) (dst n es y x).toNat x
theorem j3x {l:List Int} {p:Int→Bool} {i:Nat} (h:i<l.length) (hp:p (l.getD i 0)=true) (hn:∀e∈l.take i,p e=false):l.find? p=some (l.getD i 0):=by
 rw[List.find?_eq_some_iff_append]
 have e1:l.getD i 0=l[i]:=by simp[h]
 refine⟨hp,l.take i,l.drop (i+1),?_,fun a ha=>by simpa using hn a ha⟩
 rw[e1,List.getElem_cons_drop,List.take_append_drop]
theorem jkg {n:Int} {es:List (Int×Int)} {t:Int} (ho:∀e∈es,okE n e) (hn:0≤n):dst n es t t=0:=j3j (k:=0) rfl (fun _ _=>Nat.zero_le _) ho hn
theorem jh8 {n:Int} {es:List (Int×Int)} {t x:Int} (ho:∀e∈es,okE n e) (hc:Conn es t x) (h:dst n es t x=0):x=t:=by
 have:=(jbu ho hc).2.1
 rw[h] at this
 exact this
theorem jpm {n:Int} {es:List (Int×Int)} {t x:Int} (ho:∀e∈es,okE n e) (hn:0≤n) (hc:Conn es t x) (h:dst n es t x≠0):∃z,Adj es x z∧dst n es t z=dst n es t x-1:=by
 obtain⟨h0,h1,h2⟩:=jbu ho hc
 obtain⟨k,hk⟩:∃k:Nat,(dst n es t x).toNat=k+1:=⟨(dst n es t x).toNat-1,by omega⟩
 rw[hk] at h1
 rcases h1 with h1 | ⟨z,hz,ha⟩
 ·have:=h2 k h1;omega
 ·refine⟨z,ha.symm,?_⟩
  rw[j3j hz (fun j hj=>?_) ho hn]
  ·omega
  ·have:=h2 (j+1) (.inr ⟨z,hj,ha⟩);omega
theorem j3i {n:Int} {es:List (Int×Int)} {t x y:Int} (ho:∀e∈es,okE n e) (hc:Conn es t x) (ha:Adj es x y):dst n es t y≤dst n es t x+1:=by
 obtain⟨h0,h1,h2⟩:=jbu ho hc
 have:=(jbu ho (hc.step ha)).2.2 ((dst n es t x).toNat+1) (.inr ⟨x,h1,ha⟩)
 omega
theorem jl8 {n:Int} {es:List (Int×Int)} {t x:Int} (ho:∀e∈es,okE n e) (hn:0≤n) (hc:Conn es t x) (h:dst n es t x≠0) :
 nxtN es (dstL n es t) x∈nbS x es∧dst n es t (nxtN es (dstL n es t) x)=dst n es t x-1∧(∀z,(nbS x es).find? (fun y=>decide (gI (dstL n es t) y=gI (dstL n es t) x-1))=some z→nxtN es (dstL n es t) x=z)∧
  ∃z,(nbS x es).find? (fun y=>decide (gI (dstL n es t) y=gI (dstL n es t) x-1))=some z:=by
 obtain⟨z,ha,hz⟩:=jpm ho hn hc h
 have hzm:=(ja8 ho).2 ha
 have hok:=ha.ok ho
 cases hf:(nbS x es).find? (fun y=>decide (gI (dstL n es t) y=gI (dstL n es t) x-1)) with
 | none=>
  rw[List.find?_eq_none] at hf
  exact absurd (show gI (dstL n es t) z=gI (dstL n es t) x-1 by rw[jdj (by omega) (by omega),jdj (by omega) (by omega),hz]) (by simpa using hf z hzm)
 | some u=>
  have hu:=List.mem_of_find?_eq_some hf
  have hp:=List.find?_some hf
  simp only[decide_eq_true_eq] at hp
  have hok':=((ja8 ho).1 hu).ok ho
  rw[jdj (by omega) (by omega),jdj (by omega) (by omega)] at hp
  have hnx:nxtN es (dstL n es t) x=u:=by unfold nxtN;rw[hf];rfl
  rw[hnx]
  exact⟨hu,hp,fun z hz=>Option.some.inj hz,u,rfl⟩
end Go.Proofs.YtnaaceooknghjaaGreatDoor.X
