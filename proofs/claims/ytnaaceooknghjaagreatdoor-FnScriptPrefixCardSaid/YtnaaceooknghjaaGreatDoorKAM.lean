/- What functions answer, and the plain laws behind it. -/
import Derived.Test.YtnaaceooknghjaaGreatDoorKAJ
import Derived.Lib.AtoiTie
import Derived.Lib.ItoaNum
import Derived.Test.YtnaaceooknghjaaGreatDoorKAE
import Derived.Test.YtnaaceooknghjaaGreatDoorC46
import Derived.Test.YtnaaceooknghjaaGreatDoorKAD
import Derived.Test.YtnaaceooknghjaaGreatDoorC83
import Derived.Test.YtnaaceooknghjaaGreatDoorKAH
import Derived.Test.YtnaaceooknghjaaGreatDoorKAL
set_option linter.unusedSimpArgs false
set_option linter.unusedVariables false
set_option maxHeartbeats 16000000
set_option maxRecDepth 100000
namespace Go.Proofs.YtnaaceooknghjaaGreatDoor.X
open Go Go.Proofs Tryz
theorem jt2 (l:List UInt8) (c:UInt8) (n:Int) (hl:l.length≤1000000) (hn:1≤n∧n≤1000) :
 ∃(ws:List (List UInt8)) (k:Nat),(1≤ws.length∧(ws.length:Int)≤n∧∀w∈ws,w.length≤l.length)∧KP 23 [S l,S [c],I 0,I n] []=some (.ref 2000 0 0 ws.length,[],[.arr 0 1 (splA ws k)]):=by
 obtain⟨n1,n2⟩:=hn
 suffices hgoal:∃res,(∃(ws:List (List UInt8)) (k:Nat),(1≤ws.length∧(ws.length:Int)≤n∧∀w∈ws,w.length≤l.length)∧res=(.ref 2000 0 0 ws.length,[],[.arr 0 1 (splA ws k)]))∧KP 23 [S l,S [c],I 0,I n] []=some res by
  obtain⟨res,⟨ws,k,h1,rfl⟩,h3⟩:=hgoal
  exact⟨ws,k,h1,h3⟩
 obtain⟨N,hN1,hN2,hN3⟩:∃N:Nat,min n (l.length+1)=(N:Int)∧1≤N∧(N:Int)≤n:=⟨(min n (l.length+1)).toNat,by omega,by omega,by omega⟩
 have hrep:List.replicate N zS=splA [] N:=by simp[splA]
 have hsp:∀d k,(splA d k).length=d.length+k:=jkp
 refine ge func23 ?_
 have Fz:=fz3 results23 hN1 hrep
 repeat refine go1 ?_
 refine jaa (fun(x:List (List UInt8)×List UInt8) s=>s.m 31=some (.arr 0 1 (splA x.1 (N-x.1.length)))∧s.ρ 9=.ref 31 0 0 N∧s.ρ 10=I x.1.length∧s.ρ 0=S x.2∧s.ρ 1=S [c]∧s.ρ 2=I 0∧s.ρ 3=I (N-1)∧x.1.length+1≤N∧x.2.length≤l.length∧∀w∈x.1,w.length≤l.length) (fun x=>N-x.1.length) ([],l) ?_ ?_
 ·refine⟨?_,?_,rfl,rfl,rfl,rfl,?_,by simp;omega,Nat.le_refl _,by simp⟩
  all_goals(simp[upd];done)
 rintro⟨d,s⟩ ⟨ρ,m⟩ ⟨m31,h9,h10,h0,h1,h2,h3,g1,g2,g3⟩
 simp only at m31 h9 h10 h0 h1 h2 h3 g1 g2 g3
 have hk:0<N-d.length:=by omega
 have hset:∀t:List UInt8,(splA d (N-d.length)).set d.length [.v (.string ⟨t.toArray⟩)]=splA (d++[t]) (N-d.length-1):=fun t=>jyb hk
 obtain⟨e0,hget⟩:=jya (d:=d) hk
 have hdl:d.length<(splA d (N-d.length)).length:=by rw[jkp];omega
 have hix:=jxn (c:=c) (l:=s)
 have hend:∀w∈d++[s],w.length≤l.length:=fun w hw=>by
  rcases List.mem_append.1 hw with h|h
  ·exact g3 w h
  ·rw[List.mem_singleton.1 h];exact g2
 by_cases hd:(d.length:Int)<N-1
 ·by_cases hi:ixB c s<0
  ·have Fz:=fz11 results23 m31 h9 h10 h0 h1 h2 h3 hset hget hsp
   repeat refine go1 ?_
   exact⟨d++[s],by simp,by rw[List.length_append];simp only[List.length_cons,List.length_nil];omega,hend,by rw[List.length_append];simp only[List.length_cons,List.length_nil];omega,_,rfl⟩
  ·obtain⟨k,hk0⟩:=Int.eq_ofNat_of_zero_le (show 0≤ixB c s by omega)
   have hci:=j1n s c (by omega)
   rw[hk0] at hix hci
   have Fz:=fz12 results23 m31 h9 h10 h0 h1 h2 h3 hset hget hsp hci
   repeat refine go1 ?_
   have e1:((k:Int)+0).toNat=k:=by omega
   have e2:((k:Int)+1).toNat=k+1:=by omega
   rw[e1,e2]
   have ht:(s.drop (k+1)).take (s.length-(k+1))=s.drop (k+1):=List.take_of_length_le (by simp)
   rw[ht]
   refine⟨d++[s.take k],by rw[List.length_append,Nat.sub_sub];rfl,by simp,s.drop (k+1),rfl,?_,?_,?_,?_⟩
   ·rw[List.length_append];simp only[List.length_cons,List.length_nil];omega
   ·rw[List.length_drop];omega
   ·intro w hw
    rcases List.mem_append.1 hw with h|h
    ·exact g3 w h
    ·rw[List.mem_singleton.1 h,List.length_take];omega
   ·rw[List.length_append];simp only[List.length_cons,List.length_nil];omega
 ·have Fz:=fz11 results23 m31 h9 h10 h0 h1 h2 h3 hset hget hsp
  repeat refine go1 ?_
  exact⟨d++[s],by simp,by rw[List.length_append];simp only[List.length_cons,List.length_nil];omega,hend,by rw[List.length_append];simp only[List.length_cons,List.length_nil];omega,_,rfl⟩
theorem j1q (l:List UInt8) (c:UInt8) (n:Int) (hl:l.length≤1000000) (hn:1≤n∧n≤1000) :
 ∃ws:List (List UInt8),(1≤ws.length∧(ws.length:Int)≤n∧∀w∈ws,w.length≤l.length)∧KP 128 [S l,S [c],I n] []=some (.i (.lst (ws.map encS)),[],[]):=by
 obtain⟨ws,k,h,hg⟩:=jt2 l c n hl hn
 have ht:(splA ws k).take ws.length=ws.map encS:=by
  unfold splA
  rw[List.take_left' (by simp)]
 refine⟨ws,h,gc func128 ?_⟩
 have Fz:=fz3 results128 hg ht
 repeat(first|exact trivial|refine go1 ?_)
def numW (l:List UInt8):Option Nat:=if l.length≤17∧(l.head?≠some 48∨l.length=1) then Lib.decNat l else none
theorem je4:∀(l r:List UInt8) (acc:Nat),Lib.decFrom acc (l++r)=(Lib.decFrom acc l).bind fun a=>Lib.decFrom a r
 | [],r,acc=>rfl
 | b::l,r,acc=>by
  simp only[List.cons_append,Lib.decFrom]
  cases Lib.digitVal b with
  | none=>rfl
  | some d=>exact je4 l r _
theorem jh6 {b:UInt8} {d:Nat} (h:Lib.digitVal b=some d):d<10∧UInt8.ofNat (48+d)=b:=by
 obtain⟨h1,h2,h3⟩:=Lib.digitVal_eq h
 refine⟨by omega,?_⟩
 have e:48+d=b.toNat:=by omega
 rw[e]
 exact UInt8.ofNat_toNat
theorem jlf {d:Nat} (h:d<10):Lib.digitVal (UInt8.ofNat (48+d))=some d:=by
 have e:(UInt8.ofNat (48+d)).toNat=48+d:=by simp[UInt8.toNat_ofNat'];omega
 unfold Lib.digitVal
 rw[e,if_pos (by omega)]
 congr 1;omega
theorem jjp (k:Nat):Lib.decDigits k≠[]:=by
 rw[Lib.decDigits]
 split<;>simp
theorem jep (k:Nat):Lib.decFrom 0 (Lib.decDigits k)=some k:=by
 induction k using Nat.strongRecOn with
 | _ k ih=>
  rw[Lib.decDigits]
  split
  ·rename_i h
   unfold Lib.decFrom
   rw[jlf h]
   simp[Lib.decFrom]
  ·rename_i h
   rw[je4,ih (k / 10) (by omega)]
   simp only[Option.bind_some,Lib.decFrom,jlf (show k % 10<10 by omega)]
   congr 1;omega
theorem jff (k:Nat):Lib.decNat (Lib.decDigits k)=some k:=by
 unfold Lib.decNat
 rw[if_neg (by simpa using jjp k)]
 exact jep k
theorem jm4 {k:Nat} (h:0<k):(Lib.decDigits k).head?≠some 48:=by
 induction k using Nat.strongRecOn with
 | _ k ih=>
  rw[Lib.decDigits]
  split
  ·rename_i h1
   intro e
   simp only[List.head?_cons,Option.some.injEq] at e
   have:=congrArg UInt8.toNat e
   simp[UInt8.toNat_ofNat'] at this
   omega
  ·rename_i h1
   have hne:=jjp (k / 10)
   rw[List.head?_append]
   have:=ih (k / 10) (by omega) (by omega)
   cases hq:(Lib.decDigits (k / 10)).head? with
   | none=>rw[List.head?_eq_none_iff] at hq;exact absurd hq hne
   | some x=>rw[hq] at this;simpa using this
theorem jna {k:Nat} (h:(Lib.decDigits k).length≤17):numW (Lib.decDigits k)=some k:=by
 unfold numW
 rw[if_pos,jff]
 refine⟨h,?_⟩
 by_cases hk:k=0
 ·right;subst hk;rw[Lib.decDigits];rfl
 ·left;exact jm4 (by omega)
theorem jgx:∀(m:Nat) (l:List UInt8) (n:Nat),l.length=m→l≠[]→Lib.decFrom 0 l=some n→(l.head?≠some 48∨l.length=1)→Lib.decDigits n=l:=by
 intro m
 induction m with
 | zero=>intro l n hl hne;exact absurd (List.length_eq_zero_iff.1 hl) hne
 | succ m ih=>
  intro l n hl hne h hc
  rw[←List.dropLast_concat_getLast hne] at h ⊢
  have hpl:l.dropLast.length=m:=by simp[hl]
  generalize hb:l.getLast hne=b at *
  by_cases hp:l.dropLast=[]
  ·rw[hp] at h ⊢
   simp only[List.nil_append,Lib.decFrom] at h ⊢
   cases hd:Lib.digitVal b with
   | none=>rw[hd] at h;cases h
   | some d=>
    rw[hd] at h
    obtain⟨d1,d2⟩:=jh6 hd
    simp only[Option.some.injEq] at h
    have e:n=d:=by omega
    subst e
    rw[Lib.decDigits_one d1,d2]
  ·rw[je4] at h
   cases hq:Lib.decFrom 0 l.dropLast with
   | none=>rw[hq] at h;cases h
   | some a=>
    rw[hq] at h
    simp only[Option.bind_some,Lib.decFrom] at h
    cases hd:Lib.digitVal b with
    | none=>rw[hd] at h;cases h
    | some d=>
     rw[hd] at h
     obtain⟨d1,d2⟩:=jh6 hd
     simp only[Option.some.injEq] at h
     have hh:l.head?≠some 48:=by
      rcases hc with hc|hc
      ·exact hc
      ·have:l.dropLast.length=0:=by simp[hc]
       exact absurd (List.length_eq_zero_iff.1 this) hp
     have hh2:l.dropLast.head?≠some 48:=by
      cases l with
      | nil=>exact absurd rfl hne
      | cons x r=>
       cases r with
       | nil=>exact absurd rfl hp
       | cons y r=>simpa using hh
     have hi:=ih l.dropLast a hpl hp hq (.inl hh2)
     have ha:0<a:=by
      rcases Nat.eq_zero_or_pos a with h0|h0
      ·subst h0
       rw[←hi,Lib.decDigits_one (by omega)] at hh2
       exact absurd rfl hh2
      ·exact h0
     rw[Lib.decDigits,dif_neg (by omega)]
     have e1:n / 10=a:=by omega
     have e2:n % 10=d:=by omega
     rw[e1,e2,d2,hi]
theorem jig {l:List UInt8} {k:Nat} (h:numW l=some k):l.length≤17∧Lib.decDigits k=l∧l≠[]:=by
 unfold numW at h
 split at h
 ·rename_i hc
  obtain⟨h1,h2⟩:=Lib.decNat_some h
  exact⟨hc.1,jgx _ l k rfl h1 h2 hc.2,h1⟩
 ·cases h
theorem j5i {l:List UInt8} {k:Nat} (h:numW l=some k):Lib.atoi l=some (k:Int):=by
 obtain⟨h1,h2,h3⟩:=jig h
 have hn:Lib.decNat l=some k:=by rw[←h2,jff]
 cases l with
 | nil=>exact absurd rfl h3
 | cons b r=>
  have hd:∃d,Lib.digitVal b=some d:=by
   have:=(Lib.decNat_some hn).2
   simp only[Lib.decFrom] at this
   cases hq:Lib.digitVal b with
   | none=>rw[hq] at this;cases this
   | some d=>exact⟨d,rfl⟩
  obtain⟨d,hd⟩:=hd
  obtain⟨d1,d2,-⟩:=Lib.digitVal_eq hd
  unfold Lib.atoi
  simp only
  rw[if_neg,if_neg,hn]
  ·rfl
  ·intro e;have:=eq_of_beq e;subst this;simp at d1
  ·intro e;have:=eq_of_beq e;subst this;simp at d1
theorem kdg {l:List UInt8} {k:Nat} (h:numW l=some k):k<100000000000000000:=by
 obtain⟨h1,h2,h3⟩:=jig h
 have:=jep k
 rw[h2] at this
 have e:l.take l.length=l:=List.take_length
 rw[←e] at this
 exact Lib.decFrom_take_lt this h1
theorem jsl {l:List UInt8} {v:Int} (h0:0≤v) (hl:l.length≤17) (h:Lib.itoa v=l):numW l=some v.toNat:=by
 unfold Lib.itoa at h
 rw[if_neg (by omega)] at h
 rw[←h]
 exact jna (by rw[h];exact hl)
theorem j0e {l:List UInt8} {k:Nat} (h:numW l=some k):Lib.itoa (k:Int)=l:=by
 unfold Lib.itoa
 rw[if_neg (by omega),Int.toNat_natCast]
 exact(jig h).2.1
abbrev Op3:=Int×Int×Int
def opE (o:Op3):Int×Int:=o.2
noncomputable def opS (n:Int) (es:List (Int×Int)) (o:Op3):Option (List (Int×Int)):=
 if o.1=1 then(if jfl n es o.2 then some (putE o.2 es) else none)
 else if o.1=2 then(if o.2∈es then some (cutE o.2 es) else none)
 else if o.1=3 then(if 0≤o.2.1∧o.2.1<o.2.2∧o.2.2<n then some es else none) else none
noncomputable def runS (n:Int) (ops:List Op3):Option (List (Int×Int)):=ops.foldl (fun s o=>s.bind fun es=>opS n es o) (some [])
theorem VG.put {n:Int} {es:List (Int×Int)} {e:Int×Int} (h:jfl n es e):VG n (putE e es):=h.2.2
abbrev Lf:=(Int×Int)×Int×Int
def endE (ops:List Op3) (i:Nat) (e:Int×Int):Nat:=i+1+(ops.drop (i+1)).findIdx fun o=>decide (o=(2,e))
def livesS (ops:List Op3):List Lf:=(List.range ops.length).flatMap fun(i:Nat)=>match ops[i]? with|some (k,e)=>if k=1 then [(e,(i:Int),(endE ops i e:Int))] else [] | none=>[]
def atL (t:Int) (l:Lf):Bool:=decide (l.2.1≤t∧t<l.2.2)
def ker (lvs:List Lf) (t:Int):List (Int×Int):=(lvs.filter (atL t)).map (·.1)
def covS (lo hi:Int) (l:Lf):Bool:=decide (l.2.1≤lo∧hi≤l.2.2)
def leftS (lo hi:Int) (l:Lf):Bool:=!covS lo hi l && decide (l.2.1<hi∧lo<l.2.2)
noncomputable def ansS (ops:List Op3) (lvs:List Lf) (es:List (Int×Int)) (lo:Int) (k:Nat):List Bool:=(List.range k).flatMap fun(i:Nat)=>match ops[lo.toNat+i]? with|some (kd,a,b)=>if kd=3 then [decide (Conn (es++ker lvs (lo+i)) a b)] else [] | none=>[]
def workS (lvs:List Lf) (lo hi:Int):Int:=(lvs.map fun l=>kd8 (hi-lo).toNat lo hi l.2.1 l.2.2).sum
def encO (o:Op3):List IV:=[.v (.int .i64 o.1),.v (.int .i64 o.2.1),.v (.int .i64 o.2.2)]
abbrev LO (ops:List Op3):PV:=.i (.lst (ops.map encO))
theorem kib {ops:List Op3} {n:Nat}:(ops.map encO).take n=(ops.take n).map encO:=by simp
theorem khi {ops:List Op3} {n:Nat}:(ops.map encO).drop n=(ops.drop n).map encO:=by simp
theorem j9a {ops:List Op3}:(ops.map encO).all (fun e=>e.length == 3)=true:=by simp[encO]
attribute [go_sem] kib khi j9a
theorem EL.emp:EL .emp []:=⟨fun n=>by cases n<;>rfl,rfl⟩
noncomputable def stL (n:Int) (ops:List Op3) (i:Nat):List (Int×Int):=(runS n (ops.take i)).getD []
noncomputable def anR (n:Int) (ops:List Op3) (t:Nat):List Bool:=(List.range t).flatMap fun(i:Nat)=>if(ops.getD i (0,0,0)).1=3 then [decide (Conn (stL n ops i) (ops.getD i (0,0,0)).2.1 (ops.getD i (0,0,0)).2.2)] else []
noncomputable def roS (n:Int) (ops:List Op3):Option (List (Int×Int)):=if 1≤n∧n≤16∧ops.length≤64 then runS n ops else none
noncomputable def gaS (n:Int) (ops:List Op3) (t:Int):Option (List (Int×Int)):=if(roS n ops).isSome=true∧0≤t∧t≤ops.length then runS n (ops.take t.toNat) else none
theorem j2f (n a b k:Int) (ts:List Tl) (x0:List Int) (y0:List Bool) (hV:VG n (esT ts)) (hlv:∀t∈ts,0≤t.2.1∧t.2.1≤4) (ha:inN n a) (hb:inN n b) (hk:0≤k∧k≤4) (hx0:x0.length≤1) (hy0:y0.length≤1) :
 KP 145 [.ptr 1000 0 0 0,PE a b,I k] [boxL n (esT ts) ts.length,arrL (lvT ts++x0),arrT (trT ts++y0)]=
  some (.tup [I (jbp n a b k ts).2.1,B (jbp n a b k ts).2.2],[boxL n (esT ts) ts.length,arrL (lvT (jbp n a b k ts).1++x0),arrT (trT (jbp n a b k ts).1++y0)],[]):=by
 have hless:inN n (jdu n (abT ts k true) a b):=by unfold jdu;split<;>assumption
 exact jzf (S:=fun y=>Conn (abT ts k true) (jdu n (abT ts k true) a b) y) n a b k (jdu n (abT ts k true) a b) ts x0 y0 hV hlv ha hb hk hx0 hy0 rfl fun u hu=>by
  rw[j45 hu hless];exact⟨Conn.symm,Conn.symm⟩
theorem jgf {ts:List Tl} {e:Int×Int} (h:e∈esT ts):∃(k:Nat) (l:Int) (q:Bool),k<ts.length∧jco (esT ts) e=k∧ts.getD k dT=(e,l,q)∧ts=ts.take k++(e,l,q)::ts.drop (k+1):=by
 have hf:jco (esT ts) e=((esT ts).idxOf e:Int):=if_pos h
 have hlt0:=List.idxOf_lt_length_iff.2 h
 have h1:(esT ts)[(esT ts).idxOf e]?=some e:=by rw[List.getElem?_eq_getElem hlt0,List.getElem_idxOf]
 generalize (esT ts).idxOf e=k at *
 rw[jaq] at hlt0
 have h2:(esT ts)[k]?=(ts[k]?).map (·.1):=by simp[esT]
 rw[h2,List.getElem?_eq_getElem hlt0,Option.map_some,Option.some.injEq] at h1
 have h3:ts.getD k dT=ts[k]:=by rw[List.getD_eq_getElem?_getD,List.getElem?_eq_getElem hlt0,Option.getD_some]
 have h4:=List.drop_eq_getElem_cons hlt0
 have h5:=List.take_append_drop k ts
 rw[h4] at h5
 generalize ts[k]=t at *
 obtain⟨f,l,q⟩:=t
 simp only at h1
 subst h1
 exact⟨k,l,q,hlt0,hf,h3,h5.symm⟩
noncomputable def ctR (n:Int) (ts:List Tl) (e:Int×Int):List Tl×Int×Bool:=
 let k:=(jco (esT ts) e).toNat
 let t:=ts.getD k dT
 if t.2.2=true then cutR n e.1 e.2 (t.2.1+1).toNat (ts.take k++ts.drop (k+1)) else(ts.take k++ts.drop (k+1),0,false)
theorem j2z {n:Int} {ts:List Tl} {e:Int×Int} {k:Nat} {l:Int} {q:Bool} (hV:VG n (esT ts)) (h:ts=ts.take k++(e,l,q)::ts.drop (k+1)):esT (ts.take k++ts.drop (k+1))=cutE e (esT ts):=by
 have hn:=hV.nodup
 generalize ts.take k=p at *
 generalize ts.drop (k+1)=r at *
 subst h
 unfold esT at hn ⊢
 rw[List.map_append,List.map_cons] at hn
 rw[List.map_append,List.map_append,List.map_cons]
 rw[List.nodup_append,List.nodup_cons] at hn
 obtain⟨h1,⟨h2,h3⟩,h4⟩:=hn
 unfold cutE
 rw[List.filter_append,List.filter_cons]
 rw[if_neg (by simp)]
 have f1:(p.map (·.1)).filter (fun f=>decide (f≠e))=p.map (·.1):=List.filter_eq_self.2 fun f hf=>by
  have:=h4 f hf e (by simp)
  simpa using this
 have f2:(r.map (·.1)).filter (fun f=>decide (f≠e))=r.map (·.1):=List.filter_eq_self.2 fun f hf=>by
  simp only[decide_eq_true_eq]
  exact fun c=>h2 (c▸hf)
 rw[f1,f2]
theorem jhs (n a b:Int) (ts:List Tl) (hV:VG n (esT ts)) (hno:¬(LV n ts∧(a,b)∈esT ts)):KP 80 [LvP n ts,PE a b] []=some (.tup [.agg [I 0,.i .emp,.i .emp,.i .emp],I 0,B false,B false],[],[]):=by
 have hlv:=jck n ts hV
 have hel:=hV.2.2.1
 by_cases h:LV n ts
 ·rw[decide_eq_true h] at hlv
  have hm:(a,b)∉esT ts:=fun q=>hno ⟨h,q⟩
  have hh:=j7g n (esT ts) a b (by omega)
  rw[decide_eq_false hm] at hh
  refine gc func80 ?_
  have Fz:=fz3 results80 hlv hh
  repeat(first|exact trivial|refine go1 ?_)
 ·rw[decide_eq_false h] at hlv
  refine gc func80 ?_
  have Fz:=fz2 results80 hlv
  repeat(first|exact trivial|refine go1 ?_)
theorem kct (ts:List Tl) (k:Nat) (l:Int) (q:Bool) (e:Int×Int) (h:k<ts.length) (hg:ts.getD k dT=(e,l,q)):((lvT ts).map encI)[k]?=some [.v (.int .i64 l)]∧((trT ts).map encT)[k]?=some [.v (.bool q)]:=by
 rw[j8o ts k h,j4d ts k h,hg];exact⟨rfl,rfl⟩
theorem jyw (n a b:Int) (ts:List Tl) (hL:LV n ts) (hm:(a,b)∈esT ts) :
 KP 80 [LvP n ts,PE a b] []=some (.tup [.agg [I n,LE (cutE (a,b) (esT ts)),.ref 2000 0 0 (ts.length-1),.ref 2001 0 0 (ts.length-1)],I (ctR n ts (a,b)).2.1,B (ctR n ts (a,b)).2.2,B true],[],[arrL (lvT (ctR n ts (a,b)).1++[0]),arrT (trT (ctR n ts (a,b)).1++[false])]):=by
 have hV:=hL.vg
 have hlv:=jck n ts hV
 have hel:=hV.2.2.1
 have hn16:=hV.2.1
 rw[decide_eq_true hL] at hlv
 have hh:=j7g n (esT ts) a b (by omega)
 rw[decide_eq_true hm] at hh
 have l1:=jaq ts
 have l2:=jax ts
 have l3:=ja9 ts
 obtain⟨k,l,q,hk,hf,hg,hsp⟩:=jgf hm
 have hix:=jkc (esT ts) a b (by omega)
 rw[hf] at hix
 have hok:=hV.2.2.2.1 _ hm
 have ha:inN n a:=⟨hok.1,by have:=hok.2.1;have:=hok.2.2;simp only at *;omega⟩
 have hb:inN n b:=⟨by have:=hok.1;have:=hok.2.1;simp only at *;omega,hok.2.2⟩
 have hces:=j2z hV hsp
 have hcut:=khc n a b (esT ts) (by omega)
 have hdel:delE (fun e=>decide (e.1=a∧e.2=b)) (esT ts)=.lst ((cutE (a,b) (esT ts)).map encE):=by
  have hne:esT ts≠[]:=fun h=>by rw[h] at hm;simp at hm
  unfold delE
  rw[if_neg hne]
  congr 2
  unfold cutE
  refine List.filter_congr fun f _=>?_
  by_cases c:f=(a,b)
  ·subst c;simp
  ·have:¬(f.1=a∧f.2=b):=fun h=>c (Prod.ext h.1 h.2)
   simp[c,this]
 rw[hdel] at hcut
 have hlz:lvT ts≠[]:=fun h=>by rw[h] at l2;simp at l2;omega
 have htz:trT ts≠[]:=fun h=>by rw[h] at l3;simp at l3;omega
 have hci:=jv7 (lvT ts) hlz (by omega)
 have hct:=jv8 (trT ts) htz (by omega)
 have hdi:=ke8 (lvT ts) k (by omega) (by omega) (by omega)
 have hdt:=ke9 (trT ts) k (by omega) (by omega) (by omega)
 rw[Int.toNat_natCast] at hdi hdt
 have hlb:(lvT ts).take k++(lvT ts).drop (k+1)=lvT (ts.take k++ts.drop (k+1)):=by simp[lvT]
 have htb:(trT ts).take k++(trT ts).drop (k+1)=trT (ts.take k++ts.drop (k+1)):=by simp[trT]
 rw[hlb] at hdi
 rw[htb] at hdt
 obtain⟨hgl,hgt⟩:=kct ts k l q (a,b) hk hg
 have hct0:ctR n ts (a,b)=if q=true then cutR n a b (l+1).toNat (ts.take k++ts.drop (k+1)) else(ts.take k++ts.drop (k+1),0,false):=by
  unfold ctR
  rw[hf]
  simp only[Int.toNat_natCast]
  rw[hg]
 rw[hct0]
 have hbl:(ts.take k++ts.drop (k+1)).length=ts.length-1:=by simp;omega
 have hLb:=hL
 rw[hsp] at hLb
 generalize hbs:ts.take k++ts.drop (k+1)=bs at *
 rw[l2] at hci hdi
 rw[l3] at hct hdt
 cases q with
 | false=>
  rw[if_neg (by simp)]
  refine gc func80 ?_
  have Fz:=fz11 results80 hlv hh hix hcut hci hct hdi hdt hgl hgt
  repeat(first|exact trivial|refine go1 ?_)
 | true=>
  rw[if_pos rfl]
  have hMV:MV n bs a b l∧0≤l:=by
   have:=LV.cutT hLb
   rw[hbs] at this
   exact this
  have hl4:l≤4:=(hL.lv ((a,b),l,true) (by rw[hsp];simp)).2
  obtain⟨hMV,hl0⟩:=hMV
  have hlevel:∀cur:List Tl,∀j:Int,esT cur=cutE (a,b) (esT ts)→cur.length=ts.length-1→MV n cur a b j→0≤j→KP 145 [.ptr 1000 0 0 0,PE a b,I j] [boxL n (cutE (a,b) (esT ts)) (ts.length-1),arrL (lvT cur++[0]),arrT (trT cur++[false])]=
   some (.tup [I (jbp n a b j cur).2.1,B (jbp n a b j cur).2.2],[boxL n (cutE (a,b) (esT ts)) (ts.length-1),arrL (lvT (jbp n a b j cur).1++[0]),arrT (trT (jbp n a b j cur).1++[false])],[]):=fun cur j h1 h2 h3 h4=>by
   have:=j2f n a b j cur [0] [false] h3.vg h3.lv ha hb ⟨h4,h3.k4⟩ (by simp) (by simp)
   rw[h1,h2] at this
   exact this
  generalize hR:cutR n a b (l+1).toNat bs=R at *
  refine gc func80 ?_
  have Fz:=fz11 results80 hlv hh hix hcut hci hct hdi hdt hgl hgt
  repeat refine go1 ?_
  refine jaa (fun(w:Int×Int×Bool×List Tl) s=>s.m 9=some (.box 0 [I n,LE (cutE (a,b) (esT ts)),.ref 3288 0 0 (ts.length-1),.ref 3344 0 0 (ts.length-1)])∧s.m 3288=some (arrL (lvT w.2.2.2++[0]))∧s.m 3344=some (arrT (trT w.2.2.2++[false]))∧s.ρ 9=.ptr 9 0 0 0∧s.m 3=some (.box 0 [I a,I b])∧s.ρ 3=.ptr 3 0 0 0∧s.m 4=some (.box 0 [I 0,.i .emp,.i .emp,.i .emp])∧s.ρ 4=.ptr 4 0 0 0∧s.ρ 10=I w.2.1∧s.ρ 11=B w.2.2.1∧s.ρ 12=I w.1∧
   esT w.2.2.2=cutE (a,b) (esT ts)∧w.2.2.2.length=ts.length-1∧-1≤w.1∧w.1≤l∧0≤w.2.1∧w.2.1≤80*(l-w.1)∧
   ((w.2.2.1=false∧MV n w.2.2.2 a b w.1∧R.1=(cutR n a b (w.1+1).toNat w.2.2.2).1∧R.2.1=w.2.1+(cutR n a b (w.1+1).toNat w.2.2.2).2.1∧R.2.2=(cutR n a b (w.1+1).toNat w.2.2.2).2.2)∨(w.2.2.1=true∧R=(w.2.2.2,w.2.1,true)))) (fun w=>(w.1+1).toNat) (l,0,false,bs) ?_ ?_
  ·refine⟨?_,rfl,rfl,rfl,rfl,rfl,?_,rfl,rfl,rfl,rfl,hces,hbl,by simp only;omega,by simp,by simp,by simp,.inl ⟨rfl,hMV,by rw[hR],by rw[hR];simp,by rw[hR]⟩⟩
   all_goals first|rfl | (simp[upd];done)|trace_state
  rintro⟨j,rs,fd,cur⟩ ⟨ρ,m⟩ ⟨m9,m1,m2,e9,m3,e3,m4,e4,e10,e11,e12,q1,q2,g0,g1,r0,r1,hw⟩
  simp only at m9 m1 m2 e9 m3 e3 m4 e4 e10 e11 e12 q1 q2 g0 g1 r0 r1 hw
  rcases hw with⟨rfl,hM,s1,s2,s3⟩ | ⟨rfl,hRw⟩
  rotate_left
  ·subst hRw
   by_cases hj:0≤j
   ·have Fz:=fz13 results80 m9 m1 m2 e9 m3 e3 m4 e4 e10 e11 e12 hj
    repeat(first|exact trivial|refine go1 ?_)
   ·have Fz:=fz13 results80 m9 m1 m2 e9 m3 e3 m4 e4 e10 e11 e12 hj
    repeat(first|exact trivial|refine go1 ?_)
  by_cases hj:0≤j
  rotate_left
  ·have hj1:(j+1).toNat=0:=by omega
   rw[hj1,cutR] at s1 s2 s3
   rw[Int.add_zero] at s2
   rw[s1,s2,s3]
   have Fz:=fz13 results80 m9 m1 m2 e9 m3 e3 m4 e4 e10 e11 e12 hj
   repeat(first|exact trivial|refine go1 ?_)
  have hrep:=hlevel cur j q1 q2 hM hj
  obtain⟨p1,p2⟩:=jev hM hj
  have hbd:=jp3 (n:=n) (a:=a) (b:=b) (k:=j) (ts:=cur)
  have hj1:(j+1).toNat=j.toNat+1:=by omega
  have hj2:((j.toNat:Nat):Int)=j:=by omega
  have hj3:(j-1+1).toNat=j.toNat:=by omega
  have hcl:((jbp n a b j cur).1).length=ts.length-1:=by rw[jll p1,q2]
  rw[hj1,cutR,hj2] at s1 s2 s3
  rcases p2 with⟨p3,p4,p5⟩ | ⟨p3,p4,p5,p6⟩
  ·rw[if_neg (by rw[p3];simp)] at s1 s2 s3
   rw[p3] at hrep
   rw[←hj3] at s1 s2 s3
   generalize hro:jbp n a b j cur=ro at *
   obtain⟨c1,c2,c3⟩:=ro
   simp only at hrep p1 p3 p4 hbd hcl s1 s2 s3
   subst p3
   have Fz:=fz14 results80 m9 m1 m2 e9 m3 e3 m4 e4 e10 e11 e12 hj hrep
   repeat refine go1 ?_
   exact⟨j-1,rs+c2,false,c1,rfl,rfl,rfl,rfl,rfl,p1.trans q1,hcl,by omega,by omega,by omega,by omega,.inl ⟨rfl,p4,s1,by omega,s3⟩,by omega⟩
  ·rw[if_pos p3] at s1 s2 s3
   rw[p3] at hrep
   generalize hro:jbp n a b j cur=ro at *
   obtain⟨c1,c2,c3⟩:=ro
   simp only at hrep p1 p3 p4 hbd hcl s1 s2 s3
   subst p3
   have Fz:=fz14 results80 m9 m1 m2 e9 m3 e3 m4 e4 e10 e11 e12 hj hrep
   repeat refine go1 ?_
   exact⟨j-1,rs+c2,true,c1,rfl,rfl,rfl,rfl,rfl,p1.trans q1,hcl,by omega,by omega,by omega,by omega,.inr ⟨rfl,Prod.ext s1 (Prod.ext s2 s3)⟩,by omega⟩

theorem ct_spec {n:Int} {ts:List Tl} {e:Int×Int} (hL:LV n ts) (hm:e∈esT ts):esT (ctR n ts e).1=cutE e (esT ts)∧LV n (ctR n ts e).1∧(ctR n ts e).1.length=ts.length-1∧0≤(ctR n ts e).2.1∧(ctR n ts e).2.1≤400:=by
 have hV:=hL.vg
 have hel:=hV.2.2.1
 rw[jaq] at hel
 obtain⟨k,l,q,hk,hf,hg,hsp⟩:=jgf hm
 have hces:=j2z hV hsp
 have hct0:ctR n ts e=if q=true then cutR n e.1 e.2 (l+1).toNat (ts.take k++ts.drop (k+1)) else(ts.take k++ts.drop (k+1),0,false):=by
  unfold ctR
  rw[hf]
  simp only[Int.toNat_natCast]
  rw[hg]
 have hbl:(ts.take k++ts.drop (k+1)).length=ts.length-1:=by simp;omega
 have hLb:=hL
 rw[hsp] at hLb
 rw[hct0]
 cases q with
 | false=>
  rw[if_neg (by simp)]
  exact⟨hces,hLb.cutF,hbl,by simp,by simp⟩
 | true=>
  rw[if_pos rfl]
  obtain⟨hMV,hl0⟩:=LV.cutT hLb
  have hl4:=(hLb.lv (e,l,true) (by simp)).2
  simp only at hl4
  obtain⟨c1,c2,-,-,c3,c4⟩:=jrd (n:=n) (a:=e.1) (b:=e.2) (l+1).toNat (ts:=ts.take k++ts.drop (k+1)) (by rw[show(((l+1).toNat:Nat):Int)-1=l by omega];exact hMV)
  refine⟨c1.trans hces,c2,(jll c1).trans hbl,c3,?_⟩
  have h5:((l+1).toNat:Int)≤5:=by omega
  have h6:2*((ts.take k++ts.drop (k+1)).length:Int)*((l+1).toNat:Int)≤2*((ts.take k++ts.drop (k+1)).length:Int)*5:=Int.mul_le_mul_of_nonneg_left h5 (by omega)
  omega
theorem jty (n a b:Int) (ts:List Tl) (hL:LV n ts) (hm:(a,b)∈esT ts) :
 ∃r own,KP 80 [LvP n ts,PE a b] []=some (r,[],own)∧imm 2 own r=some (.tup [LvP n (ctR n ts (a,b)).1,I (ctR n ts (a,b)).2.1,B (ctR n ts (a,b)).2.2,B true]):=by
 have h:=jyw n a b ts hL hm
 obtain⟨h1,h2,h3,-,-⟩:=ct_spec hL hm
 generalize ctR n ts (a,b)=R at *
 rw[←h1] at h
 have hl1:((lvT R.1++[0]).map encI).take (ts.length-1)=(lvT R.1).map encI:=by
  rw[List.map_append,List.take_left']
  rw[List.length_map,jax,h3]
 have hl2:((trT R.1++[false]).map encT).take (ts.length-1)=(trT R.1).map encT:=by
  rw[List.map_append,List.take_left']
  rw[List.length_map,ja9,h3]
 refine⟨_,_,h,?_⟩
 rw[List.map_append] at hl1 hl2
 simp only[List.map_cons,List.map_nil] at hl1 hl2
 simp[imm,imm1,mapO,hl1,hl2]
theorem jz3 {α:Type} {l:List α} {x:α} {k:Nat}:(l++[x]).eraseIdx k=if k<l.length then l.eraseIdx k++[x] else if k=l.length then l else l++[x]:=by
 split
 ·rename_i h;exact List.eraseIdx_append_of_lt_length h _
 ·rename_i h
  rw[List.eraseIdx_append_of_length_le (by omega)]
  split
  ·rename_i h2;subst h2;simp
  ·rename_i h2
   obtain⟨j,hj⟩:∃j,k-l.length=j+1:=⟨k-l.length-1,by omega⟩
   rw[hj];rfl
theorem j3r {α:Type} {l:List α} {k:Nat} (h:l.length≤k):l.eraseIdx k=l:=List.eraseIdx_of_length_le h
abbrev remT (ts:List Tl) (k:Nat):List Tl:=ts.eraseIdx k
theorem kdw (ts:List Tl) (k:Nat):remT ts k=ts.take k++ts.drop (k+1):=List.eraseIdx_eq_take_drop_succ ts k
def cutP (n:Int) (us:List Tl):PV:=if us=[] then .agg [I n,.ref 2000 0 0 0,.i .emp,.i .emp] else .agg [I n,.ref 2000 0 0 us.length,.ref 2001 0 0 us.length,.ref 2002 0 0 us.length]
def cutA (us:List Tl):List Arr:=if us=[] then [.arr 0 2 []] else [.arr 0 2 ((esT us).map encE),arrL (lvT us),arrT (trT us)]
theorem kbz (n:Int) (k:Nat) (ts:List Tl) (hk:k<ts.length) (hl:ts.length≤1000):KP 168 [LvP n ts,I k] []=some (cutP n (remT ts k),[],cutA (remT ts k)):=by
 have l1:=jaq ts
 have l2:=jax ts
 have l3:=ja9 ts
 refine gc func168 ?_
 have Fz:=fz1 results168
 repeat refine go1 ?_
 refine jaa (fun(w:Int×Nat×Nat×Nat×List Tl) s=>s.m 2=some (.box 0 [I n,LE (esT ts),LI (lvT ts),LT (trT ts)])∧s.ρ 2=.ptr 2 0 0 0∧s.ρ 1=I k∧s.ρ 4=.ptr 4 0 0 0∧s.m 4=some (.box 0 [I 0,.i .emp,.i .emp,.i .emp])∧s.ρ 5=.ptr 5 0 0 0∧s.ρ 6=I w.1∧0≤w.1∧w.1≤ts.length∧w.2.2.2.2=(ts.take w.1.toNat).eraseIdx k∧
  s.m 10=some (.arr w.2.1 2 ((esT w.2.2.2.2).map encE))∧((w.2.2.2.2=[]∧s.m 5=some (.box 0 [I n,.ref 10 w.2.1 0 0,.i .emp,.i .emp]))∨
   (w.2.2.2.2≠[]∧s.m 5=some (.box 0 [I n,.ref 10 w.2.1 0 w.2.2.2.2.length,.ref 45 w.2.2.1 0 w.2.2.2.2.length,.ref 55 w.2.2.2.1 0 w.2.2.2.2.length])∧s.m 45=some (.arr w.2.2.1 1 ((lvT w.2.2.2.2).map encI))∧s.m 55=some (.arr w.2.2.2.1 1 ((trT w.2.2.2.2).map encT))))) (fun w=>(ts.length-w.1).toNat) (0,0,0,0,[]) ?_ ?_
 ·refine⟨rfl,rfl,rfl,rfl,rfl,rfl,rfl,by simp,by simp,by simp,rfl,.inl ⟨rfl,rfl⟩⟩
 rintro⟨i,v0,v1,v2,us⟩ ⟨ρ,m⟩ ⟨m2,e2,e1,e4,m4,e5,e6,g0,g1,hus,m9,hw⟩
 simp only at m2 e2 e1 e4 m4 e5 e6 g0 g1 hus m9 hw
 have u1:=jaq us
 have u2:=jax us
 have u3:=ja9 us
 have hul:us.length≤i.toNat:=by rw[hus];have:=List.length_eraseIdx_le (ts.take i.toNat) k;rw[List.length_take] at this;omega
 by_cases hi:i<ts.length
 rotate_left
 ·rw[jac (by omega)] at hus
  have hus':remT ts k=us:=hus.symm
  rw[hus']
  unfold cutP cutA
  rcases hw with⟨hz,m5⟩ | ⟨hz,m5,m45,m55⟩
  ·subst hz
   rw[if_pos rfl,if_pos rfl]
   have m9':m 10=some (.arr v0 2 []):=m9
   have Fz:=fz10 results168 m2 e2 e1 e4 m4 e5 e6 m5 m9'
   repeat(first|exact trivial|refine go1 ?_)
  ·rw[if_neg hz,if_neg hz]
   have Fz:=fz12 results168 m2 e2 e1 e4 m4 e5 e6 m5 m9 m45 m55
   repeat(first|exact trivial|refine go1 ?_)
 have hil:i.toNat<ts.length:=by omega
 have hge:=jz8 ts i.toNat hil
 have hgl:=j8o ts i.toNat hil
 have hgt:=j4d ts i.toNat hil
 have htk:=jae (l:=ts) dT g0 hi
 have hnx:(ts.take (i+1).toNat).eraseIdx k=if k<i.toNat then us++[ts.getD i.toNat dT] else if k=i.toNat then us else us++[ts.getD i.toNat dT]:=by
  rw[htk,jz3,List.length_take,Nat.min_eq_left (by omega),hus]
  by_cases h1:k<i.toNat
  ·rw[if_pos h1,if_pos h1]
  ·rw[if_neg h1,if_neg h1,j3r (by rw[List.length_take];omega)]
 generalize ts.getD i.toNat dT=t at *
 obtain⟨⟨c,d⟩,l,q⟩:=t
 simp only at hge hgl hgt
 by_cases hik:i=k
 ·subst hik
  have hnx':(ts.take ((k:Int)+1).toNat).eraseIdx k=us:=by rw[hnx,if_neg (by omega),if_pos (by omega)]
  rcases hw with⟨hz,m5⟩ | ⟨hz,m5,m45,m55⟩
  ·have Fz:=fz10 results168 m2 e2 e1 e4 m4 e5 e6 m5 m9
   repeat refine go1 ?_
   exact⟨by omega,by omega,v0,v1,v2,us,hnx'.symm,rfl,rfl,.inl ⟨hz,rfl⟩,by omega⟩
  ·have Fz:=fz12 results168 m2 e2 e1 e4 m4 e5 e6 m5 m9 m45 m55
   repeat refine go1 ?_
   exact⟨by omega,by omega,v0,v1,v2,us,hnx'.symm,rfl,rfl,.inr ⟨hz,rfl,rfl,rfl,rfl,rfl⟩,by omega⟩
 ·have hnx':(ts.take (i+1).toNat).eraseIdx k=us++[((c,d),l,q)]:=by
   rw[hnx]
   split
   ·rfl
   ·rw[if_neg (by omega)]
  have hne:us++[((c,d),l,q)]≠[]:=by simp
  have ha1:esT us++[(c,d)]=esT (us++[((c,d),l,q)]):=by simp[esT]
  have ha2:lvT us++[l]=lvT (us++[((c,d),l,q)]):=by simp[lvT]
  have ha3:trT us++[q]=trT (us++[((c,d),l,q)]):=by simp[trT]
  rcases hw with⟨hz,m5⟩ | ⟨hz,m5,m45,m55⟩
  ·subst hz
   have m9':m 10=some (.arr v0 2 []):=m9
   have Fz:=fz14 results168 m2 e2 e1 e4 m4 e5 e6 m5 m9' hik hge hgl hgt
   repeat refine go1 ?_
   exact⟨by omega,by omega,v0+1,nv (m 45),nv (m 55),[((c,d),l,q)],hnx'.symm,rfl,rfl,.inr ⟨by simp,rfl,rfl,rfl,rfl,rfl⟩,by omega⟩
  ·have Fz:=fz19 results168 m2 e2 e1 e4 m4 e5 e6 m5 m9 m45 m55 hik hge hgl hgt u1 u2 u3
   repeat refine go1 ?_
   exact⟨by omega,by omega,v0+1,v1+1,v2+1,us++[((c,d),l,q)],hnx'.symm,rfl,ha1,.inr ⟨hne,by rw[List.length_append];rfl,rfl,ha2,rfl,ha3⟩,by omega⟩
theorem j7p (n:Int) (ts:List Tl) (hl:ts.length≤1000):KP 216 [LvP n ts] []=some (.agg [I n,.ref 2000 0 0 ts.length,.ref 2001 0 0 ts.length,.ref 2002 0 0 ts.length],[],[.arr 0 2 ((esT ts).map encE),arrL (lvT ts),arrT (trT ts)]):=by
 have l1:=jaq ts
 have l2:=jax ts
 have l3:=ja9 ts
 have hc:=jwc n (esT ts) (by omega)
 refine gc func216 ?_
 have Fz:=fz5 results216 hc l1 l2 l3
 repeat(first|exact trivial|refine go1 ?_)
end Go.Proofs.YtnaaceooknghjaaGreatDoor.X
