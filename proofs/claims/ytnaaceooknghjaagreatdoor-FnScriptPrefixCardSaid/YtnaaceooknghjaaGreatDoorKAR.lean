/- What functions answer, and the plain laws behind it. -/
import Derived.Test.YtnaaceooknghjaaGreatDoorKAG
import Derived.Test.YtnaaceooknghjaaGreatDoorKAK
import Derived.Test.YtnaaceooknghjaaGreatDoorKAN
import Derived.Test.YtnaaceooknghjaaGreatDoorC126
import Derived.Test.YtnaaceooknghjaaGreatDoorKAO
import Derived.Test.YtnaaceooknghjaaGreatDoorKAP
import Derived.Test.YtnaaceooknghjaaGreatDoorKAL
set_option linter.unusedSimpArgs false
set_option linter.unusedVariables false
set_option maxHeartbeats 8000000
set_option maxRecDepth 100000
namespace Go.Proofs.YtnaaceooknghjaaGreatDoor.X
open Go Go.Proofs Tryz
noncomputable def cutL (n:Int) (es:List (Int×Int)):List Int:=(iota n).filter fun v=>decide (CutN es v)
theorem j2r (n:Int) (es:List (Int×Int)) (h:VG n es):CloI (.fn 116 [.ag [.v (.int .i64 n),.lst (es.map encE)]] []) (fun v=>0≤v∧v<n) (fun v=>decide (CutN es v)):=by
 refine⟨fun n=>?_,?_,fun me d v hv=>?_⟩
 ·cases n<;>rfl
 ·rfl
 ·have hx:=jt4 n v es h hv
  simp only[go_sem,↓reduceIte,Int.reduceLE,Int.reduceLT,Int.reduceToNat,Int.reduceNeg,Int.reduceAdd,Int.reduceSub,Int.reduceMul,Int.reduceEq,Int.reduceNe,Nat.reduceEqDiff,Nat.reduceAdd,Nat.reduceSub,Nat.reduceMul,Nat.reduceLT,Nat.reduceLeDiff,Nat.reduceBEq,Nat.reduceBNe,UInt8.reduceToNat,hx,ite_self]
theorem jqp (n:Int) (es:List (Int×Int)) (hl:es.length≤1048576):KP 63 [GL n es] []=some (if VG n es then LI (cutL n es) else .i .emp,[],[]):=by
 by_cases h:VG n es
 ·have hn16:=h.2.1
  have hn1:=h.1
  have hw:=jq0 (j2r n es h) n es (by omega) (fun _ a b=>⟨a,b⟩) hl
  have hd:=decide_eq_true h
  rw[if_pos h]
  refine gc func63 ?_
  have Fz:=fz3 results63 hw hd
  repeat refine go1 ?_
  rfl
 ·have hd:=decide_eq_false h
  rw[if_neg h]
  refine gc func63 ?_
  have Fz:=fz2 results63 hd
  repeat(first|exact trivial|refine go1 ?_)
theorem jo6 (n:Int) (es:List (Int×Int)) (hl:es.length≤1048576):KP 40 [GL n es] []=some (if VG n es then(.ref 2000 0 0 (cutL n es).length,[],[.arr 0 1 ((cutL n es).map encI)]) else(.ref 2000 0 0 0,[],[.arr 0 1 []])):=by
 by_cases h:VG n es
 rotate_left
 ·have hd:=decide_eq_false h
  rw[if_neg h]
  refine gc func40 ?_
  have Fz:=fz2 results40 hd
  repeat refine go1 ?_
  refine jf8 ?_
  by_cases hn:(0:Int)<n
  ·have Fz:=fz2 results40 hd
   repeat(first|exact trivial|refine go1 ?_)
  ·have Fz:=fz2 results40 hd
   repeat(first|exact trivial|refine go1 ?_)
 have hd:=decide_eq_true h
 rw[if_pos h]
 have hn16:=h.2.1
 have hn1:=h.1
 refine gc func40 ?_
 have Fz:=fz2 results40 hd
 repeat refine go1 ?_
 refine jaa (fun(u:Int×Nat×List Int) s=>s.m 5=some (.arr u.2.1 1 (u.2.2.map encI))∧s.ρ 3=.ref 5 u.2.1 0 u.2.2.length∧s.ρ 4=I u.1∧s.ρ 1=.ptr 1 0 0 0∧s.m 1=some (.box 0 [I n,LE es])∧
  0≤u.1∧u.1≤n∧(u.2.2.length:Int)≤u.1∧u.2.2=(iota u.1).filter fun v=>decide (CutN es v)) (fun u=>(n-u.1).toNat) (0,0,[]) (by
   refine⟨by simp[upd],by simp[upd],by simp[upd],by simp[upd],by simp[upd],by simp,by simp only;omega,by simp,by simp[iota]⟩) ?_
 rintro⟨i,w,xs⟩ ⟨ρ,m⟩ ⟨m5,r3,r4,r1,m1,g0,g1,g2,g3⟩
 simp only at m5 r3 r4 r1 m1 g0 g1 g2 g3
 by_cases hj:i<n
 ·have hcut:=kbx n i es h ⟨g0,hj⟩
  have Fz:=fz8 results40 m5 r3 r4 r1 m1 hd hcut
  repeat'(first|refine go1 ?_|(refine go2 ?_ ?_<;>intro _<;>try omega))
  all_goals(refine⟨by omega,by omega,by omega,?_,by omega⟩;rw[jby g0,List.filter_append,←g3];simp_all)
 ·have:i=n:=by omega
  subst this
  have Fz:=fz6 results40 m5 r3 r4 r1 m1
  repeat refine go1 ?_
  rw[g3]
  exact⟨rfl,rfl⟩
theorem j2j (n:Int) (x y z:IV) (ts:List Tl) (h3:LV3 x y z ts) (hV:VG n (esT ts)) :
 KP 25 [.ptr 1000 0 0 0,S [99,117,116,115]] [.box 0 [I n,.i x,.i y,.i z]]=some (S ([99,117,116,115]++jaw (cutL n (esT ts))++[10]),[.box 0 [I n,.i x,.i y,.i z]],[]):=by
 have hfx:=h3.fx
 have hlx:=h3.lx
 have hel:=hV.2.2.1
 have hc:=jqp n (esT ts) (by omega)
 rw[if_pos hV] at hc
 have hin:∀v∈cutL n (esT ts),0≤v∧v<n:=fun v hv=>mem_iota.1 (List.mem_filter.1 hv).1
 have hcl:(cutL n (esT ts)).length≤16:=by
  have h1:=List.length_filter_le (fun v=>decide (CutN (esT ts) v)) (iota n)
  have h2:=jat n
  have h4:=hV.2.1
  unfold cutL
  omega
 have hnt:=ja5 [99,117,116,115] (cutL n (esT ts)) (jii hV.2.1 hin) (by simp) (by omega)
 generalize cutL n (esT ts)=C at *
 generalize hR:([99,117,116,115]:List UInt8)++jaw C++[10]=R at *
 refine gc func25 ?_
 have Fz:=fz5 results25 hfx hlx hc hnt
 repeat(first|exact trivial|refine go1 ?_)
theorem jq8 (n:Int) (x y z:IV) (ts:List Tl) (h3:LV3 x y z ts) (hV:VG n (esT ts)) :
 KP 25 [.ptr 1000 0 0 0,S [98,114,105,100,103,101,115]] [.box 0 [I n,.i x,.i y,.i z]]=
  some (S ([98,114,105,100,103,101,115]++edsT ((esT ts).filter fun e=>decide (Brg (esT ts) e))++[10]),[.box 0 [I n,.i x,.i y,.i z]],[]):=by
 have hfx:=h3.fx
 have hlx:=h3.lx
 have hel:=hV.2.2.1
 have hc:=jtx n (esT ts) (by omega)
 rw[if_pos hV] at hc
 have hfl:=List.length_filter_le (fun e=>decide (Brg (esT ts) e)) (esT ts)
 have hnt:=jcx [98,114,105,100,103,101,115] ((esT ts).filter fun e=>decide (Brg (esT ts) e)) (jf5 hV.small.1 _) (by simp) (by omega)
 have hle:=ja6 ((esT ts).filter fun e=>decide (Brg (esT ts) e))
 generalize hR:([98,114,105,100,103,101,115]:List UInt8)++edsT ((esT ts).filter fun e=>decide (Brg (esT ts) e))=R at *
 have hRl:R.length≤1000:=by rw[←hR];simp only[List.length_append,List.length_cons,List.length_nil];omega
 refine gc func25 ?_
 have Fz:=fz5 results25 hfx hlx hc hnt
 repeat(first|exact trivial|refine go1 ?_)
theorem j6s {n:Int} {es:List (Int×Int)} {s:(Int×Int)×Nat} {a b:Int} (h:0<s.2→okE n s.1):0<(jj4 n es s (a,b)).2→okE n (jj4 n es s (a,b)).1:=by
 unfold jj4
 split
 ·intro h1
  refine Classical.byContradiction fun hno=>?_
  have:=jsg (n:=n) (es:=es) (a:=a) (b:=b) hno
  simp only at h1
  omega
 ·exact h
theorem jv4 {n:Int} {es:List (Int×Int)} {a:Nat}:∀(k b:Nat) (s:(Int×Int)×Nat),(0<s.2→okE n s.1)→0<(jfn n es a b k s).2→okE n (jfn n es a b k s).1
 | 0,b,s,h=>h
 | k+1,b,s,h=>by
  have e:jfn n es a b (k+1) s=jfn n es a (b+1) k (jj4 n es s ((a:Int),(b:Int))):=by
   unfold jfn
   rw[List.range'_succ,List.foldl_cons]
  rw[e]
  exact jv4 k (b+1) _ (j6s h)
theorem jv2 {n:Int} {es:List (Int×Int)}:∀(k a:Nat) (s:(Int×Int)×Nat),(0<s.2→okE n s.1)→0<(jg4 n es a k s).2→okE n (jg4 n es a k s).1
 | 0,a,s,h=>h
 | k+1,a,s,h=>by
  have e:jg4 n es a (k+1) s=jg4 n es (a+1) k (jfn n es a (a+1) (16-(a+1)) s):=by
   unfold jg4
   rw[List.range'_succ,List.foldl_cons]
  rw[e]
  exact jv2 k (a+1) _ (jv4 _ _ _ h)
theorem jv3 {n:Int} {es:List (Int×Int)} (h:0<(jez n es).2):okE n (jez n es).1:=jv2 16 0 _ (fun h=>absurd h (by simp)) h
theorem j2i (n:Int) (x y z:IV) (ts:List Tl) (h3:LV3 x y z ts) (hV:VG n (esT ts)) :
 KP 25 [.ptr 1000 0 0 0,S [98,101,115,116]] [.box 0 [I n,.i x,.i y,.i z]]=
  some (S (if 0<(jez n (esT ts)).2 then [98,101,115,116]++edsT [(jez n (esT ts)).1]++[10] else [110,111,110,101,10]),[.box 0 [I n,.i x,.i y,.i z]],[]):=by
 have hfx:=h3.fx
 have hlx:=h3.lx
 have hel:=hV.2.2.1
 have hn16:=hV.2.1
 have hb:=jyt n (esT ts) (by omega)
 have hin:=jv3 (n:=n) (es:=esT ts)
 generalize jez n (esT ts)=R at *
 obtain⟨⟨a,b⟩,k⟩:=R
 simp only at hb hin ⊢
 by_cases hk:0<k
 ·have hok:=hin hk
  unfold okE at hok
  simp only at hok
  rw[if_pos hk]
  have hnt:KP 65 [S [98,101,115,116],.i (.lst [[.v (.int .i64 a),.v (.int .i64 b)]])] []=_:=jcx [98,101,115,116] [(a,b)] (fun e he=>by rw[List.mem_singleton.1 he];simp only;omega) (by simp) (by simp)
  have hle:=ja6 [(a,b)]
  generalize hR:([98,101,115,116]:List UInt8)++edsT [(a,b)]=R at *
  have hRl:R.length≤1000:=by rw[←hR];simp only[List.length_append,List.length_cons,List.length_nil] at hle ⊢;omega
  refine gc func25 ?_
  have Fz:=fz5 results25 hfx hlx hb hnt
  repeat(first|exact trivial|refine go1 ?_)
 ·rw[if_neg hk]
  refine gc func25 ?_
  have Fz:=fz4 results25 hfx hlx hb
  repeat(first|exact trivial|refine go1 ?_)
noncomputable def jvr (n:Int) (ts:List Tl) (w:List UInt8):List UInt8:=
 if w=[115,104,111,119] then fmtG n (esT ts)++[10]
 else if w=[112,97,114,116,115] then [112,97,114,116,115]++jaw (lab n (esT ts))++[10]
 else if w=[99,117,116,115] then [99,117,116,115]++jaw (cutL n (esT ts))++[10]
 else if w=[115,97,102,101] then [115,97,102,101]++jaw (lab n (bare (esT ts)))++[10]
 else if w=[98,114,105,100,103,101,115] then [98,114,105,100,103,101,115]++edsT ((esT ts).filter fun e=>decide (Brg (esT ts) e))++[10]
 else if w=[98,108,111,99,107,115] then linesE [98,108,111,99,107] (blocksL (esT ts))++[101,110,100,10]
 else if w=[99,104,97,105,110,115] then linesT [99,104,97,105,110] (chainsL n (esT ts))++[101,110,100,10]
 else if w=[102,111,114,101,115,116] then [102,111,114,101,115,116]++edsT (abT ts 0 true)++[10]
 else if w=[108,101,118,101,108,115] then [108,101,118,101,108,115]++jaw (lvT ts)++[10]
 else if w=[98,101,115,116] then(if 0<(jez n (esT ts)).2 then [98,101,115,116]++edsT [(jez n (esT ts)).1]++[10] else [110,111,110,101,10])
 else if w=[119,101,97,107,101,115,116] then(if 2≤n then [119,101,97,107,101,115,116]++32::Lib.itoa (weak n (esT ts):Int)++[10] else [110,111,110,101,10])
 else jcc
theorem jzk (w:List UInt8) (n:Int) (x y z:IV) (ts:List Tl) (h3:LV3 x y z ts) (hL:LV n ts) :
 KP 25 [.ptr 1000 0 0 0,S w] [.box 0 [I n,.i x,.i y,.i z]]=some (S (jvr n ts w),[.box 0 [I n,.i x,.i y,.i z]],[]):=by
 have hV:=hL.vg
 unfold jvr
 by_cases q0:w=[115,104,111,119]
 ·rw[if_pos q0,q0];exact j2l n x y z ts h3 hV
 rw[if_neg q0]
 by_cases q1:w=[112,97,114,116,115]
 ·rw[if_pos q1,q1];exact jzj n x y z ts h3 hV
 rw[if_neg q1]
 by_cases q2:w=[99,117,116,115]
 ·rw[if_pos q2,q2];exact j2j n x y z ts h3 hV
 rw[if_neg q2]
 by_cases q3:w=[115,97,102,101]
 ·rw[if_pos q3,q3];exact j2k n x y z ts h3 hV
 rw[if_neg q3]
 by_cases q4:w=[98,114,105,100,103,101,115]
 ·rw[if_pos q4,q4];exact jq8 n x y z ts h3 hV
 rw[if_neg q4]
 by_cases q5:w=[98,108,111,99,107,115]
 ·rw[if_pos q5,q5];exact juf n x y z ts h3 hV
 rw[if_neg q5]
 by_cases q6:w=[99,104,97,105,110,115]
 ·rw[if_pos q6,q6];exact jug n x y z ts h3 hV
 rw[if_neg q6]
 by_cases q7:w=[102,111,114,101,115,116]
 ·rw[if_pos q7,q7];exact juh n x y z ts h3 hL
 rw[if_neg q7]
 by_cases q8:w=[108,101,118,101,108,115]
 ·rw[if_pos q8,q8];exact jui n x y z ts h3 hL
 rw[if_neg q8]
 by_cases q9:w=[98,101,115,116]
 ·rw[if_pos q9,q9];exact j2i n x y z ts h3 hV
 rw[if_neg q9]
 by_cases q10:w=[119,101,97,107,101,115,116]
 ·rw[if_pos q10,q10];exact jq9 n x y z ts h3 hV
 rw[if_neg q10]
 exact j2m w (by simp only[List.mem_cons,List.not_mem_nil,or_false,not_or];exact⟨q0,q1,q2,q3,q4,q5,q6,q7,q8,q9,q10⟩) n x y z ts h3
theorem jk6 (n:Int) (ts:List Tl) (hL:LV n ts):KP 44 [LvP n ts,I 0] []=some (.tup [LE (abT ts 0 true),B true],[],[]):=by
 have hV:=hL.vg
 have hel:=hV.2.2.1
 have l1:=jaq ts
 have hlv:=jb3 n ts hV
 rw[decide_eq_true hL] at hlv
 have hab:=jwe n 0 true ts (by omega)
 refine gc func44 ?_
 have Fz:=fz3 results44 hlv hab
 repeat(first|exact trivial|refine go1 ?_)
theorem jzd (n:Int) (ts:List Tl) (hL:LV n ts):KP 21 [LvP n ts,S [115,104,111,119]] []=some (S (fmtG n (esT ts)++[10]),[],[]):=by
 have hV:=hL.vg
 have hel:=hV.2.2.1
 have hfg:=jc9 n (esT ts) (by omega)
 rw[if_pos hV] at hfg
 have hlen:=je5 n (esT ts)
 generalize fmtG n (esT ts)=T at *
 refine gc func21 ?_
 have Fz:=fz2 results21 hfg
 repeat(first|exact trivial|refine go1 ?_)
theorem jt9 (n:Int) (ts:List Tl) (hL:LV n ts):KP 21 [LvP n ts,S [112,97,114,116,115]] []=some (S ([112,97,114,116,115]++jaw (lab n (esT ts))++[10]),[],[]):=by
 have hV:=hL.vg
 have hel:=hV.2.2.1
 have hp:=jno n (esT ts) hV
 have hll:=jap n (esT ts)
 have hn1:=hV.1
 have hn2:=hV.2.1
 have hs:smallL (lab n (esT ts)):=jlz n (esT ts) hn2
 have hnt:=jcl (lab n (esT ts)) hs (by omega)
 have hle:=jas (lab n (esT ts))
 rw[List.append_assoc]
 generalize lab n (esT ts)=L at *
 generalize hE:jaw L++[10]=E at *
 have hEl:E.length≤1000:=by rw[←hE];simp only[List.length_append,List.length_cons,List.length_nil];omega
 refine gc func21 ?_
 have Fz:=fz3 results21 hp hnt
 repeat(first|exact trivial|refine go1 ?_)
theorem jzb (n:Int) (ts:List Tl) (hL:LV n ts):KP 21 [LvP n ts,S [99,117,116,115]] []=some (S ([99,117,116,115]++jaw (cutL n (esT ts))++[10]),[],[]):=by
 have hV:=hL.vg
 have hel:=hV.2.2.1
 have hc:=jo6 n (esT ts) (by omega)
 rw[if_pos hV] at hc
 have hin:∀v∈cutL n (esT ts),0≤v∧v<n:=fun v hv=>mem_iota.1 (List.mem_filter.1 hv).1
 have hcl:(cutL n (esT ts)).length≤16:=by
  have h1:=List.length_filter_le (fun v=>decide (CutN (esT ts) v)) (iota n)
  have h2:=jat n
  have h4:=hV.2.1
  unfold cutL
  omega
 have hnt:=jcl (cutL n (esT ts)) (jii hV.2.1 hin) (by omega)
 have hle:=jas (cutL n (esT ts))
 have ht:((cutL n (esT ts)).map encI).take (cutL n (esT ts)).length=(cutL n (esT ts)).map encI:=List.take_of_length_le (by simp)
 rw[List.append_assoc]
 generalize cutL n (esT ts)=L at *
 generalize hE:jaw L++[10]=E at *
 have hEl:E.length≤1000:=by rw[←hE];simp only[List.length_append,List.length_cons,List.length_nil];omega
 refine gc func21 ?_
 have Fz:=fz4 results21 hc hnt ht
 repeat(first|exact trivial|refine go1 ?_)
theorem jzc (n:Int) (ts:List Tl) (hL:LV n ts):KP 21 [LvP n ts,S [115,97,102,101]] []=some (S ([115,97,102,101]++jaw (lab n (bare (esT ts)))++[10]),[],[]):=by
 have hV:=hL.vg
 have hel:=hV.2.2.1
 have hp:=jq7 n (esT ts) (by omega)
 rw[if_pos hV] at hp
 have hll:=jap n (bare (esT ts))
 have hn1:=hV.1
 have hn2:=hV.2.1
 have hs:smallL (lab n (bare (esT ts))):=jlz n (bare (esT ts)) hn2
 have hnt:=jcl (lab n (bare (esT ts))) hs (by omega)
 have hle:=jas (lab n (bare (esT ts)))
 rw[List.append_assoc]
 generalize lab n (bare (esT ts))=L at *
 generalize hE:jaw L++[10]=E at *
 have hEl:E.length≤1000:=by rw[←hE];simp only[List.length_append,List.length_cons,List.length_nil];omega
 refine gc func21 ?_
 have Fz:=fz3 results21 hp hnt
 repeat(first|exact trivial|refine go1 ?_)
theorem jo4 (n:Int) (ts:List Tl) (hL:LV n ts):KP 21 [LvP n ts,S [98,114,105,100,103,101,115]] []=some (S ([98,114,105,100,103,101,115]++edsT ((esT ts).filter fun e=>decide (Brg (esT ts) e))++[10]),[],[]):=by
 have hV:=hL.vg
 have hel:=hV.2.2.1
 have hc:=jq5 n (esT ts) (by omega)
 rw[if_pos hV] at hc
 have hc':KP 39 [GL n (esT ts)] []=some (LE ((esT ts).filter fun e=>decide (Brg (esT ts) e)),[],[]):=hc
 have hfl:=List.length_filter_le (fun e=>decide (Brg (esT ts) e)) (esT ts)
 have hnt:=jf9 ((esT ts).filter fun e=>decide (Brg (esT ts) e)) (jf5 hV.small.1 _) (by omega)
 have hle:=ja6 ((esT ts).filter fun e=>decide (Brg (esT ts) e))
 rw[List.append_assoc]
 generalize (esT ts).filter (fun e=>decide (Brg (esT ts) e))=L at *
 generalize hE:edsT L++[10]=E at *
 have hEl:E.length≤1000:=by rw[←hE];simp only[List.length_append,List.length_cons,List.length_nil];omega
 refine gc func21 ?_
 have Fz:=fz3 results21 hc' hnt
 repeat(first|exact trivial|refine go1 ?_)
theorem jq1 (n:Int) (ts:List Tl) (hL:LV n ts):KP 21 [LvP n ts,S [98,108,111,99,107,115]] []=some (S (linesE [98,108,111,99,107] (blocksL (esT ts))++[101,110,100,10]),[],[]):=by
 have hc:=jt5 n (esT ts) hL.vg
 generalize linesE [98,108,111,99,107] (blocksL (esT ts))++[101,110,100,10]=E at *
 refine gc func21 ?_
 have Fz:=fz2 results21 hc
 repeat(first|exact trivial|refine go1 ?_)
theorem jq2 (n:Int) (ts:List Tl) (hL:LV n ts):KP 21 [LvP n ts,S [99,104,97,105,110,115]] []=some (S (linesT [99,104,97,105,110] (chainsL n (esT ts))++[101,110,100,10]),[],[]):=by
 have hc:=jt6 n (esT ts) hL.vg
 generalize linesT [99,104,97,105,110] (chainsL n (esT ts))++[101,110,100,10]=E at *
 refine gc func21 ?_
 have Fz:=fz2 results21 hc
 repeat(first|exact trivial|refine go1 ?_)
theorem jq3 (n:Int) (ts:List Tl) (hL:LV n ts):KP 21 [LvP n ts,S [102,111,114,101,115,116]] []=some (S ([102,111,114,101,115,116]++edsT (abT ts 0 true)++[10]),[],[]):=by
 have hV:=hL.vg
 have hel:=hV.2.2.1
 have l1:=jaq ts
 have hal:=jiu ts 0 true
 have hc:=jk6 n ts hL
 have hse:smallE (abT ts 0 true):=fun e he=>hV.small.1 e (jcd e he)
 have hnt:=jf9 (abT ts 0 true) hse (by omega)
 have hle:=ja6 (abT ts 0 true)
 rw[List.append_assoc]
 generalize abT ts 0 true=L at *
 generalize hE:edsT L++[10]=E at *
 have hEl:E.length≤1000:=by rw[←hE];simp only[List.length_append,List.length_cons,List.length_nil];omega
 refine gc func21 ?_
 have Fz:=fz3 results21 hc hnt
 repeat(first|exact trivial|refine go1 ?_)
theorem jq4 (n:Int) (ts:List Tl) (hL:LV n ts):KP 21 [LvP n ts,S [108,101,118,101,108,115]] []=some (S ([108,101,118,101,108,115]++jaw (lvT ts)++[10]),[],[]):=by
 have hel:=hL.vg.2.2.1
 have l1:=jaq ts
 have l2:=jax ts
 have hs:smallL (lvT ts):=fun v hv=>by
  obtain⟨t,ht,rfl⟩:=List.mem_map.1 hv
  have:=hL.lv t ht
  omega
 have hnt:=jcl (lvT ts) hs (by omega)
 have hle:=jas (lvT ts)
 rw[List.append_assoc]
 generalize hE:jaw (lvT ts)++[10]=E at *
 have hEl:E.length≤1000:=by rw[←hE];simp only[List.length_append,List.length_cons,List.length_nil];omega
 refine gc func21 ?_
 have Fz:=fz2 results21 hnt
 repeat(first|exact trivial|refine go1 ?_)
theorem jza (n:Int) (ts:List Tl) (hL:LV n ts):KP 21 [LvP n ts,S [98,101,115,116]] []=
 some (S (if 0<(jez n (esT ts)).2 then [98,101,115,116]++edsT [(jez n (esT ts)).1]++[10] else [110,111,110,101,10]),[],[]):=by
 have hV:=hL.vg
 have hn16:=hV.2.1
 have hb:=jua n (esT ts) hV
 have hin:=jv3 (n:=n) (es:=esT ts)
 generalize jez n (esT ts)=R at *
 obtain⟨⟨a,b⟩,k⟩:=R
 simp only at hb hin ⊢
 by_cases hk:0<k
 ·have hok:=hin hk
  unfold okE at hok
  simp only at hok
  rw[if_pos hk]
  have hte:=jo3 a b (by omega) (by omega)
  have lt:=jpn (a,b)
  have hee:([98,101,115,116]:List UInt8)++edsT [(a,b)]++[10]=[98,101,115,116,32]++edT (a,b)++[10]:=by simp[edsT]
  rw[hee]
  generalize edT (a,b)=E at *
  refine gc func21 ?_
  have Fz:=fz3 results21 hb hte
  repeat(first|exact trivial|refine go1 ?_)
 ·rw[if_neg hk]
  refine gc func21 ?_
  have Fz:=fz2 results21 hb
  repeat(first|exact trivial|refine go1 ?_)
theorem jo5 (n:Int) (ts:List Tl) (hL:LV n ts):KP 21 [LvP n ts,S [119,101,97,107,101,115,116]] []=
 some (S (if 2≤n then [119,101,97,107,101,115,116]++32::Lib.itoa (weak n (esT ts):Int)++[10] else [110,111,110,101,10]),[],[]):=by
 have hV:=hL.vg
 have hel:=hV.2.2.1
 have hp:=jo8 n (esT ts) (by omega)
 by_cases h2:2≤n
 ·rw[if_pos ⟨hV,h2⟩] at hp
  rw[if_pos h2]
  have hwl:weak n (esT ts)≤1000:=by
   have ho:=hV.okg.ok
   obtain⟨y,y1,y2,e⟩:=jqd ho hV.nodup h2 hV.2.1
   rw[e]
   have h1:=(jgg ho hV.nodup (show 0≤(0:Int)∧0<n by omega) (show 0≤y∧y<n by omega) (by omega)).1
   have h2:=jak 0 (esT ts)
   omega
  have hd:=jhv (weak n (esT ts)) (by omega)
  have hdl:=Lib.itoa_length_le (weak n (esT ts):Int) (by omega) (by omega)
  have hee:([119,101,97,107,101,115,116]:List UInt8)++32::Lib.itoa (weak n (esT ts):Int)++[10]=[119,101,97,107,101,115,116,32]++Lib.itoa (weak n (esT ts):Int)++[10]:=by simp
  rw[hee]
  generalize Lib.itoa (weak n (esT ts):Int)=E at *
  refine gc func21 ?_
  have Fz:=fz3 results21 hp hd
  repeat(first|exact trivial|refine go1 ?_)
 ·rw[if_neg (fun h=>h2 h.2)] at hp
  rw[if_neg h2]
  refine gc func21 ?_
  have Fz:=fz2 results21 hp
  repeat(first|exact trivial|refine go1 ?_)
theorem jze (w:List UInt8) (hw:w∉kbi) (n:Int) (ts:List Tl):KP 21 [LvP n ts,S w] []=some (S jcc,[],[]):=by
 simp only[List.mem_cons,List.not_mem_nil,or_false,not_or] at hw
 obtain⟨w1,w2,w3,w4,w5,w6,w7,w8,w9,w10,w11⟩:=hw
 have q1:=ja2 w1
 have q2:=ja2 w2
 have q3:=ja2 w3
 have q4:=ja2 w4
 have q5:=ja2 w5
 have q6:=ja2 w6
 have q7:=ja2 w7
 have q8:=ja2 w8
 have q9:=ja2 w9
 have q10:=ja2 w10
 have q11:=ja2 w11
 refine gc func21 ?_
 have Fz:=fz12 results21 q1 q2 q3 q4 q5 q6 q7 q8 q9 q10 q11
 repeat(first|exact trivial|refine go1 ?_)
theorem j7i (w:List UInt8) (n:Int) (ts:List Tl) (hL:LV n ts):KP 21 [LvP n ts,S w] []=some (S (jvr n ts w),[],[]):=by
 unfold jvr
 by_cases q0:w=[115,104,111,119]
 ·rw[if_pos q0,q0];exact jzd n ts hL
 rw[if_neg q0]
 by_cases q1:w=[112,97,114,116,115]
 ·rw[if_pos q1,q1];exact jt9 n ts hL
 rw[if_neg q1]
 by_cases q2:w=[99,117,116,115]
 ·rw[if_pos q2,q2];exact jzb n ts hL
 rw[if_neg q2]
 by_cases q3:w=[115,97,102,101]
 ·rw[if_pos q3,q3];exact jzc n ts hL
 rw[if_neg q3]
 by_cases q4:w=[98,114,105,100,103,101,115]
 ·rw[if_pos q4,q4];exact jo4 n ts hL
 rw[if_neg q4]
 by_cases q5:w=[98,108,111,99,107,115]
 ·rw[if_pos q5,q5];exact jq1 n ts hL
 rw[if_neg q5]
 by_cases q6:w=[99,104,97,105,110,115]
 ·rw[if_pos q6,q6];exact jq2 n ts hL
 rw[if_neg q6]
 by_cases q7:w=[102,111,114,101,115,116]
 ·rw[if_pos q7,q7];exact jq3 n ts hL
 rw[if_neg q7]
 by_cases q8:w=[108,101,118,101,108,115]
 ·rw[if_pos q8,q8];exact jq4 n ts hL
 rw[if_neg q8]
 by_cases q9:w=[98,101,115,116]
 ·rw[if_pos q9,q9];exact jza n ts hL
 rw[if_neg q9]
 by_cases q10:w=[119,101,97,107,101,115,116]
 ·rw[if_pos q10,q10];exact jo5 n ts hL
 rw[if_neg q10]
 exact jze w (by simp only[List.mem_cons,List.not_mem_nil,or_false,not_or];exact⟨q0,q1,q2,q3,q4,q5,q6,q7,q8,q9,q10⟩) n ts
end Go.Proofs.YtnaaceooknghjaaGreatDoor.X
