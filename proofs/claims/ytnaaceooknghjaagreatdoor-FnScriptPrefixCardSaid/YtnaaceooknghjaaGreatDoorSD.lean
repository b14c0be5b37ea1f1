/- The interpreter is sound: every call; rules for code. -/
import Derived.Test.YtnaaceooknghjaaGreatDoorSC
import Derived.LoopN
set_option linter.unusedSimpArgs false
set_option linter.unusedVariables false
namespace Go.Proofs.YtnaaceooknghjaaGreatDoor.X
open Go
theorem jjh {wr:List (Nat×Arr)} {s:Nat} (h:∃A,(s,A)∈wr) (m m':Mem):updL m wr s=updL m' wr s:=by
 induction wr generalizing m m' with
 | nil=>obtain⟨A,hA⟩:=h;cases hA
 | cons x r ih=>
  obtain⟨t,B⟩:=x
  simp only[updL]
  by_cases hr:∃A,(s,A)∈r
  ·exact ih hr _ _
  ·have hn:∀A,(s,A)∉r:=fun A hA=>hr ⟨A,hA⟩
   rw[ja4 hn,ja4 hn]
   obtain⟨A,hA⟩:=h
   rcases List.mem_cons.1 hA with e|e
   ·cases e;rw[jal,jal]
   ·exact absurd e (hn A)
def stD (st0:St) (rs:List Rec) (D:Nat→Bool):Nat→St
 | 0=>st0
 | k+1=>if D k then(match rs[k]? with|some r=>(stD st0 rs D k).step r|none=>stD st0 rs D k) else stD st0 rs D k
theorem St.ext' {a b:St} (h1:a.ρ=b.ρ) (h2:a.m=b.m):a=b:=by cases a;cases b;simp_all
theorem jcg {ρ:Nat→PV} {dst:Option Nat} {out:PV} {t:Nat} (h:dst≠some t):putρ ρ dst out t=ρ t:=by
 cases dst with
 | none=>rfl
 | some d=>simp only[putρ];exact jbm _ _ (fun e=>h (by rw[e]))
theorem jf3 {ρ:Nat→PV} {dst:Option Nat} {out:PV} {t:Nat} (h:dst=some t):putρ ρ dst out t=out:=by subst h;simp[putρ,jal]
theorem j56 {st:St} {r q:Rec} (h1:∀d,r.dst=some d→q.dst≠some d) (h2:∀s A B,(s,A)∈r.wr→(s,B)∉q.wr):(st.step r).step q=(st.step q).step r:=by
 refine St.ext' (funext fun t=>?_) (funext fun s=>?_)
 ·simp only[St.step]
  by_cases hq:q.dst=some t
  ·have hr:r.dst≠some t:=fun e=>h1 t e hq
   rw[jf3 hq,jcg hr,jf3 hq]
  ·rw[jcg hq]
   by_cases hr:r.dst=some t
   ·rw[jf3 hr,jf3 hr]
   ·rw[jcg hr,jcg hr,jcg hq]
 ·simp only[St.step]
  by_cases hq:∃B,(s,B)∈q.wr
  ·have hr:∀A,(s,A)∉r.wr:=fun A hA=>by obtain⟨B,hB⟩:=hq;exact h2 s A B hA hB
   rw[ja4 hr]
   exact jjh hq _ _
  ·have hq':∀B,(s,B)∉q.wr:=fun B hB=>hq ⟨B,hB⟩
   rw[ja4 hq']
   by_cases hr:∃A,(s,A)∈r.wr
   ·exact jjh hr _ _
   ·have hr':∀A,(s,A)∉r.wr:=fun A hA=>hr ⟨A,hA⟩
    rw[ja4 hr',ja4 hr',ja4 hq']
section
variable {st0:St} {rs:List Rec} {D D':Nat→Bool}
theorem jte:∀(k:Nat),(∀j,j<k→D j=D' j)→stD st0 rs D k=stD st0 rs D' k
 | 0,_=>rfl
 | k+1,h=>by simp only[stD];rw[jte k (fun j hj=>h j (by omega)),h k (by omega)]
theorem kgb {t i:Nat} (h1:∀j r,j<i→rs[j]?=some r→r.dst=some t→D j=true) (h2:∀j r,i≤j→D j=true→rs[j]?=some r→r.dst≠some t) :
 ∀k,(stD st0 rs D k).ρ t=(stD st0 rs (fun _=>true) (min k i)).ρ t
 | 0=>by simp[stD]
 | k+1=>by
  have ih:=kgb h1 h2 k
  by_cases hk:k<i
  ·rw[show min (k+1) i=k+1 from by omega]
   rw[show min k i=k from by omega] at ih
   simp only[stD,if_true]
   cases hr:rs[k]? with
   | none=>simp only[ite_self];exact ih
   | some r=>
    by_cases hd:r.dst=some t
    ·rw[h1 k r hk hr hd]
     simp only[if_true,St.step,jf3 hd]
    ·split
     ·simp only[St.step,jcg hd];exact ih
     ·simp only[St.step,jcg hd];exact ih
  ·rw[show min (k+1) i=i from by omega]
   rw[show min k i=i from by omega] at ih
   simp only[stD]
   split
   ·rename_i hD
    cases hr:rs[k]? with
    | none=>exact ih
    | some r=>simp only[St.step,jcg (h2 k r (by omega) hD hr)];exact ih
   ·exact ih
theorem kga {s i:Nat} (h1:∀j r A,j<i→rs[j]?=some r→(s,A)∈r.wr→D j=true) (h2:∀j r A,i≤j→D j=true→rs[j]?=some r→(s,A)∉r.wr) :
 ∀k,(stD st0 rs D k).m s=(stD st0 rs (fun _=>true) (min k i)).m s
 | 0=>by simp[stD]
 | k+1=>by
  have ih:=kga h1 h2 k
  by_cases hk:k<i
  ·rw[show min (k+1) i=k+1 from by omega]
   rw[show min k i=k from by omega] at ih
   simp only[stD,if_true]
   cases hr:rs[k]? with
   | none=>simp only[ite_self];exact ih
   | some r=>
    by_cases hd:∃A,(s,A)∈r.wr
    ·obtain⟨A,hA⟩:=hd
     rw[h1 k r A hk hr hA]
     simp only[if_true,St.step]
     exact jjh ⟨A,hA⟩ _ _
    ·have hn:∀A,(s,A)∉r.wr:=fun A hA=>hd ⟨A,hA⟩
     split
     ·simp only[St.step,ja4 hn];exact ih
     ·simp only[St.step,ja4 hn];exact ih
  ·rw[show min (k+1) i=i from by omega]
   rw[show min k i=i from by omega] at ih
   simp only[stD]
   split
   ·rename_i hD
    cases hr:rs[k]? with
    | none=>exact ih
    | some r=>simp only[St.step];rw[ja4 (fun A hA=>h2 k r A (by omega) hD hr hA)];exact ih
   ·exact ih
theorem jyc {i:Nat} {r:Rec} (hr:rs[i]?=some r) (hi:D i=false) (hD:∀j,D' j=if j=i then true else D j)
 (hc:∀j q,i<j→D j=true→rs[j]?=some q→(∀d,r.dst=some d→q.dst≠some d)∧∀s A B,(s,A)∈r.wr→(s,B)∉q.wr) :
 ∀k,stD st0 rs D' k=if i<k then(stD st0 rs D k).step r else stD st0 rs D k
 | 0=>by simp[stD]
 | k+1=>by
  have ih:=jyc hr hi hD hc k
  by_cases hk:k=i
  ·subst hk
   have ih':stD st0 rs D' k=stD st0 rs D k:=by rw[ih,if_neg (Nat.lt_irrefl _)]
   have e1:stD st0 rs D' (k+1)=(stD st0 rs D k).step r:=by
    show(if D' k=true then(match rs[k]? with|some r=>(stD st0 rs D' k).step r|none=>stD st0 rs D' k) else stD st0 rs D' k)=_
    rw[hD k,if_pos rfl,if_pos rfl,hr,ih']
   have e2:stD st0 rs D (k+1)=stD st0 rs D k:=by
    show(if D k=true then(match rs[k]? with|some r=>(stD st0 rs D k).step r|none=>stD st0 rs D k) else stD st0 rs D k)=_
    rw[hi];rfl
   rw[e1,e2,if_pos (Nat.lt_succ_self k)]
  ·have hDk:D' k=D k:=by rw[hD k,if_neg hk]
   by_cases hlt:i<k
   ·rw[if_pos hlt] at ih
    have e1:stD st0 rs D' (k+1)=if D k=true then(match rs[k]? with|some q=>((stD st0 rs D k).step r).step q|none=>(stD st0 rs D k).step r) else(stD st0 rs D k).step r:=by
     show(if D' k=true then(match rs[k]? with|some r=>(stD st0 rs D' k).step r|none=>stD st0 rs D' k) else stD st0 rs D' k)=_
     rw[hDk,ih]
    have e2:stD st0 rs D (k+1)=if D k=true then(match rs[k]? with|some q=>(stD st0 rs D k).step q|none=>stD st0 rs D k) else stD st0 rs D k:=rfl
    rw[e1,e2,if_pos (Nat.lt_succ_of_lt hlt)]
    cases hdk:D k with
    | false=>rfl
    | true=>
     cases hq:rs[k]? with
     | none=>rfl
     | some q=>obtain⟨c1,c2⟩:=hc k q hlt hdk hq;exact j56 c1 c2
   ·rw[if_neg hlt] at ih
    have e1:stD st0 rs D' (k+1)=stD st0 rs D (k+1):=by
     show(if D' k=true then(match rs[k]? with|some r=>(stD st0 rs D' k).step r|none=>stD st0 rs D' k) else stD st0 rs D' k)=(if D k=true then(match rs[k]? with|some r=>(stD st0 rs D k).step r|none=>stD st0 rs D k) else stD st0 rs D k)
     rw[hDk,ih]
    rw[e1,if_neg (by omega)]
end
section
variable {P:Program} {m0:Mem} {γ0:Nat→GB} {F0:Nat→Prop} {w0:World} {n:Nat} {cf:Cfg} {C:jci} {me:FuncId} {Q:Exit→Act→World→Prop}
theorem jmj {ops:Array Oper}:∀(l:List Oper) (st st':St) (rs:List Rec),runOps P cf C me ops l st=some (st',rs)→
 rs.length=l.length∧st'=stD st rs (fun _=>true) l.length∧∀(k:Nat) (o:Oper),l[k]?=some o→∃r,rs[k]?=some r∧jcv P cf C me ops o (stD st rs (fun _=>true) k)=some r
 | [],st,st',rs,h=>by
  simp only[runOps,Option.some.injEq,Prod.mk.injEq] at h
  obtain⟨rfl,rfl⟩:=h
  exact⟨rfl,rfl,by simp⟩
 | o::l,st,st',rs,h=>by
  simp only[runOps] at h
  split at h
  ·rename_i r hr
   split at h
   ·rename_i st2 rs2 h2
    simp only[Option.some.injEq,Prod.mk.injEq] at h
    obtain⟨rfl,rfl⟩:=h
    obtain⟨i1,i2,i3⟩:=jmj l _ _ rs2 h2
    have hshift:∀k,stD st (r::rs2) (fun _=>true) (k+1)=stD (st.step r) rs2 (fun _=>true) k:=by
     intro k
     induction k with
     | zero=>simp[stD]
     | succ k ih=>rw[stD,ih];simp[stD]
    refine⟨by simp[i1],by simp only[List.length_cons];rw[hshift];exact i2,fun k o' ho'=>?_⟩
    cases k with
    | zero=>simp at ho';subst ho';exact⟨r,rfl,hr⟩
    | succ k=>
     simp only[List.getElem?_cons_succ] at ho'
     obtain⟨q,hq,hs⟩:=i3 k o' ho'
     exact⟨q,by simpa using hq,by rw[hshift];exact hs⟩
   ·cases h
  ·cases h
theorem joj {ops:Array Oper} {o:Oper} {st:St} {r:Rec} (h:jcv P cf C me ops o st=some r):r.dst=o.dst:=by
 unfold jcv at h
 split at h
 ·simp only[Option.map_eq_some_iff] at h
  obtain⟨x,_,rfl⟩:=h;rfl
 ·simp only[Option.some.injEq] at h;subst h;rfl
 ·cases h
theorem jen {ops:Array Oper} {x y:Oper} {r q:Rec} (h:jzm ops x y r q=false) :
 x.apart ops y=true∧(∀s A,(s,A)∈r.wr→s∉q.rd∧∀B,(s,B)∉q.wr)∧(∀s B,(s,B)∈q.wr→s∉r.rd):=by
 simp only[jzm,Bool.or_eq_false_iff,Bool.not_eq_false',List.any_eq_false] at h
 obtain⟨⟨h1,h2⟩,h3⟩:=h
 refine⟨h1,fun s A hA=>?_,fun s B hB=>?_⟩
 ·have:=h2 (s,A) hA
  simp only[Bool.or_eq_true,not_or,Bool.not_eq_true,List.any_eq_false,beq_iff_eq] at this
  refine⟨by simpa using this.1,fun B hB=>?_⟩
  exact this.2 (s,B) hB rfl
 ·simpa using h3 (s,B) hB
theorem jtv (ops:Array Oper):(Region.before ops).size=ops.size∧∀(j:Nat) (o:Oper),ops[j]?=some o→∀b,((Region.before ops).getD j 0).testBit b=true→
 ∃e∈o.after,Region.binds .any e=true∧(b=e.on∨(e.on<j∧((Region.before ops).getD e.on 0).testBit b=true)):=by
 have fold:∀(acc:Array Nat) (l:List Edge) (s:Nat) (b:Nat),(l.foldl (fun s e=>if Region.binds .any e then s ||| 2 ^ e.on ||| acc.getD e.on 0 else s) s).testBit b=true→
  s.testBit b=true∨∃e∈l,Region.binds .any e=true∧(b=e.on∨(acc.getD e.on 0).testBit b=true):=by
  intro acc l
  induction l with
  | nil=>intro s b h;exact .inl h
  | cons e l ih=>
   intro s b h
   simp only[List.foldl_cons] at h
   rcases ih _ b h with h | ⟨e',he',hb,hh⟩
   ·by_cases hbe:Region.binds .any e=true
    ·simp only[hbe,if_true,Nat.testBit_or,Bool.or_eq_true] at h
     rcases h with(h|h)|h
     ·exact .inl h
     ·rw[Nat.testBit_two_pow] at h
      exact .inr ⟨e,List.mem_cons_self ..,hbe,.inl (by simpa[eq_comm] using h)⟩
     ·exact .inr ⟨e,List.mem_cons_self ..,hbe,.inr h⟩
    ·simp only[hbe] at h;exact .inl h
   ·exact .inr ⟨e',List.mem_cons_of_mem _ he',hb,hh⟩
 have main:∀(l:List Oper) (acc:Array Nat) (pre:List Oper),acc.size=pre.length→
  (∀(j:Nat) (o:Oper),pre[j]?=some o→∀b,(acc.getD j 0).testBit b=true→∃e∈o.after,Region.binds .any e=true∧(b=e.on∨(e.on<j∧(acc.getD e.on 0).testBit b=true)))→
  let r:=l.foldl (fun acc o=>acc.push (o.after.foldl (fun s e=>if Region.binds .any e then s ||| 2 ^ e.on ||| acc.getD e.on 0 else s) 0)) acc
  r.size=(pre++l).length∧∀(j:Nat) (o:Oper),(pre++l)[j]?=some o→∀b,(r.getD j 0).testBit b=true→∃e∈o.after,Region.binds .any e=true∧(b=e.on∨(e.on<j∧(r.getD e.on 0).testBit b=true)):=by
  intro l
  induction l with
  | nil=>intro acc pre hs h;simpa[hs] using h
  | cons o l ih=>
   intro acc pre hs h
   simp only[List.foldl_cons]
   have:=ih (acc.push (o.after.foldl (fun s e=>if Region.binds .any e then s ||| 2 ^ e.on ||| acc.getD e.on 0 else s) 0)) (pre++[o]) (by simp[hs]) (fun j o' ho' b hb=>by
    have hget:∀q,q<acc.size→∀x:Nat,(acc.push x).getD q 0=acc.getD q 0:=fun q hq x=>by
     simp[Array.getElem?_push,Nat.ne_of_lt hq]
    by_cases hj:j<pre.length
    ·rw[List.getElem?_append_left hj] at ho'
     rw[hget j (by omega)] at hb
     obtain⟨e,he,hbe,hh⟩:=h j o' ho' b hb
     exact⟨e,he,hbe,hh.imp id fun⟨h1,h2⟩=>⟨h1,by rw[hget _ (by omega)];exact h2⟩⟩
    ·have hjl:=(List.getElem?_eq_some_iff.1 ho').1
     simp only[List.length_append,List.length_cons,List.length_nil] at hjl
     have hje:j=pre.length:=by omega
     subst hje
     simp at ho';subst ho'
     rw[←hs] at hb
     have hlast:∀x:Nat,(acc.push x).getD acc.size 0=x:=fun x=>by simp
     rw[hlast,←Array.foldl_toList] at hb
     rcases fold acc _ 0 b hb with h0 | ⟨e,he,hbe,hh⟩
     ·simp at h0
     ·refine⟨e,by simpa using he,hbe,hh.imp id fun h2=>?_⟩
      have hlt:e.on<acc.size:=by
       rcases Nat.lt_or_ge e.on acc.size with hl|hl
       ·exact hl
       ·simp[Array.getElem?_eq_none hl] at h2
      refine⟨by omega,?_⟩
      rw[hget _ hlt];exact h2)
   simpa using this
 have:=main ops.toList #[] [] rfl (by simp)
 simp only[List.nil_append,Array.foldl_toList,Array.length_toList] at this
 refine⟨this.1,fun j o ho b hb=>this.2 j o (by simpa using ho) b hb⟩
theorem jsr {ops:Array Oper} {rs:List Rec} (h:jeh ops rs=true) :
 (∀(i:Nat) (o:Oper),ops[i]?=some o→∀e∈o.after,Region.binds .any e=true→e.on<i)∧
 ∀(i j:Nat) (x y:Oper) (r q:Rec),i<j→ops[i]?=some x→ops[j]?=some y→rs[i]?=some r→rs[j]?=some q→((Region.before ops).getD j 0).testBit i=true∨jzm ops x y r q=false:=by
 simp only[jeh,Bool.and_eq_true,List.all_eq_true,List.mem_range,Bool.or_eq_true,Bool.not_eq_true'] at h
 obtain⟨h1,h2⟩:=h
 refine⟨fun i o ho e he hb=>?_,fun i j x y r q hij hx hy hr hq=>?_⟩
 ·have:=h1 (o,i) (by rw[List.mem_zipIdx_iff_getElem?];simpa using ho) e (by simpa using he)
  simp only[hb,decide_eq_true_eq] at this
  simpa using this
 ·have hj:j<ops.size:=(Array.getElem?_eq_some_iff.1 hy).1
  have:=h2 j hj i hij
  simpa[hx,hy,hr,hq] using this
theorem kce (hC:CallOK P C) {ops:Array Oper} (hd:∀o,o∈ops.toList→dstOk n o=true) {st st':St} {rs:List Rec} (h:runOps P cf C me ops ops.toList st=some (st',rs)) (hord:jeh ops rs=true)
 (hQ:∀a w,Rel m0 γ0 F0 w0 n st' a w→Q .normal a w) :
 ∀(fuel:Nat) (listed:Array Bool) (a:Act) (w:World),listed.size=ops.size→fuel=((List.range ops.size).filter fun i=>!listed.getD i true).length→
  (∀(j:Nat) (o:Oper),ops[j]?=some o→listed.getD j true=true→∀e∈o.after,Region.binds .any e=true→listed.getD e.on true=true)→
  Rel m0 γ0 F0 w0 n (stD st rs (fun i=>listed.getD i true) ops.size) a w→wpAny P .any ops Q fuel listed a w:=by
 obtain⟨hlen,hst,hrec⟩:=jmj _ _ _ _ h
 obtain⟨hedge,hclash⟩:=jsr hord
 simp only[Array.length_toList] at hlen hst
 have hrec':∀(k:Nat) (o:Oper),ops[k]?=some o→∃r,rs[k]?=some r∧jcv P cf C me ops o (stD st rs (fun _=>true) k)=some r:=fun k o ho=>hrec k o (by simpa using ho)
 have hdone:∀(listed:Array Bool) (a:Act) (w:World),listed.size=ops.size→Region.ready .any ops listed=[]→Rel m0 γ0 F0 w0 n (stD st rs (fun i=>listed.getD i true) ops.size) a w→Q .normal a w:=by
  intro listed a w hls hready hr
  have hall:∀i,i<ops.size→listed.getD i true=true:=by
   intro i
   induction i using Nat.strongRecOn with
   | _ i ih=>
    intro hi
    cases hli:listed.getD i true with
    | true=>rfl
    | false=>
     have:i∈Region.ready .any ops listed:=by
      simp only[Region.ready,List.mem_filter,List.mem_range,hli,Bool.not_false,Bool.true_and]
      refine⟨hi,?_⟩
      simp only[Array.getElem?_eq_getElem hi,Option.map_some,Option.getD_some,Array.all_eq_true]
      intro k hk
      by_cases hb:Region.binds .any ops[i].after[k]=true
      ·have hlt:=hedge i ops[i] (Array.getElem?_eq_getElem hi) _ (Array.getElem_mem hk) hb
       have:=ih _ hlt (by omega)
       have hsz:(ops[i].after[k]).on<listed.size:=by omega
       simp only[Array.getD_eq_getD_getElem?,Array.getElem?_eq_getElem hsz,Option.getD_some] at this ⊢
       simp[this]
      ·simp[hb]
     rw[hready] at this;cases this
  have:stD st rs (fun i=>listed.getD i true) ops.size=st':=by rw[hst];exact jte _ fun j hj=>hall j hj
  rw[this] at hr
  exact hQ a w hr
 intro fuel
 induction fuel with
 | zero=>
  intro listed a w hls hf hcl hr
  have hnil:Region.ready .any ops listed=[]:=by
   have h0:=List.eq_nil_of_length_eq_zero hf.symm
   rw[List.filter_eq_nil_iff] at h0
   simp only[Region.ready]
   rw[List.filter_eq_nil_iff]
   intro i hi
   have:=h0 i hi
   simp only[Bool.not_eq_true',Bool.not_eq_false] at this
   simp[this]
  exact⟨hnil,hdone listed a w hls hnil hr⟩
 | succ fuel ih=>
  intro listed a w hls hf hcl hr
  refine⟨fun hnil=>hdone listed a w hls hnil hr,fun i hi=>?_⟩
  simp only[Region.ready,List.mem_filter,List.mem_range,Bool.and_eq_true,Bool.not_eq_true'] at hi
  obtain⟨hisz,hil,hiafter⟩:=hi
  have ho:ops[i]?=some ops[i]:=Array.getElem?_eq_getElem hisz
  have hanc:∀e∈ops[i].after,Region.binds .any e=true→listed.getD e.on true=true:=fun e he hb=>by
   simp only[ho,Option.map_some,Option.getD_some,Array.all_eq_true] at hiafter
   obtain⟨k,hk,rfl⟩:=Array.mem_iff_getElem.1 he
   have:=hiafter k hk
   simp only[hb,Bool.not_true,Bool.false_or] at this
   cases hx:listed[(ops[i].after[k]).on]? with
   | none=>rw[Array.getD_eq_getD_getElem?,hx];rfl
   | some b=>simp only[Array.getD_eq_getD_getElem?,hx,Option.getD_some] at this ⊢;exact this
  have hclosed:∀(j:Nat),j<ops.size→(listed.getD j true=true∨j=i)→∀b,((Region.before ops).getD j 0).testBit b=true→listed.getD b true=true:=by
   intro j
   induction j using Nat.strongRecOn with
   | _ j ihj=>
    intro hj hlj b hb
    obtain⟨e,he,hbe,hh⟩:=(jtv ops).2 j ops[j] (Array.getElem?_eq_getElem hj) b hb
    have hle:listed.getD e.on true=true:=by
     rcases hlj with hlj|rfl
     ·exact hcl j _ (Array.getElem?_eq_getElem hj) hlj e he hbe
     ·exact hanc e he hbe
    rcases hh with rfl | ⟨hlt,hh⟩
    ·exact hle
    ·exact ihj e.on hlt (by omega) (.inl hle) b hh
  obtain⟨r,hri,hstep⟩:=hrec' i _ ho
  have hdst:=joj hstep
  have hearly:∀(j:Nat) (q:Rec),j<i→rs[j]?=some q→listed.getD j true=true∨jzm ops ops[j]! ops[i] q r=false:=fun j q hj hq=>by
   have hjs:j<ops.size:=by omega
   rcases hclash j i ops[j] ops[i] q r hj (Array.getElem?_eq_getElem hjs) ho hq hri with hb|hb
   ·exact .inl (hclosed i hisz (.inr rfl) j hb)
   ·exact .inr (by rw[getElem!_pos ops j hjs];exact hb)
  have hlate:∀(j:Nat) (q:Rec),i<j→listed.getD j true=true→rs[j]?=some q→jzm ops ops[i] ops[j]! r q=false:=fun j q hj hlj hq=>by
   have hjs:j<ops.size:=by have:=(List.getElem?_eq_some_iff.1 hq).1;omega
   rcases hclash i j ops[i] ops[j] r q hj ho (Array.getElem?_eq_getElem hjs) hri hq with hb|hb
   ·have:=hclosed j hjs (.inl hlj) i hb
    rw[hil] at this;cases this
   ·rw[getElem!_pos ops j hjs];exact hb
  have hqdst:∀(j:Nat) (q:Rec),rs[j]?=some q→q.dst=(ops[j]!).dst:=fun j q hq=>by
   have hjs:j<ops.size:=by have:=(List.getElem?_eq_some_iff.1 hq).1;omega
   obtain⟨q',hq',hs'⟩:=hrec' j ops[j] (Array.getElem?_eq_getElem hjs)
   rw[hq] at hq';cases hq'
   rw[getElem!_pos ops j hjs];exact joj hs'
  have hmin:min ops.size i=i:=by omega
  have hloc:jcv P cf C me ops ops[i] (stD st rs (fun i=>listed.getD i true) ops.size)=some r:=by
   refine jtg hstep (fun t ht=>?_) (fun s hs=>?_)
   ·have:=kgb (st0:=st) (rs:=rs) (D:=fun i=>listed.getD i true) (t:=t) (i:=i) (fun j q hj hq hdq=>by
     rcases hearly j q hj hq with h|h
     ·exact h
     ·exact absurd ht ((Oper.apart_spec (jen h).1).1 t (by rw[←hqdst j q hq];exact hdq))) (fun j q hj hlj hq hdq=>by
     have hne:i≠j:=fun e=>by subst e;rw[hil] at hlj;cases hlj
     have hc:=hlate j q (by omega) hlj hq
     exact(Oper.apart_spec (jen hc).1).2.2 t (by rw[←hqdst j q hq];exact hdq) ht) ops.size
    rw[hmin] at this
    exact this
   ·have:=kga (st0:=st) (rs:=rs) (D:=fun i=>listed.getD i true) (s:=s) (i:=i) (fun j q A hj hq hA=>by
     rcases hearly j q hj hq with h|h
     ·exact h
     ·exact absurd hs ((jen h).2.1 s A hA).1) (fun j q A hj hlj hq hA=>by
     have hne:i≠j:=fun e=>by subst e;rw[hil] at hlj;cases hlj
     have hc:=hlate j q (by omega) hlj hq
     exact(jen hc).2.2 s A hA hs) ops.size
    rw[hmin] at this
    exact this
  have hil':i<listed.size:=by omega
  have hget:∀j,(listed.setIfInBounds i true).getD j true=if j=i then true else listed.getD j true:=fun j=>by
   simp only[Array.getD_eq_getD_getElem?,Array.getElem?_setIfInBounds]
   by_cases hji:j=i
   ·subst hji;simp[hil']
   ·simp[hji,Ne.symm hji]
  have hmore:=jyc (st0:=st) (rs:=rs) (D:=fun i=>listed.getD i true) (D':=fun j=>(listed.setIfInBounds i true).getD j true) hri hil hget (fun j q hj hlj hq=>by
   have hc:=jen (hlate j q hj hlj hq)
   refine⟨fun d hdd=>?_,fun s A B hA hB=>(hc.2.1 s A hA).2 B hB⟩
   rw[hqdst j q hq]
   exact(Oper.apart_spec hc.1).2.1 d (by rw[←hdst];exact hdd)) ops.size
  rw[if_pos hisz] at hmore
  refine j57 hC ho (hd _ (by simp)) hloc hr fun a' w' hr'=>?_
  refine ih _ a' w' (by simpa using hls) ?_ (fun j o hoj hlj e he hb=>?_) (by rw[hmore];exact hr')
  ·have hcount:∀(l:List Nat),l.Nodup→i∈l→(l.filter fun j=>!listed.getD j true).length=(l.filter fun j=>!(listed.setIfInBounds i true).getD j true).length+1:=by
    intro l
    induction l with
    | nil=>intro _ h;cases h
    | cons x l ihl=>
     intro hnd hin
     obtain⟨hx,hnd'⟩:=List.nodup_cons.1 hnd
     by_cases hxi:x=i
     ·subst hxi
      have e:l.filter (fun j=>!listed.getD j true)=l.filter (fun j=>!(listed.setIfInBounds x true).getD j true):=List.filter_congr fun j hj=>by
       rw[hget,if_neg (fun e=>hx (by rw[←e];exact hj))]
      rw[List.filter_cons_of_pos (by rw[hil];rfl),List.filter_cons_of_neg (by rw[hget];simp),e]
      rfl
     ·have hin':i∈l:=by
       rcases List.mem_cons.1 hin with h|h
       ·exact absurd h.symm hxi
       ·exact h
      have:=ihl hnd' hin'
      by_cases hlx:listed.getD x true=true
      ·rw[List.filter_cons_of_neg (by rw[hlx];simp),List.filter_cons_of_neg (by rw[hget,if_neg hxi,hlx];simp)]
       exact this
      ·rw[List.filter_cons_of_pos (by simp[hlx]),List.filter_cons_of_pos (by rw[hget,if_neg hxi];simp[hlx]),List.length_cons,List.length_cons,this]
   have:=hcount (List.range ops.size) List.nodup_range (by simpa using hisz)
   omega
  ·rw[hget] at hlj ⊢
   split
   ·rfl
   ·by_cases hji:j=i
    ·subst hji
     rw[ho] at hoj;cases hoj
     exact hanc e he hb
    ·rw[if_neg hji] at hlj
     exact hcl j o hoj hlj e he hb
theorem j5v (hC:CallOK P C) (hm:P.follows .mixedOrders=true) {id:Nat} {ops:Array Oper} {draw:Bool} (hd:∀o,o∈ops.toList→dstOk n o=true) {st st':St} (h:jfc P cf C me ops draw st=some st') {a:Act} {w:World}
 (hr:Rel m0 γ0 F0 w0 n st a w) (hQ:∀a w,Rel m0 γ0 F0 w0 n st' a w→Q .normal a w):(Code.region id ops draw).wp P Q a w:=by
 unfold jfc at h
 split at h
 ·rename_i st2 rs h2
  split at h
  ·rename_i hdr
   subst hdr
   split at h
   ·rename_i hord
    simp only[Option.some.injEq] at h
    subst h
    refine wp_region_any hm (kce hC hd h2 hord hQ ops.size _ a _ (by simp) ?_ (fun j o hoj hlj=>?_) ?_)
    ·have:(List.range ops.size).filter (fun i=>!(Array.replicate ops.size false).getD i true)=List.range ops.size:=List.filter_eq_self.2 fun i hi=>by
      have:i<ops.size:=by simpa using hi
      simp[this]
     rw[this];simp
    ·have:j<ops.size:=(Array.getElem?_eq_some_iff.1 hoj).1
     simp[this] at hlj
    ·have:stD st rs (fun i=>(Array.replicate ops.size false).getD i true) ops.size=st:=by
      have:∀k,k≤ops.size→stD st rs (fun i=>(Array.replicate ops.size false).getD i true) k=st:=by
       intro k
       induction k with
       | zero=>intro _;rfl
       | succ k ih=>
        intro hk
        have hk':k<ops.size:=by omega
        have hf:(Array.replicate ops.size false).getD k true=false:=by simp[hk']
        show(if(Array.replicate ops.size false).getD k true=true then _ else _)=_
        rw[if_neg (by rw[hf];exact Bool.false_ne_true)]
        exact ih (by omega)
      exact this _ (Nat.le_refl _)
     rw[this]
     exact hr.drew
   ·cases h
  ·rename_i hdr
   simp only[Bool.not_eq_true] at hdr
   subst hdr
   simp only[Option.some.injEq] at h
   subst h
   refine wp_region ?_
   have:=jmt (Q:=Q) hC hd ops.toList 0 st st2 rs a w (fun j=>by simp) (by simp) h2 hr hQ
   simpa[List.range_eq_range'] using this
 ·cases h
end
end Go.Proofs.YtnaaceooknghjaaGreatDoor.X
namespace Go.Proofs.YtnaaceooknghjaaGreatDoor.X
open Go
def Ex.to:Ex→Exit
 | .normal=>.normal
 | .exit i=>.exit i
 | .ret=>.ret
section
variable {P:Program} {cf:Cfg}
theorem j9i {α:Type} {f:α→Sem Value} {w:World}:∀(l:List α) (vs:List Value),l.length=vs.length→(∀(j:Nat) (x:α) (v:Value),l[j]?=some x→vs[j]?=some v→(f x).run P w=.ok v w)→(l.mapM f).run P w=.ok vs w
 | [],[],_,_=>by simp[Sem.run_pure]
 | x::l,v::vs,hl,h=>by
  have h0:=h 0 x v rfl rfl
  have ih:=j9i l vs (by simpa using hl) fun j y u hy hu=>h (j+1) y u (by simpa using hy) (by simpa using hu)
  simp[h0,ih]
 | [],_::_,hl,_=>by simp at hl
 | _::_,[],hl,_=>by simp at hl
def RunsOK (P:Program) (cf:Cfg) (k:Nat):Prop:=
 ∀(me:FuncId) (c:Code) (st:St) (e:Ex) (st':St),exec P cf k me c st=some (e,st')→∀(n:Nat),jcm n c=true→
  ∀(m0:Mem) (γ0:Nat→GB) (F0:Nat→Prop) (w0:World) (Q:Exit→Act→World→Prop),
  (∀a w,Rel m0 γ0 F0 w0 n st' a w→Q e.to a w)→∀a w,Rel m0 γ0 F0 w0 n st a w→c.wp P Q a w
theorem j5a {k:Nat} (IH:∀j,j≤k→RunsOK P cf j):∀(j:Nat),j≤k→∀(me:FuncId) (b:Code) (st:St) (e:Ex) (st':St),exec P cf (j+1) me (.loop b) st=some (e,st')→∀(n:Nat),jcm n b=true→
 ∀(m0:Mem) (γ0:Nat→GB) (F0:Nat→Prop) (w0:World) (Q:Exit→Act→World→Prop),(∀a w,Rel m0 γ0 F0 w0 n st' a w→Q e.to a w)→∃r,∀a w,Rel m0 γ0 F0 w0 n st a w→Code.rounds P b Q r a w
 | 0,_,me,b,st,e,st',h,_,_,_,_,_,_,_,_=>by simp[exec] at h
 | j+1,hj,me,b,st,e,st',h,n,hc,m0,γ0,F0,w0,Q,hQ=>by
  rw[exec] at h
  cases hb:exec P cf (j+1) me b st with
  | none=>rw[hb] at h;simp at h
  | some x=>
   obtain⟨e1,st1⟩:=x
   rw[hb] at h
   cases e1 with
   | normal=>
    simp only at h
    obtain⟨r,hr⟩:=j5a IH j (by omega) me b st1 e st' h n hc m0 γ0 F0 w0 Q hQ
    exact⟨r+1,fun a w hrel=>by
     rw[rounds_succ]
     exact IH (j+1) hj me b st .normal st1 hb n hc m0 γ0 F0 w0 (Exit.then (Code.rounds P b Q _) Q) (fun a w h=>hr a w h) a w hrel⟩
   | exit id=>
    simp only[Option.some.injEq,Prod.mk.injEq] at h
    obtain⟨rfl,rfl⟩:=h
    exact⟨1,fun a w hrel=>by
     rw[rounds_succ]
     exact IH (j+1) hj me b st (.exit id) st1 hb n hc m0 γ0 F0 w0 (Exit.then (Code.rounds P b Q _) Q) (fun a w h=>hQ a w h) a w hrel⟩
   | ret=>
    simp only[Option.some.injEq,Prod.mk.injEq] at h
    obtain⟨rfl,rfl⟩:=h
    exact⟨1,fun a w hrel=>by
     rw[rounds_succ]
     exact IH (j+1) hj me b st .ret st1 hb n hc m0 γ0 F0 w0 (Exit.then (Code.rounds P b Q _) Q) (fun a w h=>hQ a w h) a w hrel⟩
theorem kci (hm:P.follows .mixedOrders=true) {k:Nat} (hC:CallOK P (jda P cf (exec P cf k))) (IH:∀j,j≤k→RunsOK P cf j):RunsOK P cf (k+1):=by
 intro me c st e st' h n hc m0 γ0 F0 w0 Q hQ a w hr
 have ihk:=IH k (Nat.le_refl _)
 cases c with
 | skip=>rw[exec] at h;simp only[Option.some.injEq,Prod.mk.injEq] at h;obtain⟨rfl,rfl⟩:=h;exact wp_skip (hQ a w hr)
 | label l=>rw[exec] at h;simp only[Option.some.injEq,Prod.mk.injEq] at h;obtain⟨rfl,rfl⟩:=h;exact wp_label (hQ a w hr)
 | exit id=>rw[exec] at h;simp only[Option.some.injEq,Prod.mk.injEq] at h;obtain⟨rfl,rfl⟩:=h;exact wp_exit (hQ a w hr)
 | ret=>rw[exec] at h;simp only[Option.some.injEq,Prod.mk.injEq] at h;obtain⟨rfl,rfl⟩:=h;exact wp_ret (hQ a w hr)
 | region id ops draw=>
  rw[exec] at h
  simp only[Option.map_eq_some_iff,Prod.mk.injEq] at h
  obtain⟨s,h1,rfl,rfl⟩:=h
  simp only[jcm,List.all_eq_true] at hc
  exact j5v hC hm hc h1 hr fun a w h=>hQ a w h
 | seq x y=>
  simp only[jcm,Bool.and_eq_true] at hc
  rw[exec] at h
  refine wp_seq ?_
  cases hx:exec P cf k me x st with
  | none=>rw[hx] at h;simp at h
  | some q=>
   obtain⟨e1,st1⟩:=q
   rw[hx] at h
   cases e1 with
   | normal=>
    simp only at h
    exact ihk me x st .normal st1 hx n hc.1 m0 γ0 F0 w0 (Exit.then (y.wp P Q) Q) (fun a w h'=>ihk me y st1 e st' h n hc.2 m0 γ0 F0 w0 Q hQ a w h') a w hr
   | exit id=>
    simp only[Option.some.injEq,Prod.mk.injEq] at h
    obtain⟨rfl,rfl⟩:=h
    exact ihk me x st (.exit id) st1 hx n hc.1 m0 γ0 F0 w0 (Exit.then (y.wp P Q) Q) (fun a w h'=>hQ a w h') a w hr
   | ret=>
    simp only[Option.some.injEq,Prod.mk.injEq] at h
    obtain⟨rfl,rfl⟩:=h
    exact ihk me x st .ret st1 hx n hc.1 m0 γ0 F0 w0 (Exit.then (y.wp P Q) Q) (fun a w h'=>hQ a w h') a w hr
 | cond x t f=>
  simp only[jcm,Bool.and_eq_true] at hc
  rw[exec] at h
  split at h
  ·rename_i b hb
   have hs:Slots st.m hr.choose hr.choose_spec.choose w st.ρ a:=hr.choose_spec.choose_spec.2.1
   have:=jnb hb (jah hs x)
   refine wp_cond this ?_
   cases b with
   | true=>exact ihk me t st e st' h n hc.1 m0 γ0 F0 w0 Q hQ a w hr
   | false=>exact ihk me f st e st' h n hc.2 m0 γ0 F0 w0 Q hQ a w hr
  ·cases h
 | block id b=>
  simp only[jcm] at hc
  rw[exec] at h
  refine wp_block ?_
  cases hx:exec P cf k me b st with
  | none=>rw[hx] at h;simp at h
  | some q=>
   obtain⟨e1,st1⟩:=q
   rw[hx] at h
   cases e1 with
   | normal=>
    simp only[Option.some.injEq,Prod.mk.injEq] at h
    obtain⟨rfl,rfl⟩:=h
    exact ihk me b st .normal st1 hx n hc m0 γ0 F0 w0 (Exit.inBlock id Q) (fun a w h'=>hQ a w h') a w hr
   | exit id'=>
    simp only at h
    refine ihk me b st (.exit id') st1 hx n hc m0 γ0 F0 w0 (Exit.inBlock id Q) (fun a w h'=>?_) a w hr
    simp only[Ex.to,Exit.inBlock]
    split at h
    ·rename_i hid
     rw[if_pos hid]
     simp only[Option.some.injEq,Prod.mk.injEq] at h
     obtain⟨rfl,rfl⟩:=h
     exact hQ a w h'
    ·rename_i hid
     rw[if_neg hid]
     simp only[Option.some.injEq,Prod.mk.injEq] at h
     obtain⟨rfl,rfl⟩:=h
     exact hQ a w h'
   | ret=>
    simp only[Option.some.injEq,Prod.mk.injEq] at h
    obtain⟨rfl,rfl⟩:=h
    exact ihk me b st .ret st1 hx n hc m0 γ0 F0 w0 (Exit.inBlock id Q) (fun a w h'=>hQ a w h') a w hr
 | loop b=>
  obtain⟨r,hl⟩:=j5a IH k (Nat.le_refl _) me b st e st' h n (by simpa[jcm] using hc) m0 γ0 F0 w0 Q hQ
  exact wp_loop_rounds r (hl a w hr)
 | _=>simp[exec] at h
def resSem (tmps:Array Value):ResultVar→Sem Value
 | .tmp t=>pure (tmps.getD t undef)
 | .cell a t=>do loadVar t (←asAddr (tmps.getD a undef))
theorem kdz {st:St} {γ:Nat→GB} {F:Nat→Prop} {w:World} {a:Act} (hi:Inv st.m γ F w) (hs:Slots st.m γ F w st.ρ a) {x:ResultVar} {p:PV} (h:(resP P st x).gives st.m p) :
 ∃v,(resSem a.tmps x).run P w=.ok v w∧RepP st.m γ F w p v:=by
 cases x with
 | tmp t=>
  simp only[resP,Mm.gives_ret] at h
  subst h
  exact⟨_,by simp only[resSem,Sem.run_pure],hs t⟩
 | cell b t=>
  simp only[resP,Mm.gives_bind] at h
  obtain⟨⟨cs,off⟩,h1,h2⟩:=h
  obtain⟨g,o,hv,hc⟩:=joa hi h1 (hs b)
  obtain⟨v,hl,hr⟩:=jok h2 hc
  exact⟨v,by simp only[resSem,hv];simp[asAddr,hl],hr⟩
theorem j0m {st:St} {γ:Nat→GB} {F:Nat→Prop} {w:World} {a:Act} (hi:Inv st.m γ F w) (hs:Slots st.m γ F w st.ρ a) {fn:Func} {rs:List PV} (h:(Mm.mapL (resP P st) fn.results.toList).gives st.m rs) :
 ∃v,(results fn a.tmps).run P w=.ok v w∧RepP st.m γ F w (tupR rs) v:=by
 have key:∀(l:List ResultVar) (rs:List PV),(Mm.mapL (resP P st) l).gives st.m rs→∃vs:List Value,(l.mapM (resSem a.tmps)).run P w=.ok vs w∧
  rs.length=vs.length∧∀(j:Nat) (p:PV) (v:Value),rs[j]?=some p→vs[j]?=some v→RepP st.m γ F w p v:=by
  intro l
  induction l with
  | nil=>intro rs h;rw[Mm.gives_mapL_nil] at h;subst h;exact⟨[],by simp[Sem.run_pure],rfl,by simp⟩
  | cons x l ih=>
   intro rs h
   rw[Mm.gives_mapL_cons] at h
   obtain⟨p,ps,h1,h2,rfl⟩:=h
   obtain⟨v,hv,hr⟩:=kdz (a:=a) hi hs h1
   obtain⟨vs,hvs,hl,hrs⟩:=ih ps h2
   refine⟨v::vs,?_,by simp[hl],fun j p' v' hp hv'=>?_⟩
   ·rw[List.mapM_cons]
    simp only[Sem.run_bind,hv,hvs,Result.andThen_ok,Sem.run_pure]
   ·cases j with
    | zero=>simp at hp hv';subst hp;subst hv';exact hr
    | succ j=>exact hrs j p' v' (by simpa using hp) (by simpa using hv')
 obtain⟨vs,h1,h2,h3⟩:=key _ _ h
 refine⟨if h:vs.toArray.size=1 then vs.toArray[0] else .tuple vs.toArray,?_,?_⟩
 ·have e:results fn a.tmps=(do let vs ←fn.results.mapM (resSem a.tmps);pure (if h:vs.size=1 then vs[0] else .tuple vs)):=rfl
  rw[e,Array.mapM_eq_mapM_toList]
  simp only[Sem.run_bind,Sem.run_map,h1,Result.andThen_ok,Sem.run_pure]
 ·match rs,vs,h2,h3 with
  | [],[],_,h3=>exact .tup [] [] rfl (by simp)
  | [p],[v],_,h3=>exact h3 0 p v rfl rfl
  | p::p2::ps,v::v2::vs,h2,h3=>simpa[tupR] using RepP.tup (p::p2::ps) (v::v2::vs) h2 h3
end
end Go.Proofs.YtnaaceooknghjaaGreatDoor.X
namespace Go.Proofs.YtnaaceooknghjaaGreatDoor.X
open Go
section
variable {P:Program} {cf:Cfg}
theorem kdo {ps:List Arr} {γ:Nat→GB} {F:Nat→Prop} {w:World} (hpl:ps.length≤1000) {fn:Func} {st:St} {a:Act} {w':World} {n:Nat} (hr:Rel (mp ps) γ F w n st a w')
 {r:PV} {ps' own:List Arr} (h:(outP P fn ps.length st).gives st.m (r,ps',own)):∃v,(results fn a.tmps).run P w'=.ok v w'∧jbi ps ps' own r γ F w (.returned v) w':=by
 obtain⟨γe,Fe,hi,hs,hms,hfs,hst,_,_⟩:=hr
 simp only[outP,Mm.gives_bind,Mm.gives_chk,Mm.gives_ret,Bool.and_eq_true,decide_eq_true_eq,List.all_eq_true,Prod.mk.injEq] at h
 obtain⟨rs,hrs,pe,hpe,L,hL,r',hr',ps2,hps,own2,hown,⟨hnd,hLo⟩,rfl,rfl,rfl⟩:=h
 obtain⟨v,hv,hrv⟩:=j0m (a:=a) hi hs hrs
 have hpel:pe.length=ps.length:=by rw[Mm.mapL_length hpe];simp
 have hps2:ps2.length=ps.length:=by rw[Mm.mapL_length hps,hpel]
 have hownl:own2.length=L.length:=Mm.mapL_length hown
 have hown1:∀s,s∈L→s<1000∨3000≤s:=fun s hs=>by have:=hLo s hs;simpa[ownSite] using this
 have hpar:∀j,j<ps.length→∃A B,st.m (1000+j)=some A∧ps2[j]?=some B∧(jbf (jb6 ps.length L) A.ver A).gives st.m B:=fun j hj=>by
  obtain⟨A,hA,hg⟩:=Mm.mapL_get hpe j j (by simp[hj])
  simp only[Mm.gives_get] at hg
  split at hg
  ·rename_i A' hA'
   simp only[Mm.gives_ret] at hg;subst hg
   obtain⟨B,hB,hren⟩:=Mm.mapL_get hps j A' hA
   exact⟨A',B,hA',hB,hren⟩
  ·simp[Mm.gives_fail] at hg
 have hos:∀(j s:Nat),L[j]?=some s→∃A B,st.m s=some A∧own2[j]?=some B∧(jbf (jb6 ps.length L) 0 A).gives st.m B:=fun j s hjs=>by
  obtain⟨B,hB,hg⟩:=Mm.mapL_get hown j s hjs
  simp only[Mm.gives_get] at hg
  split at hg
  ·rename_i A hA;exact⟨A,B,hA,hB,hg⟩
  ·simp[Mm.gives_fail] at hg
 let γq:Nat→GB:=fun s=>if 2000≤s then γe (L.getD (s-2000) 0) else γe s
 have hq1:∀j B,ps2[j]?=some B→mq ps2 own2 (1000+j)=some B:=fun j B hB=>by
  have:j<ps.length:=by rw[←hps2];exact(List.getElem?_eq_some_iff.1 hB).1
  simp only[mq]
  rw[if_neg (by omega),if_pos (by omega)]
  simpa using hB
 have hq2:∀j B,own2[j]?=some B→mq ps2 own2 (2000+j)=some B:=fun j B hB=>by
  simp only[mq]
  rw[if_pos (by omega)]
  simpa using hB
 have hg1:∀j,j<ps.length→γq (1000+j)=γe (1000+j):=fun j hj=>by
  show(if 2000≤1000+j then _ else _)=_
  rw[if_neg (by omega)]
 have hg2:∀(j s:Nat),L[j]?=some s→γq (2000+j)=γe s:=fun j s hjs=>by
  show(if 2000≤2000+j then _ else _)=_
  rw[if_pos (by omega)]
  simp[hjs]
 have hlook:jqg (jb6 ps.length L) st.m st.m γe (mq ps2 own2) γq:=by
  intro s ver s' v' hg A hA hve
  simp only[jb6,Mm.gives_get,hA,Mm.gives_chk,beq_iff_eq] at hg
  obtain⟨rfl,hg⟩:=hg
  split at hg
  ·rename_i hrange
   simp only[Mm.gives_ret,Prod.mk.injEq] at hg
   obtain⟨rfl,rfl⟩:=hg
   obtain⟨A2,B,hA2,hB,hren⟩:=hpar (s-1000) (by omega)
   rw[show 1000+(s-1000)=s from by omega] at hA2
   rw[hA] at hA2;cases hA2
   obtain⟨_,_,r3,r4⟩:=jaj hren
   have hb:=hq1 _ _ hB
   have hgg:=hg1 (s-1000) (by omega)
   rw[show 1000+(s-1000)=s from by omega] at hb hgg
   exact⟨B,hb,by omega,fun _=>⟨rfl,r3,hgg⟩⟩
  ·split at hg
   ·rename_i hc
    simp only[Mm.gives_ret,Prod.mk.injEq] at hg
    obtain⟨rfl,rfl⟩:=hg
    have hin:s∈L:=by simpa using hc
    have hidx:L[L.idxOf s]?=some s:=by
     have:=List.idxOf_lt_length_of_mem hin
     rw[List.getElem?_eq_getElem this,List.getElem_idxOf]
    obtain⟨A2,B,hA2,hB,hren⟩:=hos _ _ hidx
    rw[hA] at hA2;cases hA2
    obtain⟨_,_,r3,r4⟩:=jaj hren
    exact⟨B,hq2 _ _ hB,by omega,fun _=>⟨rfl,r3,hg2 _ _ hidx⟩⟩
   ·simp[Mm.gives_fail] at hg
 have hsite:∀s B,mq ps2 own2 s=some B→∃t A ver,st.m t=some A∧γq s=γe t∧(jbf (jb6 ps.length L) ver A).gives st.m B∧
  ((1000≤s∧s<1000+ps.length∧t=s)∨(2000≤s∧L[s-2000]?=some t)):=fun s B hB=>by
  unfold mq at hB
  split at hB
  ·rename_i hs2
   have hlt:s-2000<L.length:=by rw[←hownl];exact(List.getElem?_eq_some_iff.1 hB).1
   have hjs:=List.getElem?_eq_getElem hlt
   obtain⟨A,B2,hA,hB2,hren⟩:=hos _ _ hjs
   rw[hB] at hB2;cases hB2
   have:=hg2 _ _ hjs
   rw[show 2000+(s-2000)=s from by omega] at this
   exact⟨_,A,0,hA,this,hren,.inr ⟨hs2,hjs⟩⟩
  ·split at hB
   ·rename_i hs2 hs1
    have hlt:s-1000<ps.length:=by rw[←hps2];exact(List.getElem?_eq_some_iff.1 hB).1
    obtain⟨A,B2,hA,hB2,hren⟩:=hpar _ hlt
    rw[hB] at hB2;cases hB2
    have:=hg1 _ hlt
    rw[show 1000+(s-1000)=s from by omega] at this hA
    exact⟨s,A,A.ver,hA,this,hren,.inl ⟨hs1,by omega,rfl⟩⟩
   ·cases hB
 refine⟨v,hv,v,γq,Fe,rfl,hps2,⟨fun s B hB=>?_,fun s B hB hBl=>?_,fun s s' B B' hB hB' hl hl' e=>?_,hi.bound,hi.glob⟩,fun s A hA=>?_,hfs.sub,fun b hb=>?_,⟨hst.os,hst.tape,hst.output,hst.size,hst.frame,fun s B hB hBl=>?_⟩,
  jp2 hlook (fun _ h=>h) (fun _ _=>rfl) 3 _ _ v hrv hr'⟩
 ·obtain⟨t,A,ver,hA,hg,hren,_⟩:=hsite s B hB
  rw[hg]
  exact jd8 hlook (fun _ h=>h) (fun _ _=>rfl) rfl hren (hi.holds t A hA)
 ·obtain⟨t,A,ver,hA,hg,hren,_⟩:=hsite s B hB
  rw[hg]
  exact hi.notF t A hA (jaj hren).1
 ·obtain⟨t,A,ver,hA,hg,hren,hcase⟩:=hsite s B hB
  obtain⟨t',A',ver',hA',hg',hren',hcase'⟩:=hsite s' B' hB'
  rw[hg,hg'] at e
  have:=hi.dist t t' A A' hA hA' (jaj hren).1 (jaj hren').1 e
  subst this
  rcases hcase with⟨c1,c2,rfl⟩ | ⟨c1,c2⟩
  ·rcases hcase' with⟨d1,d2,d3⟩ | ⟨d1,d2⟩
   ·exact d3
   ·have:=hown1 _ (List.mem_of_getElem? d2);omega
  ·rcases hcase' with⟨d1,d2,d3⟩ | ⟨d1,d2⟩
   ·have:=hown1 _ (List.mem_of_getElem? c2);omega
   ·have:=(List.getElem?_inj (List.getElem?_eq_some_iff.1 c2).1 hnd).1 (c2.trans d2.symm)
    omega
 ·have hs:1000≤s∧s<1000+ps.length:=by
   unfold mp at hA
   split at hA
   ·rename_i h;have:=(List.getElem?_eq_some_iff.1 hA).1;omega
   ·cases hA
  obtain⟨A',hA',hl,he⟩:=hms s A hA
  obtain⟨A2,B,hA2,hB,hren⟩:=hpar (s-1000) (by omega)
  have hb:=hq1 _ _ hB
  have hgg:=hg1 (s-1000) (by omega)
  rw[show 1000+(s-1000)=s from by omega] at hA2 hb hgg
  rw[hA'] at hA2;cases hA2
  obtain⟨_,_,r3,r4⟩:=jaj hren
  refine⟨B,hb,by omega,fun e=>?_⟩
  obtain⟨x1,x2⟩:=he (by omega)
  exact⟨Arr.like_trans x1 r3,by rw[hgg,x2]⟩
 ·rcases hfs.grow b hb with h|h | ⟨s,A,hA,_,ho,_⟩
  ·exact .inl h
  ·exact .inr h
  ·unfold mp at hA
   split at hA
   ·rename_i h
    have:=(List.getElem?_eq_some_iff.1 hA).1
    simp only[ownSite,Bool.or_eq_true,decide_eq_true_eq] at ho
    omega
   ·cases hA
 ·obtain⟨t,A,ver,hA,hg,hren,hcase⟩:=hsite s B hB
  rw[hg]
  rcases hcase with⟨c1,c2,rfl⟩ | ⟨c1,c2⟩
  ·exact hst.blocks t A hA (jaj hren).1
  ·rcases hst.blocks t A hA (jaj hren).1 with⟨A0,hA0,_⟩ | h
   ·have:=hown1 _ (List.mem_of_getElem? c2)
    unfold mp at hA0
    split at hA0
    ·have:=(List.getElem?_eq_some_iff.1 hA0).1;omega
    ·cases hA0
   ·exact .inr h
theorem j2n (hp:CallOK P (primC cf)) {k:Nat} (hE:RunsOK P cf k):CallOK P (jda P cf (exec P cf k)):=by
 intro f args ps r ps' own h hps
 unfold jda at h
 cases hg:primC cf f args ps with
 | some g=>
  rw[hg] at h
  simp only at h
  exact hp f args ps r ps' own (by rw[hg];exact h) hps
 | none=>
  rw[hg] at h
  simp only at h
  split at h
  ·rename_i fn hfn
   split at h
   ·rename_i c hc
    split at h
    ·rename_i hcond
     obtain⟨hlen,hname,hok⟩:=hcond
     refine⟨enters_of hfn hname hc,fun γ F w vals hi hvl hrep=>?_⟩
     refine calls_of_wp hfn hc ?_
     have hrel:Rel (mp ps) γ F w fn.ntmps (jdk args ps) { tmps:=vals.toArray++Array.replicate (fn.ntmps-vals.toArray.size) undef,defers:=[] } w:=by
      refine⟨γ,F,hi,fun t=>?_,MemStep.refl _ _,FStep.refl _ _ _ _,Stp.refl _ _ _,by simp;omega,rfl⟩
      show RepP (mp ps) γ F w (args.getD t (.i (.v undef))) _
      by_cases ht:t<vals.length
      ·have h1:args[t]?=some args[t]:=List.getElem?_eq_getElem (by omega)
       have h2:vals[t]?=some vals[t]:=List.getElem?_eq_getElem ht
       have:=hrep t _ _ h1 h2
       have e1:args.getD t (.i (.v undef))=args[t]:=by simp[List.getD,h1]
       have e2:(vals.toArray++Array.replicate (fn.ntmps-vals.toArray.size) undef).getD t undef=vals[t]:=by
        rw[Array.getD_eq_getD_getElem?,Array.getElem?_append_left (by simpa using ht)]
        simp[h2]
       rw[e1,e2];exact this
      ·have e1:args.getD t (.i (.v undef))=.i (.v undef):=by simp[List.getD,List.getElem?_eq_none (by omega:args.length≤t)]
       have e2:(vals.toArray++Array.replicate (fn.ntmps-vals.toArray.size) undef).getD t undef=undef:=by
        rw[Array.getD_eq_getD_getElem?,Array.getElem?_append_right (by simp;omega)]
        simp only[Array.getElem?_replicate]
        split<;>rfl
       rw[e1,e2];exact .i (.v undef)
     have fin:∀(e:Ex) (st':St),exec P cf k f c (jdk args ps)=some (e,st')→(e=.normal∨e=.ret)→((outP P fn ps.length st').run st'.m).map (·.1)=some (r,ps',own)→
      c.wp P (bodyPost P fn (jbi ps ps' own r γ F w)) { tmps:=vals.toArray++Array.replicate (fn.ntmps-vals.toArray.size) undef,defers:=[] } w:=by
      intro e st' he hcase ho
      simp only[Option.map_eq_some_iff] at ho
      obtain⟨⟨x,rd⟩,hx,rfl⟩:=ho
      refine hE f c _ e st' he fn.ntmps hok (mp ps) γ F w _ (fun a w' hr'=>?_) _ _ hrel
      have hdef:a.defers=[]:=by obtain⟨_,_,_,_,_,_,_,_,h⟩:=hr';exact h
      obtain⟨v,hv,hpost⟩:=kdo hps hr' ⟨rd,hx⟩
      rcases hcase with rfl|rfl
      ·exact⟨hdef,v,hv,hpost⟩
      ·exact⟨hdef,v,hv,hpost⟩
     split at h
     ·rename_i st' he;exact fin _ st' he (.inl rfl) h
     ·rename_i st' he;exact fin _ st' he (.inr rfl) h
     ·cases h
    ·cases h
   ·cases h
  ·cases h
theorem jvx (hm:P.follows .mixedOrders=true) (hp:CallOK P (primC cf)):∀k,∀j,j≤k→RunsOK P cf j
 | 0=>fun j hj=>by
  obtain rfl:j=0:=by omega
  intro me c st e st' h
  simp[exec] at h
 | k+1=>fun j hj=>by
  rcases Nat.lt_or_ge k j with h|h
  ·obtain rfl:j=k+1:=by omega
   exact kci hm (j2n hp (jvx hm hp k k (Nat.le_refl _))) (jvx hm hp k)
  ·exact jvx hm hp k j h
theorem j7x (hm:P.follows .mixedOrders=true) (hp:CallOK P (primC cf)) (k:Nat):CallOK P (jda P cf (exec P cf k)):=j2n hp (jvx hm hp k k (Nat.le_refl _))
end
end Go.Proofs.YtnaaceooknghjaaGreatDoor.X
namespace Go.Proofs.YtnaaceooknghjaaGreatDoor.X
open Go
def Ev (p:Nat→Prop):Prop:=∃N,∀n,N≤n→p n
theorem Ev.all {p:Nat→Prop} (h:∀n,p n):Ev p:=⟨0,fun n _=>h n⟩
theorem Ev.mono {p q:Nat→Prop} (h:∀n,p n→q n):Ev p→Ev q:=fun⟨N,hN⟩=>⟨N,fun n hn=>h n (hN n hn)⟩
theorem Ev.and {p q:Nat→Prop}:Ev p→Ev q→Ev fun n=>p n∧q n:=fun⟨N,hN⟩ ⟨M,hM⟩=>⟨max N M,fun n hn=>⟨hN n (by omega),hM n (by omega)⟩⟩
theorem Ev.succ {p:Nat→Prop}:Ev (fun n=>p (n+1))→Ev p:=fun⟨N,hN⟩=>⟨N+1,fun n hn=>by
 obtain⟨k,rfl⟩:∃k,n=k+1:=⟨n-1,by omega⟩
 exact hN k (by omega)⟩
theorem Ev.some_eq {α:Type} {f:Nat→Option α} {a b:α} (h:Ev fun n=>f n=some a) (k:Ev fun n=>f n=some b):a=b:=by
 obtain⟨N,hN⟩:=h.and k
 have:=hN N (Nat.le_refl _)
 have e:=this.1.symm.trans this.2
 exact Option.some.inj e
section
variable (P:Program) (cf:Cfg)
abbrev Cn (n:Nat):jci:=jda P cf (exec P cf n)
open Classical in
noncomputable def KK:jci:=fun f args ps=>
 if h:∃res,Ev fun n=>Cn P cf n f args ps=some res then some (Classical.choose h) else none
variable {P cf}
theorem keq {f:FuncId} {args:List PV} {ps:List Arr} {res:PV×List Arr×List Arr} (h:Ev fun n=>Cn P cf n f args ps=some res):KK P cf f args ps=some res:=by
 have hx:∃res,Ev fun n=>Cn P cf n f args ps=some res:=⟨res,h⟩
 unfold KK
 rw[dif_pos hx]
 exact congrArg some ((Classical.choose_spec hx).some_eq h)
theorem kbk {f:FuncId} {args:List PV} {ps:List Arr} {res:PV×List Arr×List Arr} (h:KK P cf f args ps=some res):Ev fun n=>Cn P cf n f args ps=some res:=by
 unfold KK at h
 split at h
 ·rename_i hx
  have:=Classical.choose_spec hx
  rw[Option.some.inj h] at this
  exact this
 ·cases h
theorem kg4 (hm:P.follows .mixedOrders=true) (hp:CallOK P (primC cf)):CallOK P (KK P cf):=by
 intro f args ps r ps' own h hps
 obtain⟨N,hN⟩:=kbk h
 exact j7x hm hp N f args ps r ps' own (hN N (Nat.le_refl _)) hps
theorem jwf {me:FuncId} {dst:Option Nat} {f:FuncId} {args:List PV} {m:Mem} {x:(PV×List (Nat×Arr))×List Nat}
 (h:(jhz cf (KK P cf) me dst f args).run m=some x):Ev fun n=>(jhz cf (Cn P cf n) me dst f args).run m=some x:=by
 unfold jhz at h ⊢
 split at h
 ·rename_i hmut
  rw[Mm.run_bind] at h
  simp only[hmut,if_true]
  split at h
  ·rename_i a r hs
   obtain⟨L,args',ps,vs⟩:=a
   simp only at h
   cases hk:KK P cf f args' ps with
   | none=>rw[hk] at h;simp[Mm.run] at h
   | some res=>
    refine(kbk hk).mono fun n hn=>?_
    rw[Mm.run_bind,hs]
    simp only[hn]
    rw[hk] at h
    exact h
  ·cases h
 ·rename_i hmut
  rw[Mm.run_bind] at h
  simp only[hmut,Bool.false_eq_true,if_false]
  split at h
  ·rename_i args' r hs
   cases hk:KK P cf f args' [] with
   | none=>rw[hk] at h;simp[Mm.run] at h
   | some res=>
    refine(kbk hk).mono fun n hn=>?_
    rw[Mm.run_bind,hs]
    simp only[hn]
    rw[hk] at h
    exact h
  ·cases h
theorem j9u {me:FuncId} {o:Oper} {ρ:Nat→PV} {m:Mem} {x:(PV×List (Nat×Arr))×List Nat}
 (h:(ja0 P cf (KK P cf) me o ρ).run m=some x):Ev fun n=>(ja0 P cf (Cn P cf n) me o ρ).run m=some x:=by
 unfold ja0 at h ⊢
 cases ho:o.op with
 | call c=>
  simp only[ho] at h ⊢
  cases hc:c.callee with
  | value fv=>
   simp only[hc] at h ⊢
   cases hf:opnd ρ fv with
   | fn f a b=>simp only[hf] at h ⊢;exact jwf h
   | i y=>
    cases y with
    | fn f a b=>simp only[hf] at h ⊢;exact jwf h
    | _=>simp only[hf] at h ⊢;exact .all fun _=>h
   | _=>simp only[hf] at h ⊢;exact .all fun _=>h
  | _=>simp only[hc] at h ⊢;exact .all fun _=>h
 | makeFunc f x y=>cases f<;>(simp only[ho] at h ⊢;exact .all fun _=>h)
 | slice t x lo hi mx=>cases mx<;>(simp only[ho] at h ⊢;exact .all fun _=>h)
 | _=>simp only[ho] at h ⊢;exact .all fun _=>h
theorem j55 {me:FuncId} {ops:Array Oper} {o:Oper} {st:St} {r:Rec} (h:jcv P cf (KK P cf) me ops o st=some r):Ev fun n=>jcv P cf (Cn P cf n) me ops o st=some r:=by
 unfold jcv at h ⊢
 cases hw:jfd ops o st.ρ with
 | none=>rw[hw] at h;cases h
 | some b=>
  rw[hw] at h
  cases b with
  | false=>exact .all fun _=>h
  | true=>
   simp only[Option.map_eq_some_iff] at h ⊢
   obtain⟨x,hx,he⟩:=h
   exact(j9u hx).mono fun n hn=>⟨x,hn,he⟩
theorem js1 {me:FuncId} {ops:Array Oper}:∀{l:List Oper} {st:St} {x:St×List Rec},runOps P cf (KK P cf) me ops l st=some x→Ev fun n=>runOps P cf (Cn P cf n) me ops l st=some x
 | [],st,x,h=>.all fun _=>h
 | o::l,st,x,h=>by
  simp only[runOps] at h
  split at h
  ·rename_i r hr
   split at h
   ·rename_i st' rs h2
    refine((j55 hr).and (js1 h2)).mono fun n hn=>?_
    simp only[runOps,hn.1,hn.2]
    exact h
   ·cases h
  ·cases h
theorem j0l {me:FuncId} {ops:Array Oper} {draw:Bool} {st st':St} (h:jfc P cf (KK P cf) me ops draw st=some st'):Ev fun n=>jfc P cf (Cn P cf n) me ops draw st=some st':=by
 unfold jfc at h ⊢
 split at h
 ·rename_i st2 rs h2
  refine(js1 h2).mono fun n hn=>?_
  simp only[hn]
  exact h
 ·cases h
variable (P cf) in
def XW (me:FuncId) (c:Code) (st:St) (Q:Ex→St→Prop):Prop:=∃e st',(Ev fun n=>exec P cf n me c st=some (e,st'))∧Q e st'
variable {me:FuncId} {st:St} {Q:Ex→St→Prop}
theorem XW.mono {c:Code} {Q':Ex→St→Prop} (h:XW P cf me c st Q) (hq:∀e s,Q e s→Q' e s):XW P cf me c st Q':=
 let ⟨e,s,h1,h2⟩:=h;⟨e,s,h1,hq _ _ h2⟩
theorem jmw (h:Q .normal st):XW P cf me .skip st Q:=⟨.normal,st,Ev.succ (.all fun _=>by rw[exec]),h⟩
theorem jir {l:Nat} (h:Q .normal st):XW P cf me (.label l) st Q:=⟨.normal,st,Ev.succ (.all fun _=>by rw[exec]),h⟩
theorem jmu {i:Nat} (h:Q (.exit i) st):XW P cf me (.exit i) st Q:=⟨_,st,Ev.succ (.all fun _=>by rw[exec]),h⟩
theorem jtt (h:Q .ret st):XW P cf me .ret st Q:=⟨.ret,st,Ev.succ (.all fun _=>by rw[exec]),h⟩
theorem jts {id:Nat} {ops:Array Oper} {draw:Bool} {st':St} (hr:jfc P cf (KK P cf) me ops draw st=some st') (h:Q .normal st'):XW P cf me (.region id ops draw) st Q:=
 ⟨.normal,st',Ev.succ ((j0l hr).mono fun n hn=>by rw[exec,hn];rfl),h⟩
def sq (P:Program) (cf:Cfg) (me:FuncId) (b:Code) (Q:Ex→St→Prop):Ex→St→Prop
 | .normal,s=>XW P cf me b s Q
 | .exit i,s=>Q (.exit i) s
 | .ret,s=>Q .ret s
theorem jtu {a b:Code} (h:XW P cf me a st (sq P cf me b Q)):XW P cf me (.seq a b) st Q:=by
 obtain⟨e,s,h1,h2⟩:=h
 cases e with
 | normal=>
  obtain⟨e',s',h3,h4⟩:=h2
  exact⟨e',s',Ev.succ ((h1.and h3).mono fun n hn=>by rw[exec,hn.1];exact hn.2),h4⟩
 | exit i=>exact⟨.exit i,s,Ev.succ (h1.mono fun n hn=>by rw[exec,hn]),h2⟩
 | ret=>exact⟨.ret,s,Ev.succ (h1.mono fun n hn=>by rw[exec,hn]),h2⟩
theorem kel {x:Operand} {a b:Code} {t:Bool} (hx:asBoolP (opnd st.ρ x)=some t) (h:if t=true then XW P cf me a st Q else XW P cf me b st Q):XW P cf me (.cond x a b) st Q:=by
 cases t with
 | true=>
  obtain⟨e,s,h1,h2⟩:=h
  exact⟨e,s,Ev.succ (h1.mono fun n hn=>by rw[exec,hx];exact hn),h2⟩
 | false=>
  obtain⟨e,s,h1,h2⟩:=h
  exact⟨e,s,Ev.succ (h1.mono fun n hn=>by rw[exec,hx];exact hn),h2⟩
def bl (id:Nat) (Q:Ex→St→Prop):Ex→St→Prop
 | .normal,s=>Q .normal s
 | .exit i,s=>if i=id then Q .normal s else Q (.exit i) s
 | .ret,s=>Q .ret s
theorem jiq {id:Nat} {b:Code} (h:XW P cf me b st (bl id Q)):XW P cf me (.block id b) st Q:=by
 obtain⟨e,s,h1,h2⟩:=h
 cases e with
 | normal=>exact⟨.normal,s,Ev.succ (h1.mono fun n hn=>by rw[exec,hn]),h2⟩
 | exit i=>
  simp only[bl] at h2
  by_cases hi:i=id
  ·rw[if_pos hi] at h2
   exact⟨.normal,s,Ev.succ (h1.mono fun n hn=>by rw[exec,hn];simp only[hi,if_true]),h2⟩
  ·rw[if_neg hi] at h2
   exact⟨.exit i,s,Ev.succ (h1.mono fun n hn=>by rw[exec,hn];simp only[hi,if_false]),h2⟩
 | ret=>exact⟨.ret,s,Ev.succ (h1.mono fun n hn=>by rw[exec,hn]),h2⟩
theorem jf8 {b:Code} (h:XW P cf me b st (sq P cf me (.loop b) Q)):XW P cf me (.loop b) st Q:=by
 obtain⟨e,s,h1,h2⟩:=h
 cases e with
 | normal=>
  obtain⟨e',s',h3,h4⟩:=h2
  exact⟨e',s',Ev.succ ((h1.and h3).mono fun n hn=>by rw[exec,hn.1];exact hn.2),h4⟩
 | exit i=>exact⟨.exit i,s,Ev.succ (h1.mono fun n hn=>by rw[exec,hn]),h2⟩
 | ret=>exact⟨.ret,s,Ev.succ (h1.mono fun n hn=>by rw[exec,hn]),h2⟩
theorem jbo {b:Code} (I:Nat→St→Prop) (h:∀n s,I n s→XW P cf me b s (fun e s'=>match e with | .normal=>∃k,k<n∧I k s' | .exit i=>Q (.exit i) s' | .ret=>Q .ret s')) :
 ∀n s,I n s→XW P cf me (.loop b) s Q:=by
 intro n
 induction n using Nat.strongRecOn with
 | _ n ih=>
  intro s hs
  refine jf8 ((h n s hs).mono fun e s' hq=>?_)
  cases e with
  | normal=>obtain⟨k,hk,hI⟩:=hq;exact ih k hk s' hI
  | exit i=>exact hq
  | ret=>exact hq
def Post (P:Program) (fn:Func) (np:Nat) (res:PV×List Arr×List Arr) (e:Ex) (s:St):Prop:=
 (match e with | .exit _=>False|_=>True)∧∃rd,(outP P fn np s).run s.m=some (res,rd)
theorem jx1 {P:Program} {fn:Func} {np:Nat} {res:PV×List Arr×List Arr} {s:St} (h:∃r rd,(outP P fn np s).run s.m=some (r,rd)∧r=res):Post P fn np res .ret s:=
 let ⟨_,rd,h1,h2⟩:=h;⟨trivial,rd,by rw[h1,h2]⟩
theorem jmf {P:Program} {fn:Func} {np:Nat} {res:PV×List Arr×List Arr} {s:St} (h:∃r rd,(outP P fn np s).run s.m=some (r,rd)∧r=res):Post P fn np res .normal s:=
 let ⟨_,rd,h1,h2⟩:=h;⟨trivial,rd,by rw[h1,h2]⟩
theorem jc6 {f:FuncId} {fn:Func} {c:Code} {args:List PV} {ps:List Arr} {res:PV×List Arr×List Arr} (hp:primC cf f args ps=none) (hf:P.funcs[f]?=some fn) (hb:fn.body=some c)
 (hok:args.length≤fn.ntmps∧(fn.name == "runtime.NumGoroutine")=false∧jcm fn.ntmps c=true)
 (h:XW P cf f c (jdk args ps) (Post P fn ps.length res)):KK P cf f args ps=some res:=by
 obtain⟨e,s,h1,h2,rd,h3⟩:=h
 refine keq (h1.mono fun n hn=>?_)
 show jda P cf (exec P cf n) f args ps=some res
 unfold jda
 rw[hp,hf]
 simp only[hb,if_pos hok,hn]
 cases e with
 | normal=>simp only[h3,Option.map_some]
 | exit i=>exact h2.elim
 | ret=>simp only[h3,Option.map_some]
def j0w (P:Program) (fn:Func) (np:Nat) (Φ:PV×List Arr×List Arr→Prop) (e:Ex) (s:St):Prop:=∃res,Φ res∧Post P fn np res e s
theorem jsw {P:Program} {fn:Func} {np:Nat} {Φ:PV×List Arr×List Arr→Prop} {s:St} (h:∃r rd,(outP P fn np s).run s.m=some (r,rd)∧Φ r):j0w P fn np Φ .ret s:=
 let ⟨r,rd,h1,h2⟩:=h;⟨r,h2,trivial,rd,h1⟩
theorem jj0 {P:Program} {fn:Func} {np:Nat} {Φ:PV×List Arr×List Arr→Prop} {s:St} (h:∃r rd,(outP P fn np s).run s.m=some (r,rd)∧Φ r):j0w P fn np Φ .normal s:=
 let ⟨r,rd,h1,h2⟩:=h;⟨r,h2,trivial,rd,h1⟩
theorem kap {Φ:PV×List Arr×List Arr→Prop} {f:FuncId} {fn:Func} {c:Code} {args:List PV} {ps:List Arr} (hp:primC cf f args ps=none) (hf:P.funcs[f]?=some fn) (hb:fn.body=some c)
 (hok:args.length≤fn.ntmps∧(fn.name == "runtime.NumGoroutine")=false∧jcm fn.ntmps c=true)
 (h:XW P cf f c (jdk args ps) (j0w P fn ps.length Φ)):∃res,Φ res∧KK P cf f args ps=some res:=by
 obtain⟨e,s,h1,res,h2,h3⟩:=h
 exact⟨res,h2,jc6 hp hf hb hok ⟨e,s,h1,h3⟩⟩
end
attribute [irreducible] XW
end Go.Proofs.YtnaaceooknghjaaGreatDoor.X
