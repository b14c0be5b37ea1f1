/- The interpreter is sound: calls, regions. -/
import Derived.Test.YtnaaceooknghjaaGreatDoorSB
import Derived.Shelf.Abstract
import Derived.Orders
set_option linter.unusedSimpArgs false
set_option linter.unusedVariables false
namespace Go.Proofs.YtnaaceooknghjaaGreatDoor.X
open Go
def mp (ps:List Arr):Mem:=fun s=>if 1000≤s then ps[s-1000]? else none
def mq (ps own:List Arr):Mem:=fun s=>if 2000≤s then own[s-2000]? else if 1000≤s then ps[s-1000]? else none
def jbi (ps ps' own:List Arr) (r:PV) (γ:Nat→GB) (F:Nat→Prop) (w:World) (e:Ending) (w':World):Prop:=
 ∃v γ' F',e=.returned v∧ps'.length=ps.length∧Inv (mq ps' own) γ' F' w'∧MemStep (mp ps) γ (mq ps' own) γ'∧(∀b,F b→F' b)∧(∀b,F' b→F b∨w.heap.size≤b)∧
  Stp (mp ps) γ w (mq ps' own) γ' w'∧RepP (mq ps' own) γ' F' w' r v
def CallOK (P:Program) (C:jci):Prop:=
 ∀f args ps r ps' own,C f args ps=some (r,ps',own)→ps.length≤1000→Enters P f∧∀γ F w (vals:List Value),Inv (mp ps) γ F w→args.length=vals.length→
  (∀(j:Nat) (p:PV) (v:Value),args[j]?=some p→vals[j]?=some v→RepP (mp ps) γ F w p v)→Calls P f vals.toArray w (jbi ps ps' own r γ F w)
section
variable {P:Program} {w w':World} {m m' mm:Mem} {γ γ':Nat→GB} {F F':Nat→Prop}
def jqg (look:Nat→Nat→Mm (Nat×Nat)) (mm m:Mem) (γ:Nat→GB) (m':Mem) (γ':Nat→GB):Prop:=
 ∀s ver s' v',(look s ver).gives mm (s',v')→∀A,m s=some A→ver≤A.ver→∃A',m' s'=some A'∧v'≤A'.ver∧(v'=A'.ver→ver=A.ver∧A.like A'∧γ' s'=γ s)
theorem jp2 {look:Nat→Nat→Mm (Nat×Nat)} (hl:jqg look mm m γ m' γ') (hF:∀b,F b→F' b) (hw:jfi F w w') :
 ∀(n:Nat) (p p':PV) (v:Value),RepP m γ F w p v→(ren look n p).gives mm p'→RepP m' γ' F' w' p' v:=by
 have leaf:∀(n:Nat) (p p':PV) (v:Value),RepP m γ F w p v→(ren look n p).gives mm p'→(∀cs,p≠.agg cs)→(∀cs,p≠.tup cs)→(∀f a b,p≠.fn f a b)→RepP m' γ' F' w' p' v:=by
  intro n p p' v hr h h1 h2 h3
  cases hr with
  | i hr=>
   cases n<;>(simp only[ren,Mm.gives_ret] at h;subst h;exact .i (hr.mono hF hw))
  | ref s ver off len ao cap A hA hv hs=>
   have:∃s' v',(look s ver).gives mm (s',v')∧p'=.ref s' v' off len:=by
    cases n<;>(simp only[ren,Mm.gives_bind,Mm.gives_ret] at h;obtain⟨⟨s',v'⟩,q1,q2⟩:=h;exact⟨s',v',q1,q2.symm⟩)
   obtain⟨s',v',q1,rfl⟩:=this
   obtain⟨A',hA',hv',he⟩:=hl s ver s' v' q1 A hA hv
   refine .ref s' v' off len ao cap A' hA' hv' fun e=>?_
   obtain⟨e1,e2,e3⟩:=he e
   rw[e3]
   exact jj2 e2 (hs e1)
  | ptr s ver i off a A hA hv hs=>
   have:∃s' v',(look s ver).gives mm (s',v')∧p'=.ptr s' v' i off:=by
    cases n<;>(simp only[ren,Mm.gives_bind,Mm.gives_ret] at h;obtain⟨⟨s',v'⟩,q1,q2⟩:=h;exact⟨s',v',q1,q2.symm⟩)
   obtain⟨s',v',q1,rfl⟩:=this
   obtain⟨A',hA',hv',he⟩:=hl s ver s' v' q1 A hA hv
   refine .ptr s' v' i off a A' hA' hv' fun e=>?_
   obtain⟨e1,e2,e3⟩:=he e
   rw[e3]
   exact jjz e2 (hs e1)
  | agg cs=>exact absurd rfl (h1 cs)
  | tup cs=>exact absurd rfl (h2 cs)
  | fn f a b=>exact absurd rfl (h3 f a b)
  | bad=>cases n<;>simp[ren,Mm.gives_fail] at h
 intro n
 induction n with
 | zero=>
  intro p p' v hr h
  cases p with
  | agg cs=>simp[ren,Mm.gives_fail] at h
  | tup cs=>simp[ren,Mm.gives_fail] at h
  | fn f a b=>simp[ren,Mm.gives_fail] at h
  | _=>exact leaf 0 _ p' v hr h (by simp) (by simp) (by simp)
 | succ n ih=>
  intro p p' v hr h
  have lst:∀(cs l:List PV) (c:List Value),(Mm.mapL (ren look n) cs).gives mm l→cs.length=c.length→(∀(j:Nat) (p:PV) (v:Value),cs[j]?=some p→c[j]?=some v→RepP m γ F w p v)→
   l.length=c.length∧∀(j:Nat) (p:PV) (v:Value),l[j]?=some p→c[j]?=some v→RepP m' γ' F' w' p v:=fun cs l c hl hlen hc=>by
   refine⟨by rw[Mm.mapL_length hl,hlen],fun j p v hp hv=>?_⟩
   obtain⟨x,hx,hg⟩:=Mm.mapL_get' hl j p hp
   exact ih x p v (hc j x v hx hv) hg
  cases p with
  | agg cs=>
   simp only[ren,Mm.gives_bind,Mm.gives_ret] at h
   obtain⟨l,h1,rfl⟩:=h
   cases hr with
   | agg _ c h2 h3=>obtain⟨q1,q2⟩:=lst cs l c h1 h2 h3;exact .agg l c q1 q2
  | tup cs=>
   simp only[ren,Mm.gives_bind,Mm.gives_ret] at h
   obtain⟨l,h1,rfl⟩:=h
   cases hr with
   | tup _ c h2 h3=>obtain⟨q1,q2⟩:=lst cs l c h1 h2 h3;exact .tup l c q1 q2
  | fn f a b=>
   simp only[ren,Mm.gives_bind,Mm.gives_ret] at h
   obtain⟨la,h1,lb,h2,rfl⟩:=h
   cases hr with
   | fn _ _ _ ca cb q1 q2 q3 q4=>
    obtain⟨r1,r2⟩:=lst a la ca h1 q1 q3
    obtain⟨r3,r4⟩:=lst b lb cb h2 q2 q4
    exact .fn f la lb ca cb r1 r3 r2 r4
  | _=>exact leaf (n+1) _ p' v hr h (by simp) (by simp) (by simp)
theorem jaj {look:Nat→Nat→Mm (Nat×Nat)} {ver:Nat} {A B:Arr} (h:(jbf look ver A).gives mm B):A.live∧B.live∧A.like B∧B.ver=ver:=by
 cases A with
 | arr v k xs=>simp only[jbf,Mm.gives_ret] at h;subst h;exact⟨trivial,trivial,⟨rfl,rfl⟩,rfl⟩
 | box v cs=>simp only[jbf,Mm.gives_bind,Mm.gives_ret] at h;obtain⟨l,_,rfl⟩:=h;exact⟨trivial,trivial,trivial,rfl⟩
 | dead v=>simp[jbf,Mm.gives_fail] at h
theorem jd8 {look:Nat→Nat→Mm (Nat×Nat)} (hl:jqg look mm m γ m' γ') (hF:∀b,F b→F' b) (hw:jfi F w w') {G:GB} (hb:w'.heap[G.g]?=w.heap[G.g]?)
 {ver:Nat} {A B:Arr} (h:(jbf look ver A).gives mm B) (hh:Holds m γ F w G A):Holds m' γ' F' w' G B:=by
 cases A with
 | arr v k xs=>
  simp only[jbf,Mm.gives_ret] at h;subst h
  obtain⟨cur,E,h0,h1,h2,h3,h4⟩:=hh
  refine⟨cur,E,hb.trans h0,h1,h2,h3,fun i e he=>⟨(h4 i e he).1,fun j p hp=>?_⟩⟩
  obtain⟨x,hx,ho,hr⟩:=(h4 i e he).2 j p hp
  exact⟨x,hx,ho,hr.mono hF hw⟩
 | box v cs=>
  simp only[jbf,Mm.gives_bind,Mm.gives_ret] at h;obtain⟨l,h5,rfl⟩:=h
  obtain⟨cur,E,h0,h1,h2⟩:=hh
  refine⟨cur,E,hb.trans h0,by rw[h1,Mm.mapL_length h5],fun j p hp=>?_⟩
  obtain⟨y,hy,hg⟩:=Mm.mapL_get' h5 j p hp
  obtain⟨x,hx,ho,hr⟩:=h2 j y hy
  exact⟨x,hx,ho,jp2 hl hF hw 3 y p x hr hg⟩
 | dead v=>simp[jbf,Mm.gives_fail] at h
theorem kaa (hi:Inv m γ F w) {args args':List PV} {L:List Nat} {ps:List Arr} {vs:List Nat} (h:(j99 args).gives m (L,args',ps,vs)) {vals:List Value} (hlen:args.length=vals.length)
 (hr:∀(j:Nat) (p:PV) (v:Value),args[j]?=some p→vals[j]?=some v→RepP m γ F w p v) :
 L.Nodup∧L.length≤1000∧ps.length=L.length∧vs.length=L.length∧args'.length=vals.length∧
  (∀(j s:Nat),L[j]?=some s→∃A B,m s=some A∧ps[j]?=some B∧vs[j]?=some A.ver∧B.ver=0∧A.like B∧A.live∧B.live)∧
  Inv (mp ps) (fun s=>γ (L.getD (s-1000) 0)) F w∧
  (∀(j:Nat) (p:PV) (v:Value),args'[j]?=some p→vals[j]?=some v→RepP (mp ps) (fun s=>γ (L.getD (s-1000) 0)) F w p v):=by
 simp only[j99,Mm.gives_bind,Mm.gives_chk,Bool.and_eq_true,decide_eq_true_eq,Mm.gives_ret,Prod.mk.injEq] at h
 obtain⟨L',_,args1,hargs,pv,hpv,⟨hnd,hL⟩,rfl,rfl,rfl,rfl⟩:=h
 have hpl:pv.length=L'.length:=Mm.mapL_length hpv
 have hj:∀(j s:Nat),L'[j]?=some s→∃A B,m s=some A∧pv[j]?=some (B,A.ver)∧(jbf (jl4 1000 L') 0 A).gives m B:=fun j s hs=>by
  obtain⟨⟨B,v⟩,hy,hg⟩:=Mm.mapL_get hpv j s hs
  simp only[Mm.gives_get] at hg
  split at hg
  ·rename_i A hA
   simp only[Mm.gives_bind,Mm.gives_ret,Prod.mk.injEq] at hg
   obtain⟨B',hB,rfl,rfl⟩:=hg
   exact⟨A,B',hA,hy,hB⟩
  ·simp[Mm.gives_fail] at hg
 have hmp:∀j B v,pv[j]?=some (B,v)→mp (pv.map (·.1)) (1000+j)=some B:=fun j B v hB=>by
  simp[mp,hB]
 have hlook:jqg (jl4 1000 L') m m γ (mp (pv.map (·.1))) (fun s=>γ (L'.getD (s-1000) 0)):=by
  intro s ver s' v' hg A hA hv
  simp only[jl4,Mm.gives_get,hA,Mm.gives_chk,Bool.and_eq_true,beq_iff_eq,Mm.gives_ret,Prod.mk.injEq] at hg
  obtain⟨⟨rfl,hc⟩,rfl,rfl⟩:=hg
  have hin:s∈L':=by simpa using hc
  have hidx:L'[L'.idxOf s]?=some s:=by
   have:=List.idxOf_lt_length_of_mem hin
   rw[List.getElem?_eq_getElem this,List.getElem_idxOf]
  obtain⟨A2,B,hA2,hB,hren⟩:=hj _ _ hidx
  rw[hA] at hA2;cases hA2
  obtain⟨_,_,r3,r4⟩:=jaj hren
  refine⟨B,hmp _ _ _ hB,by omega,fun _=>⟨rfl,r3,?_⟩⟩
  simp[hidx]
 have hsite:∀s B,mp (pv.map (·.1)) s=some B→∃j t A,s=1000+j∧L'[j]?=some t∧m t=some A∧(jbf (jl4 1000 L') 0 A).gives m B:=fun s B hB=>by
  unfold mp at hB
  split at hB
  ·rename_i hs
   simp only[List.getElem?_map,Option.map_eq_some_iff] at hB
   obtain⟨⟨B',v⟩,hy,rfl⟩:=hB
   have hlt:s-1000<L'.length:=by rw[←hpl];exact(List.getElem?_eq_some_iff.1 hy).1
   obtain⟨A,B2,hA,hB2,hren⟩:=hj (s-1000) _ (List.getElem?_eq_getElem hlt)
   rw[hy] at hB2;cases hB2
   exact⟨s-1000,_,A,by omega,List.getElem?_eq_getElem hlt,hA,hren⟩
  ·cases hB
 have hgam:∀j t,L'[j]?=some t→γ (L'.getD (1000+j-1000) 0)=γ t:=fun j t ht=>by simp[ht]
 refine⟨hnd,hL,by simp[hpl],by simp[hpl],by rw[Mm.mapL_length hargs,hlen],fun j s hs=>?_,⟨fun s B hB=>?_,fun s B hB hBl=>?_,fun s s' B B' hB hB' hl hl' e=>?_,hi.bound,hi.glob⟩,fun j p v hp hv=>?_⟩
 ·obtain⟨A,B,hA,hB,hren⟩:=hj j s hs
  obtain⟨r1,r2,r3,r4⟩:=jaj hren
  exact⟨A,B,hA,by simp[hB],by simp[hB],r4,r3,r1,r2⟩
 ·obtain⟨j,t,A,rfl,ht,hA,hren⟩:=hsite s B hB
  show Holds _ _ F w (γ (L'.getD (1000+j-1000) 0)) B
  rw[hgam j t ht]
  exact jd8 hlook (fun _ h=>h) (fun _ _=>rfl) rfl hren (hi.holds t A hA)
 ·obtain⟨j,t,A,rfl,ht,hA,hren⟩:=hsite s B hB
  simp only[hgam j t ht]
  exact hi.notF t A hA (jaj hren).1
 ·obtain⟨j,t,A,rfl,ht,hA,hren⟩:=hsite s B hB
  obtain⟨j',t',A',rfl,ht',hA',hren'⟩:=hsite s' B' hB'
  simp only[hgam j t ht,hgam j' t' ht'] at e
  have:=hi.dist t t' A A' hA hA' (jaj hren).1 (jaj hren').1 e
  subst this
  have:=(List.getElem?_inj (List.getElem?_eq_some_iff.1 ht).1 hnd).1 (ht.trans ht'.symm)
  omega
 ·obtain⟨x,hx,hg⟩:=Mm.mapL_get' hargs j p hp
  exact jp2 hlook (fun _ h=>h) (fun _ _=>rfl) 3 x p v (hr j x v hx hv) hg
end
end Go.Proofs.YtnaaceooknghjaaGreatDoor.X
namespace Go.Proofs.YtnaaceooknghjaaGreatDoor.X
open Go
section
variable {P:Program} {w w':World} {m:Mem} {γ γ':Nat→GB} {F F' F2:Nat→Prop}
theorem joh {d j j':Nat} (h:siteOf d j=siteOf d j'):j=j':=by unfold siteOf at h;omega
theorem jv1 (hi:Inv m γ F w) {d:Nat} {L vs:List Nat} {ps ps' own own2:List Arr} {r out:PV} {wr:List (Nat×Arr)} {v:Value}
 (hnd:L.Nodup) (hpl:ps.length=L.length) (hL:L.length≤1000) (hvl:vs.length=L.length)
 (hps:∀(j s:Nat),L[j]?=some s→∃A B,m s=some A∧ps[j]?=some B∧vs[j]?=some A.ver∧B.ver=0∧A.like B∧A.live∧B.live)
 (hown2:own2=own∨own2=[])
 (hpl':ps'.length=ps.length) (hi':Inv (mq ps' own) γ' F' w') (hms:MemStep (mp ps) (fun s=>γ (L.getD (s-1000) 0)) (mq ps' own) γ')
 (hst:Stp (mp ps) (fun s=>γ (L.getD (s-1000) 0)) w (mq ps' own) γ' w')
 (hF':∀b,F b→F' b) (hF2:∀b,F' b→F2 b) (hG:∀b,F' b→F b∨w.heap.size≤b)
 (hK:∀b,F2 b→F' b∨(own2=[]∧∃j A,own[j]?=some A∧A.live∧b=(γ' (2000+j)).g))
 (hr:RepP (mq ps' own) γ' F2 w' r v) (h:(jix d L vs r ps' own2).gives m (out,wr)) :
 ∃γ2,Inv (updL m wr) γ2 F2 w'∧MemStep m γ (updL m wr) γ2∧FStep m γ F w F2∧Stp m γ w (updL m wr) γ2 w'∧RepP (updL m wr) γ2 F2 w' out v:=by
 simp only[jix,Mm.gives_bind,Mm.gives_chk,Bool.and_eq_true,decide_eq_true_eq,List.all_eq_true,bne_iff_ne,ne_eq,Mm.gives_ret,Prod.mk.injEq,List.mem_range] at h
 obtain⟨nv,hnv,r',hrr,w1,hw1,w2,hw2,⟨hown8,hdis⟩,rfl,rfl⟩:=h
 have hnvl:nv.length=own2.length:=by rw[Mm.mapL_length hnv];simp
 have hps2:ps'.length≤1000:=by omega
 have hmqP:∀j B,ps'[j]?=some B→mq ps' own (1000+j)=some B:=fun j B hB=>by
  have:=(List.getElem?_eq_some_iff.1 hB).1
  simp only[mq];rw[if_neg (by omega),if_pos (by omega)];simpa using hB
 have hmqO:∀j B,own[j]?=some B→mq ps' own (2000+j)=some B:=fun j B hB=>by
  simp only[mq];rw[if_pos (by omega)];simpa using hB
 have hmpP:∀j B,ps[j]?=some B→mp ps (1000+j)=some B:=fun j B hB=>by
  simp only[mp];rw[if_pos (by omega)];simpa using hB
 have hmpO:∀s,2000≤s→mp ps s=none:=fun s hs=>by
  simp only[mp];rw[if_pos (by omega)];exact List.getElem?_eq_none (by omega)
 have hW1:∀(j s:Nat),L[j]?=some s→∃A B B0 C,m s=some A∧ps[j]?=some B0∧ps'[j]?=some B∧B0.ver=0∧A.like B0∧A.live∧(jbf (jdf d L vs nv) (A.ver+B.ver) B).gives m C∧(s,C)∈w1:=fun j s hs=>by
  obtain⟨A,B0,hA,hB0,hv,hv0,hlike,hAl,_⟩:=hps j s hs
  have hj:j<ps'.length:=by have:=(List.getElem?_eq_some_iff.1 hs).1;omega
  obtain⟨y,hy,hg⟩:=Mm.mapL_get hw1 j ((s,A.ver),ps'[j]) (by
   rw[List.getElem?_zip_eq_some]
   exact⟨by rw[List.getElem?_zip_eq_some];exact⟨hs,hv⟩,List.getElem?_eq_getElem hj⟩)
  simp only[Mm.gives_bind,Mm.gives_ret] at hg
  obtain⟨C,hC,rfl⟩:=hg
  exact⟨A,ps'[j],B0,C,hA,hB0,List.getElem?_eq_getElem hj,hv0,hlike,hAl,hC,List.mem_of_getElem? hy⟩
 have hW1':∀s C,(s,C)∈w1→∃j,L[j]?=some s∧∃A B,m s=some A∧ps'[j]?=some B∧(jbf (jdf d L vs nv) (A.ver+B.ver) B).gives m C:=fun s C hC=>by
  obtain⟨j,hj⟩:=List.getElem?_of_mem hC
  obtain⟨⟨⟨t,ver⟩,B⟩,hx,hg⟩:=Mm.mapL_get' hw1 j _ hj
  rw[List.getElem?_zip_eq_some] at hx
  obtain⟨hx1,hx2⟩:=hx
  simp only at hx1 hx2
  rw[List.getElem?_zip_eq_some] at hx1
  simp only[Mm.gives_bind,Mm.gives_ret,Prod.mk.injEq] at hg
  obtain⟨C',hC',rfl,rfl⟩:=hg
  obtain⟨A,B0,hA,hB0,hv,_⟩:=hps j t hx1.1
  have:ver=A.ver:=by have:=hx1.2;simp only at this;rw[hv] at this;cases this;rfl
  subst this
  exact⟨j,hx1.1,A,B,hA,hx2,hC'⟩
 have hW2:∀j B,own2[j]?=some B→∃n C,nv[j]?=some n∧(∀A0,m (siteOf d j)=some A0→A0.ver<n)∧(jbf (jdf d L vs nv) (n+B.ver) B).gives m C∧(siteOf d j,C)∈w2:=fun j B hB=>by
  have hj:=(List.getElem?_eq_some_iff.1 hB).1
  obtain⟨n,hn,hgn⟩:=Mm.mapL_get hnv j j (by simp[hj])
  obtain⟨y,hy,hg⟩:=Mm.mapL_get hw2 j ((j,n),B) (by
   rw[List.getElem?_zip_eq_some]
   exact⟨by rw[List.getElem?_zip_eq_some];exact⟨by simp[hj],hn⟩,hB⟩)
  simp only[Mm.gives_bind,Mm.gives_ret] at hg
  obtain⟨C,hC,rfl⟩:=hg
  exact⟨n,C,hn,fun A0 h0=>jbk hgn A0 h0,hC,List.mem_of_getElem? hy⟩
 have hW2':∀s C,(s,C)∈w2→∃j B n,s=siteOf d j∧own2[j]?=some B∧nv[j]?=some n∧(∀A0,m (siteOf d j)=some A0→A0.ver<n)∧(jbf (jdf d L vs nv) (n+B.ver) B).gives m C:=fun s C hC=>by
  obtain⟨j,hj⟩:=List.getElem?_of_mem hC
  obtain⟨⟨⟨t,n⟩,B⟩,hx,hg⟩:=Mm.mapL_get' hw2 j _ hj
  rw[List.getElem?_zip_eq_some] at hx
  obtain⟨hx1,hx2⟩:=hx
  simp only at hx1 hx2
  rw[List.getElem?_zip_eq_some] at hx1
  have hjl:=(List.getElem?_eq_some_iff.1 hx2).1
  have:t=j:=by have:=hx1.1;simp[hjl] at this;exact this.symm
  subst this
  simp only[Mm.gives_bind,Mm.gives_ret,Prod.mk.injEq] at hg
  obtain⟨C',hC',rfl,rfl⟩:=hg
  obtain⟨n',hn',hgn⟩:=Mm.mapL_get hnv t t (by simp[hjl])
  have hnn:=hx1.2
  simp only at hnn
  rw[hn'] at hnn;cases hnn
  exact⟨t,B,n,rfl,hx2,hn',fun A0 h0=>jbk hgn A0 h0,hC'⟩
 have hdet:∀{look:Nat→Nat→Mm (Nat×Nat)} {ver:Nat} {B C C':Arr},(jbf look ver B).gives m C→(jbf look ver B).gives m C'→C=C':=fun h1 h2=>by
  obtain⟨r1,h1⟩:=h1;obtain⟨r2,h2⟩:=h2
  rw[h1] at h2;simp at h2;exact h2.1
 have hval1:∀s C,(s,C)∈w1→updL m (w1++w2) s=some C:=fun s C hC=>by
  obtain⟨j,hj,A,B,hA,hB,hren⟩:=hW1' s C hC
  refine jqc (List.mem_append_left _ hC) fun D hD=>?_
  rcases List.mem_append.1 hD with hD|hD
  ·obtain⟨j',hj',A',B',hA',hB',hren'⟩:=hW1' s D hD
   have:j=j':=(List.getElem?_inj (List.getElem?_eq_some_iff.1 hj).1 hnd).1 (hj.trans hj'.symm)
   subst this
   rw[hA] at hA';cases hA'
   rw[hB] at hB';cases hB'
   exact hdet hren' hren
  ·obtain⟨j',B',n,rfl,hB',_⟩:=hW2' s D hD
   exact absurd rfl (hdis _ (List.mem_of_getElem? hj) j' (List.getElem?_eq_some_iff.1 hB').1)
 have hval2:∀s C,(s,C)∈w2→updL m (w1++w2) s=some C:=fun s C hC=>by
  obtain⟨j,B,n,rfl,hB,hn,_,hren⟩:=hW2' s C hC
  refine jqc (List.mem_append_right _ hC) fun D hD=>?_
  rcases List.mem_append.1 hD with hD|hD
  ·obtain⟨j',hj',_⟩:=hW1' _ D hD
   exact absurd rfl (hdis _ (List.mem_of_getElem? hj') j (List.getElem?_eq_some_iff.1 hB).1)
  ·obtain⟨j',B',n',e,hB',hn',_,hren'⟩:=hW2' _ D hD
   have:=joh e
   subst this
   rw[hB] at hB';cases hB'
   rw[hn] at hn';cases hn'
   exact hdet hren' hren
 have hval0:∀s,s∉L→(∀j,j<own2.length→s≠siteOf d j)→updL m (w1++w2) s=m s:=fun s h1 h2=>ja4 fun A hA=>by
  rcases List.mem_append.1 hA with hA|hA
  ·obtain⟨j,hj,_⟩:=hW1' s A hA;exact h1 (List.mem_of_getElem? hj)
  ·obtain⟨j,B,n,e,hB,_⟩:=hW2' s A hA;exact h2 j (List.getElem?_eq_some_iff.1 hB).1 e
 have hγ:∃γ2:Nat→GB,(∀j s,L[j]?=some s→γ2 s=γ' (1000+j))∧(∀j,j<own2.length→γ2 (siteOf d j)=γ' (2000+j))∧(∀s,s∉L→(∀j,j<own2.length→s≠siteOf d j)→γ2 s=γ s):=by
  refine⟨fun s=>if s∈L then γ' (1000+L.idxOf s) else if h:∃j,j<own2.length∧s=siteOf d j then γ' (2000+h.choose) else γ s,fun j s hs=>?_,fun j hj=>?_,fun s h1 h2=>?_⟩
  ·have hin:=List.mem_of_getElem? hs
   simp only[hin,if_true]
   have hl:=List.idxOf_lt_length_of_mem hin
   have:L.idxOf s=j:=(List.getElem?_inj hl hnd).1 (by rw[List.getElem?_eq_getElem hl,List.getElem_idxOf,hs])
   rw[this]
  ·have hni:siteOf d j∉L:=fun hin=>hdis _ hin j hj rfl
   have hex:∃j',j'<own2.length∧siteOf d j=siteOf d j':=⟨j,hj,rfl⟩
   simp only[hni,if_false,hex,dif_pos]
   rw[←joh hex.choose_spec.2]
  ·have:¬∃j,j<own2.length∧s=siteOf d j:=fun⟨j,hj,e⟩=>h2 j hj e
   simp only[h1,if_false,this,dif_neg,not_false_eq_true]
 obtain⟨γ2,hγ1,hγ2,hγ0⟩:=hγ
 have hcase:∀s A,updL m (w1++w2) s=some A→
  (∃j A0 B0 B,L[j]?=some s∧m s=some A0∧ps[j]?=some B0∧ps'[j]?=some B∧B0.ver=0∧A0.like B0∧A0.live∧γ2 s=γ' (1000+j)∧(jbf (jdf d L vs nv) (A0.ver+B.ver) B).gives m A)∨
  (∃j B n,s=siteOf d j∧own2[j]?=some B∧nv[j]?=some n∧(∀A0,m s=some A0→A0.ver<n)∧γ2 s=γ' (2000+j)∧(jbf (jdf d L vs nv) (n+B.ver) B).gives m A)∨
  (s∉L∧(∀j,j<own2.length→s≠siteOf d j)∧m s=some A∧γ2 s=γ s):=fun s A hA=>by
  by_cases hin:s∈L
  ·obtain⟨j,hj⟩:=List.getElem?_of_mem hin
   obtain⟨A0,B,B0,C,hA0,hB0,hB,hv0,hlike,hAl,hren,hC⟩:=hW1 j s hj
   rw[hval1 s C hC] at hA;cases hA
   exact .inl ⟨j,A0,B0,B,hj,hA0,hB0,hB,hv0,hlike,hAl,hγ1 j s hj,hren⟩
  ·by_cases hex:∃j,j<own2.length∧s=siteOf d j
   ·obtain⟨j,hj,rfl⟩:=hex
    obtain⟨n,C,hn,hlt,hren,hC⟩:=hW2 j _ (List.getElem?_eq_getElem hj)
    rw[hval2 _ C hC] at hA;cases hA
    exact .inr (.inl ⟨j,_,n,rfl,List.getElem?_eq_getElem hj,hn,hlt,hγ2 j hj,hren⟩)
   ·have h2:∀j,j<own2.length→s≠siteOf d j:=fun j hj e=>hex ⟨j,hj,e⟩
    rw[hval0 s hin h2] at hA
    exact .inr (.inr ⟨hin,h2,hA,hγ0 s hin h2⟩)
 have hlook:jqg (jdf d L vs nv) m (mq ps' own) γ' (updL m (w1++w2)) γ2:=by
  intro s ver s' v' hg A hA hv
  unfold jdf at hg
  split at hg
  ·simp[Mm.gives_fail] at hg
  ·split at hg
   ·rename_i h1 h2
    split at hg
    ·rename_i t vt ht hvt
     simp only[Mm.gives_ret,Prod.mk.injEq] at hg
     obtain⟨rfl,rfl⟩:=hg
     obtain⟨A0,B,B0,C,hA0,hB0,hB,hv0,hlike,hAl,hren,hC⟩:=hW1 _ _ ht
     have hAB:=hmqP _ _ hB
     rw[show 1000+(s-1000)=s from by omega,hA] at hAB
     cases hAB
     obtain⟨_,_,r3,r4⟩:=jaj hren
     obtain⟨A1,_,hA1,_,hvv,_⟩:=hps _ _ ht
     rw[hA0] at hA1;cases hA1
     rw[hvt] at hvv;cases hvv
     refine⟨C,hval1 _ _ hC,by omega,fun e=>⟨by omega,r3,?_⟩⟩
     rw[hγ1 _ _ ht,show 1000+(s-1000)=s from by omega]
    ·simp[Mm.gives_fail] at hg
   ·rename_i h1 h2
    split at hg
    ·rename_i n hn
     simp only[Mm.gives_ret,Prod.mk.injEq] at hg
     obtain⟨rfl,rfl⟩:=hg
     have hj:s-2000<own2.length:=by rw[←hnvl];exact(List.getElem?_eq_some_iff.1 hn).1
     obtain⟨n',C,hn',hlt,hren,hC⟩:=hW2 _ _ (List.getElem?_eq_getElem hj)
     rw[hn] at hn';cases hn'
     have hoo:own2=own:=by
      rcases hown2 with h|h
      ·exact h
      ·rw[h] at hj;simp at hj
     have hAB:=hmqO (s-2000) own2[s-2000] (by rw[←hoo];exact List.getElem?_eq_getElem hj)
     rw[show 2000+(s-2000)=s from by omega,hA] at hAB
     simp only[Option.some.injEq] at hAB
     rw[←hAB] at hren
     obtain⟨_,_,r3,r4⟩:=jaj hren
     refine⟨C,hval2 _ _ hC,by omega,fun e=>⟨by omega,r3,?_⟩⟩
     rw[hγ2 _ hj,show 2000+(s-2000)=s from by omega]
    ·simp[Mm.gives_fail] at hg
 have hpar:∀s A,mp ps s=some A→A.live→∃j t A0,s=1000+j∧L[j]?=some t∧m t=some A0∧A0.live∧γ (L.getD (s-1000) 0)=γ t:=fun s A hA hl=>by
  unfold mp at hA
  split at hA
  ·rename_i hs
   have hj:s-1000<L.length:=by rw[←hpl];exact(List.getElem?_eq_some_iff.1 hA).1
   obtain⟨A0,B0,hA0,_,_,_,_,hAl,_⟩:=hps _ _ (List.getElem?_eq_getElem hj)
   exact⟨s-1000,L[s-1000],A0,by omega,List.getElem?_eq_getElem hj,hA0,hAl,by simp[hj]⟩
  ·cases hA
 have hsame:∀s A,m s=some A→A.live→s∉L→w'.heap[(γ s).g]?=w.heap[(γ s).g]?:=fun s A hA hl hni=>
  hst.frame _ ((hi.holds s A hA).lt hl) fun s' A' hA' hl' e=>by
   obtain⟨j,t,A0,_,ht,hA0,hAl,hg⟩:=hpar s' A' hA' hl'
   simp only[hg] at e
   have:=hi.dist t s A0 A hA0 hA hAl hl e
   subst this
   exact hni (List.mem_of_getElem? ht)
 have hblk:∀j B,ps'[j]?=some B→B.live→∀t,L[j]?=some t→(γ' (1000+j)).g=(γ t).g∨w.heap.size≤(γ' (1000+j)).g:=fun j B hB hl t ht=>by
  rcases hst.blocks (1000+j) B (hmqP j B hB) hl with⟨A0,hA0,_,e⟩ | h
  ·left;rw[←e];simp[ht]
  ·exact .inr h
 have hblkO:∀j B,own[j]?=some B→B.live→w.heap.size≤(γ' (2000+j)).g:=fun j B hB hl=>by
  rcases hst.blocks (2000+j) B (hmqO j B hB) hl with⟨A0,hA0,_,e⟩ | h
  ·rw[hmpO _ (by omega)] at hA0;cases hA0
  ·exact h
 have hmstep:MemStep m γ (updL m (w1++w2)) γ2:=by
  intro s A hA
  by_cases hin:s∈L
  ·obtain⟨j,hj⟩:=List.getElem?_of_mem hin
   obtain⟨A0,B,B0,C,hA0,hB0,hB,hv0,hlike,hAl,hren,hC⟩:=hW1 j s hj
   rw[hA] at hA0;cases hA0
   obtain⟨_,_,r3,r4⟩:=jaj hren
   refine⟨C,hval1 s C hC,by omega,fun e=>?_⟩
   obtain⟨B2,hB2,hle,heq⟩:=hms (1000+j) B0 (hmpP j B0 hB0)
   rw[hmqP j B hB] at hB2;cases hB2
   obtain⟨l1,l2⟩:=heq (by omega)
   refine⟨Arr.like_trans hlike (Arr.like_trans l1 r3),?_⟩
   rw[hγ1 j s hj,l2]
   simp[hj]
  ·by_cases hex:∃j,j<own2.length∧s=siteOf d j
   ·obtain⟨j,hj,rfl⟩:=hex
    obtain⟨n,C,hn,hlt,hren,hC⟩:=hW2 j _ (List.getElem?_eq_getElem hj)
    obtain⟨_,_,r3,r4⟩:=jaj hren
    have:=hlt A hA
    exact⟨C,hval2 _ C hC,by omega,fun e=>by omega⟩
   ·have h2:∀j,j<own2.length→s≠siteOf d j:=fun j hj e=>hex ⟨j,hj,e⟩
    exact⟨A,by rw[hval0 s hin h2];exact hA,Nat.le_refl _,fun _=>⟨A.like_refl,hγ0 s hin h2⟩⟩
 have hFF2:∀b,F b→F2 b:=fun b hb=>hF2 b (hF' b hb)
 have hag:jfi F w w':=fun b hb=>hst.frame b (hi.bound b hb) fun s A hA hl e=>by
  obtain⟨j,t,A0,_,ht,hA0,hAl,hg⟩:=hpar s A hA hl
  simp only[hg] at e
  exact hi.notF t A0 hA0 hAl (e▸hb)
 have hF2new:∀b,F2 b→F b∨w.heap.size≤b:=fun b hb=>by
  rcases hK b hb with h | ⟨_,j,A,hA,hl,rfl⟩
  ·exact hG b h
  ·exact .inr (hblkO j A hA hl)
 refine⟨γ2,⟨fun s A hA=>?_,fun s A hA hl=>?_,fun s s' A A' hA hA' hl hl' e=>?_,fun b hb=>?_,hi.glob.mono hFF2 hag⟩,hmstep,⟨hFF2,fun b hb=>?_⟩,⟨hst.os,hst.tape,hst.output,hst.size,fun b hb hn=>?_,fun s A hA hl=>?_⟩,jp2 hlook (fun _ h=>h) (fun _ _=>rfl) 3 r r' v hr hrr⟩
 ·rcases hcase s A hA with⟨j,A0,B0,B,hj,hA0,hB0,hB,hv0,hlike,hAl,hg,hren⟩ | ⟨j,B,n,rfl,hB,hn,hlt,hg,hren⟩ | ⟨h1,h2,h3,hg⟩
  ·rw[hg]
   exact jd8 hlook (fun _ h=>h) (fun _ _=>rfl) rfl hren ((hi'.holds _ _ (hmqP j B hB)).step (MemStep.refl _ _) hF2 (fun _ _=>rfl) rfl)
  ·rw[hg]
   have hoo:own2=own:=by
    rcases hown2 with h|h
    ·exact h
    ·rw[h] at hB;simp at hB
   rw[hoo] at hB
   exact jd8 hlook (fun _ h=>h) (fun _ _=>rfl) rfl hren ((hi'.holds _ _ (hmqO j B hB)).step (MemStep.refl _ _) hF2 (fun _ _=>rfl) rfl)
  ·rw[hg]
   by_cases hl:A.live
   ·exact(hi.holds s A h3).step hmstep hFF2 hag (hsame s A h3 hl h1)
   ·cases A<;>simp[Arr.live,Holds] at hl ⊢
 ·intro hF2b
  rcases hcase s A hA with⟨j,A0,B0,B,hj,hA0,hB0,hB,hv0,hlike,hAl,hg,hren⟩ | ⟨j,B,n,rfl,hB,hn,hlt,hg,hren⟩ | ⟨h1,h2,h3,hg⟩
  ·rw[hg] at hF2b
   have hBl:=(jaj hren).1
   rcases hK _ hF2b with h | ⟨_,j',A',hA',hl',e⟩
   ·exact hi'.notF _ _ (hmqP j B hB) hBl h
   ·have:=hi'.dist _ _ _ _ (hmqP j B hB) (hmqO j' A' hA') hBl hl' e
    have:=(List.getElem?_eq_some_iff.1 hB).1
    omega
  ·rw[hg] at hF2b
   have hBl:=(jaj hren).1
   rcases hK _ hF2b with h | ⟨h0,_⟩
   ·have hoo:own2=own:=by
     rcases hown2 with h|h
     ·exact h
     ·rw[h] at hB;simp at hB
    rw[hoo] at hB
    exact hi'.notF _ _ (hmqO j B hB) hBl h
   ·rw[h0] at hB;simp at hB
  ·rw[hg] at hF2b
   have hlt:=(hi.holds s A h3).lt hl
   rcases hF2new _ hF2b with h|h
   ·exact hi.notF s A h3 hl h
   ·omega
 ·have key:∀s A,updL m (w1++w2) s=some A→A.live→(∃q B,mq ps' own q=some B∧B.live∧γ2 s=γ' q∧((∃j,q=1000+j∧L[j]?=some s)∨∃j,q=2000+j∧s=siteOf d j))∨(s∉L∧(∀j,j<own2.length→s≠siteOf d j)∧m s=some A∧γ2 s=γ s):=fun s A hA hl=>by
   rcases hcase s A hA with⟨j,A0,B0,B,hj,hA0,hB0,hB,hv0,hlike,hAl,hg,hren⟩ | ⟨j,B,n,rfl,hB,hn,hlt,hg,hren⟩ | h
   ·exact .inl ⟨1000+j,B,hmqP j B hB,(jaj hren).1,hg,.inl ⟨j,rfl,hj⟩⟩
   ·have hoo:own2=own:=by
     rcases hown2 with h|h
     ·exact h
     ·rw[h] at hB;simp at hB
    rw[hoo] at hB
    exact .inl ⟨2000+j,B,hmqO j B hB,(jaj hren).1,hg,.inr ⟨j,rfl,rfl⟩⟩
   ·exact .inr h
  have mixed:∀s q B,mq ps' own q=some B→B.live→γ2 s=γ' q→((∃j,q=1000+j∧L[j]?=some s)∨∃j,q=2000+j∧s=siteOf d j)→∀s' A',s'∉L→m s'=some A'→A'.live→(γ' q).g≠(γ s').g:=by
   intro s q B hq hBl _ hqq s' A' hni hA' hl' e
   have hlt:=(hi.holds s' A' hA').lt hl'
   rcases hst.blocks q B hq hBl with⟨A0,hA0,hAl0,e0⟩ | h
   ·obtain⟨j,t,A1,_,ht,hA1,hAl1,hg⟩:=hpar q A0 hA0 hAl0
    simp only[hg] at e0
    have:=hi.dist t s' A1 A' hA1 hA' hAl1 hl' (e0.trans e)
    subst this
    exact hni (List.mem_of_getElem? ht)
   ·omega
  rcases key s A hA hl with⟨q,B,hq,hBl,hg,hqq⟩ | ⟨h1,h2,h3,hg⟩<;>rcases key s' A' hA' hl' with⟨q',B',hq',hBl',hg',hqq'⟩ | ⟨h1',h2',h3',hg'⟩
  ·rw[hg,hg'] at e
   have:=hi'.dist q q' B B' hq hq' hBl hBl' e
   subst this
   rcases hqq with⟨j,rfl,hj⟩ | ⟨j,rfl,rfl⟩<;>rcases hqq' with⟨j',e',hj'⟩ | ⟨j',e',rfl⟩
   ·have:j=j':=by omega
    subst this
    rw[hj] at hj';cases hj';rfl
   ·have:=(List.getElem?_eq_some_iff.1 hj).1
    omega
   ·have:=(List.getElem?_eq_some_iff.1 hj').1
    omega
   ·have:j=j':=by omega
    rw[this]
  ·rw[hg,hg'] at e
   exact absurd e (mixed s q B hq hBl hg hqq s' A' h1' h3' hl')
  ·rw[hg,hg'] at e
   exact absurd e.symm (mixed s' q' B' hq' hBl' hg' hqq' s A h1 h3 hl)
  ·rw[hg,hg'] at e
   exact hi.dist s s' A A' h3 h3' hl hl' e
 ·rcases hK b hb with h | ⟨_,j,A,hA,hl,rfl⟩
  ·exact hi'.bound b h
  ·exact(hi'.holds _ _ (hmqO j A hA)).lt hl
 ·rcases hF2new b hb with h|h
  ·exact .inl h
  ·exact .inr (.inl h)
 ·refine hst.frame b hb fun s A hA hl e=>?_
  obtain⟨j,t,A0,_,ht,hA0,hAl,hg⟩:=hpar s A hA hl
  simp only[hg] at e
  exact hn t A0 hA0 hAl e
 ·rcases hcase s A hA with⟨j,A0,B0,B,hj,hA0,hB0,hB,hv0,hlike,hAl,hg,hren⟩ | ⟨j,B,n,rfl,hB,hn,hlt,hg,hren⟩ | ⟨h1,h2,h3,hg⟩
  ·rcases hblk j B hB (jaj hren).1 s hj with h|h
   ·exact .inl ⟨A0,hA0,hAl,by rw[hg,h]⟩
   ·exact .inr (by rw[hg];exact h)
  ·have hoo:own2=own:=by
    rcases hown2 with h|h
    ·exact h
    ·rw[h] at hB;simp at hB
   rw[hoo] at hB
   exact .inr (by rw[hg];exact hblkO j B hB (jaj hren).1)
  ·exact .inl ⟨A,h3,hl,by rw[hg]⟩
end
end Go.Proofs.YtnaaceooknghjaaGreatDoor.X
namespace Go.Proofs.YtnaaceooknghjaaGreatDoor.X
open Go
theorem mapO_length {α β:Type} {f:α→Option β}:∀{a:List α} {l:List β},mapO f a=some l→l.length=a.length
 | [],l,h=>by simp[mapO] at h;simp[←h]
 | x::r,l,h=>by
  simp only[mapO] at h
  split at h
  ·rename_i b l' h1 h2;cases h;simp[mapO_length h2]
  ·cases h
theorem jsi {α β:Type} {f:α→Option β}:∀{a:List α} {l:List β},mapO f a=some l→∀(j:Nat) (y:β),l[j]?=some y→∃x,a[j]?=some x∧f x=some y
 | [],l,h,j,y,hy=>by simp[mapO] at h;subst h;simp at hy
 | x::r,l,h,j,y,hy=>by
  simp only[mapO] at h
  split at h
  ·rename_i b l' h1 h2
   cases h
   cases j with
   | zero=>simp at hy;subst hy;exact⟨x,rfl,h1⟩
   | succ j=>simp at hy;obtain⟨z,hz,hf⟩:=jsi h2 j y hy;exact⟨z,by simpa using hz,hf⟩
  ·cases h
section
variable {P:Program} {w w':World} {m:Mem} {γ γ':Nat→GB} {F F' F2:Nat→Prop} {cf:Cfg} {C:jci} {me:FuncId}
theorem j4a (hi:Inv m γ F w) {FI:Nat→Prop} (hF:∀b,F b→FI b):∀(n k:Nat) (p:PV) (x:IV) (v:Value),((∀s A,m s=some A→A.live→FI (γ s).g)∨jbx k p=false)→
 RepP m γ F w p v→(frz n p).gives m x→RepI FI w x v∧(p.scalar=true→v.oneCell'=true):=by
 have lf:∀(n k:Nat) (p:PV) (x:IV) (v:Value),((∀s A,m s=some A→A.live→FI (γ s).g)∨jbx k p=false)→RepP m γ F w p v→(frz n p).gives m x→(∀s ver i off,p≠.ptr s ver i off)→(∀f a b,p≠.fn f a b)→(∀cs,p≠.agg cs)→RepI FI w x v:=by
  intro n k p x v ht hr h h1 h2 h3
  cases hr with
  | i hr=>
   cases hr with
   | emp ao=>
    cases n<;>(simp only[frz,Mm.gives_ret] at h;subst h;exact .lst [] ao 0 0 (fun _ _=>undef) (Nat.le_refl _) (Nat.zero_le _) (by simp) (by simp) (by simp) (by simp))
   | v y=>cases n<;>(simp only[frz,Mm.gives_ret] at h;subst h;exact .v _)
   | lst xs ao cap k' c q1 q2 q3 q4 q5 q6=>
    cases n<;>(simp only[frz,Mm.gives_ret] at h;subst h;exact(RepI.lst xs ao cap k' c q1 q2 q3 q4 q5 q6).mono hF (fun _ _=>rfl))
   | eptr e off g o c q1 q2 q3 q4=>
    cases n<;>(simp only[frz,Mm.gives_ret] at h;subst h;exact(RepI.eptr e off g o c q1 q2 q3 q4).mono hF (fun _ _=>rfl))
   | fn f a b ca cb q1 q2 q3 q4=>
    cases n<;>(simp only[frz,Mm.gives_ret] at h;subst h;exact(RepI.fn f a b ca cb q1 q2 q3 q4).mono hF (fun _ _=>rfl))
   | ag cs c q1 q2=>
    cases n<;>(simp only[frz,Mm.gives_ret] at h;subst h;exact(RepI.ag cs c q1 q2).mono hF (fun _ _=>rfl))
   | err t y=>cases n<;>(simp only[frz,Mm.gives_ret] at h;subst h;exact .err _ _)
  | ref s ver off len ao cap A hA hv hs=>
   have hT:∀s A,m s=some A→A.live→FI (γ s).g:=by
    rcases ht with h|h
    ·exact h
    ·cases k<;>simp[jbx] at h
   have:(Mm.get s fun|some (.arr v _ xs)=>Mm.chk (v == ver) (.ret (.lst ((xs.drop off).take len)))|_=>.fail:Mm IV).gives m x:=by cases n<;>exact h
   simp only[Mm.gives_get,hA] at this
   cases A with
   | arr v k' xs=>
    simp only[Mm.gives_chk,beq_iff_eq,Mm.gives_ret] at this
    obtain⟨rfl,rfl⟩:=this
    exact jhh (m:=m) (γ:=γ) (hT s _ hA trivial) ((hi.holds s _ hA).step (MemStep.refl m γ) hF (fun _ _=>rfl) rfl) (hs rfl)
   | _=>simp[Mm.gives_fail] at this
  | ptr s ver i off a A hA hv hs=>exact absurd rfl (h1 s ver i off)
  | fn f a b=>exact absurd rfl (h2 f a b)
  | agg cs=>exact absurd rfl (h3 cs)
  | tup cs=>cases n<;>simp[frz,Mm.gives_fail] at h
  | bad=>cases n<;>simp[frz,Mm.gives_fail] at h
 have main:∀(n k:Nat) (p:PV) (x:IV) (v:Value),((∀s A,m s=some A→A.live→FI (γ s).g)∨jbx k p=false)→RepP m γ F w p v→(frz n p).gives m x→RepI FI w x v:=by
  intro n
  induction n with
  | zero=>
   intro k p x v ht hr h
   cases p with
   | ptr s ver i off=>simp[frz,Mm.gives_fail] at h
   | fn f a b=>simp[frz,Mm.gives_fail] at h
   | agg cs=>simp[frz,Mm.gives_fail] at h
   | _=>exact lf 0 k _ x v ht hr h (by simp) (by simp) (by simp)
  | succ n ih=>
   intro k p x v ht hr h
   have lst:∀(k:Nat) (cs:List PV) (l:List IV) (c:List Value),((∀s A,m s=some A→A.live→FI (γ s).g)∨cs.any (jbx k)=false)→(Mm.mapL (frz n) cs).gives m l→cs.length=c.length→(∀(j:Nat) (p:PV) (v:Value),cs[j]?=some p→c[j]?=some v→RepP m γ F w p v)→
    l.length=c.length∧∀(j:Nat) (p:IV) (v:Value),l[j]?=some p→c[j]?=some v→RepI FI w p v:=fun k cs l c ht hl hlen hc=>by
    refine⟨by rw[Mm.mapL_length hl,hlen],fun j p v hp hv=>?_⟩
    obtain⟨y,hy,hg⟩:=Mm.mapL_get' hl j p hp
    refine ih k y p v (ht.imp id fun h=>?_) (hc j y v hy hv) hg
    rw[List.any_eq_false] at h
    simpa using h y (List.mem_of_getElem? hy)
   cases p with
   | ptr s ver i off=>
    cases hr with
    | ptr _ _ _ _ a A hA hv hs=>
    have hT:∀s A,m s=some A→A.live→FI (γ s).g:=by
     rcases ht with h|h
     ·exact h
     ·cases k<;>simp[jbx] at h
    simp only[frz,Mm.gives_get,hA] at h
    cases A with
    | arr v k' xs=>
     simp only[Mm.gives_chk,beq_iff_eq] at h
     obtain⟨rfl,h⟩:=h
     split at h
     ·rename_i e he
      simp only[Mm.gives_ret] at h
      subst h
      obtain⟨hi',rfl⟩:=hs rfl
      obtain⟨cur,E,hb,_,_,_,hc⟩:=hi.holds s _ hA
      refine .eptr e off (γ s).g (((γ s).b+i)*k') (fun j=>(cur[((γ s).b+i)*k'+j]?).getD undef) (hT s _ hA trivial) (fun j p hp=>?_) (fun j p hp=>?_) (fun j p hp=>?_)
      ·obtain⟨x,hx,_,_⟩:=(hc i e he).2 j p hp
       rw[cell_of_row w _ _ cur E (0,0) hb,hx];rfl
      ·obtain⟨x,hx,_,hr⟩:=(hc i e he).2 j p hp
       simp only[hx,Option.getD_some];exact hr.mono hF (fun _ _=>rfl)
      ·obtain⟨x,hx,ho,_⟩:=(hc i e he).2 j p hp
       simp only[hx,Option.getD_some];exact ho
     ·simp[Mm.gives_fail] at h
    | box v cs=>
     simp only[Mm.gives_chk,Bool.and_eq_true,beq_iff_eq,Mm.gives_bind,Mm.gives_ret] at h
     obtain⟨⟨rfl,rfl⟩,e,he,rfl⟩:=h
     obtain⟨_,rfl⟩:=hs rfl
     obtain⟨cur,E,hb,hsz,hc⟩:=hi.holds s _ hA
     have hcc:∀(j:Nat) (p:IV),e[j]?=some p→∃x:Value,cur[j]?=some x∧x.oneCell'=true∧RepI FI w p x:=fun j p hp=>by
      obtain⟨y,hy,hg⟩:=Mm.mapL_get' he j p hp
      obtain⟨x,hx,ho,hr⟩:=hc j y hy
      exact⟨x,hx,ho,ih 0 y p x (.inl hT) hr hg⟩
     have:RepI FI w (.eptr e off) (.pointer (some ⟨(γ s).g,0+off,none⟩)):=by
      refine .eptr e off (γ s).g 0 (fun j=>(cur[j]?).getD undef) (hT s _ hA trivial) (fun j p hp=>?_) (fun j p hp=>?_) (fun j p hp=>?_)
      ·obtain⟨x,hx,_,_⟩:=hcc j p hp
       rw[cell_of_row w _ _ cur E (0,0) hb,Nat.zero_add,hx];rfl
      ·obtain⟨x,hx,_,hr⟩:=hcc j p hp
       simp only[hx,Option.getD_some];exact hr
      ·obtain⟨x,hx,ho,_⟩:=hcc j p hp
       simp only[hx,Option.getD_some];exact ho
     simpa using this
    | dead v=>simp[Mm.gives_fail] at h
   | fn f a b=>
    simp only[frz,Mm.gives_bind,Mm.gives_ret] at h
    obtain⟨la,h1,lb,h2,rfl⟩:=h
    cases hr with
    | fn _ _ _ ca cb q1 q2 q3 q4=>
     cases k with
     | zero=>
      obtain⟨r1,r2⟩:=lst 0 a la ca (ht.imp id fun h=>by simp[jbx] at h) h1 q1 q3
      obtain⟨r3,r4⟩:=lst 0 b lb cb (ht.imp id fun h=>by simp[jbx] at h) h2 q2 q4
      exact .fn f la lb ca cb r1 r3 r2 r4
     | succ k=>
      obtain⟨r1,r2⟩:=lst k a la ca (ht.imp id fun h=>by simp only[jbx,Bool.or_eq_false_iff] at h;exact h.1) h1 q1 q3
      obtain⟨r3,r4⟩:=lst k b lb cb (ht.imp id fun h=>by simp only[jbx,Bool.or_eq_false_iff] at h;exact h.2) h2 q2 q4
      exact .fn f la lb ca cb r1 r3 r2 r4
   | agg cs=>
    simp only[frz,Mm.gives_bind,Mm.gives_ret] at h
    obtain⟨l,hl,rfl⟩:=h
    cases hr with
    | agg _ c q1 q2=>
     cases k with
     | zero=>
      obtain⟨r1,r2⟩:=lst 0 cs l c (ht.imp id fun h=>by simp[jbx] at h) hl q1 q2
      exact .ag l c r1 r2
     | succ k=>
      obtain⟨r1,r2⟩:=lst k cs l c (ht.imp id fun h=>by simpa only[jbx] using h) hl q1 q2
      exact .ag l c r1 r2
   | _=>exact lf (n+1) k _ x v ht hr h (by simp) (by simp) (by simp)
 exact fun n k p x v ht hr h=>⟨main n k p x v ht hr h,fun hs=>jjd hr hs⟩
theorem jwz (hi:Inv m γ F w) {FI:Nat→Prop} (hF:∀b,F b→FI b) {p p':PV} {v:Value} {M:Mem} {G:Nat→GB} (ht:(∀s A,m s=some A→A.live→FI (γ s).g)∨jbx 4 p=false)
 (hr:RepP m γ F w p v) (h:(frzA p).gives m p'):RepP M G FI w p' v:=by
 cases p with
 | agg cs=>
  simp only[frzA,Mm.gives_bind,Mm.gives_ret] at h
  obtain⟨l,hl,rfl⟩:=h
  cases hr with
  | agg _ c h1 h2=>
   refine .agg _ c (by simp[Mm.mapL_length hl,h1]) fun j p v hp hv=>?_
   simp only[List.getElem?_map,Option.map_eq_some_iff] at hp
   obtain⟨x,hx,rfl⟩:=hp
   obtain⟨y,hy,hg⟩:=Mm.mapL_get' hl j x hx
   refine .i (j4a hi hF 4 3 y x v (ht.imp id fun h=>?_) (h2 j y v hy hv) hg).1
   simp only[jbx,List.any_eq_false] at h
   simpa using h y (List.mem_of_getElem? hy)
 | _=>
  simp only[frzA,Mm.gives_bind,Mm.gives_ret] at h
  obtain⟨x,hx,rfl⟩:=h
  exact .i (j4a hi hF 4 4 _ x v ht hr hx).1
theorem kcx {ps own:List Arr} (hi:Inv (mq ps own) γ F w) (hF:∀b,F b→F2 b) (hO:∀j A,own[j]?=some A→A.live→F2 (γ (2000+j)).g) :
 ∀(n:Nat) (r r2:PV) (v:Value),RepP (mq ps own) γ F w r v→imm n own r=some r2→RepP (mq ps own) γ F2 w r2 v:=by
 have one:∀(r r2:PV) (v:Value),RepP (mq ps own) γ F w r v→imm1 own r=some r2→RepP (mq ps own) γ F2 w r2 v:=by
  intro r r2 v hr h
  cases hr with
  | i hr=>simp only[imm1,Option.some.injEq] at h;subst h;exact .i (hr.mono hF (fun _ _=>rfl))
  | ref s ver off len ao cap A hA hv hs=>
   simp only[imm1] at h
   split at h
   ·simp only[Option.some.injEq] at h;subst h
    exact .ref s ver off len ao cap A hA hv hs
   ·rename_i h2
    split at h
    ·rename_i v k xs ho
     split at h
     ·rename_i hvv
      simp only[Option.some.injEq] at h;subst h
      have:mq ps own s=some (.arr v k xs):=by
       simp only[mq];rw[if_pos (by omega)];exact ho
      rw[hA] at this;cases this
      have hO2:=hO (s-2000) _ ho trivial
      rw[show 2000+(s-2000)=s from by omega] at hO2
      exact .i (jhh (m:=mq ps own) (γ:=γ) hO2 ((hi.holds s _ hA).step (MemStep.refl _ _) hF (fun _ _=>rfl) rfl) (hs hvv.symm))
     ·cases h
    ·cases h
  | _=>simp[imm1] at h
 intro n
 induction n with
 | zero=>intro r r2 v hr h;exact one r r2 v hr (by simpa[imm] using h)
 | succ n ih=>
  intro r r2 v hr h
  have lst:∀(cs l:List PV) (c:List Value),mapO (imm n own) cs=some l→cs.length=c.length→(∀(j:Nat) (p:PV) (v:Value),cs[j]?=some p→c[j]?=some v→RepP (mq ps own) γ F w p v)→
   l.length=c.length∧∀(j:Nat) (p:PV) (v:Value),l[j]?=some p→c[j]?=some v→RepP (mq ps own) γ F2 w p v:=fun cs l c hl hlen hc=>by
   refine⟨by rw[mapO_length hl,hlen],fun j p v hp hv=>?_⟩
   obtain⟨y,hy,hg⟩:=jsi hl j p hp
   exact ih y p v (hc j y v hy hv) hg
  cases r with
  | agg cs=>
   simp only[imm,Option.map_eq_some_iff] at h
   obtain⟨l,hl,rfl⟩:=h
   cases hr with
   | agg _ c h1 h2=>obtain⟨q1,q2⟩:=lst cs l c hl h1 h2;exact .agg l c q1 q2
  | tup cs=>
   simp only[imm,Option.map_eq_some_iff] at h
   obtain⟨l,hl,rfl⟩:=h
   cases hr with
   | tup _ c h1 h2=>obtain⟨q1,q2⟩:=lst cs l c hl h1 h2;exact .tup l c q1 q2
  | _=>exact one _ r2 v hr (by simpa[imm] using h)
theorem jrt {F1 F2:Nat→Prop} {x:IV} {v:Value} (hf:jd5 x=true) (h:RepI F1 w x v):RepI F2 w x v:=by
 cases h<;>first|exact .v _|exact .emp _|simp[jd5] at hf
theorem flatC_rep {F1 F2:Nat→Prop} {p:PV} {v:Value} (hf:j30 p=true) (h:RepP m γ F1 w p v):RepP m γ F2 w p v:=by
 cases h with
 | i h=>exact .i (jrt hf h)
 | ref s ver off len ao cap A h1 h2 h3=>exact .ref s ver off len ao cap A h1 h2 h3
 | ptr s ver i off a A h1 h2 h3=>exact .ptr s ver i off a A h1 h2 h3
 | _=>simp[j30] at hf
theorem j34 {F1 F2:Nat→Prop}:∀(n:Nat) (p:PV) (v:Value),flatP n p=true→RepP m γ F1 w p v→RepP m γ F2 w p v:=by
 intro n
 induction n with
 | zero=>intro p v hf h;exact flatC_rep (by simpa[flatP] using hf) h
 | succ n ih=>
  intro p v hf h
  cases p with
  | agg cs=>
   simp only[flatP,List.all_eq_true] at hf
   cases h with
   | agg _ c h1 h2=>exact .agg cs c h1 fun j p v hp hv=>ih p v (hf p (List.mem_of_getElem? hp)) (h2 j p v hp hv)
  | tup cs=>
   simp only[flatP,List.all_eq_true] at hf
   cases h with
   | tup _ c h1 h2=>exact .tup cs c h1 fun j p v hp hv=>ih p v (hf p (List.mem_of_getElem? hp)) (h2 j p v hp hv)
  | _=>exact flatC_rep (by simpa[flatP] using hf) h
theorem jut {F1 F2:Nat→Prop} {G:GB} {A:Arr} (hf:ji6 A=true) (h:Holds m γ F1 w G A):Holds m γ F2 w G A:=by
 cases A with
 | arr v k xs=>
  obtain⟨cur,E,h0,h1,h2,h3,h4⟩:=h
  simp only[ji6,List.all_eq_true] at hf
  refine⟨cur,E,h0,h1,h2,h3,fun i e he=>⟨(h4 i e he).1,fun j p hp=>?_⟩⟩
  obtain⟨x,hx,ho,hr⟩:=(h4 i e he).2 j p hp
  exact⟨x,hx,ho,jrt (hf e (List.mem_of_getElem? he) p (List.mem_of_getElem? hp)) hr⟩
 | box v cs=>
  obtain⟨cur,E,h0,h1,h2⟩:=h
  simp only[ji6,List.all_eq_true] at hf
  refine⟨cur,E,h0,h1,fun j p hp=>?_⟩
  obtain⟨x,hx,ho,hr⟩:=h2 j p hp
  exact⟨x,hx,ho,flatC_rep (hf p (List.mem_of_getElem? hp)) hr⟩
 | dead v=>trivial
theorem mp_nil:mp []=fun _=>none:=by funext s;simp[mp]
theorem j7w (hC:CallOK P C) (hi:Inv m γ F w) {dst:Option Nat} {f:FuncId} {args:List PV} {vals:List Value} {out:PV} {wr:List (Nat×Arr)} (h:(jhz cf C me dst f args).gives m (out,wr))
 (hlen:args.length=vals.length) (hr:∀(j:Nat) (p:PV) (v:Value),args[j]?=some p→vals[j]?=some v→RepP m γ F w p v) :
 Enters P f∧Calls P f vals.toArray w fun e w'=>∃v γ2 F2,e=.returned v∧Inv (updL m wr) γ2 F2 w'∧MemStep m γ (updL m wr) γ2∧FStep m γ F w F2∧Stp m γ w (updL m wr) γ2 w'∧RepP (updL m wr) γ2 F2 w' out v:=by
 have back:∀(L vs:List Nat) (ps ps' own:List Arr) (r:PV) (F':Nat→Prop) (γ':Nat→GB) (w':World) (v:Value),
  L.Nodup→ps.length=L.length→L.length≤1000→vs.length=L.length→
  (∀(j s:Nat),L[j]?=some s→∃A B,m s=some A∧ps[j]?=some B∧vs[j]?=some A.ver∧B.ver=0∧A.like B∧A.live∧B.live)→
  ps'.length=ps.length→Inv (mq ps' own) γ' F' w'→MemStep (mp ps) (fun s=>γ (L.getD (s-1000) 0)) (mq ps' own) γ'→Stp (mp ps) (fun s=>γ (L.getD (s-1000) 0)) w (mq ps' own) γ' w'→
  (∀b,F b→F' b)→(∀b,F' b→F b∨w.heap.size≤b)→RepP (mq ps' own) γ' F' w' r v→
  (match dst with
    | some d=>if cf.own me d then jix d L vs r ps' own else(Mm.opt (imm 2 own r)).bind fun r'=>jix d L vs r' ps' []
    | none=>(Mm.opt (imm 2 own r)).bind fun r'=>jix 0 L vs r' ps' []).gives m (out,wr)→
  ∃γ2 F2,Inv (updL m wr) γ2 F2 w'∧MemStep m γ (updL m wr) γ2∧FStep m γ F w F2∧Stp m γ w (updL m wr) γ2 w'∧RepP (updL m wr) γ2 F2 w' out v:=by
  intro L vs ps ps' own r F' γ' w' v h1 h2 h3 h4 h5 h6 h7 h8 h9 h10 h11 h12 hg
  have list:∀d,((Mm.opt (imm 2 own r)).bind fun r'=>jix d L vs r' ps' []).gives m (out,wr)→∃γ2 F2,Inv (updL m wr) γ2 F2 w'∧MemStep m γ (updL m wr) γ2∧FStep m γ F w F2∧Stp m γ w (updL m wr) γ2 w'∧RepP (updL m wr) γ2 F2 w' out v:=fun d hg=>by
   simp only[Mm.gives_bind,Mm.gives_opt] at hg
   obtain⟨r2,hr2,hg⟩:=hg
   obtain⟨γ2,hh⟩:=jv1 (F2:=fun b=>F' b∨∃j A,own[j]?=some A∧A.live∧b=(γ' (2000+j)).g) hi h1 h2 h3 h4 h5 (own:=own) (own2:=[]) (.inr rfl) h6 h7 h8 h9 h10 (fun b hb=>.inl hb) h11
    (fun b hb=>hb.imp id fun⟨j,A,q⟩=>⟨rfl,j,A,q⟩) (kcx h7 (fun b hb=>.inl hb) (fun j A hA hl=>.inr ⟨j,A,hA,hl,rfl⟩) 2 r r2 v h12 hr2) hg
   exact⟨γ2,_,hh⟩
  cases dst with
  | none=>exact list 0 hg
  | some d=>
   simp only at hg
   split at hg
   ·obtain⟨γ2,hh⟩:=jv1 (F2:=F') hi h1 h2 h3 h4 h5 (own:=own) (own2:=own) (.inl rfl) h6 h7 h8 h9 h10 (fun b hb=>hb) h11 (fun b hb=>.inl hb) h12 hg
    exact⟨γ2,F',hh⟩
   ·exact list d hg
 unfold jhz at h
 split at h
 ·simp only[Mm.gives_bind] at h
  obtain⟨⟨L,args',ps,vs⟩,hs,h⟩:=h
  simp only at h
  obtain⟨h1,h2,h3,h4,h5,h6,h7,h8⟩:=kaa hi hs hlen hr
  split at h
  ·rename_i r ps' own hCr
   obtain⟨he,hc⟩:=hC f args' ps r ps' own hCr (by omega)
   refine⟨he,(hc _ F w vals h7 h5 h8).mono fun e w' hp=>?_⟩
   obtain⟨v,γ',F',rfl,q1,q2,q3,q4,q5,q6,q7⟩:=hp
   obtain⟨γ2,F2,hh⟩:=back L vs ps ps' own r F' γ' w' v h1 h3 h2 h4 h6 q1 q2 q3 q6 q4 q5 q7 h
   exact⟨v,γ2,F2,rfl,hh⟩
  ·simp[Mm.gives_fail] at h
 ·simp only[Mm.gives_bind] at h
  obtain⟨args',ha,h⟩:=h
  split at h
  ·rename_i r ps' own hCr
   simp only[Mm.gives_chk,Bool.and_eq_true,Bool.or_eq_true,Bool.not_eq_true',List.isEmpty_iff] at h
   obtain⟨⟨rfl,hT⟩,h⟩:=h
   obtain⟨he,hc⟩:=hC f args' [] r [] own hCr (by simp)
   refine⟨he,?_⟩
   have hmp0:∀s A,mp [] s≠some A:=fun s A hA=>by simp[mp] at hA
   by_cases hany:args.any (jbx 4)=true
   ·obtain⟨hf1,hf2⟩:flatP 3 r=true∧own.all ji6=true:=by
     rcases hT with h|h
     ·rw[h] at hany;cases hany
     ·exact h
    have hFI:∀b,F b→(F b∨∃s A,m s=some A∧A.live∧b=(γ s).g):=fun b hb=>.inl hb
    have hiI:Inv (mp []) (fun s=>γ (([]:List Nat).getD (s-1000) 0)) (fun b=>F b∨∃s A,m s=some A∧A.live∧b=(γ s).g) w:=
     ⟨fun s A hA=>absurd hA (hmp0 s A),fun s A hA=>absurd hA (hmp0 s A),fun s s' A A' hA=>absurd hA (hmp0 s A),(fun b hb=>by
      rcases hb with hb | ⟨s,A,hA,hl,rfl⟩
      ·exact hi.bound b hb
      ·exact(hi.holds s A hA).lt hl),hi.glob.mono (fun _ h=>.inl h) (fun _ _=>rfl)⟩
    refine(hc _ _ w vals hiI (by rw[Mm.mapL_length ha,hlen]) (fun j p v hp hv=>?_)).mono fun e w' hp=>?_
    ·obtain⟨x,hx,hg⟩:=Mm.mapL_get' ha j p hp
     exact jwz hi hFI (.inl fun s A hA hl=>.inr ⟨s,A,hA,hl,rfl⟩) (hr j x v hx hv) hg
    ·obtain⟨v,γ',F',rfl,q1,q2,q3,q4,q5,q6,q7⟩:=hp
     rw[List.all_eq_true] at hf2
     have hmq:∀s A,mq [] own s=some A→A∈own:=fun s A hA=>by
      unfold mq at hA
      split at hA
      ·exact List.mem_of_getElem? hA
      ·simp at hA
     have hi2:Inv (mq [] own) γ' F w':=⟨fun s A hA=>jut (hf2 A (hmq s A hA)) (q2.holds s A hA),fun s A hA hl hF=>q2.notF s A hA hl (q4 _ (.inl hF)),q2.dist,fun b hb=>q2.bound b (q4 b (.inl hb)),⟨hi.glob.look,q2.glob.holds⟩⟩
     obtain⟨γ2,F2,hh⟩:=back [] [] [] [] own r F γ' w' v List.nodup_nil rfl (by simp) rfl (by simp) rfl hi2 q3 q6 (fun b hb=>hb) (fun b hb=>.inl hb) (j34 3 r v hf1 q7) h
     exact⟨v,γ2,F2,rfl,hh⟩
   ·have hno:args.any (jbx 4)=false:=by simpa using hany
    have hiI:Inv (mp []) (fun s=>γ (([]:List Nat).getD (s-1000) 0)) F w:=
     ⟨fun s A hA=>absurd hA (hmp0 s A),fun s A hA=>absurd hA (hmp0 s A),fun s s' A A' hA=>absurd hA (hmp0 s A),hi.bound,hi.glob⟩
    refine(hc _ _ w vals hiI (by rw[Mm.mapL_length ha,hlen]) (fun j p v hp hv=>?_)).mono fun e w' hp=>?_
    ·obtain⟨x,hx,hg⟩:=Mm.mapL_get' ha j p hp
     refine jwz hi (fun _ h=>h) (.inr ?_) (hr j x v hx hv) hg
     rw[List.any_eq_false] at hno
     simpa using hno x (List.mem_of_getElem? hx)
    ·obtain⟨v,γ',F',rfl,q1,q2,q3,q4,q5,q6,q7⟩:=hp
     obtain⟨γ2,F2,hh⟩:=back [] [] [] [] own r F' γ' w' v List.nodup_nil rfl (by simp) rfl (by simp) rfl q2 q3 q6 q4 q5 q7 h
     exact⟨v,γ2,F2,rfl,hh⟩
  ·simp[Mm.gives_fail] at h
end
end Go.Proofs.YtnaaceooknghjaaGreatDoor.X
namespace Go.Proofs.YtnaaceooknghjaaGreatDoor.X
open Go
section
variable {P:Program} {o:Oper} {a:Act} {w:World} {m:Mem} {γ:Nat→GB} {F:Nat→Prop} {ρ:Nat→PV} {out:PV} {wr:List (Nat×Arr)} {cf:Cfg} {C:jci} {me:FuncId}
theorem jnu (hC:CallOK P C) (hi:Inv m γ F w) {f:FuncId} {args:List PV} {vals:List Value} (h:(jhz cf C me o.dst f args).gives m (out,wr)) (hlen:args.length=vals.length)
 (hr:∀(j:Nat) (p:PV) (v:Value),args[j]?=some p→vals[j]?=some v→RepP m γ F w p v)
 (hx:Enters P f→(execOp a.eval o).run P w=.ok (.enter f vals.toArray) w):Does P o a w m γ F out wr:=by
 obtain⟨he,hc⟩:=j7w hC hi h hlen hr
 intro K Q hK
 simp only[Oper.wp,Oper.upon,hx he]
 refine hc.mono fun e w' hp=>?_
 obtain⟨v,γ2,F2,rfl,h1,h2,h3,h4,h5⟩:=hp
 exact hK v γ2 F2 w' h1 h2 h3 h4 h5
theorem j27 {c:Call} {fv:Operand} (hC:CallOK P C) (ho:o.op=.call c) (hc:c.callee=.value fv) (h:ja7 P cf C me o ρ m out wr) (hi:Inv m γ F w) (hs:Slots m γ F w ρ a):Does P o a w m γ F out wr:=by
 simp only[ja7,ja0,ho,hc] at h
 have hf:=jah hs fv
 have hargs:∀(j:Nat) (p:PV) (v:Value),(c.args.toList.map (opnd ρ))[j]?=some p→(c.args.toList.map a.eval)[j]?=some v→RepP m γ F w p v:=fun j p v hp hv=>by
  simp only[List.getElem?_map,Option.map_eq_some_iff] at hp hv
  obtain⟨x,hx,rfl⟩:=hp
  obtain⟨y,hy,rfl⟩:=hv
  rw[hx] at hy;cases hy
  exact jah hs x
 have three:∀(A B:List PV) (ca cb:List Value),A.length=ca.length→B.length=cb.length→(∀(j:Nat) (p:PV) (v:Value),A[j]?=some p→ca[j]?=some v→RepP m γ F w p v)→(∀(j:Nat) (p:PV) (v:Value),B[j]?=some p→cb[j]?=some v→RepP m γ F w p v)→
  (A++c.args.toList.map (opnd ρ)++B).length=(ca++c.args.toList.map a.eval++cb).length∧∀(j:Nat) (p:PV) (v:Value),(A++c.args.toList.map (opnd ρ)++B)[j]?=some p→(ca++c.args.toList.map a.eval++cb)[j]?=some v→RepP m γ F w p v:=by
  intro A B ca cb hA hB h1 h2
  refine⟨by simp[hA,hB],fun j p v hp hv=>?_⟩
  by_cases hj:j<A.length
  ·rw[List.append_assoc,List.getElem?_append_left hj] at hp
   rw[List.append_assoc,List.getElem?_append_left (by omega)] at hv
   exact h1 j p v hp hv
  ·by_cases hj2:j<A.length+(c.args.toList.map (opnd ρ)).length
   ·rw[List.append_assoc,List.getElem?_append_right (by omega),List.getElem?_append_left (by omega)] at hp
    rw[List.append_assoc,List.getElem?_append_right (by omega),List.getElem?_append_left (by simp at hj2 ⊢;omega),←hA] at hv
    exact hargs _ p v hp hv
   ·rw[List.getElem?_append_right (by simp at hj2 ⊢;omega)] at hp
    rw[List.getElem?_append_right (by simp at hj2 ⊢;omega)] at hv
    have e:j-(ca++c.args.toList.map a.eval).length=j-(A++c.args.toList.map (opnd ρ)).length:=by simp[hA]
    rw[e] at hv
    exact h2 _ p v hp hv
 have hexec:∀(f:FuncId) (ca cb:List Value),a.eval fv=.func (.func f) ca.toArray cb.toArray→Enters P f→(execOp a.eval o).run P w=.ok (.enter f (ca++c.args.toList.map a.eval++cb).toArray) w:=fun f ca cb hv he=>by
  simp only[execOp,ho,resolve,hc,hv,Deferred.ofValue,Sem.run_bind,Sem.run_pure,Result.andThen_ok,invoke]
  have:=he (ca.toArray++c.args.map a.eval++cb.toArray) w
  rw[this]
  congr 2
  apply Array.ext'
  simp
 split at h
 ·rename_i f first caps he
  rw[he] at hf
  generalize hv:a.eval fv=v' at hf
  cases hf with
  | fn _ _ _ ca cb h1 h2 h3 h4=>
   obtain⟨q1,q2⟩:=three first caps ca cb h1 h2 h3 h4
   exact jnu hC hi h q1 q2 (hexec f ca cb hv)
 ·rename_i f first caps he
  rw[he] at hf
  generalize hv:a.eval fv=v' at hf
  cases hf with
  | i hf=>
   cases hf with
   | fn _ _ _ ca cb h1 h2 h3 h4=>
    obtain⟨q1,q2⟩:=three (first.map toP) (caps.map .i) ca cb (by simp[h1]) (by simp[h2]) (fun j p v hp hv=>by
     simp only[List.getElem?_map,Option.map_eq_some_iff] at hp
     obtain⟨x,hx,rfl⟩:=hp
     exact keb (h3 j x v hx hv)) (fun j p v hp hv=>by
     simp only[List.getElem?_map,Option.map_eq_some_iff] at hp
     obtain⟨x,hx,rfl⟩:=hp
     exact .i (h4 j x v hx hv))
    exact jnu hC hi h q1 q2 (hexec f ca cb hv)
 ·simp[Mm.gives_fail] at h
theorem ju7 (hC:CallOK P C) (h:ja7 P cf C me o ρ m out wr) (hi:Inv m γ F w) (hs:Slots m γ F w ρ a):Does P o a w m γ F out wr:=by
 cases ho:o.op with
 | move x=>exact j3a ho h hi hs
 | assign x=>exact jun ho h hi hs
 | pick c x y=>exact j3c ho h hi hs
 | alloc t=>exact jzt ho h hi
 | box t x=>exact j78 ho h hi hs
 | build t ps=>exact jzv ho h hi hs
 | buildSlice t n ps=>exact jlg ho h hi hs
 | load t x=>exact j29 ho h hi hs
 | store t x y=>exact jz0 ho h hi hs
 | nilCheck x=>exact jpj ho h hi hs
 | binOp op t x y t'=>exact jzu ho h hi hs
 | unOp op t x=>exact j3d ho h hi hs
 | convert s t x=>exact jrf ho h hi hs
 | makeFunc f x y=>
  cases f with
  | func f=>exact jpi ho h hi hs
  | _=>simp[ja7,ja0,ho,Mm.gives_fail] at h
 | makeSlice t x y=>exact jm7 ho h hi hs
 | slice t x lo hh mx=>
  cases mx with
  | none=>exact jzz ho h hi hs
  | some mx=>exact juo ho h hi hs
 | fieldAddr t x f=>exact jm5 ho h hi hs
 | field t x f=>exact jzx ho h hi hs
 | indexAddr t x y=>exact jm6 ho h hi hs
 | index t x y=>exact jzy ho h hi hs
 | extract x j=>exact jrg ho h hi hs
 | call c=>
  cases hc:c.callee with
  | builtin b=>
   simp only[ja7,ja0,ho,hc] at h
   exact jre ho hc h hi hs
  | value f=>exact j27 hC ho hc h hi hs
  | invoke r n=>simp[ja7,ja0,ho,hc,Mm.gives_fail] at h
 | _=>simp[ja7,ja0,ho,Mm.gives_fail] at h
end
end Go.Proofs.YtnaaceooknghjaaGreatDoor.X
namespace Go.Proofs.YtnaaceooknghjaaGreatDoor.X
open Go
def Rel (m0:Mem) (γ0:Nat→GB) (F0:Nat→Prop) (w0:World) (n:Nat) (st:St) (a:Act) (w:World):Prop:=
 ∃γ F,Inv st.m γ F w∧Slots st.m γ F w st.ρ a∧MemStep m0 γ0 st.m γ∧FStep m0 γ0 F0 w0 F∧Stp m0 γ0 w0 st.m γ w∧a.tmps.size=n∧a.defers=[]
section
variable {P:Program} {m0:Mem} {γ0:Nat→GB} {F0:Nat→Prop} {w0:World} {n:Nat} {cf:Cfg} {C:jci} {me:FuncId} {Q:Exit→Act→World→Prop}
theorem Rel.drew {st:St} {a:Act} {w:World} (h:Rel m0 γ0 F0 w0 n st a w):Rel m0 γ0 F0 w0 n st a w.drew:=by
 obtain⟨γ,F,h1,h2,h3,h4,h5,h6,h7⟩:=h
 exact⟨γ,F,h1.drew,fun t=>RepP.step (w:=w) (w':=w.drew) (MemStep.refl _ _) (fun _ h=>h) (fun _ _=>rfl) (h2 t),h3,h4,h5.drew,h6,h7⟩
theorem jtd {m m':Mem} {γ γ':Nat→GB} {F F':Nat→Prop} {w w':World} {ρ:Nat→PV} {a:Act} {dst:Option Nat} {out:PV} {v:Value} (hs:Slots m γ F w ρ a)
 (hd:∀d:Nat,dst=some d→d<a.tmps.size) (hm:MemStep m γ m' γ') (hF:∀b,F b→F' b) (hw:jfi F w w') (hr:RepP m' γ' F' w' out v) :
 Slots m' γ' F' w' (putρ ρ dst out) (a.put dst v):=by
 intro t
 cases dst with
 | none=>exact(hs t).step hm hF hw
 | some d=>
  have hlt:=hd d rfl
  by_cases ht:t=d
  ·subst ht
   simp only[putρ,jal,Act.put]
   simpa[hlt] using hr
  ·simp only[putρ,jbm _ _ ht,Act.put]
   have:(a.tmps.setIfInBounds d v).getD t undef=a.tmps.getD t undef:=by
    simp[Array.getElem?_setIfInBounds_ne (fun e=>ht e.symm)]
   rw[this]
   exact(hs t).step hm hF hw
theorem jtq {ops:Array Oper} {o:Oper} {ρ:Nat→PV} {m:Mem} {γ:Nat→GB} {F:Nat→Prop} {w:World} {a:Act} {b:Bool} (h:jfd ops o ρ=some b) (hs:Slots m γ F w ρ a):Region.wanted o (yielded ops a.tmps)=b:=by
 unfold jfd at h
 unfold Region.wanted
 split at h
 ·rename_i hg;rw[hg];simpa using h
 ·rename_i j want hg
  rw[hg]
  simp only
  split at h
  ·rename_i d hd
   have ht:=hs d
   simp only[yielded,hd,Option.bind_some]
   split at h
   ·rename_i c hc
    rw[hc] at ht
    simp only[Option.some.injEq] at h
    subst h
    cases htd:a.tmps[d]? with
    | none=>
     simp only[Array.getD_eq_getD_getElem?,htd,Option.getD_none] at ht
     generalize hu:undef=u at ht
     cases ht with|i ht=>cases ht;cases hu
    | some x=>
     simp only[Array.getD_eq_getD_getElem?,htd,Option.getD_some] at ht
     cases ht with|i ht=>cases ht;simp
   ·rename_i c hc
    rw[hc] at ht
    simp only[Option.some.injEq] at h
    subst h
    cases htd:a.tmps[d]? with
    | none=>simp
    | some x=>
     simp only[Array.getD_eq_getD_getElem?,htd,Option.getD_some] at ht
     cases ht with|i ht=>cases ht;simp
   ·cases h
  ·cases h
theorem j57 (hC:CallOK P C) {ops:Array Oper} {i:Nat} {o:Oper} (ho:ops[i]?=some o) (hd:dstOk n o=true) {st:St} {r:Rec} (h:jcv P cf C me ops o st=some r) {a:Act} {w:World} (hr:Rel m0 γ0 F0 w0 n st a w)
 {K:Act→World→Prop} (hK:∀a w,Rel m0 γ0 F0 w0 n (st.step r) a w→K a w):wpOp P ops Q i K a w:=by
 obtain⟨γ,F,h1,h2,h3,h4,h5,h6,h7⟩:=hr
 have hdst:∀d:Nat,o.dst=some d→d<a.tmps.size:=fun d hdd=>by simp only[dstOk,hdd,decide_eq_true_eq] at hd;rw[h6];exact hd
 have hput:∀v,(a.put o.dst v).tmps.size=n∧(a.put o.dst v).defers=[]:=fun v=>by
  cases o.dst<;>simp[Act.put,h6,h7]
 unfold jcv at h
 unfold wpOp
 simp only[ho]
 split at h
 ·rename_i hw
  rw[jtq hw h2]
  simp only[if_true]
  left
  simp only[Option.map_eq_some_iff] at h
  obtain⟨⟨⟨out,wr⟩,rd⟩,hx,rfl⟩:=h
  refine ju7 hC ⟨rd,hx⟩ h1 h2 _ _ fun v γ' F' w' i1 i2 i3 i4 i5=>hK _ _ ⟨γ',F',i1,?_,h3.trans i2,FStep.trans h5 h4 i3,h5.trans i4,(hput v).1,(hput v).2⟩
  exact jtd h2 hdst i2 i3.sub (h1.agree i4) i5
 ·rename_i hw
  rw[jtq hw h2]
  simp only[Bool.false_eq_true,if_false]
  simp only[Option.some.injEq] at h
  subst h
  refine hK _ _ ⟨γ,F,h1,?_,h3,h4,h5,(hput _).1,(hput _).2⟩
  exact jtd h2 hdst (MemStep.refl _ _) (fun _ h=>h) (fun _ _=>rfl) (.i (.v undef))
 ·cases h
theorem jmt (hC:CallOK P C) {ops:Array Oper} (hd:∀o,o∈ops.toList→dstOk n o=true):∀(l:List Oper) (k:Nat) (st st':St) (rs:List Rec) (a:Act) (w:World),(∀j,l[j]?=ops[k+j]?)→k+l.length=ops.size→
 runOps P cf C me ops l st=some (st',rs)→Rel m0 γ0 F0 w0 n st a w→(∀a w,Rel m0 γ0 F0 w0 n st' a w→Q .normal a w)→wpOps P ops Q (List.range' k l.length) a w
 | [],k,st,st',rs,a,w,_,_,h,hr,hQ=>by
  simp only[runOps,Option.some.injEq,Prod.mk.injEq] at h
  obtain⟨rfl,rfl⟩:=h
  exact hQ a w hr
 | o::l,k,st,st',rs,a,w,hl,hk,h,hr,hQ=>by
  simp only[runOps] at h
  split at h
  ·rename_i r hr1
   split at h
   ·rename_i st2 rs2 h2
    simp only[Option.some.injEq,Prod.mk.injEq] at h
    obtain⟨rfl,rfl⟩:=h
    have ho:ops[k]?=some o:=by have:=hl 0;simpa using this.symm
    simp only[List.length_cons,List.range'_succ,wpOps_cons]
    refine j57 hC ho (hd o (by simpa using Array.mem_of_getElem? ho)) hr1 hr fun a' w' hr'=>?_
    exact jmt hC hd l (k+1) _ _ rs2 a' w' (fun j=>by have:=hl (j+1);simp only[List.getElem?_cons_succ] at this;rw[this];congr 1;omega) (by simp at hk;omega) h2 hr' hQ
   ·cases h
  ·cases h
theorem Mm.run_local {α:Type} {m m':Mem}:∀(x:Mm α) {a:α} {rd:List Nat},x.run m=some (a,rd)→(∀s,s∈rd→m' s=m s)→x.run m'=some (a,rd)
 | .ret a,b,rd,h,_=>by simpa[Mm.run] using h
 | .fail,b,rd,h,_=>by simp[Mm.run] at h
 | .get s k,b,rd,h,hm=>by
  simp only[Mm.run] at h ⊢
  split at h
  ·rename_i c r hc
   simp only[Option.some.injEq,Prod.mk.injEq] at h
   obtain⟨rfl,rfl⟩:=h
   rw[hm s (List.mem_cons_self ..),Mm.run_local (k (m s)) hc (fun s' hs'=>hm s' (List.mem_cons_of_mem _ hs'))]
  ·cases h
theorem ju6 {o:Oper} {ρ ρ':Nat→PV} (h:∀x∈o.op.operands,opnd ρ' x=opnd ρ x):ja0 P cf C me o ρ'=ja0 P cf C me o ρ:=by
 have hmap:∀l:List Operand,(∀x∈l,x∈o.op.operands)→l.map (opnd ρ')=l.map (opnd ρ):=fun l hl=>List.map_congr_left fun x hx=>h x (hl x hx)
 unfold ja0
 cases ho:o.op with
 | build t ps=>
  simp only
  have:(ps.toList.map fun(x:Nat×Operand)=>(x.1,opnd ρ' x.2))=ps.toList.map fun(x:Nat×Operand)=>(x.1,opnd ρ x.2):=
   List.map_congr_left fun x hx=>by rw[h x.2 (by rw[ho];simp only[Op.operands,List.mem_toArray,List.mem_map];exact⟨x,hx,rfl⟩)]
  simp only[this]
 | buildSlice t k ps=>
  simp only
  have:∀l:List (Nat×Operand),(∀x∈l,x∈ps.toList)→Mm.mapL (fun(x:Nat×Operand)=>(jpf (opnd ρ' x.2).cells).bind fun c=>.ret ((x.1,c.1),c.2)) l=Mm.mapL (fun(x:Nat×Operand)=>(jpf (opnd ρ x.2).cells).bind fun c=>.ret ((x.1,c.1),c.2)) l:=by
   intro l
   induction l with
   | nil=>intro _;rfl
   | cons x l ih=>
    intro hl
    simp only[Mm.mapL]
    rw[ih (fun y hy=>hl y (List.mem_cons_of_mem _ hy)),h x.2 (by rw[ho];simp only[Op.operands,List.mem_toArray,List.mem_map];exact⟨x,hl x (List.mem_cons_self ..),rfl⟩)]
  rw[this ps.toList (fun _ h=>h)]
 | makeFunc f x y=>
  cases f with
  | func f=>
   simp only
   rw[hmap x.toList (by rw[ho];simp[Op.operands];intro y hy;exact .inl hy),hmap y.toList (by rw[ho];simp[Op.operands];intro y hy;exact .inr hy)]
  | _=>rfl
 | slice t x lo hi mx=>
  have hx:opnd ρ' x=opnd ρ x:=h x (by rw[ho];simp[Op.operands])
  have hlo:lo.map (opnd ρ')=lo.map (opnd ρ):=by
   cases lo with
   | none=>rfl
   | some y=>simp only[Option.map_some];rw[h y (by rw[ho];simp[Op.operands])]
  have hhi:hi.map (opnd ρ')=hi.map (opnd ρ):=by
   cases hi with
   | none=>rfl
   | some y=>simp only[Option.map_some];rw[h y (by rw[ho];simp[Op.operands])]
  cases mx with
  | none=>simp only[hx,hlo,hhi]
  | some y=>
   have hy:opnd ρ' y=opnd ρ y:=h y (by rw[ho];simp[Op.operands])
   simp only[hx,hlo,hhi,hy]
 | call c=>
  have hargs:c.args.toList.map (opnd ρ')=c.args.toList.map (opnd ρ):=hmap _ (by rw[ho];intro x hx;simp only[Op.operands,Call.operands,Array.mem_append];exact .inr (by simpa using hx))
  simp only[hargs]
  cases hc:c.callee with
  | value f=>
   have hf:opnd ρ' f=opnd ρ f:=h f (by rw[ho];simp[Op.operands,Call.operands,hc])
   simp only[hf]
  | _=>rfl
 | pick c x y=>simp only[h c (by rw[ho];simp[Op.operands]),h x (by rw[ho];simp[Op.operands]),h y (by rw[ho];simp[Op.operands])]
 | move x=>simp only[h x (by rw[ho];simp[Op.operands])]
 | assign x=>simp only[h x (by rw[ho];simp[Op.operands])]
 | box t x=>simp only[h x (by rw[ho];simp[Op.operands])]
 | load t x=>simp only[h x (by rw[ho];simp[Op.operands])]
 | store t x y=>simp only[h x (by rw[ho];simp[Op.operands]),h y (by rw[ho];simp[Op.operands])]
 | nilCheck x=>simp only[h x (by rw[ho];simp[Op.operands])]
 | binOp op t x y t'=>simp only[h x (by rw[ho];simp[Op.operands]),h y (by rw[ho];simp[Op.operands])]
 | unOp op t x=>simp only[h x (by rw[ho];simp[Op.operands])]
 | convert s t x=>simp only[h x (by rw[ho];simp[Op.operands])]
 | makeSlice t x y=>simp only[h x (by rw[ho];simp[Op.operands]),h y (by rw[ho];simp[Op.operands])]
 | fieldAddr t x f=>simp only[h x (by rw[ho];simp[Op.operands])]
 | field t x f=>simp only[h x (by rw[ho];simp[Op.operands])]
 | indexAddr t x y=>simp only[h x (by rw[ho];simp[Op.operands]),h y (by rw[ho];simp[Op.operands])]
 | index t x y=>simp only[h x (by rw[ho];simp[Op.operands]),h y (by rw[ho];simp[Op.operands])]
 | extract x j=>simp only[h x (by rw[ho];simp[Op.operands])]
 | _=>rfl
theorem j0h {ρ ρ':Nat→PV} {x:Operand} (h:∀t,x=.tmp t→ρ' t=ρ t):opnd ρ' x=opnd ρ x:=by
 cases x with
 | tmp t=>exact h t rfl
 | _=>rfl
theorem jtg {ops:Array Oper} {o:Oper} {st st2:St} {r:Rec} (h:jcv P cf C me ops o st=some r) (hρ:∀t,t∈o.looksAt ops→st2.ρ t=st.ρ t) (hm:∀s,s∈r.rd→st2.m s=st.m s):jcv P cf C me ops o st2=some r:=by
 have hops:∀x∈o.op.operands,opnd st2.ρ x=opnd st.ρ x:=fun x hx=>j0h fun t ht=>hρ t (by
  subst ht
  simp only[Oper.looksAt,List.mem_append,List.mem_filterMap]
  exact .inl ⟨.tmp t,by simpa using hx,rfl⟩)
 have hw:jfd ops o st2.ρ=jfd ops o st.ρ:=by
  unfold jfd
  cases hg:o.guard with
  | none=>rfl
  | some g=>
   obtain⟨j,want⟩:=g
   simp only
   cases hd:(ops[j]?).bind (·.dst) with
   | none=>rfl
   | some d=>simp only;rw[hρ d (by simp only[Oper.looksAt,hg,hd,List.mem_append];exact .inr (by simp))]
 unfold jcv at h ⊢
 rw[hw,ju6 hops]
 cases hwt:jfd ops o st.ρ with
 | none=>rw[hwt] at h;cases h
 | some b=>
  rw[hwt] at h
  cases b with
  | false=>exact h
  | true=>
   simp only[Option.map_eq_some_iff] at h ⊢
   obtain⟨⟨⟨out,wr⟩,rd⟩,hx,rfl⟩:=h
   exact⟨_,Mm.run_local _ hx hm,rfl⟩
end
end Go.Proofs.YtnaaceooknghjaaGreatDoor.X
