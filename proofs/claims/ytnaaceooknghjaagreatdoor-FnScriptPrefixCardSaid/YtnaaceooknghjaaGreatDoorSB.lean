/- The interpreter is sound: literals, stores, appends. -/
import Derived.Test.YtnaaceooknghjaaGreatDoorSA
import Derived.Laws.BytesArg
import Derived.Lib.AppendZerosOnto
set_option linter.unusedSimpArgs false
set_option linter.unusedVariables false
namespace Go.Proofs.YtnaaceooknghjaaGreatDoor.X
open Go
section
variable {P:Program} {o:Oper} {a:Act} {w:World} {m:Mem} {γ:Nat→GB} {F:Nat→Prop} {ρ:Nat→PV} {out:PV} {wr:List (Nat×Arr)} {cf:Cfg} {C:jci} {me:FuncId}
theorem jnr {x:Value} (h:(constC x).flat=true):x.oneCell'=true:=by
 unfold constC at h
 split at h
 ·rfl
 ·exact h
theorem jjd {q:PV} {x:Value} (hr:RepP m γ F w q x) (hs:q.scalar=true):x.oneCell'=true:=by
 cases hr with
 | i h=>cases h<;>first|rfl|exact hs
 | ref=>rfl
 | ptr=>rfl
 | fn=>rfl
 | agg=>cases hs
 | tup=>cases hs
 | bad=>cases hs
theorem j2o {x:Value} (h:x.oneCell'=true):x.cells=#[x]:=by cases x<;>first|rfl|cases h
theorem jft {p:PV} {v:Value} (hr:RepP m γ F w p v) (hs:∀q,q∈p.cells→q.scalar=true) :
 ∃c:List Value,v.cells=c.toArray∧c.length=p.cells.length∧∀(j:Nat) (q:PV) (x:Value),p.cells[j]?=some q→c[j]?=some x→RepP m γ F w q x∧x.oneCell'=true:=by
 have one:p.cells=[p]→∃c:List Value,v.cells=c.toArray∧c.length=p.cells.length∧∀(j:Nat) (q:PV) (x:Value),p.cells[j]?=some q→c[j]?=some x→RepP m γ F w q x∧x.oneCell'=true:=fun he=>by
  have h1:=jjd hr (hs p (by rw[he];exact List.mem_singleton.2 rfl))
  refine⟨[v],j2o h1,by rw[he];rfl,fun j q x hq hx=>?_⟩
  rw[he] at hq
  cases j with
  | zero=>simp at hq hx;subst hq;subst hx;exact⟨hr,h1⟩
  | succ j=>simp at hq
 cases hr with
 | agg cs c h1 h2=>exact⟨c,rfl,h1.symm,fun j q x hq hx=>⟨h2 j q x hq hx,jjd (h2 j q x hq hx) (hs q (List.mem_of_getElem? hq))⟩⟩
 | _=>exact one rfl
theorem joc (t:TypeId) (v:Value) (w:World):(newVar t v).run P w=.ok ⟨w.heap.size,0,none⟩ (w.alloc (.cells v.cells t)):=by
 rfl
theorem j78 {t:TypeId} {x:Operand} (ho:o.op=.box t x) (h:ja7 P cf C me o ρ m out wr) (hi:Inv m γ F w) (hs:Slots m γ F w ρ a):Does P o a w m γ F out wr:=by
 simp only[ja7,ja0,ho] at h
 split at h
 ·rename_i d hd
  simp only[Mm.gives_bind,Mm.gives_chk,Mm.gives_ret,Prod.mk.injEq,List.all_eq_true] at h
  obtain⟨v,hv,hsc,rfl,rfl⟩:=h
  obtain⟨c,hc,hl,hcr⟩:=jft (jah hs x) hsc
  obtain⟨h1,h2,h3,h4⟩:=je8 hi (A:=.box v (opnd ρ x).cells) (fun A0 h0=>jbk hv A0 h0) trivial (a.eval x).cells t 0 (fun hm hag=>by
   refine⟨(a.eval x).cells,t,by rw[jc0];simp,by rw[hc];simp[hl],fun j p hp=>?_⟩
   have hj:j<c.length:=by rw[hl];exact(List.getElem?_eq_some_iff.1 hp).1
   obtain⟨hr,h1⟩:=hcr j p c[j] hp (by simp[hj])
   exact⟨c[j],by rw[hc];simp[hj],h1,hr.step hm (fun _ h=>h) hag⟩)
  refine ja3 (v:=.pointer (some ⟨w.heap.size,0,none⟩)) (γ':=upd γ d ⟨w.heap.size,0,0⟩) (F':=F) ?_ h1 h2 (FStep.refl ..) h3 ?_
  ·simp[execOp,ho,Instr.box,joc]
  ·exact .ptr d v 0 0 _ _ (jal ..) (Nat.le_refl _) fun _=>⟨rfl,by rw[jal]⟩
 ·simp[Mm.gives_fail] at h
theorem jzt {t:TypeId} (ho:o.op=.alloc t) (h:ja7 P cf C me o ρ m out wr) (hi:Inv m γ F w):Does P o a w m γ F out wr:=by
 simp only[ja7,ja0,ho] at h
 split at h
 ·rename_i d z hd hz
  simp only[Mm.gives_bind,Mm.gives_chk,Mm.gives_ret,Prod.mk.injEq,List.all_eq_true] at h
  obtain⟨v,hv,hsc,rfl,rfl⟩:=h
  obtain⟨zv,hzr,rfl⟩:=jih hz w
  obtain⟨h1,h2,h3,h4⟩:=je8 hi (A:=.box v ((zv.cells.toList.map constC).map .i)) (fun A0 h0=>jbk hv A0 h0) trivial zv.cells t 0 (fun hm hag=>by
   refine⟨zv.cells,t,by rw[jc0];simp,by simp,fun j p hp=>?_⟩
   simp only[List.map_map,List.getElem?_map,Option.map_eq_some_iff] at hp
   obtain⟨x,hx,rfl⟩:=hp
   exact⟨x,by simpa using hx,jnr (hsc _ (List.mem_map.2 ⟨x,List.mem_of_getElem? hx,rfl⟩)),.i (jc2 x)⟩)
  refine ja3 (v:=.pointer (some ⟨w.heap.size,0,none⟩)) (γ':=upd γ d ⟨w.heap.size,0,0⟩) (F':=F) ?_ h1 h2 (FStep.refl ..) h3 ?_
  ·simp[execOp,ho,Instr.alloc,hzr,joc]
  ·exact .ptr d v 0 0 _ _ (jal ..) (Nat.le_refl _) fun _=>⟨rfl,by rw[jal]⟩
 ·simp[Mm.gives_fail] at h
theorem jlu (off:Nat):∀(c:List Value) (i:Nat) (cur:Array Value),
 ((c.zipIdx i).foldl (fun cs (x:Value×Nat)=>cs.setIfInBounds (off+x.2) x.1) cur).size=cur.size∧
 ∀q,off+i+c.length≤cur.size→((c.zipIdx i).foldl (fun cs (x:Value×Nat)=>cs.setIfInBounds (off+x.2) x.1) cur)[q]?=if off+i≤q∧q<off+i+c.length then c[q-(off+i)]? else cur[q]?
 | [],i,cur=>⟨rfl,fun q _=>by rw[if_neg (by simp only[List.length_nil];omega)];rfl⟩
 | v::c,i,cur=>by
  obtain⟨h1,h2⟩:=jlu off c (i+1) (cur.setIfInBounds (off+i) v)
  simp only[List.zipIdx_cons,List.foldl_cons]
  refine⟨by rw[h1];simp,fun q hq=>?_⟩
  have hs:(cur.setIfInBounds (off+i) v).size=cur.size:=by simp
  simp only[List.length_cons] at hq ⊢
  rw[h2 q (by rw[hs];omega)]
  by_cases hqe:q=off+i
  ·subst hqe
   rw[if_neg (by omega),if_pos (by omega)]
   have hlt:off+i<cur.size:=by omega
   simp[hlt]
  ·by_cases hin:off+(i+1)≤q∧q<off+(i+1)+c.length
   ·rw[if_pos hin,if_pos (by omega)]
    rw[show q-(off+i)=(q-(off+(i+1)))+1 from by omega]
    simp
   ·rw[if_neg hin,if_neg (by omega),Array.getElem?_setIfInBounds_ne (by omega)]
def jvg (cur:Array Value) (off:Nat) (c:Array Value):Array Value:=c.zipIdx.foldl (fun cs (x:Value×Nat)=>cs.setIfInBounds (off+x.2) x.1) cur
theorem jog (cur:Array Value) (off:Nat) (c:Array Value):(jvg cur off c).size=cur.size:=by
 have:=(jlu off c.toList 0 cur).1
 unfold jvg
 rwa [←Array.foldl_toList,Array.toList_zipIdx]
theorem jmm (cur:Array Value) (off:Nat) (c:Array Value) (h:off+c.size≤cur.size) (q:Nat):(jvg cur off c)[q]?=if off≤q∧q<off+c.size then c[q-off]? else cur[q]?:=by
 have:=(jlu off c.toList 0 cur).2 q (by simpa using h)
 unfold jvg
 rw[←Array.foldl_toList,Array.toList_zipIdx]
 simpa using this
theorem jlp (place:Nat→Option (Nat×Nat)) (cells:Array Value) (i:Nat) (v:Value) (rest:List (Nat×Value)) (off size:Nat) (hp:place i=some (off,size)) (h1:v.cells.size=size) (h2:off+size≤cells.size) :
 Instr.fill place cells ((i,v)::rest)=Instr.fill place (jvg cells off v.cells) rest:=by
 simp only[Instr.fill,hp,h1]
 rw[if_neg (by simp;omega)]
 rfl
theorem getElem?_splice {α:Type} (cs e:List α) (off j:Nat) (h:off+e.length≤cs.length):(splice cs off e)[j]?=if off≤j∧j<off+e.length then e[j-off]? else cs[j]?:=by
 unfold splice
 by_cases h1:j<off
 ·rw[if_neg (by omega),List.append_assoc,List.getElem?_append_left (by simp;omega)]
  simp[h1]
 ·by_cases h2:j<off+e.length
  ·rw[if_pos ⟨by omega,h2⟩,List.append_assoc,List.getElem?_append_right (by simp;omega),List.getElem?_append_left (by simp;omega)]
   congr 1;simp;omega
  ·rw[if_neg (by omega),List.getElem?_append_right (by simp;omega)]
   simp only[List.length_append,List.length_take,List.getElem?_drop]
   congr 1;omega
theorem jad {α:Type} (cs e:List α) (off:Nat) (h:off+e.length≤cs.length):(splice cs off e).length=cs.length:=by
 simp[splice];omega
def jdp (m:Mem) (γ:Nat→GB) (F:Nat→Prop) (w:World) (cs:List PV) (cur:Array Value):Prop:=
 cur.size=cs.length∧∀(j:Nat) (p:PV),cs[j]?=some p→∃x:Value,cur[j]?=some x∧RepP m γ F w p x
theorem jgw {cs e:List PV} {cur:Array Value} {off:Nat} {c:Array Value} (h:jdp m γ F w cs cur) (he:jdp m γ F w e c) (hl:off+e.length≤cs.length) :
 jdp m γ F w (splice cs off e) (jvg cur off c):=by
 refine⟨by rw[jog,h.1,jad _ _ _ hl],fun j p hp=>?_⟩
 rw[getElem?_splice _ _ _ _ hl] at hp
 rw[jmm _ _ _ (by rw[he.1,h.1];exact hl),he.1]
 split at hp
 ·rename_i hj;rw[if_pos hj];exact he.2 _ _ hp
 ·rename_i hj;rw[if_neg hj];exact h.2 _ _ hp
theorem ju2 {w:World} (fs:Array Field) (hz:∀f,f∈fs→(szOf P f.type).isSome=true) :
 (fs.mapM (fun f=>do pure (f.offset,←sizeOf f.type)):Sem (Array (Nat×Nat))).run P w=.ok (fs.map fun f=>(f.offset,(szOf P f.type).getD 0)) w:=by
 rw[Array.mapM_eq_mapM_toList]
 have:∀l:List Field,(∀f,f∈l→(szOf P f.type).isSome=true)→(l.mapM (fun f=>do pure (f.offset,←sizeOf f.type)):Sem (List (Nat×Nat))).run P w=.ok (l.map fun f=>(f.offset,(szOf P f.type).getD 0)) w:=by
  intro l
  induction l with
  | nil=>intro _;simp
  | cons f l ih=>
   intro h
   obtain⟨n,hn⟩:=Option.isSome_iff_exists.1 (h f (List.mem_cons_self ..))
   simp only[List.mapM_cons,Sem.run_bind,jbl hn,Result.andThen_ok,Sem.run_pure,ih (fun g hg=>h g (List.mem_cons_of_mem _ hg)),List.map_cons,hn,Option.getD_some]
 simp only[map_eq_pure_bind,Sem.run_bind,this fs.toList (fun f hf=>hz f (by simpa using hf)),Result.andThen_ok,Sem.run_pure]
 rw[←Array.toList_map]
end
end Go.Proofs.YtnaaceooknghjaaGreatDoor.X
namespace Go.Proofs.YtnaaceooknghjaaGreatDoor.X
open Go
section
variable {P:Program} {o:Oper} {a:Act} {w:World} {m:Mem} {γ:Nat→GB} {F:Nat→Prop} {ρ:Nat→PV} {out:PV} {wr:List (Nat×Arr)} {cf:Cfg} {C:jci} {me:FuncId}
theorem jnp {p:PV} {v:Value} (hr:RepP m γ F w p v) (hs:∀q,q∈p.cells→q.scalar=true):jdp m γ F w p.cells v.cells:=by
 obtain⟨c,hc,hl,hcr⟩:=jft hr hs
 refine⟨by rw[hc];simp[hl],fun j p hp=>?_⟩
 have hj:j<c.length:=by rw[hl];exact(List.getElem?_eq_some_iff.1 hp).1
 exact⟨c[j],by rw[hc];simp[hj],(hcr j p c[j] hp (by simp[hj])).1⟩
theorem jlo (hs:Slots m γ F w ρ a) (fs:Array Field):∀(l:List (Nat×Operand)) (cs cs':List PV) (cur:Array Value),jdp m γ F w cs cur→
 jus P fs cs (l.map fun x=>(x.1,opnd ρ x.2))=some cs'→
 ∃cur',Instr.fill (fun i=>(fs.map fun f=>(f.offset,(szOf P f.type).getD 0))[i]?) cur (l.map fun x=>(x.1,a.eval x.2))=some cur'∧jdp m γ F w cs' cur'
 | [],cs,cs',cur,hc,h=>by
  simp only[List.map_nil,jus,Option.some.injEq] at h
  subst h
  exact⟨cur,rfl,hc⟩
 | (i,x)::l,cs,cs',cur,hc,h=>by
   simp only[List.map_cons,jus] at h
   split at h
   ·rename_i f hf
    split at h
    ·rename_i hh
     obtain⟨h1,h2,h3⟩:=hh
     have hcx:=jnp (jah hs x) (by simpa[List.all_eq_true] using h3)
     obtain⟨cur',hf',hr'⟩:=jlo hs fs l _ cs' _ (jgw hc hcx h2) h
     refine⟨cur',?_,hr'⟩
     simp only[List.map_cons]
     rw[jlp _ cur i (a.eval x) _ f.offset (opnd ρ x).cells.length (by simp[hf,h1]) hcx.1 (by rw[hc.1];exact h2)]
     exact hf'
    ·cases h
   ·cases h
theorem jlm (hs:Slots m γ F w ρ a) (k:Nat):∀(l:List (Nat×Operand)) (cs cs':List PV) (cur:Array Value),jdp m γ F w cs cur→
 jur k cs (l.map fun x=>(x.1,opnd ρ x.2))=some cs'→
 ∃cur',Instr.fill (fun i=>some (i*k,k)) cur (l.map fun x=>(x.1,a.eval x.2))=some cur'∧jdp m γ F w cs' cur'
 | [],cs,cs',cur,hc,h=>by
  simp only[List.map_nil,jur,Option.some.injEq] at h
  subst h
  exact⟨cur,rfl,hc⟩
 | (i,x)::l,cs,cs',cur,hc,h=>by
   simp only[List.map_cons,jur] at h
   split at h
   ·rename_i hh
    obtain⟨h1,h2,h3⟩:=hh
    have hcx:=jnp (jah hs x) (by simpa[List.all_eq_true] using h3)
    obtain⟨cur',hf',hr'⟩:=jlm hs k l _ cs' _ (jgw hc hcx h2) h
    refine⟨cur',?_,hr'⟩
    simp only[List.map_cons]
    rw[jlp _ cur i (a.eval x) _ (i*k) (opnd ρ x).cells.length (by simp[h1]) hcx.1 (by rw[hc.1];exact h2)]
    exact hf'
   ·cases h
theorem jeu {cs:List PV} {cur:Array Value} (h:jdp m γ F w cs cur):RepP m γ F w (.agg cs) (.agg cur):=by
 have:RepP m γ F w (.agg cs) (.agg cur.toList.toArray):=by
  refine .agg cs cur.toList (by simp[h.1]) fun j p v hp hv=>?_
  obtain⟨x,hx,hr⟩:=h.2 j p hp
  simp only[Array.getElem?_toList] at hv
  rw[hx] at hv;cases hv
  exact hr
 simpa using this
theorem jzv {t:TypeId} {parts:Array (Nat×Operand)} (ho:o.op=.build t parts) (h:ja7 P cf C me o ρ m out wr) (hi:Inv m γ F w) (hs:Slots m γ F w ρ a):Does P o a w m γ F out wr:=by
 simp only[ja7,ja0,ho] at h
 split at h
 ·rename_i z fs hz hu
  split at h
  ·rename_i cs hcs
   simp only[Mm.gives_chk,Mm.gives_ret,Prod.mk.injEq,List.all_eq_true] at h
   obtain⟨hall,rfl,rfl⟩:=h
   obtain⟨zv,hzr,rfl⟩:=jih hz w
   have h0:jdp m γ F w ((zv.cells.toList.map constC).map .i) zv.cells:=by
    refine⟨by simp,fun j p hp=>?_⟩
    simp only[List.map_map,List.getElem?_map,Option.map_eq_some_iff] at hp
    obtain⟨x,hx,rfl⟩:=hp
    exact⟨x,by simpa using hx,.i (jc2 x)⟩
   obtain⟨cur',hf,hr⟩:=jlo hs fs parts.toList _ cs zv.cells h0 hcs
   refine jag hi (v:=.agg cur') ?_ (jeu hr)
   have hm:=ju2 (P:=P) (w:=w) fs (fun f hf=>hall f (by simpa using hf))
   simp only[execOp,ho,Instr.build,Sem.run_bind,hzr,Result.andThen_ok,run_underlying hu,hm]
   have hf':Instr.fill (fun x=>(fs.map fun f=>(f.offset,(szOf P f.type).getD 0))[x]?) zv.cells (parts.map fun x=>(x.1,a.eval x.2)).toList=some cur':=by
    rw[Array.toList_map];exact hf
   simp only[hf',Sem.run_pure,Result.andThen_ok]
  ·simp[Mm.gives_fail] at h
 ·rename_i z len el hz hu
  split at h
  ·rename_i k hk
   split at h
   ·rename_i cs hcs
    simp only[Mm.gives_ret,Prod.mk.injEq] at h
    obtain⟨rfl,rfl⟩:=h
    obtain⟨zv,hzr,rfl⟩:=jih hz w
    have h0:jdp m γ F w ((zv.cells.toList.map constC).map .i) zv.cells:=by
     refine⟨by simp,fun j p hp=>?_⟩
     simp only[List.map_map,List.getElem?_map,Option.map_eq_some_iff] at hp
     obtain⟨x,hx,rfl⟩:=hp
     exact⟨x,by simpa using hx,.i (jc2 x)⟩
    obtain⟨cur',hf,hr⟩:=jlm hs k parts.toList _ cs zv.cells h0 hcs
    refine jag hi (v:=.agg cur') ?_ (jeu hr)
    simp only[execOp,ho,Instr.build,Sem.run_bind,hzr,Result.andThen_ok,run_underlying hu,jbl hk]
    have hf':Instr.fill (fun i=>some (i*k,k)) zv.cells (parts.map fun x=>(x.1,a.eval x.2)).toList=some cur':=by
     rw[Array.toList_map];exact hf
    simp only[hf',Sem.run_pure,Result.andThen_ok]
   ·simp[Mm.gives_fail] at h
  ·simp[Mm.gives_fail] at h
 ·simp[Mm.gives_fail] at h
def Grid (F:Nat→Prop) (w:World) (k:Nat) (xs:List (List IV)) (cur:Array Value):Prop:=
 cur.size=xs.length*k∧∀(i:Nat) (e:List IV),xs[i]?=some e→e.length=k∧∀(j:Nat) (p:IV),e[j]?=some p→∃x:Value,cur[i*k+j]?=some x∧x.oneCell'=true∧RepI F w p x
theorem jr3 {i i' k j:Nat} (h:i≠i') (hj:j<k):¬(i*k≤i'*k+j∧i'*k+j<i*k+k):=by
 rintro⟨h1,h2⟩
 rcases Nat.lt_or_gt_of_ne h with hl|hl
 ·have:(i+1)*k≤i'*k:=Nat.mul_le_mul_right _ hl
  rw[Nat.add_mul] at this;omega
 ·have:(i'+1)*k≤i*k:=Nat.mul_le_mul_right _ hl
  rw[Nat.add_mul] at this;omega
theorem jg0 {i k n j:Nat} (hi:i<n) (hj:j<k):i*k+j<n*k:=by
 have:(i+1)*k≤n*k:=Nat.mul_le_mul_right _ hi
 rw[Nat.add_mul] at this;omega
theorem j8p {k:Nat} {xs:List (List IV)} {cur:Array Value} (h:Grid F w k xs cur) {i:Nat} {e:List IV} {c:Array Value} (hi:i<xs.length) (he:e.length=k)
 (hc:c.size=k) (hr:∀(j:Nat) (p:IV),e[j]?=some p→∃x:Value,c[j]?=some x∧x.oneCell'=true∧RepI F w p x):Grid F w k (xs.set i e) (jvg cur (i*k) c):=by
 have hfit:i*k+c.size≤cur.size:=by
  rw[h.1,hc]
  have:(i+1)*k≤xs.length*k:=Nat.mul_le_mul_right _ hi
  rw[Nat.add_mul] at this;omega
 refine⟨by rw[jog,h.1];simp,fun i' e' he'=>?_⟩
 by_cases hii:i'=i
 ·subst hii
  simp only[List.getElem?_set_self hi,Option.some.injEq] at he'
  subst he'
  refine⟨he,fun j p hp=>?_⟩
  have hj:j<e.length:=(List.getElem?_eq_some_iff.1 hp).1
  rw[jmm _ _ _ hfit,if_pos (by omega),show i'*k+j-i'*k=j from by omega]
  exact hr j p hp
 ·rw[List.getElem?_set_ne (fun e=>hii e.symm)] at he'
  refine⟨(h.2 i' e' he').1,fun j p hp=>?_⟩
  have hj:j<k:=by rw[←(h.2 i' e' he').1];exact(List.getElem?_eq_some_iff.1 hp).1
  rw[jmm _ _ _ hfit,if_neg (by rw[hc];exact jr3 (fun e=>hii e.symm) hj)]
  exact(h.2 i' e' he').2 j p hp
theorem jjs {k:Nat}:∀(l:List (Nat×List IV)) (xs xs':List (List IV)),jm8 k xs l=some xs'→xs'.length=xs.length
 | [],xs,xs',h=>by simp[jm8] at h;rw[h]
 | (i,e)::l,xs,xs',h=>by
   simp only[jm8] at h
   split at h
   ·rw[jjs l _ _ h];simp
   ·cases h
theorem jln {k:Nat} (hk:0<k):∀(l:List (Nat×List IV)) (vs:List (Nat×Value)) (xs xs':List (List IV)) (cur:Array Value),
 l.length=vs.length→
 (∀(j:Nat) (x:Nat×List IV) (v:Nat×Value),l[j]?=some x→vs[j]?=some v→x.1=v.1∧v.2.cells.size=x.2.length∧∀(q:Nat) (p:IV),x.2[q]?=some p→∃y:Value,v.2.cells[q]?=some y∧y.oneCell'=true∧RepI F w p y)→
 Grid F w k xs cur→jm8 k xs l=some xs'→∃cur',Instr.fill (fun i=>some (i*k,k)) cur vs=some cur'∧Grid F w k xs' cur'
 | [],[],xs,xs',cur,_,_,hg,h=>by simp[jm8] at h;subst h;exact⟨cur,rfl,hg⟩
 | [],_::_,_,_,_,hl,_,_,_=>by simp at hl
 | _::_,[],_,_,_,hl,_,_,_=>by simp at hl
 | (i,e)::l,(i',v)::vs,xs,xs',cur,hl,hr,hg,h=>by
   simp only[jm8] at h
   split at h
   ·rename_i hh
    obtain⟨h1,h2⟩:=hh
    obtain⟨rfl,h4,h5⟩:=hr 0 (i,e) (i',v) rfl rfl
    simp only at h4 h5
    have hgs:=j8p hg h2 h1 (by rw[h4,h1]) h5
    obtain⟨cur',hf,hr'⟩:=jln hk l vs _ xs' _ (by simpa using hl) (fun j x y hx hy=>hr (j+1) x y hx hy) hgs h
    refine⟨cur',?_,hr'⟩
    rw[jlp _ cur i v vs (i*k) k rfl (by rw[h4,h1]) ?_]
    ·exact hf
    ·rw[hg.1]
     have:(i+1)*k≤xs.length*k:=Nat.mul_le_mul_right _ h2
     rw[Nat.add_mul] at this;omega
   ·cases h
theorem jid {k n:Nat} {zc:Array Value} (hz:zc.size=k) (hone:∀x,x∈zc.toList.map constC→x.flat=true) :
 Grid F w k (List.replicate n (zc.toList.map constC)) ((Array.range (n*k)).map (zc[· % zc.size]!)):=by
 refine⟨by simp,fun i e he=>?_⟩
 have hi:i<n:=by have:=(List.getElem?_eq_some_iff.1 he).1;simpa using this
 simp only[List.getElem?_replicate,hi,if_true,Option.some.injEq] at he
 subst he
 refine⟨by simp[hz],fun j p hp=>?_⟩
 simp only[List.getElem?_map,Option.map_eq_some_iff] at hp
 obtain⟨x,hx,rfl⟩:=hp
 have hj:j<k:=by rw[←hz];have:=(List.getElem?_eq_some_iff.1 hx).1;simpa using this
 have hlt:=jg0 hi hj
 refine⟨x,?_,jnr (hone _ (List.mem_map.2 ⟨x,List.mem_of_getElem? hx,rfl⟩)),jc2 x⟩
 have hm:(i*k+j) % zc.size=j:=by rw[hz,Nat.mul_comm,Nat.mul_add_mod,Nat.mod_eq_of_lt hj]
 have hjz:j<zc.size:=by omega
 simp only[Array.getElem?_map,Array.getElem?_range,hlt,if_true,Option.map_some,hm,Option.some.injEq]
 rw[getElem!_pos zc j hjz]
 simpa[hjz] using hx
theorem jxm {v k n:Nat} {xs:List (List IV)} {cur:Array Value} {E:TypeId} {m':Mem} {γ':Nat→GB} (hg:Grid F w k xs cur) (hn:xs.length=n) (hmax:n≤maxLen) (hag:jfi F w (w.alloc (.cells cur E))) :
 Holds m' γ' F (w.alloc (.cells cur E)) ⟨w.heap.size,0,n⟩ (.arr v k xs):=by
 refine⟨cur,E,by rw[jc0];simp,by simp[hg.1,hn],by show xs.length≤n;omega,by simpa using hmax,fun i e he=>⟨(hg.2 i e he).1,fun j p hp=>?_⟩⟩
 obtain⟨x,hx,ho,hr⟩:=(hg.2 i e he).2 j p hp
 exact⟨x,by simpa using hx,ho,hr.mono (fun _ h=>h) hag⟩
theorem jtc {d v k n:Nat} {xs:List (List IV)} {G:Nat→GB} {m':Mem} {w':World} {b:Nat} (hm:m' d=some (.arr v k xs)) (hG:G d=⟨b,0,n⟩) (hn:xs.length=n) :
 RepP m' G F w' (.ref d v 0 n) (.slice (some ⟨b,0,none⟩) n n):=by
 refine .ref d v 0 n _ _ _ hm (Nat.le_refl _) fun _=>?_
 rw[hG]
 exact⟨by omega,Nat.zero_le _,rfl,fun _=>by simp⟩
theorem jlg {t:TypeId} {n:Nat} {parts:Array (Nat×Operand)} (ho:o.op=.buildSlice t n parts) (h:ja7 P cf C me o ρ m out wr) (hi:Inv m γ F w) (hs:Slots m γ F w ρ a):Does P o a w m γ F out wr:=by
 simp only[ja7,ja0,ho] at h
 split at h
 ·rename_i el d hel hd
  have hu:=jge hel
  split at h
  ·rename_i k z hk hz
   simp only[Mm.gives_bind] at h
   obtain⟨l,hl,h⟩:=h
   split at h
   ·rename_i xs hxs
    simp only[Mm.gives_bind,Mm.gives_chk,Bool.and_eq_true,decide_eq_true_eq,beq_iff_eq,Mm.gives_ret,Prod.mk.injEq,List.all_eq_true,bne_iff_ne,ne_eq] at h
    obtain⟨v,hv,⟨⟨⟨⟨hmax,hzl⟩,hzf⟩,hk0⟩,hnd⟩,rfl,rfl⟩:=h
    obtain⟨zv,hzr,rfl⟩:=jih hz w
    have hzs:zv.cells.size=k:=by simpa using hzl
    have hwr:∀s A,(s,A)∈l.flatMap (·.2)→ownSite s=true∧∃v k ys,m s=some (.arr v k ys)∧A=.dead (v+1):=fun s A hA=>by
     simp only[List.mem_flatMap] at hA
     obtain⟨x,hx,hy⟩:=hA
     obtain⟨j,hj⟩:=List.getElem?_of_mem hx
     obtain⟨p,_,hg⟩:=Mm.mapL_get' hl j _ hj
     simp only[Mm.gives_bind,Mm.gives_ret] at hg
     obtain⟨c,hc,rfl⟩:=hg
     exact(jpg hc).2.1 s A hy
    obtain⟨ki,km,ks,klive⟩:=ji7 hi fun s A hA=>(hwr s A hA).2
    have hlen:=jjs _ _ _ hxs
    simp only[List.length_replicate] at hlen
    have hmul:n*k≤maxLen:=by unfold maxLen;omega
    have hnmax:n≤maxLen:=Nat.le_trans (Nat.le_mul_of_pos_right n hk0) hmul
    have hg0:Grid (fun b=>F b∨∃s A,(s,A)∈l.flatMap (·.2)∧b=(γ s).g) w k (List.replicate n (zv.cells.toList.map constC)) ((Array.range (n*k)).map (zv.cells[· % zv.cells.size]!)):=jid hzs hzf
    obtain⟨cur',hf,hg⟩:=jln hk0 (l.map (·.1)) (parts.toList.map fun x=>(x.1,a.eval x.2)) _ xs _ (by simp[Mm.mapL_length hl]) (fun j x y hx hy=>by
     simp only[List.getElem?_map,Option.map_eq_some_iff] at hx hy
     obtain⟨lx,hlx,rfl⟩:=hx
     obtain⟨px,hpx,rfl⟩:=hy
     obtain⟨px',hpx',hgx⟩:=Mm.mapL_get' hl j _ hlx
     rw[hpx] at hpx';cases hpx'
     simp only[Mm.gives_bind,Mm.gives_ret] at hgx
     obtain⟨c,hc,rfl⟩:=hgx
     obtain⟨h1,h2,h3⟩:=jpg hc
     have hsc:∀q,q∈(opnd ρ px.2).cells→q.scalar=true:=fun q hq=>by
      obtain⟨jj,hjj⟩:=List.getElem?_of_mem hq
      obtain⟨x,wj,_,hg1,_⟩:=h3 jj q hjj
      rcases jh5 hg1 with⟨rfl,hf,_⟩ | ⟨_,_,_,_,_,_,rfl,_⟩
      ·exact hf
      ·rfl
     obtain⟨cc,hcc,hccl,hccr⟩:=jft (jah hs px.2) hsc
     refine⟨rfl,by simp only[hcc,List.size_toArray,hccl,h1],fun q p hp=>?_⟩
     have hq:q<(opnd ρ px.2).cells.length:=by rw[←h1];exact(List.getElem?_eq_some_iff.1 hp).1
     obtain⟨x,wj,hx,hg1,hsub⟩:=h3 q (opnd ρ px.2).cells[q] (by simp[hq])
     rw[hx] at hp;cases hp
     have hqc:q<cc.length:=by rw[hccl];exact hq
     obtain⟨hr1,_⟩:=hccr q _ cc[q] (List.getElem?_eq_getElem hq) (by simp[hqc])
     obtain⟨hr2,ho2⟩:=jld (wr:=l.flatMap (·.2)) hi hg1 (fun y hy=>List.mem_flatMap.2 ⟨_,List.mem_of_getElem? hlx,hsub y hy⟩) hr1
     exact⟨cc[q],by simp only[hcc];simp[hqc],ho2,hr2⟩) hg0 hxs
    have hdn:updL m (l.flatMap (·.2)) d=m d:=ja4 fun A hA=>hnd _ hA rfl
    obtain⟨h1,h2,h3,h4⟩:=je8 ki (d:=d) (A:=.arr v k xs) (fun A0 h0=>jbk hv A0 (by rwa [hdn] at h0)) trivial cur' el n (fun hm hag=>jxm hg hlen hnmax hag)
    refine ja3 (v:=.slice (some ⟨w.heap.size,0,none⟩) n n) (γ':=upd γ d ⟨w.heap.size,0,n⟩) (F':=fun b=>F b∨∃s A,(s,A)∈l.flatMap (·.2)∧b=(γ s).g) (w':=w.alloc (.cells cur' el)) ?_ (by rw[jcb];exact h1) (by rw[jcb];exact km.trans h2)
     (jlx hwr) (by rw[jcb];exact ks.trans h3) (by rw[jcb];exact jtc (jal ..) (jal ..) hlen)
    have hf':Instr.fill (fun i=>some (i*k,k)) ((Array.range (n*k)).map (zv.cells[· % zv.cells.size]!)) (parts.map fun x=>(x.1,a.eval x.2)).toList=some cur':=by
     rw[Array.toList_map];exact hf
    have hnm:¬(2 ^ 24<n*k):=by omega
    simp only[execOp,ho,Instr.buildSlice,Sem.run_bind,run_underlying hu,Result.andThen_ok,jbl hk,gt_iff_lt,hnm,if_false]
    by_cases hn0:n*k=0
    ·have hn:n=0:=by rcases Nat.mul_eq_zero.1 hn0 with h|h<;>omega
     subst hn
     simp only[Nat.zero_mul,if_true,Sem.run_pure,Result.andThen_ok]
     simp only[Nat.zero_mul,Array.range_zero',Array.map_empty] at hf' ⊢
     simp only[hf',newRow,Sem.run_bind,Sem.run_pure]
     rfl
    ·simp only[hn0,if_false,Sem.run_bind,hzr,Result.andThen_ok,Sem.run_pure,hf',newRow]
     rfl
   ·simp[Mm.gives_fail] at h
  ·simp[Mm.gives_fail] at h
 ·simp[Mm.gives_fail] at h
theorem jm7 {t:TypeId} {x y:Operand} (ho:o.op=.makeSlice t x y) (h:ja7 P cf C me o ρ m out wr) (hi:Inv m γ F w) (hs:Slots m γ F w ρ a):Does P o a w m γ F out wr:=by
 simp only[ja7,ja0,ho] at h
 split at h
 ·rename_i el d n n' hel hd hn hn'
  have hu:=jge hel
  obtain⟨k1,hx⟩:=jc7 hn (jah hs x)
  obtain⟨k2,hy⟩:=jc7 hn' (jah hs y)
  split at h
  ·rename_i inf z hinf hz
   simp only[Mm.gives_bind,Mm.gives_chk,Bool.and_eq_true,decide_eq_true_eq,beq_iff_eq,Mm.gives_ret,Prod.mk.injEq,List.all_eq_true] at h
   obtain⟨v,hv,⟨⟨⟨⟨⟨⟨h0,rfl⟩,hm1⟩,hb⟩,hzl⟩,hk0⟩,hzf⟩,rfl,rfl⟩:=h
   have hz':=hz
   simp only[jam,Option.map_eq_some_iff,Option.bind_eq_some_iff,hinf,Option.some.injEq] at hz'
   obtain⟨zv,⟨_,rfl,hzv⟩,rfl⟩:=hz'
   have hzs:zv.cells.size=inf.size:=by simpa using hzl
   have hg:Grid F w inf.size (List.replicate n.toNat (zv.cells.toList.map constC)) (madeCells zv.cells (n.toNat*inf.size)):=jid hzs hzf
   have hnn:n.toNat≤maxLen:=by unfold maxLen;omega
   obtain⟨h1,h2,h3,h4⟩:=je8 hi (d:=d) (A:=.arr v inf.size (List.replicate n.toNat (zv.cells.toList.map constC))) (fun A0 h0=>jbk hv A0 h0) trivial (madeCells zv.cells (n.toNat*inf.size)) el n.toNat
    (fun hm hag=>jxm hg (by simp) hnn hag)
   have hb':(inf.bytes:Int)*n≤281474976710656:=by
    have:(inf.bytes:Int)*n≤128*4000000:=Int.mul_le_mul (by omega) hm1 h0 (by omega)
    omega
   have hrun:=run_make (P:=P) w t el inf zv hu hinf hzv k1 k2 n n h0 (Int.le_refl _) hb' (by omega)
   refine ja3 (v:=.slice (some ⟨w.heap.size,0,none⟩) n.toNat n.toNat) (γ':=upd γ d ⟨w.heap.size,0,n.toNat⟩) (F':=F) ?_ h1 h2 (FStep.refl ..) h3 (jtc (jal ..) (jal ..) (by simp))
   simp[execOp,ho,hx,hy,hrun]
  ·simp[Mm.gives_fail] at h
 ·simp[Mm.gives_fail] at h
end
end Go.Proofs.YtnaaceooknghjaaGreatDoor.X
namespace Go.Proofs.YtnaaceooknghjaaGreatDoor.X
open Go
section
variable {P:Program} {o:Oper} {a:Act} {w:World} {m:Mem} {γ:Nat→GB} {F:Nat→Prop} {ρ:Nat→PV} {out:PV} {wr:List (Nat×Arr)} {cf:Cfg} {C:jci} {me:FuncId}
theorem jbt (hi:Inv m γ F w) {s:Nat} {A A':Arr} {G:GB} (hA:m s=some A) (hl:A.live) (hg:G.g=(γ s).g) (hver:A.ver≤A'.ver) (hlike:A.ver=A'.ver→A.like A'∧G=γ s) {w':World}
 (hos:w'.os=w.os) (htape:w'.tape=w.tape) (hout:w'.output=w.output) (hsz:w'.heap.size=w.heap.size) (hw:∀b,b≠(γ s).g→w'.heap[b]?=w.heap[b]?)
 (hH:MemStep m γ (upd m s (some A')) (upd γ s G)→jfi F w w'→Holds (upd m s (some A')) (upd γ s G) F w' G A') :
 Inv (upd m s (some A')) (upd γ s G) F w'∧MemStep m γ (upd m s (some A')) (upd γ s G)∧Stp m γ w (upd m s (some A')) (upd γ s G) w':=by
 have hms:MemStep m γ (upd m s (some A')) (upd γ s G):=by
  intro s' B hB
  by_cases hs:s'=s
  ·subst hs
   rw[hA] at hB;cases hB
   refine⟨A',jal ..,hver,fun e=>⟨(hlike e).1,by rw[jal];exact(hlike e).2⟩⟩
  ·exact⟨B,by rw[jbm _ _ hs];exact hB,Nat.le_refl _,fun _=>⟨B.like_refl,jbm _ _ hs⟩⟩
 have hag:jfi F w w':=fun b hb=>hw b fun e=>hi.notF s A hA hl (e▸hb)
 refine⟨⟨fun s' B hB=>?_,fun s' B hB hBl=>?_,fun s1 s2 B1 B2 hB1 hB2 hl1 hl2 e=>?_,fun b hb=>by have:=hi.bound b hb;omega,hi.glob.mono (fun _ h=>h) hag⟩,hms,⟨hos,htape,hout,by omega,fun b hb hn=>hw b fun e=>hn s A hA hl e.symm,fun s' B hB hBl=>?_⟩⟩
 ·by_cases hs:s'=s
  ·subst hs
   rw[jal] at hB ⊢
   cases hB
   exact hH hms hag
  ·rw[jbm _ _ hs] at hB ⊢
   by_cases hBl:B.live
   ·refine(hi.holds s' B hB).step hms (fun _ h=>h) hag (hw _ fun e=>hs ?_)
    exact hi.dist s' s B A hB hA hBl hl e
   ·cases B<;>simp[Arr.live,Holds] at hBl ⊢
 ·by_cases hs:s'=s
  ·subst hs;rw[jal,hg];exact hi.notF s' A hA hl
  ·rw[jbm _ _ hs] at hB ⊢;exact hi.notF s' B hB hBl
 ·by_cases h1:s1=s<;>by_cases h2:s2=s
  ·rw[h1,h2]
  ·subst h1
   rw[jal,jbm _ _ h2,hg] at e
   rw[jbm _ _ h2] at hB2
   exact hi.dist s1 s2 A B2 hA hB2 hl hl2 e
  ·subst h2
   rw[jal,jbm _ _ h1,hg] at e
   rw[jbm _ _ h1] at hB1
   exact hi.dist s1 s2 B1 A hB1 hA hl1 hl e
  ·rw[jbm _ _ h1] at hB1 e
   rw[jbm _ _ h2] at hB2 e
   exact hi.dist s1 s2 B1 B2 hB1 hB2 hl1 hl2 e
 ·by_cases hs:s'=s
  ·subst hs;rw[jal,hg];exact .inl ⟨A,hA,hl,rfl⟩
  ·rw[jbm _ _ hs] at hB ⊢;exact .inl ⟨B,hB,hBl,rfl⟩
theorem jc3 (g off:Nat) (E:TypeId) (vs:List Value) (cur:Array Value) (w:World) (hg:w.heap[g]?=some (.cells cur E (0,0))) (hl:off+vs.length≤cur.size) (h1:∀v∈vs,v.oneCell'=true) :
 (storeCells ⟨g,off,none⟩ vs).run P w=.ok () (w.setRow g (splice cur.toList off vs).toArray):=by
 have:=run_storeCells_at P g off E vs 0 cur w hg (by simpa using hl) h1
 simpa[splice] using this
theorem jbz (g:Nat) (cur cur':Array Value) (E:TypeId) (w:World) (hg:w.heap[g]?=some (.cells cur E (0,0))) :
 (w.setRow g cur').os=w.os∧(w.setRow g cur').tape=w.tape∧(w.setRow g cur').output=w.output∧(w.setRow g cur').heap.size=w.heap.size∧
   (∀b,b≠g→(w.setRow g cur').heap[b]?=w.heap[b]?)∧(w.setRow g cur').heap[g]?=some (.cells cur' E (0,0)):=
 ⟨rfl,rfl,rfl,by simp[World.setRow],fun b hb=>setRow_other w g b _ hb,setRow_heap w g cur cur' E _ hg⟩
theorem jtb {o:Oper} {a:Act} {w w':World} {γ':Nat→GB} {F':Nat→Prop} {wr:List (Nat×Arr)}
 (h:(execOp a.eval o).run P w=.ok .skip w') (hi:Inv (updL m wr) γ' F' w') (hm:MemStep m γ (updL m wr) γ') (hF:FStep m γ F w F')
 (hs:Stp m γ w (updL m wr) γ' w'):Does P o a w m γ F .bad wr:=by
 intro K Q hK
 simp only[Oper.wp,Oper.upon,h]
 exact hK undef γ' F' w' hi hm hF hs (.bad _)
theorem jj1 {t:TypeId} {n:Nat} {ad:Addr} {v:Value} {c:List Value} {w w':World} (hz:szOf P t=some n) (hc:v.cells=c.toArray) (hn:c.length=n) (hst:(storeCells ad c).run P w=.ok () w') :
 (storeVar t ad v).run P w=.ok () w':=by
 simp[storeVar,jbl hz,hc,hn,hst]
theorem jz0 {t:TypeId} {x y:Operand} (ho:o.op=.store t x y) (h:ja7 P cf C me o ρ m out wr) (hi:Inv m γ F w) (hs:Slots m γ F w ρ a):Does P o a w m γ F out wr:=by
 simp only[ja7,ja0,ho] at h
 have hx:=jah hs x
 have hy:=jah hs y
 split at h
 ·rename_i s ver i off n he hz
  rw[he] at hx
  generalize hv:a.eval x=v' at hx
  cases hx with
  | ptr s ver i off ad A hA hver hpl=>
  simp only[Mm.gives_get] at h
  split at h
  ·rename_i v k xs hA'
   have:=jhp hA hA';subst this
   simp only[Mm.gives_bind] at h
   obtain⟨⟨iv,wc⟩,hcons,h⟩:=h
   split at h
   ·rename_i el hel
    simp only[Mm.gives_chk,Bool.and_eq_true,beq_iff_eq,decide_eq_true_eq,Mm.gives_ret,Prod.mk.injEq,List.all_eq_true,bne_iff_ne,ne_eq] at h
    obtain⟨⟨⟨⟨rfl,hn⟩,hfit⟩,hnd⟩,rfl,rfl⟩:=h
    obtain⟨hil,rfl⟩:=hpl rfl
    obtain⟨h1,h2,h3⟩:=jpg hcons
    obtain⟨ki,km,ks,_⟩:=ji7 hi (fun s A hA=>(h2 s A hA).2)
    have hsc:∀q,q∈(opnd ρ y).cells→q.scalar=true:=fun q hq=>by
     obtain⟨jj,hjj⟩:=List.getElem?_of_mem hq
     obtain⟨x,wj,_,hg1,_⟩:=h3 jj q hjj
     rcases jh5 hg1 with⟨rfl,hf,_⟩ | ⟨_,_,_,_,_,_,rfl,_⟩
     ·exact hf
     ·rfl
    obtain⟨cc,hcc,hccl,hccr⟩:=jft hy hsc
    have hm1:updL m wc s=some (.arr v k xs):=by rw[ja4 fun A hA=>hnd _ hA rfl];exact hA
    obtain⟨cur,E,hb,hsz,hxc,hmax,hc⟩:=ki.holds s _ hm1
    have hellen:el.length=k:=(hc i el hel).1
    have hccn:cc.length=n:=by rw[hccl,←h1,hn]
    have hfit2:((γ s).b+i)*k+off+cc.length≤cur.size:=by
     refine Nat.le_trans ?_ hsz
     rw[hccn]
     have:((γ s).b+i+1)*k≤((γ s).b+(γ s).cap)*k:=Nat.mul_le_mul_right _ (by omega)
     rw[Nat.add_mul _ 1] at this
     omega
    have hone:∀v∈cc,v.oneCell'=true:=fun v hv=>by
     obtain⟨j,hj⟩:=List.getElem?_of_mem hv
     have hjl:j<(opnd ρ y).cells.length:=by rw[←hccl];exact(List.getElem?_eq_some_iff.1 hj).1
     exact(hccr j _ v (List.getElem?_eq_getElem hjl) hj).2
    have hrun:=jc3 (P:=P) (γ s).g (((γ s).b+i)*k+off) E cc cur w hb hfit2 hone
    obtain⟨f1,f2,f3,f4,f5,f6⟩:=jbz (γ s).g cur (splice cur.toList (((γ s).b+i)*k+off) cc).toArray E w hb
    obtain⟨t1,t2,t3⟩:=jbt ki (A':=.arr v k (xs.set i (splice el off iv))) (G:=γ s) hm1 trivial rfl (Nat.le_refl _) (fun _=>⟨⟨rfl,by simp⟩,rfl⟩) f1 f2 f3 f4 f5 (fun hms hag=>by
     have hfl:(((γ s).b+i)*k+off)+cc.length≤cur.toList.length:=by simpa using hfit2
     refine⟨_,E,f6,by simpa[jad _ _ _ hfl] using hsz,by simpa using hxc,hmax,fun i' e' he'=>?_⟩
     have hsl:off+iv.length≤el.length:=by rw[hn];exact hfit
     by_cases hii:i'=i
     ·subst hii
      rw[List.getElem?_set_self hil] at he'
      cases he'
      refine⟨by rw[jad _ _ _ hsl,hellen],fun j p hp=>?_⟩
      rw[getElem?_splice _ _ _ _ hsl] at hp
      simp only[List.getElem?_toArray,getElem?_splice _ _ _ _ hfl]
      split at hp
      ·rename_i hj
       rw[if_pos (by omega)]
       have hjq:j-off<(opnd ρ y).cells.length:=by rw[←h1];exact(List.getElem?_eq_some_iff.1 hp).1
       obtain⟨x,wj,hx,hg1,hsub⟩:=h3 (j-off) _ (List.getElem?_eq_getElem hjq)
       rw[hx] at hp;cases hp
       have hjc:j-off<cc.length:=by rw[hccl];exact hjq
       obtain⟨hr1,_⟩:=hccr (j-off) _ cc[j-off] (List.getElem?_eq_getElem hjq) (by simp[hjc])
       obtain⟨hr2,ho2⟩:=jld (wr:=wc) hi hg1 hsub hr1
       refine⟨cc[j-off],?_,ho2,hr2.mono (fun _ h=>h) hag⟩
       rw[show((γ s).b+i')*k+j-(((γ s).b+i')*k+off)=j-off from by omega]
       simp[hjc]
      ·rename_i hj
       rw[if_neg (by omega)]
       obtain⟨x,hx,ho,hr⟩:=(hc i' el hel).2 j p hp
       exact⟨x,by simpa using hx,ho,hr.mono (fun _ h=>h) hag⟩
     ·rw[List.getElem?_set_ne (fun e=>hii e.symm)] at he'
      refine⟨(hc i' e' he').1,fun j p hp=>?_⟩
      obtain⟨x,hx,ho,hr⟩:=(hc i' e' he').2 j p hp
      have hj:j<k:=by rw[←(hc i' e' he').1];exact(List.getElem?_eq_some_iff.1 hp).1
      have hap:=jr3 (i:=(γ s).b+i) (i':=(γ s).b+i') (fun e=>hii (by omega)) hj
      simp only[List.getElem?_toArray,getElem?_splice _ _ _ _ hfl]
      rw[if_neg (by omega)]
      exact⟨x,by simpa using hx,ho,hr.mono (fun _ h=>h) hag⟩)
    refine jtb (F':=fun b=>F b∨∃s A,(s,A)∈wc∧b=(γ s).g) (γ':=upd γ s (γ s)) (w':=w.setRow (γ s).g (splice cur.toList (((γ s).b+i)*k+off) cc).toArray) ?_ (by rw[jcb];exact t1) (by rw[jcb];exact km.trans t2) (jlx h2) (by rw[jcb];exact ks.trans t3)
    simp only[execOp,ho,hv,Instr.storeAt,Instr.sureAddr,Sem.run_bind,Sem.run_pure,Result.andThen_ok,jj1 hz hcc hccn hrun]
   ·simp[Mm.gives_fail] at h
  ·rename_i v cs hA'
   have:A=.box v cs:=by rw[hA] at hA';cases hA';rfl
   subst this
   simp only[Mm.gives_chk,Bool.and_eq_true,beq_iff_eq,decide_eq_true_eq,Mm.gives_ret,Prod.mk.injEq,List.all_eq_true] at h
   obtain⟨⟨⟨⟨⟨rfl,rfl⟩,hn⟩,hfit⟩,hsc⟩,rfl,rfl⟩:=h
   obtain⟨_,rfl⟩:=hpl rfl
   obtain⟨cc,hcc,hccl,hccr⟩:=jft hy hsc
   obtain⟨cur,E,hb,hsz,hc⟩:=hi.holds s _ hA
   have hccn:cc.length=n:=by rw[hccl,hn]
   have hfit2:off+cc.length≤cur.size:=by rw[hsz,hccn];exact hfit
   have hone:∀v∈cc,v.oneCell'=true:=fun v hv=>by
    obtain⟨j,hj⟩:=List.getElem?_of_mem hv
    have hjl:j<(opnd ρ y).cells.length:=by rw[←hccl];exact(List.getElem?_eq_some_iff.1 hj).1
    exact(hccr j _ v (List.getElem?_eq_getElem hjl) hj).2
   have hrun:=jc3 (P:=P) (γ s).g off E cc cur w hb hfit2 hone
   obtain⟨f1,f2,f3,f4,f5,f6⟩:=jbz (γ s).g cur (splice cur.toList off cc).toArray E w hb
   have hfl:off+cc.length≤cur.toList.length:=by simpa using hfit2
   have hsl:off+(opnd ρ y).cells.length≤cs.length:=by rw[hn];exact hfit
   obtain⟨t1,t2,t3⟩:=jbt hi (A':=.box v (splice cs off (opnd ρ y).cells)) (G:=γ s) hA trivial rfl (Nat.le_refl _) (fun _=>⟨trivial,rfl⟩) f1 f2 f3 f4 f5 (fun hms hag=>by
    refine⟨_,E,f6,by simp[jad _ _ _ hfl,jad _ _ _ hsl,hsz],fun j p hp=>?_⟩
    rw[getElem?_splice _ _ _ _ hsl] at hp
    simp only[List.getElem?_toArray,getElem?_splice _ _ _ _ hfl]
    split at hp
    ·rename_i hj
     rw[if_pos (by omega)]
     have hjc:j-off<cc.length:=by rw[hccl];exact(List.getElem?_eq_some_iff.1 hp).1
     obtain⟨hr1,ho1⟩:=hccr (j-off) _ cc[j-off] hp (by simp[hjc])
     exact⟨cc[j-off],by simp[hjc],ho1,hr1.step hms (fun _ h=>h) hag⟩
    ·rename_i hj
     rw[if_neg (by omega)]
     obtain⟨x,hx,ho,hr⟩:=hc j p hp
     exact⟨x,by simpa using hx,ho,hr.step hms (fun _ h=>h) hag⟩)
   refine jtb (γ':=upd γ s (γ s)) (w':=w.setRow (γ s).g (splice cur.toList off cc).toArray) ?_ t1 t2 (FStep.refl ..) t3
   simp only[execOp,ho,hv,Instr.storeAt,Instr.sureAddr,Sem.run_bind,Sem.run_pure,Result.andThen_ok,jj1 hz hcc hccn hrun]
  ·simp[Mm.gives_fail] at h
 ·simp[Mm.gives_fail] at h
theorem jhi (hs:Slots m γ F w ρ a) {lo:Option Operand} {y mx:Operand} {l:Option Int} {h c:Int} (hl:jcs (lo.map (opnd ρ))=some l) (hh:jeb (opnd ρ y)=some h) (hm:jeb (opnd ρ mx)=some c)
 {n cap i j:Nat} (hb:jbw n l (some h)=some (i,j)) (hhc:h≤c) (hc:c≤cap) :
 (Instr.sliceBounds true n cap (lo.map a.eval) (some (a.eval y)) (some (a.eval mx))).run P w=.ok (i,j,c.toNat) w:=by
 obtain⟨h1,h2,h3,h4⟩:=jcw hb
 obtain⟨ky,hy⟩:=jc7 hh (jah hs y)
 obtain⟨km,hx⟩:=jc7 hm (jah hs mx)
 simp only[Option.getD_some] at h2
 rcases jf2 hs hl with⟨rfl,rfl⟩ | ⟨x,nx,kx,rfl,rfl,hz⟩<;>simp only[Option.getD_none,Option.getD_some] at h1
 ·have:i=0:=by omega
  subst this
  simp only[Option.map_none,Instr.sliceBounds,hy,hx,Sem.run_bind,Sem.run_pure,Result.andThen_ok]
  rw[jau _ _ _ _ (by omega) (by omega)]
  simp only[Result.andThen_ok]
  rw[jau _ _ _ _ (by omega) (by omega)]
  simp;omega
 ·simp only[Option.map_some,Instr.sliceBounds,hy,hx,hz,Sem.run_bind,Sem.run_pure,Result.andThen_ok]
  rw[jau _ _ _ _ (by omega) (by omega)]
  simp only[Result.andThen_ok]
  rw[jau _ _ _ _ (by omega) (by omega)]
  simp only[Result.andThen_ok]
  rw[jau _ _ _ _ (by omega) (by omega)]
  simp;omega
theorem juo {t:TypeId} {x mx:Operand} {lo hi:Option Operand} (ho:o.op=.slice t x lo hi (some mx)) (h:ja7 P cf C me o ρ m out wr) (hin:Inv m γ F w) (hs:Slots m γ F w ρ a):Does P o a w m γ F out wr:=by
 simp only[ja7,ja0,ho] at h
 have hx:=jah hs x
 split at h
 ·rename_i l h' c hl hh hm
  cases hi with
  | none=>simp[jcs] at hh
  | some y=>
  simp only[Option.map_some,jcs,Option.map_eq_some_iff,Option.some.injEq,exists_eq_right] at hh
  split at h
  ·rename_i s ver off len el he hu
   split at h
   ·rename_i i j k hb hz
    simp only[Mm.gives_get] at h
    split at h
    ·rename_i v k' xs hA
     obtain⟨_,hjh,hij,hjn⟩:=jcw hb
     simp only[Option.getD_some] at hjh
     rw[he] at hx
     generalize hv:a.eval x=v' at hx
     cases hx with
     | ref s ver off len ao cap A h1 h2 h3=>
     have:=jhp h1 hA;subst this
     have hxc:=(hin.holds s _ h1).choose_spec.choose_spec.2.2.1
     split at h
     rotate_left
     ·simp only[Mm.gives_chk,Bool.and_eq_true,beq_iff_eq,decide_eq_true_eq,Mm.gives_ret,Prod.mk.injEq] at h
      obtain⟨⟨⟨⟨rfl,rfl⟩,hhc⟩,hcl⟩,rfl,rfl⟩:=h
      obtain⟨hl1,hc1,rfl,had⟩:=h3 rfl
      have hrun:=jhi (P:=P) hs hl hh hm hb hhc (show c≤((γ s).cap-off:Nat) by omega)
      refine jag hin (v:=.slice (if c.toNat=i then ao else ao.map (·.add (i*k))) (j-i) (c.toNat-i)) ?_ (.bad _)
      simp[execOp,ho,hv,Instr.sliceAt,Instr.slice,run_underlying hu,hrun,jbl hz]
     ·simp only[Mm.gives_chk,Bool.and_eq_true,beq_iff_eq,Mm.gives_ret,Prod.mk.injEq] at h
      obtain⟨⟨⟨rfl,rfl⟩,rfl⟩,rfl,rfl⟩:=h
      obtain⟨hl1,hc1,rfl,had⟩:=h3 rfl
      have hrun:=jhi (P:=P) hs hl hh hm hb (Int.le_refl _) (show c≤((γ s).cap-off:Nat) by omega)
      have hcj:c.toNat=j:=by omega
      rw[hcj] at hrun
      obtain⟨t1,t2,t3⟩:=jbt hin (A':=.arr (v+1) k (xs.take (off+j))) (G:=⟨(γ s).g,(γ s).b,off+j⟩) h1 trivial rfl (Nat.le_succ _) (fun e=>absurd e (by simp[Arr.ver])) rfl rfl rfl rfl (fun _ _=>rfl) (fun hms hag=>by
       obtain⟨cur,E,hbk,hsz,hxc,hmx,hc⟩:=hin.holds s _ h1
       refine⟨cur,E,hbk,Nat.le_trans (Nat.mul_le_mul_right _ (show(γ s).b+(off+j)≤(γ s).b+(γ s).cap by omega)) hsz,by simp;omega,by show(γ s).b+(off+j)≤maxLen;omega,fun i' e he'=>?_⟩
       rw[List.getElem?_take] at he'
       split at he'
       ·exact hc i' e he'
       ·cases he')
      refine ja3 (γ':=upd γ s ⟨(γ s).g,(γ s).b,off+j⟩) (F':=F) (w':=w) (v:=.slice (if j=i then ao else ao.map (·.add (i*k))) (j-i) (j-i)) ?_ t1 t2 (FStep.refl ..) t3 ?_
      ·simp[execOp,ho,hv,Instr.sliceAt,Instr.slice,run_underlying hu,hrun,jbl hz]
      ·refine .ref s _ _ _ _ _ _ (jal ..) (Nat.le_refl _) fun _=>?_
       rw[jal]
       refine⟨by simp;omega,by show off+i≤off+j;omega,by show j-i=off+j-(off+i);omega,fun hlt=>?_⟩
       have hlt':off+i<off+j:=hlt
       rw[if_neg (by omega),had (by omega)]
       simp[jbe,←Nat.add_mul,Nat.add_assoc]
    ·simp[Mm.gives_fail] at h
   ·simp[Mm.gives_fail] at h
  ·rename_i el he hu
   split at h
   ·rename_i i j hb hz
    simp only[Mm.gives_chk,beq_iff_eq,Mm.gives_ret,Prod.mk.injEq] at h
    obtain⟨rfl,rfl,rfl⟩:=h
    rw[he] at hx
    generalize hv:a.eval x=v' at hx
    obtain⟨i,j⟩:=i
    obtain⟨_,hjh,hij,hjn⟩:=jcw hb
    have hj0:j=0:=by omega
    have hi0:i=0:=by omega
    subst hj0 hi0
    cases hx with
    | i hx=>
     cases hx with
     | emp ao=>
      have hrun:=jhi (P:=P) hs hl hh hm hb (Int.le_refl _) (show c≤((0:Nat):Int) by simp only[Option.getD_some] at hjh;omega)
      rw[show c.toNat=0 by simp only[Option.getD_some] at hjh;omega] at hrun
      refine jag hin (v:=.slice ao 0 0) ?_ (.i (.emp ao))
      simp[execOp,ho,hv,Instr.sliceAt,Instr.slice,run_underlying hu,hrun,jbl hz]
   ·simp[Mm.gives_fail] at h
  ·simp[Mm.gives_fail] at h
 ·simp[Mm.gives_fail] at h
end
end Go.Proofs.YtnaaceooknghjaaGreatDoor.X
namespace Go.Proofs.YtnaaceooknghjaaGreatDoor.X
open Go
section
variable {P:Program} {o:Oper} {a:Act} {w:World} {m:Mem} {γ:Nat→GB} {F:Nat→Prop} {ρ:Nat→PV} {out:PV} {wr:List (Nat×Arr)} {cf:Cfg} {C:jci} {me:FuncId}
theorem qdiv {q n k:Nat} (hk:0<k) (hq:q<n*k):q / k<n∧q % k<k∧q / k*k+q % k=q:=
 ⟨(Nat.div_lt_iff_lt_mul hk).2 hq,Nat.mod_lt _ hk,by rw[Nat.mul_comm];exact Nat.div_add_mod q k⟩
theorem jkh {k:Nat} {xs:List (List IV)} {cur:Array Value} (hk:0<k) (h:Grid F w k xs cur):∀x∈cur.toList,x.oneCell'=true:=by
 intro x hx
 obtain⟨q,hq⟩:=List.getElem?_of_mem hx
 have hlt:q<xs.length*k:=by rw[←h.1];have:=(List.getElem?_eq_some_iff.1 hq).1;simpa using this
 obtain⟨h1,h2,h3⟩:=qdiv hk hlt
 obtain⟨he,hc⟩:=h.2 (q / k) _ (List.getElem?_eq_getElem h1)
 obtain⟨y,hy,ho,_⟩:=hc (q % k) _ (List.getElem?_eq_getElem (by rw[he];exact h2))
 rw[h3] at hy
 simp only[Array.getElem?_toList] at hq
 rw[hq] at hy;cases hy
 exact ho
theorem jbs {k n:Nat} {ao:Option Addr} {c:Nat} {W:World} (news:List Value) (hl:news.length=n*k) (h:n*k≠0→∃g o,ao=some ⟨g,o,none⟩∧∀j v,news[j]?=some v→W.cell? ⟨g,o+j,none⟩=some v) :
 (Builtin.firstCells k n (.slice ao n c)).run P W=.ok news.toArray W:=by
 by_cases h0:n*k=0
 ·have:news=[]:=List.eq_nil_of_length_eq_zero (by omega)
  subst this
  cases ao with
  | none=>rfl
  | some ad=>simp[Builtin.firstCells,h0,loadCells,loadCellsFrom]
 ·obtain⟨g,off,rfl,hc⟩:=h h0
  simp only[Builtin.firstCells,←hl]
  exact run_loadCells_list W _ news fun j v hv=>by rw[jbe];exact hc j v hv
theorem jfx (hi:Inv m γ F w) {k:Nat} (hk:0<k) {p:PV} {v:Value} {ys:List (List IV)} (h:(jdt k p).gives m ys) (hr:RepP m γ F w p v) :
 ∃ao c,v=.slice ao ys.length c∧∃news:List Value,Grid F w k ys news.toArray∧∀W:World,W.heap=w.heap→(Builtin.firstCells k ys.length v).run P W=.ok news.toArray W:=by
 cases hr with
 | ref s ver off len ao cap A h1 h2 h3=>
  simp only[jdt,Mm.gives_get,h1] at h
  cases A with
  | arr v k' xs=>
   simp only[Mm.gives_chk,Bool.and_eq_true,beq_iff_eq,Mm.gives_ret] at h
   obtain⟨⟨rfl,rfl⟩,rfl⟩:=h
   obtain⟨hl,hoc,rfl,had⟩:=h3 rfl
   obtain⟨cur,E,hb,hsz,hxc,hmax,hc⟩:=hi.holds s _ h1
   have hlen:((xs.drop off).take len).length=len:=by simp;omega
   have hget:∀(q:Nat) (e:List IV),((xs.drop off).take len)[q]?=some e→xs[off+q]?=some e∧q<len:=fun q e hq=>by
    rw[List.getElem?_take] at hq
    split at hq
    ·rename_i h;exact⟨by simpa using hq,h⟩
    ·cases hq
   have hfit:((γ s).b+off)*k'+len*k'≤cur.size:=by
    refine Nat.le_trans ?_ hsz;rw[←Nat.add_mul];exact Nat.mul_le_mul_right _ (by omega)
   refine⟨ao,_,by rw[hlen],(cur.toList.drop (((γ s).b+off)*k')).take (len*k'),⟨by simp[hlen];omega,fun i e he=>?_⟩,fun W hW=>?_⟩
   ·obtain⟨he',hil⟩:=hget i e he
    refine⟨(hc _ e he').1,fun j p hp=>?_⟩
    obtain⟨x,hx,ho,hr⟩:=(hc _ e he').2 j p hp
    have hj:j<k':=by rw[←(hc _ e he').1];exact(List.getElem?_eq_some_iff.1 hp).1
    have:=jg0 hil hj
    refine⟨x,?_,ho,hr⟩
    simp only[List.getElem?_toArray,List.getElem?_take,this,if_true,List.getElem?_drop,Array.getElem?_toList]
    rw[show((γ s).b+off)*k'+(i*k'+j)=((γ s).b+(off+i))*k'+j from by rw[←Nat.add_assoc,←Nat.add_mul,Nat.add_assoc]]
    exact hx
   ·rw[hlen]
    refine jbs _ (by simp;omega) fun hne=>⟨_,_,had ?_,fun j v hv=>?_⟩
    ·have:0<len:=Nat.pos_of_ne_zero fun e=>hne (by rw[e,Nat.zero_mul])
     omega
    ·rw[List.getElem?_take] at hv
     split at hv
     ·rw[cell_of_row W _ _ cur E (0,0) (by rw[hW];exact hb)]
      simpa using hv
     ·cases hv
  | _=>simp[Mm.gives_fail] at h
 | i hr=>
  cases hr with
  | emp ao=>
   simp only[jdt,Mm.gives_ret] at h
   subst h
   exact⟨ao,0,rfl,[],⟨by simp,fun i e he=>by simp at he⟩,fun W _=>jbs [] (by simp) (by simp)⟩
  | lst xs ao cap k' c h1 h2 h3 h4 h5 h6=>
   simp only[jdt,Mm.gives_chk,Mm.gives_ret,List.all_eq_true,beq_iff_eq] at h
   obtain⟨hall,rfl⟩:=h
   have hkk:∀i e,xs[i]?=some e→k'=k:=fun i e he=>by rw[←h3 i e he];exact hall e (List.mem_of_getElem? he)
   have hcell:∀q,q<xs.length*k→∃e p,xs[q / k]?=some e∧e[q % k]?=some p:=fun q hq=>by
    obtain⟨q1,q2,q3⟩:=qdiv hk hq
    have he:=List.getElem?_eq_getElem q1
    have:=hall _ (List.mem_of_getElem? he)
    exact⟨_,_,he,List.getElem?_eq_getElem (by rw[this];exact q2)⟩
   refine⟨ao,cap,rfl,(List.range (xs.length*k)).map fun q=>c (q / k) (q % k),⟨by simp,fun i e he=>⟨hall e (List.mem_of_getElem? he),fun j p hp=>?_⟩⟩,fun W hW=>?_⟩
   ·have hj:j<k:=by rw[←hall e (List.mem_of_getElem? he)];exact(List.getElem?_eq_some_iff.1 hp).1
    have hil:i<xs.length:=(List.getElem?_eq_some_iff.1 he).1
    have hlt:=jg0 hil hj
    have e1:(i*k+j) / k=i:=by rw[Nat.mul_comm,Nat.mul_add_div hk,Nat.div_eq_of_lt hj];rfl
    have e2:(i*k+j) % k=j:=by rw[Nat.mul_comm,Nat.mul_add_mod,Nat.mod_eq_of_lt hj]
    exact⟨c i j,by simp[hlt,e1,e2],h6 i e j p he hp,h5 i e j p he hp⟩
   ·refine jbs _ (by simp) fun hne=>?_
    have h0:0<xs.length*k:=Nat.pos_of_ne_zero hne
    obtain⟨e,p,he,hp⟩:=hcell 0 h0
    obtain⟨ad,rfl,hsp,hF,_⟩:=h4 _ _ he
    refine⟨ad.block,ad.off,by rw[←jhn hsp],fun j v hv=>?_⟩
    have hj:j<xs.length*k:=by have:=(List.getElem?_eq_some_iff.1 hv).1;simpa using this
    obtain⟨e',p',he',hp'⟩:=hcell j hj
    obtain⟨ad',had',_,_,hc'⟩:=h4 _ _ he'
    cases had'
    have hce:=hc' _ _ hp'
    rw[hkk _ _ he',(qdiv hk hj).2.2] at hce
    simp only[List.getElem?_map,List.getElem?_range hj,Option.map_some,Option.some.injEq] at hv
    subst hv
    have:W.cell? ⟨ad.block,ad.off+j,none⟩=w.cell? ⟨ad.block,ad.off+j,none⟩:=World.cell?_of_block (by rw[hW])
    rw[this];exact hce
  | _=>simp[jdt,Mm.gives_fail] at h
 | _=>simp[jdt,Mm.gives_fail] at h
theorem jdh (t ty e:TypeId) (i:TypeInfo) (ht:P.underlying t=some (.slice e)) (hi:P.info? e=some i) (ao:Option Addr) (sLen sCap:Nat) (ax:Option Addr) (n c:Nat) (news:List Value) {w w':World}
 (hf:(Builtin.firstCells i.size n (.slice ax n c)).run P w=.ok news.toArray w) (hroom:sLen+n≤sCap)
 (hst:∀ad,ao=some ad→(storeCells (ad.add (sLen*i.size)) news).run P w=.ok () w') (hnone:ao=none→w'=w) :
 (Builtin.append_ #[t,t] ty #[.slice ao sLen sCap,.slice ax n c]).run P w=.ok (.slice ao (sLen+n) sCap) w':=by
 cases ao with
 | none=>simp[Builtin.append_,run_underlying ht,sizeOf,typeInfo,hi,Builtin.lenOf,hroom,hf,hnone rfl]
 | some ad=>simp[Builtin.append_,run_underlying ht,sizeOf,typeInfo,hi,Builtin.lenOf,hroom,hf,hst ad rfl]
theorem jj7 (t ty e:TypeId) (i:TypeInfo) (z:Value) (ht:P.underlying t=some (.slice e)) (hi:P.info? e=some i) (hz:i.zero=some z) (ao:Option Addr) (sLen sCap:Nat) (olds:List Value) (ax:Option Addr) (n c:Nat) (news:List Value) {w:World}
 (hf:(Builtin.firstCells i.size n (.slice ax n c)).run P w.drew=.ok news.toArray w.drew) (hfo:(Builtin.firstCells i.size sLen (.slice ao sLen sCap)).run P w.drew=.ok olds.toArray w.drew)
 (hg:sCap<sLen+n) (h63:((sLen+n:Nat):Int)≤9223372036854775807) (hfit:Builtin.nextslicecap (sLen+n) sCap*i.bytes≤281474976710656) :
 (Builtin.append_ #[t,t] ty #[.slice ao sLen sCap,.slice ax n c]).run P w=
   .ok (.slice (some ⟨w.heap.size,0,none⟩) (sLen+n) (grownCap w (sLen+n) sCap e))
    (w.drew.alloc (.cells (olds.toArray++news.toArray++Builtin.zeroCells z.cells (grownCap w (sLen+n) sCap e-(sLen+n))) e)):=by
 have hn:¬(sLen+n≤sCap):=by omega
 have h63':¬(9223372036854775807<((sLen:Int)+(n:Int))):=by omega
 have h48':¬(281474976710656<Builtin.nextslicecap (sLen+n) sCap*i.bytes):=by omega
 simp[Builtin.append_,run_underlying ht,sizeOf,typeInfo,zeroValue,hi,hz,Builtin.lenOf,hn,h63',h48',Question.forced,hf,hfo,newRow,grownCap]
 congr 2
 apply Array.ext'
 simp[List.append_assoc]
theorem Inv.drew (hi:Inv m γ F w):Inv m γ F w.drew:=by
 have hag:jfi F w w.drew:=fun _ _=>rfl
 exact⟨fun s A hA=>(hi.holds s A hA).step (MemStep.refl m γ) (fun _ h=>h) hag rfl,hi.notF,hi.dist,hi.bound,hi.glob.mono (fun _ h=>h) hag⟩
theorem jlw {k:Nat} {xs ys:List (List IV)} {a b:List Value} (h1:Grid F w k xs a.toArray) (h2:Grid F w k ys b.toArray) (rest:Array Value) :
 ∀(i:Nat) (e:List IV),(xs++ys)[i]?=some e→e.length=k∧∀(j:Nat) (p:IV),e[j]?=some p→∃x:Value,(a.toArray++b.toArray++rest)[i*k+j]?=some x∧x.oneCell'=true∧RepI F w p x:=by
 have ha:a.length=xs.length*k:=by have:=h1.1;simpa using this
 have hb:b.length=ys.length*k:=by have:=h2.1;simpa using this
 intro i e he
 by_cases hi:i<xs.length
 ·rw[List.getElem?_append_left hi] at he
  refine⟨(h1.2 i e he).1,fun j p hp=>?_⟩
  have hj:j<k:=by rw[←(h1.2 i e he).1];exact(List.getElem?_eq_some_iff.1 hp).1
  obtain⟨x,hx,ho,hr⟩:=(h1.2 i e he).2 j p hp
  have:=jg0 hi hj
  refine⟨x,?_,ho,hr⟩
  rw[Array.getElem?_append_left (by simp;omega),Array.getElem?_append_left (by simp;omega)]
  exact hx
 ·rw[List.getElem?_append_right (by omega)] at he
  have hil:i-xs.length<ys.length:=(List.getElem?_eq_some_iff.1 he).1
  refine⟨(h2.2 _ e he).1,fun j p hp=>?_⟩
  have hj:j<k:=by rw[←(h2.2 _ e he).1];exact(List.getElem?_eq_some_iff.1 hp).1
  obtain⟨x,hx,ho,hr⟩:=(h2.2 _ e he).2 j p hp
  have h3:=jg0 hil hj
  have h4:i*k+j=xs.length*k+((i-xs.length)*k+j):=by
   rw[←Nat.add_assoc,←Nat.add_mul];congr 2;omega
  refine⟨x,?_,ho,hr⟩
  rw[h4,Array.getElem?_append_left (by simp;omega),Array.getElem?_append_right (by simp;omega)]
  simp only[List.size_toArray,ha,Nat.add_sub_cancel_left]
  exact hx
theorem jh0 {n old bytes:Nat} (h:old<n) (hn:n≤1000000000000) (hb:bytes≤128):Builtin.nextslicecap n old*bytes≤281474976710656:=
 growslice_fits h (by
  have:n*bytes≤1000000000000*128:=Nat.mul_le_mul hn hb
  omega)
theorem juw {s v k off len cap:Nat} {xs:List (List IV)} {ao:Option Addr} (hi:Inv m γ F w) (hk:0<k) (hA:m s=some (.arr v k xs)) (hs:jhk (γ s) off len cap ao (.arr v k xs)) (hfull:off+len=xs.length) :
 ∃olds:List Value,Grid F w k (xs.drop off) olds.toArray∧∀W:World,W.heap=w.heap→(Builtin.firstCells k len (.slice ao len cap)).run P W=.ok olds.toArray W:=by
 obtain⟨ao',c',e,olds,hg,hf⟩:=jfx (P:=P) (k:=k) (p:=.ref s v off len) (v:=.slice ao len cap) (ys:=xs.drop off) hi hk
  (by simp only[jdt,Mm.gives_get,hA,Mm.gives_chk,beq_self_eq_true,Bool.and_self,true_and,Mm.gives_ret];rw[List.take_of_length_le (by simp;omega)]) (.ref s v off len ao cap _ hA (Nat.le_refl _) fun _=>hs)
 have hl:(xs.drop off).length=len:=by simp;omega
 refine⟨olds,hg,fun W hW=>?_⟩
 have:=hf W hW
 rwa [hl] at this
theorem jkr {s v k len cap:Nat} {t e:TypeId} {inf:TypeInfo} {z:Value} {ao ax:Option Addr} {c:Nat} {xs ys:List (List IV)} {olds news:List Value} {x y:Operand}
 (hexec:∀v w',(Builtin.append_ #[t,t] o.type #[a.eval x,a.eval y]).run P w=.ok v w'→(execOp a.eval o).run P w=.ok (.value v) w')
 (hvx:a.eval x=.slice ao len cap) (hvy:a.eval y=.slice ax ys.length c)
 (hi:Inv m γ F w) (hv:∀A0,m s=some A0→A0.ver<v) (ht:P.underlying t=some (.slice e)) (hinf:P.info? e=some inf) (hz:inf.zero=some z) (hzs:z.cells.size=inf.size) (hkk:k=inf.size) (hb:inf.bytes≤128)
 (hgo:Grid F w k xs olds.toArray) (hxl:xs.length=len) (hgn:Grid F w k ys news.toArray)
 (hfo:∀W:World,W.heap=w.heap→(Builtin.firstCells k len (.slice ao len cap)).run P W=.ok olds.toArray W)
 (hfn:∀W:World,W.heap=w.heap→(Builtin.firstCells k ys.length (.slice ax ys.length c)).run P W=.ok news.toArray W)
 (hgrow:cap<len+ys.length) (hmax:len+ys.length≤1000000000000) :
 Does P o a w m γ F (.ref s v 0 (len+ys.length)) [(s,.arr v k (xs++ys))]:=by
 subst hkk
 have hrun:=jj7 (P:=P) t o.type e inf z ht hinf hz ao len cap olds ax ys.length c news (w:=w) (hfn _ rfl) (hfo _ rfl) hgrow (by omega) (jh0 hgrow hmax hb)
 have hge:=grownCap_ge w (len+ys.length) cap e
 have hle:=grownCap_le_maxLen w (len+ys.length) cap e (by unfold maxLen;omega)
 have hol:olds.length=len*inf.size:=by have:=hgo.1;rw[hxl] at this;simpa using this
 have hnl:news.length=ys.length*inf.size:=by have:=hgn.1;simpa using this
 have hga:=jlw hgo hgn (Builtin.zeroCells z.cells (grownCap w (len+ys.length) cap e-(len+ys.length)))
 have hcs:(olds.toArray++news.toArray++Builtin.zeroCells z.cells (grownCap w (len+ys.length) cap e-(len+ys.length))).size=grownCap w (len+ys.length) cap e*inf.size:=by
  simp only[Array.size_append,List.size_toArray,size_zeroCells,hzs,hol,hnl,←Nat.add_mul]
  congr 1;omega
 generalize olds.toArray++news.toArray++Builtin.zeroCells z.cells (grownCap w (len+ys.length) cap e-(len+ys.length))=cells at hga hcs hrun
 obtain⟨h1,h2,h3,h4⟩:=je8 hi.drew (d:=s) (A:=.arr v inf.size (xs++ys)) hv trivial cells e (grownCap w (len+ys.length) cap e)
  (fun hm hag=>by
    refine⟨cells,e,Array.getElem?_push_size,by rw[hcs];simp,by show(xs++ys).length≤grownCap w (len+ys.length) cap e;simp[hxl];omega,by simpa using hle,fun i el hel=>?_⟩
    obtain⟨g1,g2⟩:=hga i el hel
    refine⟨g1,fun j p hp=>?_⟩
    obtain⟨x,hx,ho,hr⟩:=g2 j p hp
    exact⟨x,by simpa using hx,ho,RepI.mono (w:=w) (fun _ h=>h) (fun b hb=>hag b hb) hr⟩)
 have hs:Stp m γ w m γ w.drew:=(Stp.refl m γ w).drew
 refine ja3 (v:=.slice (some ⟨w.heap.size,0,none⟩) (len+ys.length) (grownCap w (len+ys.length) cap e)) (γ':=upd γ s ⟨w.heap.size,0,grownCap w (len+ys.length) cap e⟩) (F':=F)
  (hexec _ _ (by rw[hvx,hvy];exact hrun)) h1 h2 (FStep.refl ..) (hs.trans h3) ?_
 refine .ref s v 0 _ _ _ _ (jal ..) (Nat.le_refl _) fun _=>?_
 rw[jal]
 exact⟨by simp[hxl],Nat.zero_le _,rfl,fun _=>by simp⟩
theorem j01 {s v k off len cap:Nat} {t e:TypeId} {inf:TypeInfo} {ao ax:Option Addr} {c:Nat} {xs ys:List (List IV)} {news:List Value} {x y:Operand}
 (hexec:∀v w',(Builtin.append_ #[t,t] o.type #[a.eval x,a.eval y]).run P w=.ok v w'→(execOp a.eval o).run P w=.ok (.value v) w')
 (hvx:a.eval x=.slice ao len cap) (hvy:a.eval y=.slice ax ys.length c)
 (hi:Inv m γ F w) (h1:m s=some (.arr v k xs)) (hso:jhk (γ s) off len cap ao (.arr v k xs)) (hu:P.underlying t=some (.slice e)) (hinf:P.info? e=some inf) (hk0:0<inf.size) (hkk:k=inf.size)
 (hgn:Grid F w k ys news.toArray) (hfn:∀W:World,W.heap=w.heap→(Builtin.firstCells k ys.length (.slice ax ys.length c)).run P W=.ok news.toArray W)
 (hin:off+len+ys.length≤xs.length) :
 Does P o a w m γ F (.ref s v off (len+ys.length)) [(s,.arr v k (splice xs (off+len) ys))]:=by
 subst hkk
 obtain⟨hl,hoc,rfl,had⟩:=hso
 obtain⟨cur,E,hb,hsz,hxc,hcm,hc⟩:=hi.holds s _ h1
 have hroom:len+ys.length≤(γ s).cap-off:=by omega
 have hnl:news.length=ys.length*inf.size:=by have:=hgn.1;simpa using this
 have hmul:((γ s).b+off)*inf.size+len*inf.size+news.length≤cur.size:=by
  refine Nat.le_trans ?_ hsz;rw[hnl,←Nat.add_mul,←Nat.add_mul];exact Nat.mul_le_mul_right _ (by omega)
 have hone:=jkh hk0 hgn
 have hst:=jc3 (P:=P) (γ s).g (((γ s).b+off)*inf.size+len*inf.size) E news cur w hb hmul (by simpa using hone)
 obtain⟨f1,f2,f3,f4,f5,f6⟩:=jbz (γ s).g cur (splice cur.toList (((γ s).b+off)*inf.size+len*inf.size) news).toArray E w hb
 have hfl:((γ s).b+off)*inf.size+len*inf.size+news.length≤cur.toList.length:=by simpa using hmul
 have hsl:off+len+ys.length≤xs.length:=hin
 obtain⟨t1,t2,t3⟩:=jbt hi (A':=.arr v inf.size (splice xs (off+len) ys)) (G:=γ s) h1 trivial rfl (Nat.le_refl _) (fun _=>⟨⟨rfl,by rw[jad _ _ _ hsl]⟩,rfl⟩) f1 f2 f3 f4 f5 (fun hms hag=>by
  refine⟨_,E,f6,by simpa[jad _ _ _ hfl] using hsz,by rw[jad _ _ _ hsl];exact hxc,hcm,fun i el hel=>?_⟩
  rw[getElem?_splice _ _ _ _ hsl] at hel
  simp only[List.getElem?_toArray,getElem?_splice _ _ _ _ hfl]
  split at hel
  ·rename_i hii
   refine⟨(hgn.2 _ el hel).1,fun j p hp=>?_⟩
   obtain⟨x,hx,ho,hr⟩:=(hgn.2 _ el hel).2 j p hp
   have hj:j<inf.size:=by rw[←(hgn.2 _ el hel).1];exact(List.getElem?_eq_some_iff.1 hp).1
   have hlt:=jg0 (show i-(off+len)<ys.length by omega) hj
   have e1:((γ s).b+i)*inf.size+j=((γ s).b+off)*inf.size+len*inf.size+((i-(off+len))*inf.size+j):=by
    rw[←Nat.add_assoc,←Nat.add_mul,←Nat.add_mul];congr 2;omega
   rw[e1,if_pos (by omega),Nat.add_sub_cancel_left]
   exact⟨x,by simpa using hx,ho,hr.mono (fun _ h=>h) hag⟩
  ·rename_i hii
   refine⟨(hc i el hel).1,fun j p hp=>?_⟩
   obtain⟨x,hx,ho,hr⟩:=(hc i el hel).2 j p hp
   have hj:j<inf.size:=by rw[←(hc i el hel).1];exact(List.getElem?_eq_some_iff.1 hp).1
   have hin':i<off+len∨off+len+ys.length≤i:=by omega
   have hne:¬(((γ s).b+off)*inf.size+len*inf.size≤((γ s).b+i)*inf.size+j∧((γ s).b+i)*inf.size+j<((γ s).b+off)*inf.size+len*inf.size+news.length):=by
    rw[hnl,←Nat.add_mul,←Nat.add_mul]
    rintro⟨q1,q2⟩
    rcases hin' with q|q
    ·have:((γ s).b+i+1)*inf.size≤((γ s).b+off+len)*inf.size:=Nat.mul_le_mul_right _ (by omega)
     rw[Nat.add_mul _ 1] at this;omega
    ·have:((γ s).b+off+len+ys.length)*inf.size≤((γ s).b+i)*inf.size:=Nat.mul_le_mul_right _ (by omega)
     omega
   rw[if_neg hne]
   exact⟨x,by simpa using hx,ho,hr.mono (fun _ h=>h) hag⟩)
 have hrun:=jdh (P:=P) t o.type e inf hu hinf ao len ((γ s).cap-off) ax ys.length c news (w:=w) (w':=w.setRow (γ s).g (splice cur.toList (((γ s).b+off)*inf.size+len*inf.size) news).toArray) (hfn w rfl) hroom
  (fun ad hade=>by
    by_cases hoff:off<(γ s).cap
    ·rw[had hoff] at hade;cases hade
     rw[jbe];exact hst
    ·have hy0:ys.length=0:=by omega
     have hn0:news=[]:=List.eq_nil_of_length_eq_zero (by rw[hnl,hy0];simp)
     subst hn0
     rw[show splice cur.toList (((γ s).b+off)*inf.size+len*inf.size) []=cur.toList from by simp[splice]]
     simp only[Array.toArray_toList,setRow_self w _ cur E (0,0) hb]
     rfl)
  (fun hno=>by
    by_cases hoff:off<(γ s).cap
    ·rw[had hoff] at hno;cases hno
    ·have hy0:ys.length=0:=by omega
     have hn0:news=[]:=List.eq_nil_of_length_eq_zero (by rw[hnl,hy0];simp)
     subst hn0
     rw[show splice cur.toList (((γ s).b+off)*inf.size+len*inf.size) []=cur.toList from by simp[splice]]
     simp only[Array.toArray_toList,setRow_self w _ cur E (0,0) hb])
 refine ja3 (γ':=upd γ s (γ s)) (F':=F) (hexec _ _ (by rw[hvx,hvy];exact hrun)) t1 t2 (FStep.refl ..) t3 ?_
 refine .ref s _ off _ _ _ _ (jal ..) (Nat.le_refl _) fun _=>?_
 rw[jal]
 exact⟨by rw[jad _ _ _ hsl];omega,hoc,rfl,had⟩
theorem jum {x y:Operand} {ts:Array TypeId} (ho:o.op=.call { callee:=.builtin .append,args:=#[x,y],argTypes:=ts }) (h:(appB P ts o.dst (opnd ρ x) (opnd ρ y)).gives m (out,wr))
 (hi:Inv m γ F w) (hs:Slots m γ F w ρ a):Does P o a w m γ F out wr:=by
 have hx:=jah hs x
 have hy:=jah hs y
 simp only[appB,Mm.gives_bind,Mm.gives_opt,Mm.gives_chk,Bool.and_eq_true,decide_eq_true_eq,beq_iff_eq] at h
 obtain⟨e,he,d,hd,inf,hinf,ys,hys,⟨⟨⟨⟨hts,htt⟩,hk0⟩,hbytes⟩,hzc⟩,h⟩:=h
 obtain⟨t,rfl⟩:∃t,ts=#[t,t]:=by
  obtain⟨l⟩:=ts
  match l,hts with
  | [t,u],_=>simp at htt;exact⟨t,by rw[htt]⟩
 simp only[List.getElem?_toArray,List.getElem?_cons_zero,Option.bind_some] at he
 have hu:=jge he
 obtain⟨z,hz,hzs⟩:∃z,inf.zero=some z∧z.cells.size=inf.size:=by
  cases hzz:inf.zero with
  | none=>simp[jam,hinf,hzz] at hzc
  | some z=>simp[jam,hinf,hzz] at hzc;exact⟨z,rfl,hzc⟩
 have hexec:∀v w',(Builtin.append_ #[t,t] o.type #[a.eval x,a.eval y]).run P w=.ok v w'→(execOp a.eval o).run P w=.ok (.value v) w':=fun v w' hr=>by
  simp[execOp,ho,resolve,invoke,builtin,hr]
 obtain⟨ax,c,hvy,news,hgn,hfn⟩:=jfx (P:=P) hi hk0 hys hy
 rw[hvy] at hfn
 have hnl:news.length=ys.length*inf.size:=by have:=hgn.1;simpa using this
 split at h
 ·rename_i hemp
  rw[hemp] at hx
  generalize hvx:a.eval x=vx at hx
  cases hx with
  | i hx=>
  cases hx with
  | emp ao=>
  split at h
  ·simp only[Mm.gives_ret,Prod.mk.injEq] at h
   obtain⟨rfl,rfl⟩:=h
   have hn0:news=[]:=List.eq_nil_of_length_eq_zero (by simpa using hnl)
   subst hn0
   have hrun:=jdh (P:=P) t o.type e inf hu hinf ao 0 0 ax 0 c [] (w:=w) (w':=w) (by simpa using hfn w rfl) (Nat.le_refl _) (fun ad _=>rfl) (fun _=>rfl)
   exact jag hi (hexec _ _ (by rw[hvx,hvy];exact hrun)) (.i (.emp ao))
  ·rename_i y0 yr
   simp only[Mm.gives_bind,Mm.gives_chk,decide_eq_true_eq,Mm.gives_ret,Prod.mk.injEq] at h
   obtain⟨v,hv,hmax,rfl,rfl⟩:=h
   have:=jkr (P:=P) (xs:=[]) (ys:=y0::yr) (olds:=[]) (s:=d) (v:=v) (k:=inf.size) (len:=0) hexec hvx hvy hi (fun A0 h0=>jbk hv A0 h0) hu hinf hz hzs rfl hbytes
    ⟨by simp,fun i e he=>by simp at he⟩ rfl hgn (fun W _=>jbs [] (by simp) (by simp)) hfn (by simp) (by simpa using hmax)
   simpa using this
 ·rename_i s0 ver off len hsl
  simp only[Mm.gives_get] at h
  split at h
  ·rename_i v k xs hA
   rw[hsl] at hx
   generalize hvx:a.eval x=vx at hx
   cases hx with
   | ref s ver off len ao cap A h1 h2 h3=>
   have:=jhp h1 hA;subst this
   split at h
   rotate_left
   ·simp only[Mm.gives_chk,Bool.and_eq_true,beq_iff_eq,decide_eq_true_eq,Mm.gives_ret,Prod.mk.injEq] at h
    obtain⟨⟨⟨rfl,rfl⟩,hin⟩,rfl,rfl⟩:=h
    exact j01 hexec hvx hvy hi h1 (h3 rfl) hu hinf hk0 rfl hgn hfn hin
   rename_i hfull
   rw[beq_iff_eq] at hfull
   simp only[Mm.gives_chk,Bool.and_eq_true,beq_iff_eq,decide_eq_true_eq,Mm.gives_ret,Prod.mk.injEq] at h
   obtain⟨⟨⟨rfl,rfl⟩,hmax⟩,rfl,rfl⟩:=h
   have hso:=h3 rfl
   obtain⟨olds,hgo,hfo⟩:=juw (P:=P) hi hk0 h1 hso hfull
   have hxl:(xs.drop off).length=len:=by simp;omega
   by_cases hroom:len+ys.length≤cap
   ·obtain⟨hl,hoc,rfl,had⟩:=hso
    obtain⟨cur,E,hb,hsz,hxc,hcm,hc⟩:=hi.holds s0 _ h1
    have hmul:((γ s0).b+off)*inf.size+len*inf.size+news.length≤cur.size:=by
     refine Nat.le_trans ?_ hsz;rw[hnl,←Nat.add_mul,←Nat.add_mul];exact Nat.mul_le_mul_right _ (by omega)
    have hone:=jkh hk0 hgn
    have hst:=jc3 (P:=P) (γ s0).g (((γ s0).b+off)*inf.size+len*inf.size) E news cur w hb hmul (by simpa using hone)
    obtain⟨f1,f2,f3,f4,f5,f6⟩:=jbz (γ s0).g cur (splice cur.toList (((γ s0).b+off)*inf.size+len*inf.size) news).toArray E w hb
    have hfl:((γ s0).b+off)*inf.size+len*inf.size+news.length≤cur.toList.length:=by simpa using hmul
    obtain⟨t1,t2,t3⟩:=jbt hi (A':=.arr (v+1) inf.size (xs.drop off++ys)) (G:=⟨(γ s0).g,(γ s0).b+off,(γ s0).cap-off⟩) h1 trivial rfl (Nat.le_succ _) (fun e=>absurd e (by simp[Arr.ver])) f1 f2 f3 f4 f5 (fun hms hag=>by
     refine⟨_,E,f6,?_,by show(xs.drop off++ys).length≤(γ s0).cap-off;rw[List.length_append,hxl];exact hroom,by show(γ s0).b+off+((γ s0).cap-off)≤maxLen;omega,fun i el hel=>?_⟩
     ·simp only[List.size_toArray,jad _ _ _ hfl,Array.length_toList]
      refine Nat.le_trans (Nat.le_of_eq ?_) hsz
      congr 1;omega
     ·show _∧∀(j:Nat) (p:IV),el[j]?=some p→∃x:Value,(splice cur.toList (((γ s0).b+off)*inf.size+len*inf.size) news).toArray[((γ s0).b+off+i)*inf.size+j]?=some x∧_
      simp only[List.getElem?_toArray,getElem?_splice _ _ _ _ hfl]
      by_cases hil:i<(xs.drop off).length
      ·rw[List.getElem?_append_left hil,List.getElem?_drop] at hel
       refine⟨(hc _ el hel).1,fun j p hp=>?_⟩
       obtain⟨x,hx,ho,hr⟩:=(hc _ el hel).2 j p hp
       have hj:j<inf.size:=by rw[←(hc _ el hel).1];exact(List.getElem?_eq_some_iff.1 hp).1
       have hlt:=jg0 (show i<len by omega) hj
       have e1:((γ s0).b+off+i)*inf.size+j=((γ s0).b+off)*inf.size+(i*inf.size+j):=by rw[Nat.add_mul _ i];omega
       rw[if_neg (by omega)]
       refine⟨x,?_,ho,hr.mono (fun _ h=>h) hag⟩
       rw[Nat.add_assoc (γ s0).b off i]
       simpa using hx
      ·rw[List.getElem?_append_right (by omega)] at hel
       rw[hxl] at hel hil
       refine⟨(hgn.2 _ el hel).1,fun j p hp=>?_⟩
       obtain⟨x,hx,ho,hr⟩:=(hgn.2 _ el hel).2 j p hp
       have hj:j<inf.size:=by rw[←(hgn.2 _ el hel).1];exact(List.getElem?_eq_some_iff.1 hp).1
       have hlt:=jg0 (show i-len<ys.length from(List.getElem?_eq_some_iff.1 hel).1) hj
       have e1:((γ s0).b+off+i)*inf.size+j=((γ s0).b+off)*inf.size+len*inf.size+((i-len)*inf.size+j):=by
        rw[←Nat.add_assoc,←Nat.add_mul,←Nat.add_mul];congr 2;omega
       rw[if_pos (by omega)]
       refine⟨x,?_,ho,hr.mono (fun _ h=>h) hag⟩
       rw[e1,Nat.add_sub_cancel_left]
       simpa using hx)
    have hrun:=jdh (P:=P) t o.type e inf hu hinf ao len ((γ s0).cap-off) ax ys.length c news (w:=w) (w':=w.setRow (γ s0).g (splice cur.toList (((γ s0).b+off)*inf.size+len*inf.size) news).toArray) (hfn w rfl) hroom
     (fun ad hade=>by
       by_cases hoff:off<(γ s0).cap
       ·rw[had hoff] at hade;cases hade
        rw[jbe];exact hst
       ·have hy0:ys.length=0:=by omega
        have hn0:news=[]:=List.eq_nil_of_length_eq_zero (by rw[hnl,hy0];simp)
        subst hn0
        rw[show splice cur.toList (((γ s0).b+off)*inf.size+len*inf.size) []=cur.toList from by simp[splice]]
        simp only[Array.toArray_toList,setRow_self w _ cur E (0,0) hb]
        rfl)
     (fun hno=>by
       by_cases hoff:off<(γ s0).cap
       ·rw[had hoff] at hno;cases hno
       ·have hy0:ys.length=0:=by omega
        have hn0:news=[]:=List.eq_nil_of_length_eq_zero (by rw[hnl,hy0];simp)
        subst hn0
        rw[show splice cur.toList (((γ s0).b+off)*inf.size+len*inf.size) []=cur.toList from by simp[splice]]
        simp only[Array.toArray_toList,setRow_self w _ cur E (0,0) hb])
    refine ja3 (γ':=upd γ s0 ⟨(γ s0).g,(γ s0).b+off,(γ s0).cap-off⟩) (F':=F) (hexec _ _ (by rw[hvx,hvy];exact hrun)) t1 t2 (FStep.refl ..) t3 ?_
    refine .ref s0 _ 0 _ _ _ _ (jal ..) (Nat.le_refl _) fun _=>?_
    rw[jal]
    refine⟨by rw[List.length_append,hxl];omega,Nat.zero_le _,rfl,fun hlt=>?_⟩
    rw[had (by simp only at hlt;omega)]
    simp
   ·exact jkr hexec hvx hvy hi (fun A0 h0=>by rw[h1] at h0;cases h0;exact Nat.lt_succ_self _) hu hinf hz hzs rfl hbytes hgo hxl hgn hfo hfn (by omega) hmax
  ·simp[Mm.gives_fail] at h
 ·simp[Mm.gives_fail] at h
end
end Go.Proofs.YtnaaceooknghjaaGreatDoor.X
namespace Go.Proofs.YtnaaceooknghjaaGreatDoor.X
open Go
section
variable {P:Program} {o:Oper} {a:Act} {w:World} {m:Mem} {γ:Nat→GB} {F:Nat→Prop} {ρ:Nat→PV} {out:PV} {wr:List (Nat×Arr)} {cf:Cfg} {C:jci} {me:FuncId}
theorem jdn {α:Type} (xs:List α) (off:Nat):splice xs off []=xs:=by simp[splice]
theorem jzw {x:Operand} {ts:Array TypeId} (ho:o.op=.call { callee:=.builtin .clear,args:=#[x],argTypes:=ts }) (h:(jwh P ts (opnd ρ x)).gives m (out,wr))
 (hi:Inv m γ F w) (hs:Slots m γ F w ρ a):Does P o a w m γ F out wr:=by
 have hx:=jah hs x
 have hexec:∀w',(Builtin.clear_ ts o.type #[a.eval x]).run P w=.ok undef w'→(execOp a.eval o).run P w=.ok (.value undef) w':=fun w' hr=>by
  simp[execOp,ho,resolve,invoke,builtin,hr]
 unfold jwh at h
 split at h
 ·rename_i s ver off len hxe
  split at h
  ·rename_i e he
   obtain⟨t,ht,hel⟩:=Option.bind_eq_some_iff.1 he
   have hu:=jge hel
   split at h
   ·rename_i k' z hz1 hz2
    simp only[Mm.gives_get] at h
    split at h
    ·rename_i v k xs hA
     simp only[Mm.gives_chk,Bool.and_eq_true,beq_iff_eq,Mm.gives_ret,Prod.mk.injEq,List.all_eq_true] at h
     obtain⟨⟨⟨⟨rfl,rfl⟩,hzl⟩,hzf⟩,rfl,rfl⟩:=h
     rw[hxe] at hx
     generalize hvx:a.eval x=vx at hx
     cases hx with
     | ref s ver off len ao cap A h1 h2 h3=>
     have:=jhp h1 hA;subst this
     obtain⟨hl,hoc,rfl,had⟩:=h3 rfl
     by_cases hlen:len=0
     ·subst hlen
      obtain⟨t1,t2,t3⟩:=jbt hi (A':=.arr v k xs) (G:=γ s) (w':=w) h1 trivial rfl (Nat.le_refl _) (fun _=>⟨⟨rfl,rfl⟩,rfl⟩) rfl rfl rfl rfl (fun _ _=>rfl)
       (fun hms hag=>(hi.holds s _ h1).step hms (fun _ h=>h) hag rfl)
      refine ja3 (γ':=upd γ s (γ s)) (F':=F) (w':=w) (v:=undef) (hexec _ ?_) ?_ ?_ (FStep.refl ..) ?_ (.i (.v _))
      ·rw[hvx];cases ao<;>simp[Builtin.clear_,ht,run_underlying hu,undef]
      ·simpa[jdn,updL] using t1
      ·simpa[jdn,updL] using t2
      ·simpa[jdn,updL] using t3
     ·obtain⟨cur,E,hb,hsz,hxc,hcm,hc⟩:=hi.holds s _ h1
      obtain rfl:=had (by omega)
      obtain⟨zv,hzr,rfl⟩:=jih hz2 w
      have hzs:zv.cells.size=k:=by simpa using hzl
      have hgr:Grid F w k (List.replicate len (zv.cells.toList.map constC)) (Builtin.zeroCells zv.cells len):=by
       have:=jid (F:=F) (w:=w) (n:=len) hzs hzf
       simpa[Builtin.zeroCells,hzs] using this
      have hk0:0<k∨k=0:=by omega
      have hnl:(Builtin.zeroCells zv.cells len).toList.length=len*k:=by simp[size_zeroCells,hzs]
      have hmul:((γ s).b+off)*k+(Builtin.zeroCells zv.cells len).toList.length≤cur.size:=by
       refine Nat.le_trans ?_ hsz;rw[hnl,←Nat.add_mul];exact Nat.mul_le_mul_right _ (by omega)
      have hone:∀v∈(Builtin.zeroCells zv.cells len).toList,v.oneCell'=true:=by
       rcases hk0 with hk0|hk0
       ·exact jkh hk0 hgr
       ·intro v hv
        have:(Builtin.zeroCells zv.cells len).toList=[]:=List.eq_nil_of_length_eq_zero (by rw[hnl,hk0];simp)
        rw[this] at hv;cases hv
      have hst:=jc3 (P:=P) (γ s).g (((γ s).b+off)*k) E _ cur w hb hmul hone
      generalize hcells:(Builtin.zeroCells zv.cells len).toList=cells at *
      have hgr':Grid F w k (List.replicate len (zv.cells.toList.map constC)) cells.toArray:=by rw[←hcells];simpa using hgr
      obtain⟨f1,f2,f3,f4,f5,f6⟩:=jbz (γ s).g cur (splice cur.toList (((γ s).b+off)*k) cells).toArray E w hb
      have hfl:((γ s).b+off)*k+cells.length≤cur.toList.length:=by simpa using hmul
      have hsl:off+(List.replicate len (zv.cells.toList.map constC)).length≤xs.length:=by simpa using hl
      obtain⟨t1,t2,t3⟩:=jbt hi (A':=.arr v k (splice xs off (List.replicate len (zv.cells.toList.map constC)))) (G:=γ s) h1 trivial rfl (Nat.le_refl _) (fun _=>⟨⟨rfl,by rw[jad _ _ _ hsl]⟩,rfl⟩) f1 f2 f3 f4 f5 (fun hms hag=>by
       refine⟨_,E,f6,by simpa[jad _ _ _ hfl] using hsz,by rw[jad _ _ _ hsl];exact hxc,hcm,fun i el hel=>?_⟩
       rw[getElem?_splice _ _ _ _ hsl] at hel
       simp only[List.getElem?_toArray,getElem?_splice _ _ _ _ hfl]
       split at hel
       ·rename_i hin
        refine⟨(hgr'.2 _ el hel).1,fun j p hp=>?_⟩
        obtain⟨x,hx,ho,hr⟩:=(hgr'.2 _ el hel).2 j p hp
        have hj:j<k:=by rw[←(hgr'.2 _ el hel).1];exact(List.getElem?_eq_some_iff.1 hp).1
        have hlt:=jg0 (show i-off<len by have:=hin.2;simp at this;omega) hj
        have e1:((γ s).b+i)*k+j=((γ s).b+off)*k+((i-off)*k+j):=by
         rw[←Nat.add_assoc,←Nat.add_mul];congr 2;omega
        rw[e1,if_pos (by omega),Nat.add_sub_cancel_left]
        exact⟨x,by simpa using hx,ho,hr.mono (fun _ h=>h) hag⟩
       ·rename_i hin
        refine⟨(hc i el hel).1,fun j p hp=>?_⟩
        obtain⟨x,hx,ho,hr⟩:=(hc i el hel).2 j p hp
        have hj:j<k:=by rw[←(hc i el hel).1];exact(List.getElem?_eq_some_iff.1 hp).1
        have hin':i<off∨off+len≤i:=by simp at hin;omega
        have hne:¬(((γ s).b+off)*k≤((γ s).b+i)*k+j∧((γ s).b+i)*k+j<((γ s).b+off)*k+cells.length):=by
         rw[hnl]
         rintro⟨q1,q2⟩
         rcases hin' with q|q
         ·have:((γ s).b+i+1)*k≤((γ s).b+off)*k:=Nat.mul_le_mul_right _ (by omega)
          rw[Nat.add_mul _ 1] at this;omega
         ·have:((γ s).b+off+len)*k≤((γ s).b+i)*k:=Nat.mul_le_mul_right _ (by omega)
          rw[Nat.add_mul _ len] at this;omega
        rw[if_neg hne]
        exact⟨x,by simpa using hx,ho,hr.mono (fun _ h=>h) hag⟩)
      refine ja3 (v:=undef) (γ':=upd γ s (γ s)) (F':=F) (hexec _ ?_) t1 t2 (FStep.refl ..) t3 (.i (.v _))
      rw[hvx]
      cases len with
      | zero=>exact absurd rfl hlen
      | succ len=>simp[Builtin.clear_,ht,run_underlying hu,hzr,hcells,hst,undef]
    ·simp[Mm.gives_fail] at h
   ·simp[Mm.gives_fail] at h
  ·simp[Mm.gives_fail] at h
 ·simp[Mm.gives_fail] at h
theorem kc5 {p:PV} {v:Value} {n:Nat} (h:lenP p=some n) (hr:RepP m γ F w p v):∃ao c,v=.slice ao n c:=by
 cases hr with
 | ref s ver off len ao cap A h1 h2 h3=>simp only[lenP,Option.some.injEq] at h;subst h;exact⟨ao,cap,rfl⟩
 | i hr=>
  cases hr with
  | emp ao=>simp only[lenP,Option.some.injEq] at h;subst h;exact⟨ao,0,rfl⟩
  | lst xs ao cap k c h1 h2 h3 h4 h5 h6=>simp only[lenP,Option.some.injEq] at h;subst h;exact⟨ao,cap,rfl⟩
  | _=>simp[lenP] at h
 | _=>simp[lenP] at h
theorem j8a {x:Operand} {ts:Array TypeId} (ho:o.op=.call { callee:=.builtin .len,args:=#[x],argTypes:=ts }) (h:(lenB P ts (opnd ρ x)).gives m (out,wr))
 (hi:Inv m γ F w) (hs:Slots m γ F w ρ a):Does P o a w m γ F out wr:=by
 have hx:=jah hs x
 have hexec:∀v,(Builtin.len_ ts o.type #[a.eval x]).run P w=.ok v w→(execOp a.eval o).run P w=.ok (.value v) w:=fun v hr=>by
  simp[execOp,ho,resolve,invoke,builtin,hr]
 unfold lenB at h
 split at h
 ·rename_i el ht
  obtain⟨t,ht,hu⟩:=Option.bind_eq_some_iff.1 ht
  split at h
  ·rename_i n hn
   simp only[Mm.gives_ret,Prod.mk.injEq] at h
   obtain⟨rfl,rfl⟩:=h
   obtain⟨ao,c,hv⟩:=kc5 hn hx
   exact jag hi (hexec _ (by rw[hv];simp[Builtin.len_,ht,run_underlying hu,goInt])) (.i (.v _))
  ·simp[Mm.gives_fail] at h
 ·rename_i ht
  obtain⟨t,ht,hu⟩:=Option.bind_eq_some_iff.1 ht
  split at h
  ·rename_i s hxe
   simp only[Mm.gives_ret,Prod.mk.injEq] at h
   obtain⟨rfl,rfl⟩:=h
   rw[hxe] at hx
   generalize hvx:a.eval x=vx at hx
   cases hx with
   | i hx=>cases hx;exact jag hi (hexec _ (by rw[hvx];simp[Builtin.len_,ht,run_underlying hu,goInt])) (.i (.v _))
  ·simp[Mm.gives_fail] at h
 ·simp[Mm.gives_fail] at h
theorem jpp {p:PV} {v:Value} {k:IntKind} {n:Int} (h:intP p=some (k,n)) (hr:RepP m γ F w p v):v=.int k n:=by
 unfold intP at h
 split at h
 ·cases h;cases hr with|i hr=>cases hr;rfl
 ·cases h
theorem j8c {x y:Operand} {ts:Array TypeId} (ho:o.op=.call { callee:=.builtin .min,args:=#[x,y],argTypes:=ts }) (h:(minB (opnd ρ x) (opnd ρ y)).gives m (out,wr))
 (hi:Inv m γ F w) (hs:Slots m γ F w ρ a):Does P o a w m γ F out wr:=by
 unfold minB at h
 split at h
 ·rename_i k n k' n' h1 h2
  simp only[Mm.gives_ret,Prod.mk.injEq] at h
  obtain⟨rfl,rfl⟩:=h
  have e1:=jpp h1 (jah hs x)
  have e2:=jpp h2 (jah hs y)
  exact jag hi (by simp[execOp,ho,resolve,invoke,builtin,Builtin.min_,e1,e2,Builtin.min2]) (.i (.v _))
 ·simp[Mm.gives_fail] at h
theorem j8b {x y:Operand} {ts:Array TypeId} (ho:o.op=.call { callee:=.builtin .max,args:=#[x,y],argTypes:=ts }) (h:(maxB (opnd ρ x) (opnd ρ y)).gives m (out,wr))
 (hi:Inv m γ F w) (hs:Slots m γ F w ρ a):Does P o a w m γ F out wr:=by
 unfold maxB at h
 split at h
 ·rename_i k n k' n' h1 h2
  simp only[Mm.gives_ret,Prod.mk.injEq] at h
  obtain⟨rfl,rfl⟩:=h
  have e1:=jpp h1 (jah hs x)
  have e2:=jpp h2 (jah hs y)
  exact jag hi (by simp[execOp,ho,resolve,invoke,builtin,Builtin.max_,e1,e2,Builtin.max2]) (.i (.v _))
 ·simp[Mm.gives_fail] at h
def jto (n:Nat):PV→PV
 | .ref s ver off _=>.ref s ver off n
 | .i (.lst xs)=>.i (.lst (xs.take n))
 | p=>p
theorem j6e {k n L c:Nat} {p:PV} {ao:Option Addr} {ys:List (List IV)} (h:(jdt k p).gives m ys) (hr:RepP m γ F w p (.slice ao L c)) (hn:n≤ys.length) :
 RepP m γ F w (jto n p) (.slice ao n c)∧(jdt k (jto n p)).gives m (ys.take n):=by
 cases hr with
 | ref s ver off len ao cap A h1 h2 h3=>
  simp only[jdt,Mm.gives_get,h1] at h
  cases A with
  | arr v k' xs=>
   simp only[Mm.gives_chk,Bool.and_eq_true,beq_iff_eq,Mm.gives_ret] at h
   obtain⟨⟨rfl,rfl⟩,rfl⟩:=h
   obtain⟨hl,hoc,hcc,had⟩:=h3 rfl
   have hn':n≤L:=by have:=List.length_take_le L (xs.drop off);omega
   refine⟨.ref s v off n ao c _ h1 h2 fun e=>⟨by omega,hoc,hcc,had⟩,?_⟩
   simp only[jto,jdt,Mm.gives_get,h1,Mm.gives_chk,Bool.and_eq_true,beq_iff_eq,Mm.gives_ret]
   refine⟨by simp,?_⟩
   rw[List.take_take,Nat.min_eq_left hn']
  | _=>simp[Mm.gives_fail] at h
 | bad=>simp[jdt,Mm.gives_fail] at h
 | i hr=>
  cases hr with
  | v=>simp[jdt,Mm.gives_fail] at h
  | emp ao=>
   simp only[jdt,Mm.gives_ret] at h
   subst h
   obtain rfl:n=0:=by simpa using hn
   exact⟨.i (.emp ao),by simp[jto,jdt,Mm.gives_ret]⟩
  | lst xs ao cap k' cc h1 h2 h3 h4 h5 h6=>
   simp only[jdt,Mm.gives_chk,Mm.gives_ret,List.all_eq_true,beq_iff_eq] at h
   obtain⟨hall,rfl⟩:=h
   have hlen:(xs.take n).length=n:=by simp;omega
   have hget:∀(i:Nat) (e:List IV),(xs.take n)[i]?=some e→xs[i]?=some e:=fun i e h=>by
    rw[List.getElem?_take] at h
    split at h
    ·exact h
    ·cases h
   refine⟨?_,?_⟩
   ·have:RepI F w (.lst (xs.take n)) (.slice ao (xs.take n).length c):=
     .lst _ ao c k' cc (by omega) h2 (fun i e h=>h3 i e (hget i e h)) (fun i e h=>h4 i e (hget i e h)) (fun i e j p h hp=>h5 i e j p (hget i e h) hp) (fun i e j p h hp=>h6 i e j p (hget i e h) hp)
    rw[hlen] at this
    exact .i this
   ·simp only[jto,jdt,Mm.gives_chk,Mm.gives_ret,List.all_eq_true,beq_iff_eq]
    exact⟨fun e he=>hall e (List.mem_of_mem_take he),by simp⟩
theorem jm9 {k n L L' c c':Nat} {ao:Option Addr} {W:World}:(Builtin.firstCells k n (.slice ao L c)).run P W=(Builtin.firstCells k n (.slice ao L' c')).run P W:=by
 cases ao<;>rfl
theorem j28 {x y:Operand} {ts:Array TypeId} (ho:o.op=.call { callee:=.builtin .copy,args:=#[x,y],argTypes:=ts }) (h:(j74 P ts (opnd ρ x) (opnd ρ y)).gives m (out,wr))
 (hi:Inv m γ F w) (hs:Slots m γ F w ρ a):Does P o a w m γ F out wr:=by
 have hx:=jah hs x
 have hy:=jah hs y
 have hexec:∀v w',(Builtin.copy_ ts o.type #[a.eval x,a.eval y]).run P w=.ok v w'→(execOp a.eval o).run P w=.ok (.value v) w':=fun v w' hr=>by
  simp[execOp,ho,resolve,invoke,builtin,hr]
 unfold j74 at h
 split at h
 ·rename_i s ver off len hxe
  split at h
  ·rename_i e he
   obtain⟨t,ht,hel⟩:=Option.bind_eq_some_iff.1 he
   have hu:=jge hel
   split at h
   ·rename_i k hz
    simp only[Mm.gives_bind,Mm.gives_get] at h
    obtain⟨ys,hys,h⟩:=h
    split at h
    ·rename_i v k' xs hA
     simp only[Mm.gives_chk,Bool.and_eq_true,beq_iff_eq,Mm.gives_ret,Prod.mk.injEq,decide_eq_true_eq] at h
     obtain⟨⟨⟨rfl,rfl⟩,hk0⟩,rfl,rfl⟩:=h
     rw[hxe] at hx
     generalize hvx:a.eval x=vx at hx
     generalize hvy:a.eval y=vy at hy
     cases hx with
     | ref s ver off len ao cap A h1 h2 h3=>
     have:=jhp h1 hA;subst this
     obtain⟨hl,hoc,rfl,had⟩:=h3 rfl
     obtain⟨aoy,cy,rfl,-⟩:=jfx (P:=P) hi hk0 hys hy
     have hmin:Nat.min ys.length len≤ys.length:=Nat.min_le_left _ _
     obtain⟨hrt,het⟩:=j6e hys hy hmin
     obtain⟨ao2,c2,hv2,news,hgr,hfc⟩:=jfx (P:=P) hi hk0 het hrt
     have htl:(ys.take (Nat.min ys.length len)).length=Nat.min ys.length len:=by simp
     have hyt:ys.take (Nat.min ys.length len)=ys.take len:=by
      rcases Nat.le_total ys.length len with hle|hle
      ·rw[show Nat.min ys.length len=ys.length from Nat.min_eq_left hle,List.take_of_length_le (Nat.le_refl _),List.take_of_length_le hle]
      ·rw[show Nat.min ys.length len=len from Nat.min_eq_right hle]
     rw[htl] at hfc
     have hfc':∀W:World,W.heap=w.heap→(Builtin.firstCells k' (Nat.min ys.length len) (.slice aoy ys.length cy)).run P W=.ok news.toArray W:=fun W hW=>by
      rw[jm9 (L':=Nat.min ys.length len) (c':=cy)];exact hfc W hW
     rw[hyt] at hgr htl
     have hnl:news.length=Nat.min ys.length len*k':=by have:=hgr.1;rw[htl] at this;simpa using this
     have hml:Nat.min ys.length len≤len:=Nat.min_le_right _ _
     by_cases hlen:Nat.min ys.length len=0
     ·have hy0:ys.take len=[]:=List.eq_nil_of_length_eq_zero (by rw[htl,hlen])
      obtain⟨t1,t2,t3⟩:=jbt hi (A':=.arr v k' xs) (G:=γ s) (w':=w) h1 trivial rfl (Nat.le_refl _) (fun _=>⟨⟨rfl,rfl⟩,rfl⟩) rfl rfl rfl rfl (fun _ _=>rfl)
       (fun hms hag=>(hi.holds s _ h1).step hms (fun _ h=>h) hag rfl)
      refine ja3 (γ':=upd γ s (γ s)) (F':=F) (w':=w) (v:=.int .i64 (Nat.min ys.length len:Nat)) (hexec _ _ ?_) ?_ ?_ (FStep.refl ..) ?_ (.i (.v _))
      ·have hn0:news=[]:=List.eq_nil_of_length_eq_zero (by rw[hnl,hlen,Nat.zero_mul])
       have:=hfc' w rfl
       rw[hn0] at this
       rw[hvx,hvy]
       cases ao<;>simp[Builtin.copy_,ht,run_underlying hu,Builtin.lenOf,jbl hz,this,storeCells,goInt]
      ·simpa[hy0,jdn,updL] using t1
      ·simpa[hy0,jdn,updL] using t2
      ·simpa[hy0,jdn,updL] using t3
     ·obtain⟨cur,E,hb,hsz,hxc,hcm,hc⟩:=hi.holds s _ h1
      obtain rfl:=had (by omega)
      have hmul:((γ s).b+off)*k'+news.length≤cur.size:=by
       refine Nat.le_trans ?_ hsz
       rw[hnl]
       have:((γ s).b+off+Nat.min ys.length len)*k'≤((γ s).b+(γ s).cap)*k':=Nat.mul_le_mul_right _ (by omega)
       rw[Nat.add_mul _ (Nat.min ys.length len)] at this;omega
      have hone:∀v∈news,v.oneCell'=true:=by
       have:=jkh hk0 hgr
       simpa using this
      have hst:=jc3 (P:=P) (γ s).g (((γ s).b+off)*k') E news cur w hb hmul hone
      obtain⟨f1,f2,f3,f4,f5,f6⟩:=jbz (γ s).g cur (splice cur.toList (((γ s).b+off)*k') news).toArray E w hb
      have hfl:((γ s).b+off)*k'+news.length≤cur.toList.length:=by simpa using hmul
      have hsl:off+(ys.take len).length≤xs.length:=by rw[htl];omega
      obtain⟨t1,t2,t3⟩:=jbt hi (A':=.arr v k' (splice xs off (ys.take len))) (G:=γ s) h1 trivial rfl (Nat.le_refl _) (fun _=>⟨⟨rfl,by rw[jad _ _ _ hsl]⟩,rfl⟩) f1 f2 f3 f4 f5 (fun hms hag=>by
       refine⟨_,E,f6,by simpa[jad _ _ _ hfl] using hsz,by rw[jad _ _ _ hsl];exact hxc,hcm,fun i el hel=>?_⟩
       rw[getElem?_splice _ _ _ _ hsl] at hel
       simp only[List.getElem?_toArray,getElem?_splice _ _ _ _ hfl]
       split at hel
       ·rename_i hin
        refine⟨(hgr.2 _ el hel).1,fun j p hp=>?_⟩
        obtain⟨x,hx,ho,hr⟩:=(hgr.2 _ el hel).2 j p hp
        have hj:j<k':=by rw[←(hgr.2 _ el hel).1];exact(List.getElem?_eq_some_iff.1 hp).1
        have hlt:=jg0 (show i-off<Nat.min ys.length len by have:=hin.2;rw[htl] at this;omega) hj
        have e1:((γ s).b+i)*k'+j=((γ s).b+off)*k'+((i-off)*k'+j):=by
         rw[←Nat.add_assoc,←Nat.add_mul];congr 2;omega
        rw[e1,if_pos (by omega),Nat.add_sub_cancel_left]
        exact⟨x,by simpa using hx,ho,hr.mono (fun _ h=>h) hag⟩
       ·rename_i hin
        refine⟨(hc i el hel).1,fun j p hp=>?_⟩
        obtain⟨x,hx,ho,hr⟩:=(hc i el hel).2 j p hp
        have hj:j<k':=by rw[←(hc i el hel).1];exact(List.getElem?_eq_some_iff.1 hp).1
        have hin':i<off∨off+Nat.min ys.length len≤i:=by rw[htl] at hin;omega
        have hne:¬(((γ s).b+off)*k'≤((γ s).b+i)*k'+j∧((γ s).b+i)*k'+j<((γ s).b+off)*k'+news.length):=by
         rw[hnl]
         rintro⟨q1,q2⟩
         rcases hin' with q|q
         ·have:((γ s).b+i+1)*k'≤((γ s).b+off)*k':=Nat.mul_le_mul_right _ (by omega)
          rw[Nat.add_mul _ 1] at this;omega
         ·have:((γ s).b+off+Nat.min ys.length len)*k'≤((γ s).b+i)*k':=Nat.mul_le_mul_right _ (by omega)
          rw[Nat.add_mul _ (Nat.min ys.length len)] at this;omega
        rw[if_neg hne]
        exact⟨x,by simpa using hx,ho,hr.mono (fun _ h=>h) hag⟩)
      refine ja3 (v:=.int .i64 (Nat.min ys.length len:Nat)) (γ':=upd γ s (γ s)) (F':=F) (hexec _ _ ?_) t1 t2 (FStep.refl ..) t3 (.i (.v _))
      rw[hvx,hvy]
      simp[Builtin.copy_,ht,run_underlying hu,Builtin.lenOf,jbl hz,hfc' w rfl,hst,goInt]
    ·simp[Mm.gives_fail] at h
   ·simp[Mm.gives_fail] at h
  ·simp[Mm.gives_fail] at h
 ·simp[Mm.gives_fail] at h
theorem j79 {x:Operand} {ts:Array TypeId} (ho:o.op=.call { callee:=.builtin .cap,args:=#[x],argTypes:=ts }) (h:(capB P ts (opnd ρ x)).gives m (out,wr))
 (hi:Inv m γ F w) (hs:Slots m γ F w ρ a):Does P o a w m γ F out wr:=by
 have hx:=jah hs x
 unfold capB at h
 split at h
 ·rename_i e ht hxe
  obtain⟨t,ht,hel⟩:=Option.bind_eq_some_iff.1 ht
  simp only[Mm.gives_ret,Prod.mk.injEq] at h
  obtain⟨rfl,rfl⟩:=h
  rw[hxe] at hx
  generalize hvx:a.eval x=vx at hx
  cases hx with
  | i hx=>
   cases hx with
   | emp ao=>
    refine jag hi (v:=.int .i64 0) ?_ (.i (.v _))
    simp[execOp,ho,resolve,invoke,builtin,Builtin.cap_,ht,run_underlying hel,hvx,goInt]
 ·simp[Mm.gives_fail] at h
theorem does_zapp {x y:Operand} {ts:Array TypeId} (ho:o.op=.call { callee:=.builtin .append,args:=#[x,y],argTypes:=ts }) (hint:jn4 (ts[1]?.bind P.underlying)=true) (h:(kaq P ts o.dst (opnd ρ x) (opnd ρ y)).gives m (out,wr))
 (hi:Inv m γ F w) (hs:Slots m γ F w ρ a):Does P o a w m γ F out wr:=by
 have hx:=jah hs x
 simp only[kaq,Mm.gives_bind,Mm.gives_opt] at h
 obtain⟨e,he,d,hd,inf,hinf,h⟩:=h
 split at h
 rotate_left
 ·simp[Mm.gives_fail] at h
 rename_i n z hemp hn hz
 simp only[Mm.gives_bind,Mm.gives_chk,Bool.and_eq_true,decide_eq_true_eq,beq_iff_eq,Mm.gives_ret,Prod.mk.injEq,List.all_eq_true] at h
 obtain⟨v,hv,⟨⟨⟨⟨⟨⟨hts,hn0⟩,hn1⟩,hb⟩,hzl⟩,hk0⟩,hzf⟩,rfl,rfl⟩:=h
 obtain⟨t,tn,rfl⟩:∃t tn,ts=#[t,tn]:=by
  obtain⟨l⟩:=ts
  match l,hts with
  | [t,u],_=>exact⟨t,u,rfl⟩
 simp only[List.getElem?_toArray,List.getElem?_cons_zero,List.getElem?_cons_succ,Option.bind_some] at he hint
 have hu:=jge he
 obtain⟨kn,htn⟩:∃kn,P.underlying tn=some (.int kn):=by
  unfold jn4 at hint
  split at hint
  ·rename_i k hk;exact⟨k,hk⟩
  ·cases hint
 have hz':=hz
 simp only[jam,Option.map_eq_some_iff,Option.bind_eq_some_iff,hinf,Option.some.injEq] at hz'
 obtain⟨zv,⟨_,rfl,hzv⟩,rfl⟩:=hz'
 have hzs:zv.cells.size=inf.size:=by simpa using hzl
 obtain⟨ky,hy⟩:=jc7 hn (jah hs y)
 rw[hemp] at hx
 generalize hvx:a.eval x=vx at hx
 cases hx with
 | i hx=>
 cases hx with
 | emp ao=>
 obtain⟨q,rfl⟩:∃q:Nat,n=q:=⟨n.toNat,by omega⟩
 rw[Int.toNat_natCast]
 have hrun:=Lib.run_append_grow_zeros (P:=P) w t tn o.type e inf zv ky kn hu htn hinf hzv ao 0 0 [] (jbs [] (by simp) (by simp)) q (by omega) hk0 (by omega) (by omega)
  (by have:q*inf.bytes≤4000000*128:=Nat.mul_le_mul (by omega) hb
      omega)
  (jh0 (by omega) (by omega) hb)
 rw[Nat.zero_add] at hrun
 have hge:=grownCap_ge w q 0 e
 have hle:=grownCap_le_maxLen w q 0 e (by unfold maxLen;omega)
 have hgz:Grid F w inf.size (List.replicate q (zv.cells.toList.map constC)) (Builtin.zeroCells zv.cells q):=by
  have:=jid (F:=F) (w:=w) (n:=q) hzs hzf
  simpa[Builtin.zeroCells,hzs] using this
 have hg0:Grid F w inf.size ([]:List (List IV)) (([]:List Value).toArray):=⟨by simp,fun i e he=>by simp at he⟩
 have hga:=jlw (a:=[]) (b:=(Builtin.zeroCells zv.cells q).toList) hg0 (by rw[Array.toArray_toList];exact hgz) (Builtin.zeroCells zv.cells (grownCap w q 0 e-q))
 rw[Array.toArray_toList,List.nil_append] at hga
 have hcs:(([]:List Value).toArray++Builtin.zeroCells zv.cells q++Builtin.zeroCells zv.cells (grownCap w q 0 e-q)).size=grownCap w q 0 e*inf.size:=by
  simp only[Array.size_append,List.size_toArray,List.length_nil,size_zeroCells,hzs,←Nat.add_mul,Nat.zero_add]
  congr 1;omega
 generalize ([]:List Value).toArray++Builtin.zeroCells zv.cells q++Builtin.zeroCells zv.cells (grownCap w q 0 e-q)=cells at hga hcs hrun
 obtain⟨h1,h2,h3,h4⟩:=je8 hi.drew (d:=d) (A:=.arr v inf.size (List.replicate q (zv.cells.toList.map constC))) (fun A0 h0=>jbk hv A0 h0) trivial cells e (grownCap w q 0 e)
  (fun hm hag=>by
    refine⟨cells,e,Array.getElem?_push_size,by rw[hcs];simp,by simp;omega,by simpa using hle,fun i el hel=>?_⟩
    obtain⟨g1,g2⟩:=hga i el hel
    refine⟨g1,fun j p hp=>?_⟩
    obtain⟨x,hx,ho,hr⟩:=g2 j p hp
    exact⟨x,by simpa using hx,ho,RepI.mono (w:=w) (fun _ h=>h) (fun b hb=>hag b hb) hr⟩)
 have hs':Stp m γ w m γ w.drew:=(Stp.refl m γ w).drew
 refine ja3 (v:=.slice (some ⟨w.heap.size,0,none⟩) q (grownCap w q 0 e)) (γ':=upd γ d ⟨w.heap.size,0,grownCap w q 0 e⟩) (F':=F)
  (by simp[execOp,ho,resolve,invoke,builtin,hvx,hy,hrun]) h1 h2 (FStep.refl ..) (hs'.trans h3) ?_
 refine .ref d v 0 _ _ _ _ (jal ..) (Nat.le_refl _) fun _=>?_
 rw[jal]
 exact⟨by simp,Nat.zero_le _,rfl,fun _=>by simp⟩
theorem jre {c:Call} {b:Builtin} (ho:o.op=.call c) (hc:c.callee=.builtin b) (h:(jhr P b c.argTypes o.dst (c.args.toList.map (opnd ρ))).gives m (out,wr))
 (hi:Inv m γ F w) (hs:Slots m γ F w ρ a):Does P o a w m γ F out wr:=by
 obtain⟨callee,⟨args⟩,ts⟩:=c
 simp only at hc
 subst hc
 simp only at h
 unfold jhr at h
 split at h
 ·rename_i x he
  match args,he with
  | [x],he=>simp at he;subst he;exact j8a ho h hi hs
 ·rename_i x y he
  match args,he with
  | [x,y],he=>simp at he;obtain⟨rfl,rfl⟩:=he;exact j8c ho h hi hs
 ·rename_i x y he
  match args,he with
  | [x,y],he=>simp at he;obtain⟨rfl,rfl⟩:=he;exact j8b ho h hi hs
 ·rename_i x y he
  match args,he with
  | [x,y],he=>
   simp at he;obtain⟨rfl,rfl⟩:=he
   split at h
   ·rename_i hint;exact does_zapp ho hint h hi hs
   ·exact jum ho h hi hs
 ·rename_i x he
  match args,he with
  | [x],he=>simp at he;subst he;exact jzw ho h hi hs
 ·rename_i x y he
  match args,he with
  | [x,y],he=>simp at he;obtain⟨rfl,rfl⟩:=he;exact j28 ho h hi hs
 ·rename_i x he
  match args,he with
  | [x],he=>simp at he;subst he;exact j79 ho h hi hs
 ·simp[Mm.gives_fail] at h
theorem jsm:∀{ys:List (List IV)} {l:List Int},j0f ys=some l→ys=l.map fun n=>[IV.v (.int .u8 n)]
 | [],l,h=>by simp[j0f] at h;subst h;rfl
 | e::r,l,h=>by
  unfold j0f at h
  split at h
  ·rename_i h0;cases h0
  ·rename_i n r' h0
   cases h0
   simp only[Option.map_eq_some_iff] at h
   obtain⟨l',h1,rfl⟩:=h
   rw[jsm h1];rfl
  ·cases h
theorem jrf {s t:TypeId} {x:Operand} (ho:o.op=.convert s t x) (h:ja7 P cf C me o ρ m out wr) (hi:Inv m γ F w) (hs:Slots m γ F w ρ a):Does P o a w m γ F out wr:=by
 simp only[ja7,ja0,ho] at h
 have hx:=jah hs x
 split at h
 ·rename_i k1 k k2 n h1 h2 he
  simp only[Mm.gives_ret,Prod.mk.injEq] at h
  obtain⟨rfl,rfl⟩:=h
  rw[he] at hx
  generalize hv:a.eval x=v' at hx
  cases hx with
  | i hx=>cases hx;exact jag hi (by simp[execOp,ho,hv,convert,run_underlying h1,run_underlying h2,Conv.intToInt]) (.i (.v _))
 ·rename_i _p el h1 h2
  unfold cvtB at h
  split at h
  ·rename_i h3
   simp only[Mm.gives_bind,Mm.gives_opt,Mm.gives_ret,Prod.mk.injEq] at h
   obtain⟨ys,hys,l,hl,rfl,rfl⟩:=h
   obtain⟨ao,c,hv,news,hg,hrun⟩:=jfx (P:=P) hi Nat.one_pos hys hx
   have hy:=jsm hl
   have hnews:news=l.map (Value.int .u8):=by
    apply List.ext_getElem?
    intro i
    have h0:=hg.2 i
    rw[hy] at h0
    simp only[List.getElem?_map] at h0 ⊢
    cases hli:l[i]? with
    | none=>
     rw[Option.map_none,List.getElem?_eq_none]
     have:=hg.1
     rw[hy] at this
     simp only[List.size_toArray,List.length_map,Nat.mul_one] at this
     rw[this]
     exact List.getElem?_eq_none_iff.1 hli
    | some n=>
     rw[hli] at h0
     obtain⟨_,h4⟩:=h0 _ rfl
     obtain⟨y,hy1,_,hy2⟩:=h4 0 (.v (.int .u8 n)) rfl
     simp only[Nat.mul_one,Nat.add_zero,List.getElem?_toArray] at hy1
     cases hy2
     rw[hy1];rfl
   have hlen:ys.length=l.length:=by rw[hy];simp
   refine jag hi ?_ (.i (.v _))
   have hconv:(convert s t (a.eval x)).run P w=.ok (.string ⟨(l.map fun n=>UInt8.ofNat n.toNat).toArray⟩) w:=by
    have hrun:=hrun w rfl
    rw[hv] at hrun ⊢
    rw[run_convert_bytes_string w s t el ao _ c h1 h3 h2]
    cases ao with
    | none=>
     simp only[Builtin.firstCells,Sem.run_pure,Result.ok.injEq,and_true] at hrun
     rw[hnews] at hrun
     have h5:l=[]:=by
      cases l with
      | nil=>rfl
      | cons z zs=>simp at hrun
     subst h5
     simp[Conv.bytesToString]
     rfl
    | some ad=>
     simp only[Builtin.firstCells,Nat.mul_one] at hrun
     rw[hnews] at hrun
     rw[run_bytesToString w ad ys.length c l hrun,foldl_push_bytes]
     simp[ByteArray.empty,ByteArray.emptyWithCapacity]
     rfl
   simp[execOp,ho,hconv]
  ·simp[Mm.gives_fail] at h
 ·simp[Mm.gives_fail] at h
end
end Go.Proofs.YtnaaceooknghjaaGreatDoor.X
