/- What functions answer, and the plain laws behind it. -/
import Derived.Test.YtnaaceooknghjaaGreatDoorKAD
import Derived.Test.YtnaaceooknghjaaGreatDoorKAB
set_option linter.unusedSimpArgs false
set_option linter.unusedVariables false
set_option maxHeartbeats 8000000
set_option maxRecDepth 100000
namespace Go.Proofs.YtnaaceooknghjaaGreatDoor.X
open Go Go.Proofs Tryz
abbrev Un:=Int→Int→Bool
def jb0 (F:Un) (a b:Int):Un:=fun c d=>if F b a=true then(if c=b∧d=a then false else F c d) else(if c=a∧d=b then true else F c d)
def augF (F:Un):List Int→Un
 | a::b::r=>augF (jb0 F a b) (b::r)
 | _=>F
def augB (F:Un):List Int→Un
 | a::b::r=>jb0 (augB F (b::r)) a b
 | _=>F
theorem jd1 {F:Un} {a b c d:Int} (h1:¬(c=a∧d=b)) (h2:¬(c=b∧d=a)):jb0 F a b c d=F c d:=by
 unfold jb0
 rw[if_neg h1,if_neg h2];split<;>rfl
theorem j0r {F:Un} {a b c d:Int} (h1:¬(a=c∧b=d)) (h2:¬(a=d∧b=c)):jb0 (jb0 F c d) a b=jb0 (jb0 F a b) c d:=by
 have e1:jb0 F c d b a=F b a:=jd1 (fun h=>h2 ⟨h.2,h.1⟩) (fun h=>h1 ⟨h.2,h.1⟩)
 have e2:jb0 F a b d c=F d c:=jd1 (fun h=>h2 ⟨h.1.symm,h.2.symm⟩|>fun x=>x) (fun h=>h1 ⟨h.2.symm,h.1.symm⟩)
 funext p q
 rw[jb0,e1]
 conv=>rhs;rw[jb0,e2]
 unfold jb0
 by_cases k1:F b a=true<;>by_cases k2:F d c=true<;>simp only[k1,k2,if_true,if_false,Bool.false_eq_true]<;>grind
theorem jvz {a b:Int}:∀{q:List Int} {F:Un},a∉q→augF (jb0 F a b) q=jb0 (augF F q) a b
 | [],F,_=>rfl
 | [c],F,_=>rfl
 | c::d::r,F,h=>by
  have hc:a≠c:=fun e=>h (by rw[e];simp)
  have hd:a≠d:=fun e=>h (by rw[e];simp)
  rw[augF,augF,←j0r (fun k=>hc k.1) (fun k=>hd k.1)]
  exact jvz (q:=d::r) fun hm=>h (List.mem_cons_of_mem _ hm)
theorem j05:∀{p:List Int} {F:Un},p.Nodup→augB F p=augF F p
 | [],F,_=>rfl
 | [a],F,_=>rfl
 | a::b::r,F,h=>by
  rw[List.nodup_cons] at h
  rw[augB,augF,j05 (p:=b::r) h.2,jvz h.1]
theorem jqj {a b:Int}:∀{l:List Int} {F:Un},augF F (l++[a,b])=jb0 (augF F (l++[a])) a b
 | [],F=>rfl
 | [c],F=>rfl
 | c::d::l,F=>by
  have:=jqj (a:=a) (b:=b) (l:=d::l) (F:=jb0 F c d)
  simpa[augF] using this
theorem j06 {F:Un} {p:List Int} {i:Nat} (h0:0<i) (h1:i<p.length):augF F (p.take (i+1))=jb0 (augF F (p.take i)) (p.getD (i-1) 0) (p.getD i 0):=by
 obtain⟨k,rfl⟩:∃k,i=k+1:=⟨i-1,by omega⟩
 have e1:p.take (k+1)=p.take k++[p.getD k 0]:=by rw[List.take_add_one];simp[show k<p.length by omega]
 have e2:p.take (k+1+1)=p.take k++[p.getD k 0,p.getD (k+1) 0]:=by
  rw[List.take_add_one,e1];simp[h1]
 rw[e1,e2,jqj];rfl
theorem j04 {F:Un} {p:List Int} {t:Nat} (h0:0<t) (h1:t<p.length):augB F (p.drop (t-1))=jb0 (augB F (p.drop t)) (p.getD (t-1) 0) (p.getD t 0):=by
 obtain⟨k,rfl⟩:∃k,t=k+1:=⟨t-1,by omega⟩
 have e1:p.drop (k+1)=p.getD (k+1) 0::p.drop (k+1+1):=by rw[List.drop_eq_getElem_cons h1];simp[h1]
 have e2:p.drop k=p.getD k 0::p.getD (k+1) 0::p.drop (k+1+1):=by
  rw[List.drop_eq_getElem_cons (show k<p.length by omega),e1];simp[show k<p.length by omega]
 rw[show k+1-1=k by omega,e2,augB,←e1]
def Steps (P:Int→Int→Prop):List Int→Prop
 | a::b::r=>P a b∧Steps P (b::r)
 | _=>True
theorem Steps.of {P:Int→Int→Prop}:∀{p:List Int},(∀i,i+1<p.length→P (p.getD i 0) (p.getD (i+1) 0))→Steps P p
 | [],_=>trivial
 | [a],_=>trivial
 | a::b::r,h=>⟨h 0 (by simp),Steps.of (p:=b::r) fun i hi=>by
  have:=h (i+1) (by simp only[List.length_cons] at hi ⊢;omega)
  simpa using this⟩
theorem Steps.mono {P Q:Int→Int→Prop}:∀{p:List Int},(∀a b,a∈p→b∈p→P a b→Q a b)→Steps P p→Steps Q p
 | [],_,_=>trivial
 | [a],_,_=>trivial
 | a::b::r,h,⟨h1,h2⟩=>⟨h a b (by simp) (by simp) h1,Steps.mono (p:=b::r) (fun c d hc hd=>h c d (List.mem_cons_of_mem _ hc) (List.mem_cons_of_mem _ hd)) h2⟩
structure OKF (es:List (Int×Int)) (F:Un):Prop where
 adj:∀a b,F a b=true→Adj es a b
 one:∀a b,F a b=true→F b a=false
theorem OKF.step {es:List (Int×Int)} {F:Un} {a b:Int} (h:OKF es F) (ha:Adj es a b) (hne:a≠b):OKF es (jb0 F a b):=by
 constructor
 ·intro c d hcd
  unfold jb0 at hcd
  split at hcd
  ·split at hcd
   ·cases hcd
   ·exact h.adj c d hcd
  ·split at hcd
   ·rename_i hc;rw[hc.1,hc.2];exact ha
   ·exact h.adj c d hcd
 ·intro c d hcd
  unfold jb0 at hcd ⊢
  split at hcd
  ·rename_i hba
   rw[if_pos hba]
   split at hcd
   ·cases hcd
   ·split
    ·rfl
    ·exact h.one c d hcd
  ·rename_i hba
   rw[if_neg hba]
   split at hcd
   ·rename_i hc
    obtain⟨rfl,rfl⟩:=hc
    rw[if_neg (fun k=>hne k.2)]
    exact Bool.not_eq_true _▸hba
   ·rename_i hc
    split
    ·rename_i hd
     obtain⟨rfl,rfl⟩:=hd
     exact absurd hcd hba
    ·exact h.one c d hcd
theorem OKF.aug {es:List (Int×Int)}:∀{p:List Int} {F:Un},OKF es F→p.Nodup→Steps (Adj es) p→OKF es (augF F p)
 | [],F,h,_,_=>h
 | [a],F,h,_,_=>h
 | a::b::r,F,h,hn,hs=>by
  rw[List.nodup_cons] at hn
  exact OKF.aug (p:=b::r) (h.step hs.1 fun e=>hn.1 (by rw[e];simp)) hn.2 hs.2
def b2i (b:Bool):Int:=if b=true then 1 else 0
def jcy (S:Int→Bool) (F:Un) (e:Int×Int):Int:=(b2i (S e.1)-b2i (S e.2))*(b2i (F e.1 e.2)-b2i (F e.2 e.1))
def val (S:Int→Bool) (F:Un) (es:List (Int×Int)):Int:=(es.map (jcy S F)).sum
def cutsz (S:Int→Bool) (es:List (Int×Int)):Nat:=(es.filter fun e=>S e.1 != S e.2).length
theorem jvl {f g:Int×Int→Int} {e0:Int×Int}:∀{es:List (Int×Int)},es.Nodup→e0∈es→(∀e∈es,e≠e0→g e=f e)→(es.map g).sum=(es.map f).sum+(g e0-f e0)
 | [],_,h,_=>by simp at h
 | e::es,hn,h,hfg=>by
  rw[List.nodup_cons] at hn
  simp only[List.map_cons,List.sum_cons]
  by_cases he:e=e0
  ·subst he
   have:es.map g=es.map f:=List.map_congr_left fun x hx=>hfg x (List.mem_cons_of_mem _ hx) fun e=>hn.1 (e▸hx)
   rw[this];omega
  ·rw[jvl hn.2 ((List.mem_cons.1 h).resolve_left fun e'=>he e'.symm) (fun x hx=>hfg x (List.mem_cons_of_mem _ hx)),hfg e (by simp) he]
   omega
theorem jyk {n:Int} {es:List (Int×Int)} {F:Un} {S:Int→Bool} {a b:Int} (ho:∀e∈es,okE n e) (hn:es.Nodup) (ha:Adj es a b) (hF:F a b=false) :
 val S (jb0 F a b) es=val S F es+(b2i (S a)-b2i (S b)):=by
 have hk:=ha.ok ho
 have key:b2i (jb0 F a b a b)-b2i (jb0 F a b b a)=b2i (F a b)-b2i (F b a)+1:=by
  unfold jb0
  by_cases hb:F b a=true
  ·rw[if_pos hb,if_pos hb,if_neg (fun h=>hk.2.2.2.2 h.1),if_pos ⟨rfl,rfl⟩,hF,hb];rfl
  ·rw[if_neg hb,if_neg hb,if_pos ⟨rfl,rfl⟩,if_neg (fun h=>hk.2.2.2.2 h.1.symm),hF,(by simpa using hb:F b a=false)];rfl
 unfold val
 rcases ha with h|h
 ·have hoe:=ho _ h
  unfold okE at hoe;simp only at hoe
  rw[jvl (f:=jcy S F) hn h fun e hes he=>by
   have:=ho e hes
   unfold okE at this
   unfold jcy
   rw[jd1 (fun k=>he (Prod.ext k.1 k.2)) (fun k=>by omega),jd1 (fun k=>by omega) (fun k=>he (Prod.ext k.2 k.1))]]
  congr 1
  unfold jcy
  simp only
  rw[key]
  generalize b2i (F a b)-b2i (F b a)=v
  cases S a<;>cases S b<;>simp[b2i]<;>omega
 ·have hoe:=ho _ h
  unfold okE at hoe;simp only at hoe
  rw[jvl (f:=jcy S F) hn h fun e hes he=>by
   have:=ho e hes
   unfold okE at this
   unfold jcy
   rw[jd1 (fun k=>by omega) (fun k=>he (Prod.ext k.1 k.2)),jd1 (fun k=>he (Prod.ext k.2 k.1)) (fun k=>by omega)]]
  congr 1
  unfold jcy
  simp only
  generalize b2i (jb0 F a b b a)=p at *
  generalize b2i (jb0 F a b a b)=q at *
  generalize b2i (F a b)=r at *
  generalize b2i (F b a)=t at *
  cases S a<;>cases S b<;>simp[b2i]<;>omega
theorem jgz {a b:Int} {r:List Int}:(a::b::r).getD ((a::b::r).length-1) 0=(b::r).getD ((b::r).length-1) 0:=by
 simp[List.getD]
theorem j6g {n:Int} {es:List (Int×Int)} {S:Int→Bool} (ho:∀e∈es,okE n e) (hn:es.Nodup):∀{p:List Int} {F:Un},0<p.length→p.Nodup→Steps (fun a b=>Adj es a b∧F a b=false) p→
 val S (augF F p) es=val S F es+(b2i (S (p.getD 0 0))-b2i (S (p.getD (p.length-1) 0)))
 | [],F,h,_,_=>by simp at h
 | [a],F,_,_,_=>by simp[augF]
 | a::b::r,F,_,hd,hs=>by
  rw[List.nodup_cons] at hd
  have hs':Steps (fun c d=>Adj es c d∧jb0 F a b c d=false) (b::r):=hs.2.mono fun c d hc hd' h=>by
   have hac:c≠a:=fun e=>hd.1 (e▸hc)
   have had:d≠a:=fun e=>hd.1 (e▸hd')
   rw[jd1 (fun k=>hac k.1) (fun k=>had k.2)]
   exact h
  rw[augF,j6g ho hn (p:=b::r) (by simp) hd.2 hs',jyk ho hn hs.1.1 hs.1.2,jgz]
  simp only[List.getD_cons_zero]
  omega
theorem j6a {f g:Int×Int→Int}:∀{es:List (Int×Int)},(∀e∈es,f e≤g e)→(es.map f).sum≤(es.map g).sum
 | [],_=>by simp
 | e::es,h=>by
  have:=j6a (es:=es) fun x hx=>h x (List.mem_cons_of_mem _ hx)
  have:=h e (by simp)
  simp only[List.map_cons,List.sum_cons];omega
theorem jle {S:Int→Bool}:∀{es:List (Int×Int)},(es.map fun e=>b2i (S e.1 != S e.2)).sum=(cutsz S es:Int)
 | []=>by simp[cutsz]
 | e::es=>by
  have ih:=jle (S:=S) (es:=es)
  unfold cutsz at ih ⊢
  simp only[List.map_cons,List.sum_cons,List.filter_cons,ih]
  split
  ·rename_i h;rw[h];simp[b2i];omega
  ·rename_i h;simp[b2i,h]
theorem kbh {es:List (Int×Int)} {S:Int→Bool} {F:Un} (h:OKF es F):val S F es≤cutsz S es:=by
 rw[←jle]
 refine j6a fun e _=>?_
 unfold jcy
 have:=h.one e.1 e.2
 cases h1:F e.1 e.2<;>cases h2:F e.2 e.1<;>cases S e.1<;>cases S e.2<;>simp_all[b2i]
theorem kal {es:List (Int×Int)} {S:Int→Bool} {F:Un} (h:OKF es F) (hf:∀a b,Adj es a b→S a=true→S b=false→F a b=true):val S F es=cutsz S es:=by
 rw[←jle]
 unfold val
 congr 1
 refine List.map_congr_left fun e he=>?_
 unfold jcy
 have h1:=hf e.1 e.2 (.inl he)
 have h2:=hf e.2 e.1 (.inr he)
 have h3:=h.one e.1 e.2
 have h4:=h.one e.2 e.1
 cases h5:S e.1<;>cases h6:S e.2<;>simp_all[b2i]
def jb1 (F:Un):Int→Int→Bool:=fun a b=>!F a b
def flS (n:Int) (es:List (Int×Int)) (x y:Int):Nat→Un
 | 0=>fun _ _=>false
 | k+1=>augF (flS n es x y k) (wayL n (bfs n es (jb1 (flS n es x y k)) x).1 x y)
def more (n:Int) (es:List (Int×Int)) (x y:Int) (k:Nat):Prop:=y∈(bfs n es (jb1 (flS n es x y k)) x).2
instance (n:Int) (es:List (Int×Int)) (x y:Int) (k:Nat):Decidable (more n es x y k):=by unfold more;infer_instance
theorem jls {n:Int} {es:List (Int×Int)} {x y:Int} (ho:∀e∈es,okE n e) (hn:es.Nodup) (hx:0≤x∧x<n):∀k,(∀j,j<k→more n es x y j)→
 OKF es (flS n es x y k)∧∀S:Int→Bool,S x=true→S y=false→val S (flS n es x y k) es=k
 | 0,_=>⟨⟨fun a b h=>by simp[flS] at h,fun a b h=>by simp[flS] at h⟩,fun S _ _=>by
  have:es.map (jcy S (flS n es x y 0))=es.map fun _=>0:=List.map_congr_left fun e _=>by simp[jcy,flS,b2i]
  unfold val
  rw[this]
  clear this ho hn
  induction es with
  | nil=>rfl
  | cons e es ih=>simpa using ih⟩
 | k+1,hm=>by
  obtain⟨h1,h2⟩:=jls ho hn hx k fun j hj=>hm j (by omega)
  have hw:=jiz ho hx (hm k (by omega))
  have hst:Steps (fun a b=>Adj es a b∧flS n es x y k a b=false) (wayL n (bfs n es (jb1 (flS n es x y k)) x).1 x y):=Steps.of fun i hi=>by
   obtain⟨a1,a2⟩:=hw.st i hi
   exact⟨a1,by simpa[jb1] using a2⟩
  refine⟨h1.aug hw.nd (hst.mono fun _ _ _ _ h=>h.1),fun S hSx hSy=>?_⟩
  rw[flS,j6g ho hn hw.pos hw.nd hst,h2 S hSx hSy,hw.hd,hw.la,hSx,hSy]
  simp[b2i]
theorem kcd {n:Int} {es:List (Int×Int)} {x:Int} (ho:∀e∈es,okE n e):cutsz (fun v=>decide (v=x)) es=(nbS x es).length:=by
 rw[jn8]
 unfold cutsz
 induction es with
 | nil=>rfl
 | cons e es ih=>
  have ih:=ih fun f hf=>ho f (List.mem_cons_of_mem _ hf)
  have hoe:=ho e (by simp)
  unfold okE at hoe
  rw[jpu,List.filter_cons]
  by_cases h1:x=e.1
  ·have h2:¬e.2=x:=by omega
   rw[if_pos h1]
   simp only[h1.symm,decide_true,h2,decide_false,bne_iff_ne,ne_eq,Bool.true_eq_false,not_false_eq_true,if_true,List.length_cons,ih]
  ·by_cases h2:x=e.2
   ·have h3:¬e.1=x:=fun e=>h1 e.symm
    rw[if_neg h1,if_pos h2]
    simp only[h2.symm,decide_true,h3,decide_false,bne_iff_ne,ne_eq,Bool.false_eq_true,not_false_eq_true,if_true,List.length_cons,ih]
   ·have h3:¬e.1=x:=fun e=>h1 e.symm
    have h4:¬e.2=x:=fun e=>h2 e.symm
    rw[if_neg h1,if_neg h2]
    simp only[h3,h4,decide_false,bne_self_eq_false,Bool.false_eq_true,if_false,ih]
theorem j24 {n:Int} {es:List (Int×Int)} {x:Int} (ho:∀e∈es,okE n e) (hn:es.Nodup):(nbS x es).length≤n.toNat:=by
 have hs:=jgp ho hn x
 have:=jan (l:=nbS x es) (m:=iota n) (hs.imp fun {a b} h e=>by omega) fun v hv=>by
  have:=((ja8 ho).1 hv).ok ho
  exact mem_iota.2 (by omega)
 rwa [jat] at this
theorem jgj {n:Int} {es:List (Int×Int)} {x y:Int} (ho:∀e∈es,okE n e) (hn:es.Nodup) (hx:0≤x∧x<n) (hxy:x≠y) {k:Nat} (h:∀j,j<k→more n es x y j):k≤(nbS x es).length:=by
 obtain⟨h1,h2⟩:=jls ho hn hx k h
 have h3:=h2 (fun v=>decide (v=x)) (by simp) (by simp;exact fun e=>hxy e.symm)
 have h4:=kbh (S:=fun v=>decide (v=x)) h1
 rw[h3,kcd ho] at h4
 omega
def flN (n:Int) (es:List (Int×Int)) (x y:Int):Nat:=((List.range (n.toNat+1)).find? fun k=>decide ¬more n es x y k).getD 0
theorem jd4 {n:Int} {es:List (Int×Int)} {x y:Int} (ho:∀e∈es,okE n e) (hn:es.Nodup) (hx:0≤x∧x<n) (hxy:x≠y) :
 ¬more n es x y (flN n es x y)∧(∀j,j<flN n es x y→more n es x y j)∧flN n es x y≤(nbS x es).length:=by
 have hex:∃k,k<n.toNat+1∧¬more n es x y k:=Classical.byContradiction fun hno=>by
  have:=jgj ho hn hx hxy (k:=n.toNat+1) fun j hj=>Classical.byContradiction fun h=>hno ⟨j,hj,h⟩
  have:=j24 (x:=x) ho hn
  omega
 unfold flN
 cases hf:(List.range (n.toNat+1)).find? fun k=>decide ¬more n es x y k with
 | none=>
  obtain⟨k,hk,hm⟩:=hex
  rw[List.find?_eq_none] at hf
  exact absurd (decide_eq_true hm) (by simpa using hf k (List.mem_range.2 hk))
 | some k=>
  rw[List.find?_range_eq_some] at hf
  obtain⟨h1,h2,h3⟩:=hf
  have h4:∀j,j<k→more n es x y j:=fun j hj=>by simpa using h3 j hj
  simp only[Option.getD_some]
  exact⟨by simpa using h1,h4,jgj ho hn hx hxy h4⟩
theorem ka1 {n:Int} {es:List (Int×Int)} {x y:Int} {k:Nat} (ho:∀e∈es,okE n e) (hn:es.Nodup) (hx:0≤x∧x<n) (hxy:x≠y) (h1:∀j,j<k→more n es x y j) (h2:¬more n es x y k):k=flN n es x y:=by
 obtain⟨a,b,_⟩:=jd4 ho hn hx hxy
 by_cases h:k<flN n es x y
 ·exact absurd (b k h) h2
 ·by_cases h':flN n es x y<k
  ·exact absurd (h1 _ h') a
  ·omega
def flU (n:Int) (es:List (Int×Int)) (x y:Int):Un:=flS n es x y (flN n es x y)
def jvi (n:Int) (es:List (Int×Int)) (x y:Int):List Int:=(bfs n es (jb1 (flU n es x y)) x).2
theorem juu {n:Int} {es:List (Int×Int)} {x y:Int} (ho:∀e∈es,okE n e) (hn:es.Nodup) (hx:0≤x∧x<n) (hxy:x≠y) {S:Int→Bool} (hSx:S x=true) (hSy:S y=false):flN n es x y≤cutsz S es:=by
 obtain⟨a,b,_⟩:=jd4 ho hn hx hxy
 obtain⟨h1,h2⟩:=jls ho hn hx _ b
 have h3:=h2 S hSx hSy
 have h4:=kbh (S:=S) h1
 omega
theorem j5z {n:Int} {es:List (Int×Int)} {x y:Int} (ho:∀e∈es,okE n e) (hx:0≤x∧x<n):x∈jvi n es x y:=by
 have h:=jiy (goes:=jb1 (flU n es x y)) ho hx
 have:=jab (d:=0) h.pos
 rw[h.hd] at this
 exact this
theorem j50 {n:Int} {es:List (Int×Int)} {x y:Int} (ho:∀e∈es,okE n e) (hn:es.Nodup) (hx:0≤x∧x<n) (hxy:x≠y):y∉jvi n es x y:=(jd4 ho hn hx hxy).1
theorem jwx {n:Int} {es:List (Int×Int)} {x y:Int} (ho:∀e∈es,okE n e) (hn:es.Nodup) (hx:0≤x∧x<n) (hxy:x≠y):cutsz (fun v=>decide (v∈jvi n es x y)) es=flN n es x y:=by
 obtain⟨a,b,_⟩:=jd4 ho hn hx hxy
 obtain⟨h1,h2⟩:=jls ho hn hx _ b
 have h3:=h2 (fun v=>decide (v∈jvi n es x y)) (by simpa using j5z ho hx) (by simpa using j50 ho hn hx hxy)
 have h4:=kal (S:=fun v=>decide (v∈jvi n es x y)) h1 fun p q hpq hp hq=>by
  simp only[decide_eq_true_eq,decide_eq_false_iff_not] at hp hq
  refine Classical.byContradiction fun hF=>hq (jnf ho hx hp hpq ?_)
  show(!flU n es x y p q)=true
  cases hU:flU n es x y p q with
  | true=>exact absurd hU hF
  | false=>rfl
 omega
def bP (b:Bool):PV:=.i (.v (.bool b))
def bI (b:Bool):IV:=.v (.bool b)
def fB (n:Nat):List Bool:=List.replicate n false
theorem ka0 (n:Nat):(fB n).length=n:=by simp[fB]
theorem kgk (n:Nat):(zB n).map PV.i=(fB n).map bP:=by simp[zB,fB,bP]
theorem kgj (n:Nat):(zB n).length=n:=by simp[zB]
theorem kem (n:Nat):(zB n).all (fun x=>x.flat)=true:=by simp[zB,IV.flat,Value.oneCell']
theorem kez (us:List Bool) (i:Nat) (h:i<us.length):(us.map bP)[i]?=some (.i (.v (.bool (us.getD i false)))):=by simp[bP,h]
theorem kev (us:List Bool) (i:Nat) (h:i<us.length):(us.map bI)[i]?=some (.v (.bool (us.getD i false))):=by simp[bI,h]
theorem jqk (us:List Bool):(us.map bP).all (fun x=>x.scalar)=true:=by simp[bP,PV.scalar,IV.flat,Value.oneCell']
theorem jyq (us:List Bool):(List.all (us.map bP) fun x=>PV.scalar.match_1 (fun _=>Bool) x (fun x=>x.flat) (fun _ _ _ _=>true) (fun _ _ _ _=>true) (fun _ _ _=>true) (fun _=>false))=true:=jqk us
theorem ke0 (us:List Bool):(us.map bP).all PV.isI=true:=by simp[bP,PV.isI]
theorem kew (us:List Bool):(us.map bI).map PV.i=us.map bP:=by simp[bI,bP]
theorem kas (n:Nat):∀us:List Bool,Mm.mapL (frz n) (us.map bP)=.ret (us.map bI)
 | []=>rfl
 | b::us=>by
  have ih:=kas n us
  have e:frz n (bP b)=.ret (bI b):=by cases n<;>rfl
  simp only[List.map_cons,Mm.mapL,e,Mm.bind,ih]
theorem kau (look:Nat→Nat→Mm (Nat×Nat)) (n:Nat):∀us:List Bool,Mm.mapL (ren look n) (us.map bP)=.ret (us.map bP)
 | []=>rfl
 | b::us=>by
  have ih:=kau look n us
  have e:ren look n (bP b)=.ret (bP b):=by cases n<;>rfl
  simp only[List.map_cons,Mm.mapL,e,Mm.bind,ih]
theorem kat (own:List Arr) (n:Nat):∀us:List Bool,mapO (imm n own) (us.map bP)=some (us.map bP)
 | []=>rfl
 | b::us=>by
  have ih:=kat own n us
  have e:imm n own (bP b)=some (bP b):=by cases n<;>rfl
  simp only[List.map_cons,mapO,e,ih]
theorem kbn (us:List Bool):mapO (fun x=>jlc.match_2 (fun _=>Option PV) x (fun x=>some (PV.i x)) (fun s ver off len=>if s<2000 then some (PV.ref s ver off len) else none) (fun _=>none)) (us.map bP)=some (us.map bP):=by
 induction us with
 | nil=>rfl
 | cons b us ih=>simp only[List.map_cons,mapO,ih,bP]
theorem kex (n:Nat) (us:List Bool):(us.map bP).any (jbx n)=false:=by
 simp only[List.any_map,List.any_eq_false]
 intro b _
 cases n<;>simp[jbx,bP]
theorem jv0 (us:List Bool) (i:Nat) (b:Bool) (h:i<us.length):(us.map bP).take i++(.i (.v (.bool b))::(us.map bP).drop (i+1))=(us.set i b).map bP:=by
 rw[List.map_set,List.set_eq_take_append_cons_drop,if_pos (by simpa using h)];rfl
theorem jyr (us:List Bool) (k:Nat) (h:us.length≤k):(us.map bP).take k=us.map bP:=List.take_of_length_le (by simpa using h)
theorem jyp (us:List Bool) (k:Nat) (h:us.length≤k):(us.map bP).drop k=[]:=List.drop_eq_nil_of_le (by simpa using h)
theorem kcj (n:Nat):((fB n).map bP).drop n=[]:=List.drop_eq_nil_of_le (by simp[fB])
theorem kck (n:Nat):((fB n).map bP).take n=(fB n).map bP:=List.take_of_length_le (by simp[fB])
def encT (b:Bool):List IV:=[.v (.bool b)]
theorem getT (us:List Bool) (i:Nat) (h:i<us.length):(us.map encT)[i]?=some [.v (.bool (us.getD i false))]:=by simp[encT,h]
theorem setT (us:List Bool) (i:Nat) (b:Bool):(us.map encT).set i [.v (.bool b)]=(us.set i b).map encT:=by simp[encT,List.map_set]
theorem repT (n:Nat):List.replicate n [IV.v (.bool false)]=(fB n).map encT:=by simp[fB,encT]
theorem appT (us:List Bool) (b:Bool):us.map encT++[[.v (.bool b)]]=(us++[b]).map encT:=by simp[encT]
theorem j35 {us:List Bool}:(us.map encT).all (fun e=>e.all jd5)=true:=by simp[encT,jd5]
abbrev LT (us:List Bool):PV:=.i (.lst (us.map encT))
attribute [go_sem] getT setT repT appT j35
attribute [go_sem] kbn jyq kcj kck ka0 kgk kgj kem kez kev jqk ke0 kew kas kau kat kex jv0 jyr jyp
structure CloG (c:IV) (dom:Int→Prop) (g:Int→Int→Bool):Prop where
 frz:∀n,X.frz n (.i c)=.ret c
 flat:c.flat=true
 call:∀me d a b,dom a→dom b→dynP cfg (KK prog cfg) me (some d) (.i c) [I a,I b]=.ret (B (g a b),[])
def UR (us:List Bool) (F:Un):Prop:=us.length=256∧∀a b:Int,0≤a→a<16→0≤b→b<16→us.getD (a.toNat*16+b.toNat) false=F a b
theorem UR.none:UR (fB 256) fun _ _=>false:=⟨ka0 256,fun a b _ _ _ _=>by
 simp only[fB,List.getD_eq_getElem?_getD]
 cases h:(List.replicate 256 false)[a.toNat*16+b.toNat]? with
 | none=>rfl
 | some x=>have:=List.mem_of_getElem? h;rw[List.mem_replicate] at this;rw[this.2];rfl⟩
theorem UR.step {us:List Bool} {F:Un} {a b:Int} (h:UR us F) (ha:0≤a∧a<16) (hb:0≤b∧b<16):UR (if F b a=true then us.set (b.toNat*16+a.toNat) false else us.set (a.toNat*16+b.toNat) true) (jb0 F a b):=by
 have hset:∀(p q:Int) (v:Bool),0≤p∧p<16→0≤q∧q<16→∀c d:Int,0≤c→c<16→0≤d→d<16→(us.set (p.toNat*16+q.toNat) v).getD (c.toNat*16+d.toNat) false=if c=p∧d=q then v else F c d:=by
  intro p q v hp hq c d h0 h1 h2 h3
  have hlen:=h.1
  simp only[List.getD_eq_getElem?_getD,List.getElem?_set]
  by_cases he:c=p∧d=q
  ·obtain⟨rfl,rfl⟩:=he
   rw[if_pos rfl,if_pos (by omega),if_pos ⟨rfl,rfl⟩];rfl
  ·rw[if_neg (by omega),if_neg he]
   have:=h.2 c d h0 h1 h2 h3
   simpa[List.getD_eq_getElem?_getD] using this
 constructor
 ·split<;>simpa using h.1
 ·intro c d h0 h1 h2 h3
  unfold jb0
  by_cases hF:F b a=true
  ·rw[if_pos hF,if_pos hF,hset b a false hb ha c d h0 h1 h2 h3]
  ·rw[if_neg hF,if_neg hF,hset a b true ha hb c d h0 h1 h2 h3]
theorem jwi (us:List Bool) (F:Un) (h:UR us F):CloG (.fn 193 [] [.eptr (us.map bI) 0]) (fun v=>0≤v∧v<16) (jb1 F):=by
 have hl:=h.1
 have k:∀a b:Int,0≤a∧a<16→0≤b∧b<16→KP 193 [I a,I b,.i (.eptr (us.map bI) 0)] []=some (B (jb1 F a b),[],[]):=by
  intro a b ha hb
  have hg:=h.2 a b ha.1 ha.2 hb.1 hb.2
  refine gc func193 ?_
  have Fz:=fz2 results193 hg
  repeat refine go1 ?_
  all_goals(rw[Nat.mul_one,hg];rfl)
 refine⟨fun n=>by cases n<;>rfl,rfl,fun me d a b ha hb=>?_⟩
 have hx:=k a b ha hb
 simp only[go_sem,↓reduceIte,Int.reduceLE,Int.reduceLT,Int.reduceToNat,Int.reduceNeg,Int.reduceAdd,Int.reduceSub,Int.reduceMul,Int.reduceEq,Int.reduceNe,Nat.reduceEqDiff,Nat.reduceAdd,Nat.reduceSub,Nat.reduceMul,Nat.reduceLT,Nat.reduceLeDiff,Nat.reduceBEq,Nat.reduceBNe,UInt8.reduceToNat,hx,ite_self]
theorem jpq {g:Int→Int→Bool} {a v:Int} {st:List Int×List Int}:look g a st v=if st.1.getD v.toNat 0<0∧g a v=true then(st.1.set v.toNat a,st.2++[v]) else st:=rfl
theorem jrx {g:Int→Int→Bool} {a:Int} {vs:List Int} {st:List Int×List Int} {j:Int} (h0:0≤j) (h1:j<vs.length):(vs.take (j+1).toNat).foldl (look g a) st=look g a ((vs.take j.toNat).foldl (look g a) st) (vs.getD j.toNat 0):=by
 rw[jae 0 h0 h1,List.foldl_append];rfl
theorem j2e {c:IV} {dom:Int→Prop} {g:Int→Int→Bool} (hc:CloG c dom g) (n x:Int) (es:List (Int×Int)) (hV:VG n es) (hx:0≤x∧x<n) (hdom:∀v,0≤v→v<n→dom v) :
 KP 153 [GL n es,I x,.i c] []=some (.tup [.ref 2000 0 0 (bfs n es g x).2.length,.ref 2001 0 0 (bfs n es g x).1.length],[],[.arr 0 1 ((bfs n es g x).2.map encI),.arr 0 1 ((bfs n es g x).1.map encI)]):=by
 obtain⟨hc1,hc2,hc3⟩:=hc
 have ho:=hV.okg.ok
 have hn16:=hV.2.1
 have hle:=hV.okg.len
 refine gc func153 ?_
 have Fz:=fz3 results153 hc1 hc2
 repeat refine go1 ?_
 refine jaa (fun(u:Int×Nat×List Int×List Int) s=>s.m 18=some (.arr u.2.1 1 (u.2.2.2.map encI))∧s.ρ 9=.ref 18 u.2.1 0 u.2.2.2.length∧s.m 3128=some (.arr 0 1 (u.2.2.1.map encI))∧s.ρ 8=.ref 3128 0 0 n.toNat∧s.ρ 10=I u.1∧s.ρ 2=.i c∧s.ρ 3=.ptr 3 0 0 0∧s.m 3=some (.box 0 [I n,LE es])∧
  0≤u.1∧u.1≤u.2.2.2.length∧u.2.2=bfsS n es g x u.1.toNat) (fun u=>(n-u.1).toNat) (0,0,bfsS n es g x 0) ?_ ?_
 ·refine⟨by simp[upd,bfsS,encI],by simp[upd,bfsS],by simp[upd,bfsS],by simp[upd],by simp[upd],by simp[upd],by simp[upd],by simp[upd],by simp,by simp,rfl⟩
 rintro⟨i,w,fr,ord⟩ ⟨ρ,m⟩ ⟨m18,h9,m31,h8,h10,h2,h3,m3,g0,g1,g2⟩
 simp only at m18 h9 m31 h8 h10 h2 h3 m3 g0 g1 g2
 obtain⟨hI,-⟩:=je0 (goes:=g) ho hx i.toNat
 rw[←g2] at hI
 have hol:=hI.le
 have hfl:=hI.len
 simp only at hol hfl
 by_cases hi:i<ord.length
 rotate_left
 ·have hst:=j09 (goes:=g) ho hx (i:=i.toNat) (by rw[←g2];simp only;omega)
  rw[←g2] at hst
  rw[←hfl] at h8
  have Fz:=fz9 results153 m18 h9 m31 h8 h10 h2 h3 m3
  repeat refine go1 ?_
  rw[←hst]
  exact⟨rfl,rfl⟩
 have hat:=hI.rng _ (jab (d:=0) (show i.toNat<ord.length by omega))
 have hatm:=jab (d:=0) (show i.toNat<ord.length by omega)
 generalize hae:ord.getD i.toNat 0=a at hat hatm
 have hnb:=jb8 n a es (by omega)
 have hnbl:(nbS a es).length≤40:=by have:=jak a es;omega
 have Fz:=fz13 results153 m18 h9 m31 h8 h10 h2 h3 m3 hae hnb hc1 hc2
 repeat refine go1 ?_
 refine jaa (fun(u:Int×Nat×List Int×List Int) s=>s.m 18=some (.arr u.2.1 1 (u.2.2.2.map encI))∧s.ρ 9=.ref 18 u.2.1 0 u.2.2.2.length∧s.m 3128=some (.arr 0 1 (u.2.2.1.map encI))∧s.ρ 8=.ref 3128 0 0 n.toNat∧s.ρ 10=I i∧s.ρ 2=.i c∧s.ρ 3=.ptr 3 0 0 0∧s.m 3=some (.box 0 [I n,LE es])∧
  s.ρ 34=LI (nbS a es)∧s.ρ 35=I (nbS a es).length∧s.ρ 36=I u.1∧0≤u.1∧u.1≤(nbS a es).length∧u.2.2=((nbS a es).take u.1.toNat).foldl (look g a) (fr,ord)) (fun u=>((nbS a es).length-u.1).toNat) (0,w,fr,ord) ?_ ?_
 ·refine⟨by simp[upd,m18],by simp[upd,h9],by simp[upd,m31],by simp[upd,h8],by simp[upd,h10],by simp[upd,h2],by simp[upd,h3],by simp[upd,m3],by simp[upd],by simp[upd],by simp[upd],by simp,by simp,by simp⟩
 rintro⟨j,w',fr',ord'⟩ ⟨ρ,m⟩ ⟨m18,h9,m31,h8,h10,h2,h3,m3,h34,h35,h36,f0,f1,f2⟩
 simp only at m18 h9 m31 h8 h10 h2 h3 m3 h34 h35 h36 f0 f1 f2
 have hadj:∀v∈nbS a es,(0≤v∧v<n)∧Adj es a v:=fun v hv=>by
  have h1:=(ja8 ho).1 hv
  have:=h1.ok ho
  exact⟨⟨by omega,by omega⟩,h1⟩
 obtain⟨hF,hpre,-⟩:=hI.fold (vs:=(nbS a es).take j.toNat) hatm fun v hv=>hadj v (List.mem_of_mem_take hv)
 rw[←f2] at hF hpre
 have hol':=hF.le
 have hfl':=hF.len
 simp only at hol' hfl' hpre
 have hpl:=hpre.length_le
 have hae':ord'.getD i.toNat 0=a:=by rw[jhe hpre (by omega)];exact hae
 by_cases hj:j<(nbS a es).length
 rotate_left
 ·rw[jac (by omega)] at f2
  have hb:(fr',ord')=bfsS n es g x (i+1).toNat:=by
   rw[f2,show(i+1).toNat=i.toNat+1 by omega,bfsS,←g2,jtw,if_pos (by simp only;omega),hae]
  have Fz:=fz12 results153 m18 h9 m31 h8 h10 h2 h3 m3 h34 h35 h36
  repeat refine go1 ?_
  refine⟨by omega,by omega,hb,by omega⟩
 have hvm:=jab (d:=0) (show j.toNat<(nbS a es).length by omega)
 have hlk:=jrx (g:=g) (a:=a) (st:=(fr,ord)) f0 hj
 rw[←f2] at hlk
 generalize hve:(nbS a es).getD j.toNat 0=v at hvm hlk
 obtain⟨hv,hav⟩:=hadj v hvm
 have hda:=hdom a hat.1 hat.2
 have hdv:=hdom v hv.1 hv.2
 rw[jpq] at hlk
 have Fz:=fz15 results153 m18 h9 m31 h8 h10 h2 h3 m3 h34 h35 h36 hae' hve hc3
 repeat'(first|refine go1 ?_|(refine go2 ?_ ?_<;>intro _<;>try omega)|(refine go4 ?_;split<;>first|omega|refine go3 ?_|skip))
 all_goals refine⟨by omega,by omega,?_,by omega⟩
 all_goals rw[hlk]
 all_goals first|rw[if_pos ⟨‹_›,‹_›⟩] | rw[if_neg (by simp only[*];simp)]
theorem jzg (xs:List Int) (hl:xs.length≤1048576):KP 209 [.ref 1000 0 0 xs.length] [.arr 0 1 (xs.map encI)]=some (.tup [],[.arr 0 1 (xs.reverse.map encI)],[]):=by
 refine gc func209 ?_
 have Fz:=fz1 results209
 repeat refine go1 ?_
 refine jaa (fun(u:Int×Int×List Int) s=>s.m 1000=some (.arr 0 1 (u.2.2.map encI))∧s.ρ 0=.ref 1000 0 0 xs.length∧s.ρ 2=I u.1∧s.ρ 3=I u.2.1∧0≤u.1∧u.1+u.2.1=xs.length-1∧u.1≤u.2.1+2∧u.2.2.length=xs.length∧
  ∀k:Nat,k<xs.length→u.2.2.getD k 0=if(k:Int)<u.1∨u.2.1<k then xs.getD (xs.length-1-k) 0 else xs.getD k 0) (fun u=>(u.2.1+2-u.1).toNat) (0,xs.length-1,xs) ?_ ?_
 ·refine⟨rfl,rfl,rfl,?_,by simp,by simp,by simp only;omega,rfl,fun k hk=>?_⟩
  ·simp[upd]
  ·rw[if_neg (by simp only;omega)]
 rintro⟨i,j,ys⟩ ⟨ρ,m⟩ ⟨m1,h0,h2,h3,g0,g1,g2,g3,g4⟩
 simp only at m1 h0 h2 h3 g0 g1 g2 g3 g4
 have Fz:=fz5 results209 m1 h0 h2 h3
 repeat'(first|refine go1 ?_|(refine go2 ?_ ?_<;>intro _<;>try omega))
 ·refine⟨by omega,by omega,by omega,g3,fun k hk=>?_,by omega⟩
  have a1:=g4 i.toNat (by omega)
  have a2:=g4 j.toNat (by omega)
  have a3:=g4 k hk
  rw[if_neg (by omega)] at a1 a2
  rw[jcq (by simp;omega),jcq (by omega)]
  by_cases e1:j.toNat=k
  ·rw[if_pos e1,a1]
   have e2:xs.length-1-k=i.toNat:=by omega
   rw[e2]
   split
   ·rfl
   ·rw[if_pos (by omega)]
  ·rw[if_neg e1]
   by_cases e3:i.toNat=k
   ·rw[if_pos e3,a2,if_pos (by omega)]
    have e2:xs.length-1-k=j.toNat:=by omega
    rw[e2]
   ·rw[if_neg e3,a3]
    by_cases e4:(k:Int)<i∨j<k
    ·rw[if_pos e4]
     split
     ·rfl
     ·rw[if_pos (by omega)]
    ·rw[if_neg e4,if_neg (by omega),if_neg (by omega)]
 ·have hys:ys=xs.reverse:=by
   refine List.ext_getElem (by simpa using g3) fun k h1 h2=>?_
   have hk:k<xs.length:=by omega
   have a:=g4 k hk
   have b:(if(k:Int)<i∨j<k then xs.getD (xs.length-1-k) 0 else xs.getD k 0)=xs.getD (xs.length-1-k) 0:=by
    split
    ·rfl
    ·rw[show xs.length-1-k=k by omega]
   rw[b] at a
   rw[List.getElem_reverse]
   simp only[List.getD,List.getElem?_eq_getElem h1,List.getElem?_eq_getElem (show xs.length-1-k<xs.length by omega),Option.getD_some] at a
   exact a
  rw[hys]
theorem jzi (fr:List Int) (x y:Int) (hy:0≤y∧y<fr.length) (hf:fr.getD y.toNat 0<0) (hl:fr.length≤1048576):KP 155 [LI fr,I x,I y] []=some (.tup [.i .emp,B false],[],[]):=by
 refine gc func155 ?_
 have Fz:=fz1 results155
 repeat(first|exact trivial|refine go1 ?_)
theorem kfi {n x y:Int} {es:List (Int×Int)} {g:Int→Int→Bool} {fr ord:List Int} (h:BI n es g x (fr,ord)) (hn:n≤16) (hy:y∈ord):KP 155 [LI fr,I x,I y] []=some (.tup [.ref 2000 0 0 (wayL n fr x y).length,B true],[],[.arr 0 1 ((wayL n fr x y).map encI)]):=by
 have hle:=h.le
 have hlen:=h.len
 have hyr:=h.rng y hy
 have hy0:=(h.mem y hyr.1 hyr.2).2 hy
 simp only at hle hlen hyr hy0
 obtain⟨k0,hk0,hk0e⟩:=List.mem_iff_getElem.1 hy
 have hk0l:k0<ord.length:=hk0
 have e0:ord.getD k0 0=y:=by simp only[List.getD,List.getElem?_eq_getElem hk0l,Option.getD_some];exact hk0e
 have hup:(upL fr x n.toNat y).length≤17:=by
  have hul:∀(k:Nat) (z:Int),(upL fr x k z).length≤k+1:=by
   intro k
   induction k with
   | zero=>intro z;simp[upL]
   | succ k ih=>intro z;rw[upL];split<;>simp only[List.length_cons,List.length_nil]<;>(try have:=ih (fr.getD z.toNat 0))<;>omega
  have:=hul n.toNat y
  omega
 have hrev:=jzg (upL fr x n.toNat y) (by omega)
 unfold wayL
 rw[List.length_reverse]
 refine gc func155 ?_
 have Fz:=fz1 results155
 repeat refine go1 ?_
 refine jaa (fun(u:Int×Nat×List Int×Nat×Nat) s=>s.m 15=some (.arr u.2.1 1 (u.2.2.1.map encI))∧s.ρ 8=.ref 15 u.2.1 0 u.2.2.1.length∧s.ρ 2=I u.1∧s.ρ 1=I x∧s.ρ 0=LI fr∧
  u.2.2.2.2<ord.length∧u.2.2.2.2≤u.2.2.2.1∧ord.getD u.2.2.2.2 0=u.1∧u.2.2.1.length+u.2.2.2.1≤100∧upL fr x n.toNat y=u.2.2.1++(upL fr x u.2.2.2.1 u.1).tail) (fun u=>u.2.2.2.2) (y,0,[y],n.toNat,k0) ?_ ?_
 ·refine⟨by simp[upd,encI],by simp[upd],by simp[upd],by simp[upd],by simp[upd],hk0l,by simp only;omega,e0,by simp;omega,?_⟩
  exact jio _ _
 rintro⟨z,w,xs,f,k⟩ ⟨ρ,m⟩ ⟨m15,h8,h2,h1,h0,g0,g1,g2,g3,g4⟩
 simp only at m15 h8 h2 h1 h0 g0 g1 g2 g3 g4
 have hzm:z∈ord:=by rw[←g2];exact jab g0
 have hzr:=h.rng z hzm
 by_cases hzx:z=x
 ·subst hzx
  have e:(upL fr z f z).tail=[]:=by cases f<;>simp[upL]
  rw[e,List.append_nil] at g4
  rw[g4] at hrev ⊢
  have Fz:=fz7 results155 m15 h8 h2 h1 h0 hrev
  repeat(first|exact trivial|refine go1 ?_)
 ·have hk:0<k:=Nat.pos_of_ne_zero fun e=>hzx (by subst e;rw[←g2];exact h.hd)
  obtain⟨j,j1,j2,j3,j4⟩:=h.par k hk g0
  simp only[g2] at j2
  obtain⟨f,rfl⟩:∃f',f=f'+1:=⟨f-1,by omega⟩
  have e:(upL fr x (f+1) z).tail=upL fr x f (fr.getD z.toNat 0):=by rw[upL,if_neg hzx];rfl
  rw[e,jio] at g4
  have Fz:=fz6 results155 m15 h8 h2 h1 h0
  repeat refine go1 ?_
  refine⟨f,j,by omega,by omega,j2.symm,by omega,?_,by omega⟩
  rw[jio n.toNat y,g4,jio f (fr.getD z.toNat 0)]
  simp
abbrev inN (n x:Int):Prop:=0≤x∧x<n
inductive Rt (par:List Int):Int→Int→Prop
 | top {x:Int} (h:gI par x<0):Rt par x x
 | up {x r:Int} (h:0≤gI par x) (k:Rt par (gI par x) r):Rt par x r
theorem Rt.det {par:List Int} {x r s:Int} (h:Rt par x r) (k:Rt par x s):r=s:=by
 induction h with
 | top h1=>
  cases k with
  | top _=>rfl
  | up h2 _=>omega
 | up h1 _ ih=>
  cases k with
  | top h2=>omega
  | up _ k2=>exact ih k2
theorem Rt.neg {par:List Int} {x r:Int} (h:Rt par x r):gI par r<0:=by
 induction h with
 | top h=>exact h
 | up _ _ ih=>exact ih
def rsz (par sz:List Int) (x:Int):Int:=if gI par x<0 then gI sz x else 0
theorem jgk (n:Int):(iota n).Nodup:=(jd0 n).imp fun h=>by omega
structure US (n:Int) (es:List (Int×Int)) (par sz:List Int):Prop where
 lp:par.length=n.toNat
 ls:sz.length=n.toNat
 rg:∀x,inN n x→gI par x=-1∨(inN n (gI par x)∧gI sz x<gI sz (gI par x))
 pos:∀x,inN n x→1≤gI sz x
 bd:∀x,inN n x→gI sz x≤n
 sum:((iota n).map (rsz par sz)).sum=n
 cn:∀x y r s,inN n x→inN n y→Rt par x r→Rt par y s→(r=s↔Conn es x y)
theorem US.root {n:Int} {es:List (Int×Int)} {par sz:List Int} (h:US n es par sz):∀(k:Nat) (x:Int),inN n x→(n-gI sz x).toNat≤k→∃r,inN n r∧Rt par x r
 | k,x,hx,hk=>by
  rcases h.rg x hx with h1 | ⟨h1,h2⟩
  ·exact⟨x,hx,.top (by omega)⟩
  ·have h3:=h.bd _ h1
   cases k with
   | zero=>omega
   | succ k=>
    obtain⟨r,r1,r2⟩:=h.root k (gI par x) h1 (by omega)
    exact⟨r,r1,.up h1.1 r2⟩
theorem jlv {n x v:Int} (hx:inN n x):gI (List.replicate n.toNat v) x=v:=by
 obtain⟨h0,h1⟩:=hx
 have:x.toNat<n.toNat:=by omega
 simp only[gI,List.getD_eq_getElem?_getD,List.getElem?_replicate,if_pos this,Option.getD_some]
theorem US.new {n:Int} (h1:1≤n):US n [] (List.replicate n.toNat (-1)) (List.replicate n.toNat 1):=by
 refine⟨by simp,by simp,fun x hx=>.inl (jlv hx),fun x hx=>by rw[jlv hx];omega,fun x hx=>by rw[jlv hx];omega,?_,fun x y r s hx hy hr hs=>?_⟩
 ·have e:(iota n).map (rsz (List.replicate n.toNat (-1)) (List.replicate n.toNat 1))=(iota n).map fun _=>(1:Int):=List.map_congr_left fun x hx=>by
   have hx':inN n x:=mem_iota.1 hx
   rw[rsz,jlv hx',jlv hx',if_pos (by omega)]
  have:∀l:List Int,(l.map fun _=>(1:Int)).sum=l.length:=by
   intro l
   induction l with
   | nil=>rfl
   | cons a l ih=>rw[List.map_cons,List.sum_cons,ih,List.length_cons];omega
  rw[e,this,jat];omega
 ·have e1:r=x:=hr.det (.top (by rw[jlv hx];omega))
  have e2:s=y:=hs.det (.top (by rw[jlv hy];omega))
  subst e1 e2
  exact⟨fun e=>e▸.refl _,fun h=>h.nil⟩
theorem US.same {n:Int} {es:List (Int×Int)} {par sz:List Int} (h:US n es par sz) {x y r:Int} (hx:inN n x) (hy:inN n y) (hr:Rt par x r) (hs:Rt par y r):US n ((x,y)::es) par sz:=by
 refine⟨h.lp,h.ls,h.rg,h.pos,h.bd,h.sum,fun u v a b hu hv ha hb=>?_⟩
 have hxy:=(h.cn x y r r hx hy hr hs).1 rfl
 rw[h.cn u v a b hu hv ha hb,jb4]
 constructor
 ·exact .inl
 ·rintro(h | ⟨h1,h2⟩ | ⟨h1,h2⟩)
  ·exact h
  ·exact h1.trans (hxy.trans h2)
  ·exact h1.trans (hxy.symm.trans h2)
def kd8:Nat→Int→Int→Int→Int→Int
 | 0,_,_,_,_=>0
 | f+1,lo,hi,fr,to=>if fr≤lo∧hi≤to then 1 else if hi≤fr∨to≤lo then 0 else kd8 f lo ((lo+hi) / 2) fr to+kd8 f ((lo+hi) / 2) hi fr to
section
def Tree (n:Int) (es:List (Int×Int)):Prop:=cnt n es+es.length=n.toNat
theorem conn_mem {es fs:List (Int×Int)} (h:∀e,e∈es↔e∈fs) {x y:Int}:Conn es x y↔Conn fs x y:=⟨Conn.mono fun e=>(h e).1,Conn.mono fun e=>(h e).2⟩
theorem Tree.perm {n:Int} {es fs:List (Int×Int)} (h:Tree n es) (hp:es.Perm fs):Tree n fs:=by
 unfold Tree at *
 rw[←hp.length_eq,←jfv (es:=es) fun x y=>conn_mem fun e=>hp.mem_iff];exact h
theorem jul {n:Int} {es fs:List (Int×Int)} (hs:fs.Sublist es):(∀e∈es,okE n e)→cnt n fs+fs.length≤cnt n es+es.length:=by
 induction hs with
 | slnil=>intro _;exact Nat.le_refl _
 | @cons fs es a hs ih=>
  intro ho
  have ih:=ih fun e he=>ho e (List.mem_cons_of_mem _ he)
  have ha:=ho a (by simp)
  unfold okE at ha
  rw[List.length_cons]
  by_cases c:Conn es a.1 a.2
  ·have:=jgc (n:=n) c
   have e:((a.1,a.2)::es)=a::es:=rfl
   rw[e] at this;omega
  ·have:=jd3 (n:=n) (by omega) (by omega) c
   have e:((a.1,a.2)::es)=a::es:=rfl
   rw[e] at this;omega
 | @cons_cons fs es a hs ih=>
  intro ho
  have ih:=ih fun e he=>ho e (List.mem_cons_of_mem _ he)
  have ha:=ho a (by simp)
  unfold okE at ha
  rw[List.length_cons,List.length_cons]
  have e1:((a.1,a.2)::es)=a::es:=rfl
  have e2:((a.1,a.2)::fs)=a::fs:=rfl
  by_cases c:Conn es a.1 a.2
  ·have h1:=jgc (n:=n) c
   rw[e1] at h1
   by_cases d:Conn fs a.1 a.2
   ·have h2:=jgc (n:=n) d
    rw[e2] at h2;omega
   ·have h2:=jd3 (n:=n) (by omega) (by omega) d
    rw[e2] at h2;omega
  ·have h1:=jd3 (n:=n) (by omega) (by omega) c
   rw[e1] at h1
   have d:¬Conn fs a.1 a.2:=fun d=>c (d.mono hs.subset)
   have h2:=jd3 (n:=n) (by omega) (by omega) d
   rw[e2] at h2;omega
theorem Tree.sub {n:Int} {es fs:List (Int×Int)} (h:Tree n es) (ho:∀e∈es,okE n e) (hs:fs.Sublist es):Tree n fs:=by
 have h1:=jul hs ho
 have h2:=jwl (n:=n) (es:=fs) fun e he=>ho e (hs.subset he)
 unfold Tree at *
 omega
theorem Tree.add {n:Int} {es:List (Int×Int)} {a b:Int} (h:Tree n es) (ha:inN n a) (hb:inN n b) (hc:¬Conn es a b):Tree n ((a,b)::es):=by
 have:=jd3 ha hb hc
 unfold Tree at *
 rw[List.length_cons];omega
theorem Tree.cut {n:Int} {es:List (Int×Int)} {e:Int×Int} (h:Tree n (e::es)) (ho:∀f∈e::es,okE n f):Tree n es∧¬Conn es e.1 e.2:=by
 have h1:Tree n es:=h.sub ho (List.sublist_cons_self _ _)
 refine⟨h1,fun hc=>?_⟩
 have h2:=jgc (n:=n) hc
 have e1:((e.1,e.2)::es)=e::es:=rfl
 rw[e1] at h2
 unfold Tree at *
 rw[List.length_cons] at h;omega
theorem jhl {n:Int} {es:List (Int×Int)} (ho:∀e∈es,okE n e):(jai es).length=es.length↔Tree n es:=by
 have:=jz6 ho
 unfold Tree
 omega
theorem kah {n:Int}:Tree n []:=by unfold Tree;rw[jlb];simp
noncomputable def szC (n:Int) (es:List (Int×Int)) (x:Int):Int:=((iota n).filter fun y=>decide (Conn es x y)).length
theorem jqa {n:Int} {es fs:List (Int×Int)} {x y:Int} (h:∀z,Conn es x z→Conn fs y z):szC n es x≤szC n fs y:=by
 unfold szC
 have:=jrr (p:=fun z=>decide (Conn es x z)) (q:=fun z=>decide (Conn fs y z)) (l:=iota n) fun z _ hz=>decide_eq_true (h z (of_decide_eq_true hz))
 omega
theorem j6b {n:Int} {es:List (Int×Int)} {x u v:Int} (hu:inN n u) (hv:inN n v) (huv:u≠v) (h1:Conn es x u) (h2:Conn es x v):2≤szC n es x:=by
 have:=jan (l:=[u,v]) (m:=(iota n).filter fun y=>decide (Conn es x y)) (by simpa using huv) fun z hz=>by
  rw[List.mem_filter,decide_eq_true_eq]
  rcases List.mem_cons.1 hz with rfl|hz
  ·exact⟨mem_iota.2 hu,h1⟩
  ·rw[List.mem_singleton.1 hz];exact⟨mem_iota.2 hv,h2⟩
 unfold szC
 simp only[List.length_cons,List.length_nil] at this
 omega
theorem kgc {n:Int} {es:List (Int×Int)} {x:Int} (h:0≤n):szC n es x≤n:=by
 unfold szC
 have:=List.length_filter_le (fun y=>decide (Conn es x y)) (iota n)
 rw[jat] at this;omega
theorem kac {n:Int} {es:List (Int×Int)} {a b:Int} (hc:¬Conn es a b):szC n es a+szC n es b≤szC n ((a,b)::es) a:=by
 unfold szC
 have hd:((iota n).filter (fun y=>decide (Conn es a y))++(iota n).filter fun y=>decide (Conn es b y)).Nodup:=by
  rw[List.nodup_append]
  refine⟨(jgk n).sublist List.filter_sublist,(jgk n).sublist List.filter_sublist,fun x hx y hy e=>?_⟩
  subst e
  simp only[List.mem_filter,decide_eq_true_eq] at hx hy
  exact hc (hx.2.trans hy.2.symm)
 have:=jan (m:=(iota n).filter fun y=>decide (Conn ((a,b)::es) a y)) hd fun x hx=>by
  rw[List.mem_append] at hx
  simp only[List.mem_filter,decide_eq_true_eq] at hx ⊢
  rcases hx with⟨h1,h2⟩ | ⟨h1,h2⟩
  ·exact⟨h1,h2.mono fun e he=>List.mem_cons_of_mem _ he⟩
  ·exact⟨h1,(Conn.edge (e:=(a,b)) (by simp)).trans (h2.mono fun e he=>List.mem_cons_of_mem _ he)⟩
 rw[List.length_append] at this
 omega
abbrev Tl:=(Int×Int)×Int×Bool
def esT (ts:List Tl):List (Int×Int):=ts.map (·.1)
def abP (k:Int) (f:Bool) (t:Tl):Bool:=decide (k≤t.2.1) && (!f || t.2.2)
def abT (ts:List Tl) (k:Int) (f:Bool):List (Int×Int):=(ts.filter (abP k f)).map (·.1)
theorem jbn {ts:List Tl} {k:Int} {f:Bool} {e:Int×Int}:e∈abT ts k f↔∃l b,(e,l,b)∈ts∧k≤l∧(f=true→b=true):=by
 unfold abT abP
 simp only[List.mem_map,List.mem_filter,Bool.and_eq_true,decide_eq_true_eq,Bool.or_eq_true,Bool.not_eq_true']
 constructor
 ·rintro⟨⟨e,l,b⟩,⟨h1,h2,h3⟩,rfl⟩
  exact⟨l,b,h1,h2,fun hf=>h3.resolve_left (by rw[hf];simp)⟩
 ·rintro⟨l,b,h1,h2,h3⟩
  refine⟨(e,l,b),⟨h1,h2,?_⟩,rfl⟩
  cases f
  ·exact .inl rfl
  ·exact .inr (h3 rfl)
theorem jcd {ts:List Tl} {k:Int} {f:Bool}:∀e∈abT ts k f,e∈esT ts:=fun e he=>by
 obtain⟨l,b,h,-⟩:=jbn.1 he
 exact List.mem_map.2 ⟨_,h,rfl⟩
theorem jvv {ts:List Tl} {k:Int}:∀e∈abT ts k true,e∈abT ts k false:=fun e he=>by
 obtain⟨l,b,h,h2,-⟩:=jbn.1 he
 exact jbn.2 ⟨l,b,h,h2,fun h=>by cases h⟩
theorem jqh {ts:List Tl} {j k:Int} {f:Bool} (h:j≤k):(abT ts k f).Sublist (abT ts j f):=by
 unfold abT
 refine List.Sublist.map _ ?_
 have e:ts.filter (abP k f)=(ts.filter (abP j f)).filter (abP k f):=by
  rw[List.filter_filter]
  refine List.filter_congr fun t _=>?_
  unfold abP
  by_cases c:k≤t.2.1
  ·have d:j≤t.2.1:=by omega
   simp[c,d]
  ·simp[c]
 rw[e]
 exact List.filter_sublist
theorem jvw {ts:List Tl} (h:∀t∈ts,0≤t.2.1):abT ts 0 false=esT ts:=by
 unfold abT esT
 rw[List.filter_eq_self.2 fun t ht=>by simp[abP,h t ht]]
structure LV (n:Int) (ts:List Tl):Prop where
 vg:VG n (esT ts)
 lv:∀t∈ts,0≤t.2.1∧t.2.1≤4
 ac:∀j:Int,0≤j→j≤4→Tree n (abT ts j true)
 cn:∀j:Int,0≤j→j≤4→∀x y,Conn (abT ts j false) x y→Conn (abT ts j true) x y
 sz:∀j:Int,0≤j→j≤4→∀x,inN n x→1<szC n (abT ts j false) x→szC n (abT ts j false) x≤n / 2 ^ j.toNat
structure MV (n:Int) (ts:List Tl) (a b k:Int):Prop where
 vg:VG n (esT ts)
 lv:∀t∈ts,0≤t.2.1∧t.2.1≤4
 ac:∀j:Int,0≤j→j≤4→Tree n (abT ts j true)
 hi:∀j:Int,0≤j→k<j→j≤4→∀x y,Conn (abT ts j false) x y→Conn (abT ts j true) x y
 lo:∀j:Int,0≤j→j≤k→∀x y,Conn (abT ts j false) x y→Conn ((a,b)::abT ts j true) x y
 nc:∀j:Int,0≤j→j≤4→¬Conn (abT ts j true) a b
 sz:∀j:Int,0≤j→j≤4→∀x,inN n x→1<szC n (abT ts j false) x→szC n (abT ts j false) x≤n / 2 ^ j.toNat
 sk:∀j:Int,0≤j→j≤k→szC n ((a,b)::abT ts j true) a≤n / 2 ^ j.toNat
 ra:inN n a
 rb:inN n b
 k4:k≤4
theorem MV.done {n:Int} {ts:List Tl} {a b:Int} (h:MV n ts a b (-1)):LV n ts:=⟨h.vg,h.lv,h.ac,fun j j0 j4=>h.hi j j0 (by omega) j4,h.sz⟩
def raT (t:Tl):Tl:=(t.1,t.2.1+1,t.2.2)
structure Ra (S:Int→Prop) (k:Int) (t t':Tl):Prop where
 or:t'=t∨(t.2.1=k∧S t.1.1∧S t.1.2∧t'=raT t)
 tr:t.2.2=true→t.2.1=k→S t.1.1→S t.1.2→t'=raT t
theorem Ra.fst {S:Int→Prop} {k:Int} {t t':Tl} (h:Ra S k t t'):t'.1=t.1∧t'.2.2=t.2.2∧(t'.2.1=t.2.1∨t.2.1=k∧t'.2.1=k+1):=by
 rcases h.or with rfl | ⟨h1,h2,h3,rfl⟩
 ·exact⟨rfl,rfl,.inl rfl⟩
 ·exact⟨rfl,rfl,.inr ⟨h1,by simp[raT,h1]⟩⟩
inductive RaL (S:Int→Prop) (k:Int):List Tl→List Tl→Prop
 | nil:RaL S k [] []
 | cons {t t':Tl} {ts ts':List Tl} (h:Ra S k t t') (hl:RaL S k ts ts'):RaL S k (t::ts) (t'::ts')
theorem RaL.es {S:Int→Prop} {k:Int} {ts ts':List Tl} (h:RaL S k ts ts'):esT ts'=esT ts:=by
 induction h with
 | nil=>rfl
 | cons h _ ih=>
  unfold esT at *
  rw[List.map_cons,List.map_cons,ih,h.fst.1]
theorem RaL.ab {S:Int→Prop} {k j:Int} {f:Bool} {ts ts':List Tl} (h:RaL S k ts ts') (hj:j≠k+1):abT ts' j f=abT ts j f:=by
 induction h with
 | nil=>rfl
 | @cons t t' ts ts' h _ ih=>
  obtain⟨h1,h2,h3⟩:=h.fst
  have e:abP j f t'=abP j f t:=by
   unfold abP
   rw[h2]
   have:decide (j≤t'.2.1)=decide (j≤t.2.1):=decide_eq_decide.2 (by omega)
   rw[this]
  unfold abT at *
  rw[List.filter_cons,List.filter_cons,e]
  split
  ·rw[List.map_cons,List.map_cons,ih,h1]
  ·exact ih
theorem RaL.fw {S:Int→Prop} {k:Int} {ts ts':List Tl} (h:RaL S k ts ts') {t:Tl} (ht:t∈ts):∃t'∈ts',Ra S k t t':=by
 induction h with
 | nil=>simp at ht
 | @cons s s' ts ts' h _ ih=>
  rcases List.mem_cons.1 ht with rfl|ht
  ·exact⟨s',by simp,h⟩
  ·obtain⟨t',h1,h2⟩:=ih ht
   exact⟨t',List.mem_cons_of_mem _ h1,h2⟩
theorem RaL.bw {S:Int→Prop} {k:Int} {ts ts':List Tl} (h:RaL S k ts ts') {t':Tl} (ht:t'∈ts'):∃t∈ts,Ra S k t t':=by
 induction h with
 | nil=>simp at ht
 | @cons s s' ts ts' h _ ih=>
  rcases List.mem_cons.1 ht with rfl|ht
  ·exact⟨s,by simp,h⟩
  ·obtain⟨t,h1,h2⟩:=ih ht
   exact⟨t,List.mem_cons_of_mem _ h1,h2⟩
theorem kh2 {n s:Int} {k:Int} (hk:0≤k) (h:s+s≤n / 2 ^ k.toNat):s≤n / 2 ^ (k+1).toNat:=by
 have e:(k+1).toNat=k.toNat+1:=by omega
 rw[e,Int.pow_succ,←Int.ediv_ediv_of_nonneg (Int.le_of_lt (Int.pow_pos (by omega)))]
 omega
theorem j9g {n k:Int} (h16:n≤16) (hk:0≤k) (h:2≤n / 2 ^ (k+1).toNat):k+1≤4:=by
 refine Classical.byContradiction fun hn=>?_
 have h1:n / 2 ^ (k+1).toNat≤1:=by
  have h32:(32:Int)≤2 ^ (k+1).toNat:=by
   obtain⟨m,hm⟩:∃m:Nat,(k+1).toNat=m+5:=⟨(k+1).toNat-5,by omega⟩
   rw[hm,Int.pow_add]
   have:(1:Int)≤2 ^ m:=Int.pow_pos (by omega)
   omega
  have:n / 2 ^ (k+1).toNat<2:=Int.ediv_lt_of_lt_mul (by omega) (by omega)
  omega
 omega
theorem MV.raise {n:Int} {ts ts':List Tl} {a b k c:Int} (h:MV n ts a b k) (hk:0≤k) (hc:c=a∨c=b) (hsm:szC n (abT ts k true) c+szC n (abT ts k true) c≤n / 2 ^ k.toNat) (hr:RaL (fun y=>Conn (abT ts k true) c y) k ts ts') :
 (∀t∈ts',0≤t.2.1∧t.2.1≤4)∧(k+1≤4→Tree n (abT ts' (k+1) true)∧(∀x y,Conn (abT ts' (k+1) false) x y→Conn (abT ts' (k+1) true) x y)∧¬Conn (abT ts' (k+1) true) a b∧
   ∀x,inN n x→1<szC n (abT ts' (k+1) false) x→szC n (abT ts' (k+1) false) x≤n / 2 ^ (k+1).toNat):=by
 have ho:=h.vg.2.2.2.1
 have hok:∀{e:Int×Int} {l:Int} {b:Bool},(e,l,b)∈ts→okE n e:=fun hm=>ho _ (List.mem_map.2 ⟨_,hm,rfl⟩)
 have hF:abT ts' k true=abT ts k true:=hr.ab (by omega)
 have hhalf:=kh2 hk hsm
 have hsub:(abT ts' (k+1) true).Sublist (abT ts k true):=by rw[←hF];exact jqh (by omega)
 refine⟨fun t' ht'=>?_,fun h4=>?_⟩
 ·obtain⟨t,ht,hR⟩:=hr.bw ht'
  have hb:=h.lv t ht
  rcases hR.or with rfl | ⟨h1,h2,h3,rfl⟩
  ·exact hb
  ·have hoe:=ho _ (List.mem_map.2 ⟨t,ht,rfl⟩)
   unfold okE at hoe
   have h2':=j6b (n:=n) (u:=t.1.1) (v:=t.1.2) (by omega) (by omega) (by omega) h2 h3
   have:=j9g h.vg.2.1 hk (by omega)
   show 0≤t.2.1+1∧t.2.1+1≤4
   omega
 have hup:∀x y,Conn (abT ts k true) x y→Conn (abT ts k true) c x→Conn (abT ts' (k+1) true) x y:=fun x y hxy hx=>by
  have:Conn (abT ts' (k+1) true) x y∧Conn (abT ts k true) c y:=by
   refine Conn.closed (es:=abT ts k true) (p:=fun y=>Conn (abT ts' (k+1) true) x y∧Conn (abT ts k true) c y) (fun u v huv hu=>?_) hxy ⟨.refl _,hx⟩
   have hv:Conn (abT ts k true) c v:=hu.2.trans (.of huv)
   refine⟨hu.1.trans (.of ?_),hv⟩
   have key:∀e,e∈abT ts k true→Conn (abT ts k true) c e.1→Conn (abT ts k true) c e.2→e∈abT ts' (k+1) true:=fun e he h1 h2=>by
    obtain⟨l,q,hm,hl,hq⟩:=jbn.1 he
    have hq:=hq rfl
    subst hq
    obtain⟨t',ht',hR⟩:=hr.fw hm
    by_cases e2:l=k
    ·have:=hR.tr rfl e2 h1 h2
     subst this
     exact jbn.2 ⟨l+1,true,ht',by omega,fun _=>rfl⟩
    ·rcases hR.or with rfl | ⟨h3,-⟩
     ·exact jbn.2 ⟨l,true,ht',by omega,fun _=>rfl⟩
     ·exact absurd h3 e2
   rcases huv with he|he
   ·exact .inl (key _ he hu.2 hv)
   ·exact .inr (key _ he hv hu.2)
  exact this.1
 have hold:∀x y,Conn (abT ts (k+1) true) x y→Conn (abT ts' (k+1) true) x y:=fun x y hxy=>hxy.mono fun e he=>by
  obtain⟨l,q,hm,hl,hq⟩:=jbn.1 he
  obtain⟨t',ht',hR⟩:=hr.fw hm
  rcases hR.or with rfl | ⟨h3,-⟩
  ·exact jbn.2 ⟨l,q,ht',hl,hq⟩
  ·simp only at h3;omega
 have hed:∀e,e∈abT ts' (k+1) false→e∈abT ts (k+1) false∨(Conn (abT ts k true) c e.1∧Conn (abT ts k true) c e.2):=fun e he=>by
  obtain⟨l,q,hm,hl,-⟩:=jbn.1 he
  obtain⟨t,ht,hR⟩:=hr.bw hm
  rcases hR.or with e1 | ⟨h1,h2,h3,e1⟩
  ·exact .inl (jbn.2 ⟨l,q,e1▸ht,hl,fun h=>by cases h⟩)
  ·have:e=t.1:=congrArg Prod.fst e1
   rw[this];exact .inr ⟨h2,h3⟩
 have hcn:∀x y,Conn (abT ts' (k+1) false) x y→Conn (abT ts' (k+1) true) x y:=fun x y hxy=>by
  refine Conn.via (fun e he=>?_) hxy
  rcases hed e he with h1 | ⟨h1,h2⟩
  ·exact hold _ _ (h.hi (k+1) (by omega) (by omega) h4 _ _ (Conn.edge h1))
  ·exact hup _ _ (h1.symm.trans h2) h1
 refine⟨(h.ac k hk h.k4).sub (fun e he=>ho _ (jcd e he)) hsub,hcn,fun hab=>h.nc k hk h.k4 (hab.mono hsub.subset),fun x hx h1=>?_⟩
 by_cases hS:Conn (abT ts k true) c x
 ·have:=jqa (n:=n) (es:=abT ts' (k+1) false) (fs:=abT ts k true) (x:=x) (y:=c) fun z hz=>hS.trans ((hcn x z hz).mono hsub.subset)
  omega
 ·have hsame:∀z,Conn (abT ts' (k+1) false) x z→Conn (abT ts (k+1) false) x z:=fun z hz=>by
   have:Conn (abT ts (k+1) false) x z∧¬Conn (abT ts k true) c z:=by
    refine Conn.closed (es:=abT ts' (k+1) false) (p:=fun z=>Conn (abT ts (k+1) false) x z∧¬Conn (abT ts k true) c z) (fun u v huv hu=>?_) hz ⟨.refl _,hS⟩
    have key:Adj (abT ts (k+1) false) u v:=by
     rcases huv with he|he
     ·rcases hed _ he with h1 | ⟨h1,h2⟩
      ·exact .inl h1
      ·exact absurd h1 hu.2
     ·rcases hed _ he with h1 | ⟨h1,h2⟩
      ·exact .inr h1
      ·exact absurd h2 hu.2
    refine⟨hu.1.trans (.of key),fun hv=>hu.2 ?_⟩
    have:=(h.hi (k+1) (by omega) (by omega) h4 _ _ (Conn.of key)).mono (jqh (ts:=ts) (f:=true) (show k≤k+1 by omega)).subset
    exact hv.trans this.symm
   exact this.1
  have hm:=jqa (n:=n) (fs:=abT ts (k+1) false) (y:=x) hsame
  have:=h.sz (k+1) (by omega) h4 x hx (by omega)
  omega
def jns (S:Int→Prop) (t:Tl):Prop:=(S t.1.1∧¬S t.1.2)∨(¬S t.1.1∧S t.1.2)
theorem MV.next {n:Int} {ts ts':List Tl} {a b k c:Int} (h:MV n ts a b k) (hk:0≤k) (hc:c=a∨c=b) (hsm:szC n (abT ts k true) c+szC n (abT ts k true) c≤n / 2 ^ k.toNat) (hr:RaL (fun y=>Conn (abT ts k true) c y) k ts ts')
 (hno:∀t∈ts,t.2.2=false→t.2.1=k→¬jns (fun y=>Conn (abT ts k true) c y) t):MV n ts' a b (k-1):=by
 obtain⟨hlv,hup⟩:=h.raise hk hc hsm hr
 have hes:=hr.es
 have hne:∀{j:Int} {f:Bool},j≠k+1→abT ts' j f=abT ts j f:=fun hj=>hr.ab hj
 refine⟨by rw[hes];exact h.vg,hlv,fun j j0 j4=>?_,fun j j0 jk j4=>?_,fun j j0 jk=>?_,fun j j0 j4=>?_,fun j j0 j4=>?_,fun j j0 jk=>?_,h.ra,h.rb,by have:=h.k4;omega⟩
 ·by_cases e:j=k+1
  ·subst e;exact(hup j4).1
  ·rw[hne e];exact h.ac j j0 j4
 ·by_cases e:j=k+1
  ·subst e;exact(hup j4).2.1
  ·rw[hne e,hne e]
   by_cases e2:j=k
   ·subst e2
    intro x y hxy
    refine Conn.via (fun e he=>?_) hxy
    obtain⟨l,q,hm,hl,-⟩:=jbn.1 he
    by_cases hq:q=true
    ·exact Conn.edge (jbn.2 ⟨l,q,hm,hl,fun _=>hq⟩)
    ·have hq:q=false:=by simpa using hq
     by_cases hlj:l=j
     ·have hx:=hno _ hm hq hlj
      rcases jb4.1 (h.lo j j0 (Int.le_refl _) _ _ (Conn.edge he)) with h1 | ⟨h1,h2⟩ | ⟨h1,h2⟩
      ·exact h1
      ·exfalso
       rcases hc with rfl|rfl
       ·exact hx (.inl ⟨h1.symm,fun h3=>h.nc j j0 j4 (h3.trans h2.symm)⟩)
       ·exact hx (.inr ⟨fun h3=>h.nc j j0 j4 ((h3.trans h1).symm),h2⟩)
      ·exfalso
       rcases hc with rfl|rfl
       ·exact hx (.inr ⟨fun h3=>h.nc j j0 j4 (h3.trans h1),h2⟩)
       ·exact hx (.inl ⟨h1.symm,fun h3=>h.nc j j0 j4 (h2.trans h3.symm)⟩)
     ·have:e∈abT ts (j+1) false:=jbn.2 ⟨l,q,hm,by omega,fun h=>by cases h⟩
      by_cases j3:j+1≤4
      ·exact(h.hi (j+1) (by omega) (by omega) j3 _ _ (Conn.edge this)).mono (jqh (by omega)).subset
      ·have:=h.lv _ hm
       simp only at this;omega
   ·exact h.hi j j0 (by omega) j4
 ·rw[hne (by omega),hne (by omega)];exact h.lo j j0 (by omega)
 ·by_cases e:j=k+1
  ·subst e;exact(hup j4).2.2.1
  ·rw[hne e];exact h.nc j j0 j4
 ·by_cases e:j=k+1
  ·subst e;exact(hup j4).2.2.2
  ·rw[hne e];exact h.sz j j0 j4
 ·rw[hne (by omega)];exact h.sk j j0 (by omega)
theorem jhm {p r:List Tl} {t:Tl} {j:Int} {f:Bool}:abT (p++t::r) j f=abT p j f++((if abP j f t=true then [t.1] else [])++abT r j f):=by
 unfold abT
 rw[List.filter_append,List.map_append,List.filter_cons]
 split<;>rfl
theorem j0x {p r:List Tl} {j:Int} {f:Bool}:abT (p++r) j f=abT p j f++abT r j f:=by
 unfold abT
 rw[List.filter_append,List.map_append]
theorem jon {p r:List Tl} {e:Int×Int} {l j:Int} {f:Bool}:(f=false∨l<j→abT (p++(e,l,true)::r) j f=abT (p++(e,l,false)::r) j f)∧(f=true→j≤l→(abT (p++(e,l,true)::r) j f).Perm (e::abT (p++(e,l,false)::r) j f)):=by
 rw[jhm,jhm]
 constructor
 ·intro h
  have:abP j f (e,l,true)=abP j f (e,l,false):=by
   unfold abP
   rcases h with h|h
   ·subst h;rfl
   ·rw[show decide (j≤(e,l,true).2.1)=false from decide_eq_false (by show ¬j≤l;omega)]
    rfl
  rw[this]
 ·intro h1 h2
  subst h1
  have a1:abP j true (e,l,true)=true:=by unfold abP;rw[show decide (j≤(e,l,true).2.1)=true from decide_eq_true h2];rfl
  have a2:¬abP j true (e,l,false)=true:=by unfold abP;simp
  rw[if_pos a1,if_neg a2]
  exact List.perm_middle
theorem MV.found {n:Int} {ts p r:List Tl} {a b k c:Int} {e:Int×Int} (h:MV n ts a b k) (hk:0≤k) (hc:c=a∨c=b) (hsm:szC n (abT ts k true) c+szC n (abT ts k true) c≤n / 2 ^ k.toNat)
 (hr:RaL (fun y=>Conn (abT ts k true) c y) k ts (p++(e,k,false)::r)) (hx:jns (fun y=>Conn (abT ts k true) c y) (e,k,false)):LV n (p++(e,k,true)::r)∧Conn (esT ts) a b∧abT (p++(e,k,true)::r) 0 true=abT (p++(e,k,true)::r) 0 true:=by
 obtain⟨hlv,hup⟩:=h.raise hk hc hsm hr
 have hes:=hr.es
 have hes2:esT (p++(e,k,true)::r)=esT (p++(e,k,false)::r):=by simp[esT]
 have hne:∀{j:Int} {f:Bool},j≠k+1→abT (p++(e,k,false)::r) j f=abT ts j f:=fun hj=>hr.ab hj
 have hsame:∀{j:Int} {f:Bool},f=false∨k<j→abT (p++(e,k,true)::r) j f=abT (p++(e,k,false)::r) j f:=fun hj=>jon.1 hj
 have hperm:∀{j:Int},j≤k→(abT (p++(e,k,true)::r) j true).Perm (e::abT ts j true):=fun {j} hj=>by
  have:=(jon (p:=p) (r:=r) (e:=e) (l:=k) (j:=j) (f:=true)).2 rfl hj
  rwa [hne (by omega)] at this
 have hee:e∈esT ts:=by rw[←hes];simp[esT]
 have hoe:=h.vg.2.2.2.1 e hee
 unfold okE at hoe
 have heA:∀j:Int,j≤k→e∈abT ts j false:=fun j hj=>by
  rw[←hne (j:=j) (by omega)];exact jbn.2 ⟨k,false,by simp,hj,fun h=>by cases h⟩
 have hsides:∀j:Int,0≤j→j≤k→(Conn (abT ts j true) e.1 a∧Conn (abT ts j true) b e.2)∨(Conn (abT ts j true) e.1 b∧Conn (abT ts j true) a e.2):=fun j j0 jk=>by
  have hk':(Conn (abT ts k true) e.1 a∧Conn (abT ts k true) b e.2)∨(Conn (abT ts k true) e.1 b∧Conn (abT ts k true) a e.2):=by
   rcases jb4.1 (h.lo k hk (Int.le_refl _) _ _ (Conn.edge (heA k (Int.le_refl _)))) with h1|h1|h1
   ·exfalso
    rcases hx with⟨h2,h3⟩ | ⟨h2,h3⟩
    ·exact h3 (h2.trans h1)
    ·exact h2 (h3.trans h1.symm)
   ·exact .inl h1
   ·exact .inr h1
  have hm:∀{x y},Conn (abT ts k true) x y→Conn (abT ts j true) x y:=fun hxy=>hxy.mono (jqh jk).subset
  exact hk'.imp (fun h=>⟨hm h.1,hm h.2⟩) fun h=>⟨hm h.1,hm h.2⟩
 have hk4:=h.k4
 have hjoin:∀j:Int,0≤j→j≤k→Conn (e::abT ts j true) a b:=fun j j0 jk=>by
  have hm:∀{x y},Conn (abT ts j true) x y→Conn (e::abT ts j true) x y:=fun hxy=>hxy.mono fun f hf=>List.mem_cons_of_mem _ hf
  have h12:Conn (e::abT ts j true) e.1 e.2:=Conn.edge (by simp)
  rcases hsides j j0 jk with⟨h1,h2⟩ | ⟨h1,h2⟩
  ·exact(hm h1).symm.trans (h12.trans (hm h2).symm)
  ·exact(hm h2).trans (h12.symm.trans (hm h1))
 refine⟨⟨by rw[hes2,hes];exact h.vg,fun t ht=>?_,fun j j0 j4=>?_,fun j j0 j4=>?_,fun j j0 j4=>?_⟩,?_,rfl⟩
 ·rw[List.mem_append,List.mem_cons] at ht
  rcases ht with ht|rfl|ht
  ·exact hlv t (by simp[ht])
  ·have:=hlv (e,k,false) (by simp)
   exact this
  ·exact hlv t (by simp[ht])
 ·by_cases jk:j≤k
  ·refine Tree.perm (es:=e::abT ts j true) ?_ (hperm jk).symm
   refine Tree.add (a:=e.1) (b:=e.2) (h.ac j j0 j4) (by omega) (by omega) fun hcc=>h.nc j j0 j4 ?_
   rcases hsides j j0 jk with⟨h1,h2⟩ | ⟨h1,h2⟩
   ·exact h1.symm.trans (hcc.trans h2.symm)
   ·exact h2.trans (hcc.symm.trans h1)
  ·rw[hsame (.inr (by omega))]
   by_cases e1:j=k+1
   ·subst e1;exact(hup j4).1
   ·rw[hne e1];exact h.ac j j0 j4
 ·by_cases jk:j≤k
  ·intro x y hxy
   rw[hsame (.inl rfl),hne (by omega)] at hxy
   rw[conn_mem fun f=>(hperm jk).mem_iff]
   have hm:∀{x y},Conn (abT ts j true) x y→Conn (e::abT ts j true) x y:=fun hxy=>hxy.mono fun f hf=>List.mem_cons_of_mem _ hf
   have hj:=hjoin j j0 jk
   rcases jb4.1 (h.lo j j0 jk x y hxy) with h1 | ⟨h1,h2⟩ | ⟨h1,h2⟩
   ·exact hm h1
   ·exact(hm h1).trans (hj.trans (hm h2))
   ·exact(hm h1).trans (hj.symm.trans (hm h2))
  ·rw[hsame (.inr (by omega)),hsame (.inr (by omega))]
   by_cases e1:j=k+1
   ·subst e1;exact(hup j4).2.1
   ·rw[hne e1,hne e1];exact h.hi j j0 (by omega) j4
 ·rw[hsame (.inl rfl)]
  by_cases e1:j=k+1
  ·subst e1;exact(hup j4).2.2.2
  ·rw[hne e1];exact h.sz j j0 j4
 ·exact(hjoin 0 (Int.le_refl _) hk).mono fun f hf=>by
   rcases List.mem_cons.1 hf with rfl|hf
   ·exact hee
   ·exact jcd f hf
section
variable (S:Int→Prop) [DecidablePred S] (k:Int)
def up1 (t:Tl):Tl:=if t.2.2=true∧t.2.1=k∧S t.1.1∧S t.1.2 then raT t else t
def scanT:List Tl→List Tl×Int×Bool
 | []=>([],0,false)
 | t::r=>
  if t.2.2=true∨t.2.1≠k∨(¬S t.1.1∧¬S t.1.2) then(t::(scanT r).1,(scanT r).2)
  else if S t.1.1∧S t.1.2 then(raT t::(scanT r).1,(scanT r).2.1+1,(scanT r).2.2)
  else((t.1,t.2.1,true)::r,0,true)
theorem jof:∀ts:List Tl,((scanT S k ts).2.2=false∧(∀t∈ts,t.2.2=false→t.2.1=k→¬jns S t)∧∃f:Tl→Tl,(scanT S k ts).1=ts.map f∧∀t∈ts,f t=if t.2.2=false∧t.2.1=k∧S t.1.1∧S t.1.2 then raT t else t)∨
 ((scanT S k ts).2.2=true∧∃p e r,ts=p++(e,k,false)::r∧jns S (e,k,false)∧∃f:Tl→Tl,(scanT S k ts).1=p.map f++(e,k,true)::r∧∀t∈p,f t=if t.2.2=false∧t.2.1=k∧S t.1.1∧S t.1.2 then raT t else t)
 | []=>.inl ⟨rfl,by simp,id,rfl,by simp⟩
 | t::r=>by
  have g:∀t:Tl,(if t.2.2=false∧t.2.1=k∧S t.1.1∧S t.1.2 then raT t else t)=(fun t:Tl=>if t.2.2=false∧t.2.1=k∧S t.1.1∧S t.1.2 then raT t else t) t:=fun t=>rfl
  have ih:=jof r
  rw[scanT]
  by_cases c1:t.2.2=true∨t.2.1≠k∨(¬S t.1.1∧¬S t.1.2)
  ·rw[if_pos c1]
   have ft:(if t.2.2=false∧t.2.1=k∧S t.1.1∧S t.1.2 then raT t else t)=t:=if_neg fun h=>by
    rcases c1 with h1|h1|h1
    ·rw[h.1] at h1;cases h1
    ·exact h1 h.2.1
    ·exact h1.1 h.2.2.1
   rcases ih with⟨h1,h2,f,h3,h4⟩ | ⟨h1,p,e,q,h2,h3,f,h4,h5⟩
   ·refine .inl ⟨h1,fun s hs hs1 hs2=>?_,fun t=>if t.2.2=false∧t.2.1=k∧S t.1.1∧S t.1.2 then raT t else t,?_,fun _ _=>rfl⟩
    ·rcases List.mem_cons.1 hs with rfl|hs
     ·rintro(⟨h5,h6⟩ | ⟨h5,h6⟩)
      ·rcases c1 with c|c | c
       ·rw[hs1] at c;cases c
       ·exact c hs2
       ·exact c.1 h5
      ·rcases c1 with c|c | c
       ·rw[hs1] at c;cases c
       ·exact c hs2
       ·exact c.2 h6
     ·exact h2 s hs hs1 hs2
    ·rw[List.map_cons,ft,h3]
     exact congrArg _ (List.map_congr_left h4)
   ·refine .inr ⟨h1,t::p,e,q,by rw[h2];rfl,h3,fun t=>if t.2.2=false∧t.2.1=k∧S t.1.1∧S t.1.2 then raT t else t,?_,fun _ _=>rfl⟩
    rw[List.map_cons,ft,h4,List.map_congr_left h5];rfl
  ·rw[if_neg c1]
   have c2:t.2.2=false∧t.2.1=k:=⟨by
    cases h:t.2.2 with
    | false=>rfl
    | true=>exact absurd (.inl h) c1,Classical.byContradiction fun h=>c1 (.inr (.inl h))⟩
   by_cases c3:S t.1.1∧S t.1.2
   ·rw[if_pos c3]
    have ft:(if t.2.2=false∧t.2.1=k∧S t.1.1∧S t.1.2 then raT t else t)=raT t:=if_pos ⟨c2.1,c2.2,c3⟩
    rcases ih with⟨h1,h2,f,h3,h4⟩ | ⟨h1,p,e,q,h2,h3,f,h4,h5⟩
    ·refine .inl ⟨h1,fun s hs hs1 hs2=>?_,fun t=>if t.2.2=false∧t.2.1=k∧S t.1.1∧S t.1.2 then raT t else t,?_,fun _ _=>rfl⟩
     ·rcases List.mem_cons.1 hs with rfl|hs
      ·rintro(⟨h5,h6⟩ | ⟨h5,h6⟩)
       ·exact h6 c3.2
       ·exact h5 c3.1
      ·exact h2 s hs hs1 hs2
     ·rw[List.map_cons,ft,h3]
      exact congrArg _ (List.map_congr_left h4)
    ·refine .inr ⟨h1,t::p,e,q,by rw[h2];rfl,h3,fun t=>if t.2.2=false∧t.2.1=k∧S t.1.1∧S t.1.2 then raT t else t,?_,fun _ _=>rfl⟩
     rw[List.map_cons,ft,h4,List.map_congr_left h5];rfl
   ·rw[if_neg c3]
    obtain⟨e,l,b⟩:=t
    simp only at c1 c2 c3
    obtain⟨rfl,rfl⟩:=c2
    refine .inr ⟨rfl,[],e,r,rfl,?_,id,rfl,by simp⟩
    by_cases s1:S e.1
    ·exact .inl ⟨s1,fun s2=>c3 ⟨s1,s2⟩⟩
    ·exact .inr ⟨s1,Classical.byContradiction fun s2=>c1 (.inr (.inr ⟨s1,s2⟩))⟩
end
section
variable (S:Int→Prop) (k:Int)
theorem jva {ts:List Tl} {f:Tl→Tl} (h:∀t∈ts,Ra S k t (f t)):RaL S k ts (ts.map f):=by
 induction ts with
 | nil=>exact .nil
 | cons t ts ih=>exact .cons (h t (by simp)) (ih fun s hs=>h s (List.mem_cons_of_mem _ hs))
theorem RaL.app {ts ts' us us':List Tl} (h1:RaL S k ts ts') (h2:RaL S k us us'):RaL S k (ts++us) (ts'++us'):=by
 induction h1 with
 | nil=>exact h2
 | cons h _ ih=>exact .cons h ih
end
noncomputable def jdu (n:Int) (F:List (Int×Int)) (a b:Int):Int:=if szC n F b<szC n F a then b else a
noncomputable def jbp (n:Int) (a b:Int) (k:Int) (ts:List Tl):List Tl×Int×Bool:=
 let S:=fun y=>Conn (abT ts k true) (jdu n (abT ts k true) a b) y
 ((scanT S k (ts.map (up1 S k))).1,((ts.filter fun t=>decide (t.2.2=true∧t.2.1=k∧S t.1.1∧S t.1.2)).length:Int)+(scanT S k (ts.map (up1 S k))).2.1,(scanT S k (ts.map (up1 S k))).2.2)
theorem kdy {S:Int→Prop} [DecidablePred S] {k:Int} {ts:List Tl} :
 ((scanT S k (ts.map (up1 S k))).2.2=false∧RaL S k ts (scanT S k (ts.map (up1 S k))).1∧∀t∈ts,t.2.2=false→t.2.1=k→¬jns S t)∨
 ((scanT S k (ts.map (up1 S k))).2.2=true∧∃p e r,(scanT S k (ts.map (up1 S k))).1=p++(e,k,true)::r∧RaL S k ts (p++(e,k,false)::r)∧jns S (e,k,false)):=by
 have h1:∀t:Tl,t.2.2=false→up1 S k t=t:=fun t ht=>if_neg fun h=>by rw[ht] at h;cases h.1
 have h2:∀t:Tl,Ra S k t (up1 S k t):=fun t=>by
  unfold up1
  split
  ·rename_i h;exact⟨.inr ⟨h.2.1,h.2.2.1,h.2.2.2,rfl⟩,fun _ _ _ _=>rfl⟩
  ·rename_i h;exact⟨.inl rfl,fun a b c d=>absurd ⟨a,b,c,d⟩ h⟩
 have h3:∀(f:Tl→Tl) (t:Tl),(f (up1 S k t)=if(up1 S k t).2.2=false∧(up1 S k t).2.1=k∧S (up1 S k t).1.1∧S (up1 S k t).1.2 then raT (up1 S k t) else up1 S k t)→Ra S k t (f (up1 S k t)):=fun f t hf=>by
  rw[hf]
  by_cases ht:t.2.2=true
  ·rw[if_neg fun h=>by
    have:(up1 S k t).2.2=t.2.2:=by unfold up1;split<;>rfl
    rw[this,ht] at h;cases h.1]
   exact h2 t
  ·have ht:t.2.2=false:=by simpa using ht
   rw[h1 t ht]
   split
   ·rename_i h;exact⟨.inr ⟨h.2.1,h.2.2.1,h.2.2.2,rfl⟩,fun q=>by rw[ht] at q;cases q⟩
   ·exact⟨.inl rfl,fun q=>by rw[ht] at q;cases q⟩
 rcases jof S k (ts.map (up1 S k)) with⟨a1,a2,f,a3,a4⟩ | ⟨a1,p,e,r,a2,a3,f,a4,a5⟩
 ·refine .inl ⟨a1,?_,fun t ht ht1 ht2=>?_⟩
  ·rw[a3,List.map_map]
   exact jva S k fun t ht=>h3 f t (a4 _ (List.mem_map.2 ⟨t,ht,rfl⟩))
  ·exact a2 t (List.mem_map.2 ⟨t,ht,h1 t ht1⟩) ht1 ht2
 ·obtain⟨p0,q0,rfl,hp,hq⟩:=List.map_eq_append_iff.1 a2
  obtain⟨t0,r0,rfl,ht,hr⟩:=List.map_eq_cons_iff.1 hq
  have ht0:t0.2.2=false:=by
   have:(up1 S k t0).2.2=t0.2.2:=by unfold up1;split<;>rfl
   rw[←this,ht]
  have hte:t0=(e,k,false):=by rw[←h1 t0 ht0];exact ht
  subst hte
  refine .inr ⟨a1,p.map f,e,r,a4,?_,a3⟩
  rw[←hp,List.map_map,←hr]
  refine RaL.app S k (jva S k fun t ht=>h3 f t (a5 _ (by rw[←hp];exact List.mem_map.2 ⟨t,ht,rfl⟩))) (.cons ⟨.inl rfl,fun q=>by cases q⟩ (jva S k fun t _=>h2 t))
theorem j0y {p r:List Tl} {e:Int×Int} {l:Int} (h:0≤l):(abT (p++(e,l,true)::r) 0 true).length=(abT (p++(e,l,false)::r) 0 true).length+1:=by
 have:=((jon (p:=p) (r:=r) (e:=e) (l:=l) (j:=0) (f:=true)).2 rfl h).length_eq
 rw[this,List.length_cons]
theorem jx6 {S:Int→Prop} [DecidablePred S] {k:Int}:∀ts:List Tl,0≤(scanT S k ts).2.1∧(scanT S k ts).2.1≤ts.length
 | []=>by simp[scanT]
 | t::r=>by
  have ih:=jx6 (S:=S) (k:=k) r
  rw[scanT,List.length_cons]
  split
  ·simp only;omega
  ·split
   ·simp only;omega
   ·simp only;omega
theorem jp3 {n a b k:Int} {ts:List Tl}:0≤(jbp n a b k ts).2.1∧(jbp n a b k ts).2.1≤2*ts.length:=by
 unfold jbp
 simp only
 have h1:=jx6 (S:=fun y=>Conn (abT ts k true) (jdu n (abT ts k true) a b) y) (k:=k) (ts.map (up1 (fun y=>Conn (abT ts k true) (jdu n (abT ts k true) a b) y) k))
 have h2:=List.length_filter_le (fun t:Tl=>decide (t.2.2=true∧t.2.1=k∧Conn (abT ts k true) (jdu n (abT ts k true) a b) t.1.1∧Conn (abT ts k true) (jdu n (abT ts k true) a b) t.1.2)) ts
 rw[List.length_map] at h1
 omega
theorem jev {n a b k:Int} {ts:List Tl} (h:MV n ts a b k) (hk:0≤k):esT (jbp n a b k ts).1=esT ts∧
 (((jbp n a b k ts).2.2=false∧MV n (jbp n a b k ts).1 a b (k-1)∧abT (jbp n a b k ts).1 0 true=abT ts 0 true)∨
  ((jbp n a b k ts).2.2=true∧LV n (jbp n a b k ts).1∧Conn (esT ts) a b∧(abT (jbp n a b k ts).1 0 true).length=(abT ts 0 true).length+1)):=by
 have hc:jdu n (abT ts k true) a b=a∨jdu n (abT ts k true) a b=b:=by unfold jdu;split<;>simp
 have hj:=kac (n:=n) (h.nc k hk h.k4)
 have hs:=h.sk k hk (Int.le_refl _)
 have hsm:szC n (abT ts k true) (jdu n (abT ts k true) a b)+szC n (abT ts k true) (jdu n (abT ts k true) a b)≤n / 2 ^ k.toNat:=by
  unfold jdu
  split<;>omega
 unfold jbp
 simp only
 generalize jdu n (abT ts k true) a b=c at hc hsm
 rcases kdy (S:=fun y=>Conn (abT ts k true) c y) (k:=k) (ts:=ts) with⟨a1,a2,a3⟩ | ⟨a1,p,e,r,a2,a3,a4⟩
 ·exact⟨a2.es,.inl ⟨a1,h.next hk hc hsm a2 a3,a2.ab (by omega)⟩⟩
 ·obtain⟨b1,b2,-⟩:=h.found hk hc hsm a3 a4
  rw[a2]
  refine⟨?_,.inr ⟨a1,b1,b2,?_⟩⟩
  ·rw[←a3.es];simp[esT]
  ·rw[j0y hk,a3.ab (by omega)]
noncomputable def cutR (n a b:Int):Nat→List Tl→List Tl×Int×Bool
 | 0,ts=>(ts,0,false)
 | k+1,ts=>if(jbp n a b k ts).2.2=true then jbp n a b k ts else((cutR n a b k (jbp n a b k ts).1).1,(jbp n a b k ts).2.1+(cutR n a b k (jbp n a b k ts).1).2.1,(cutR n a b k (jbp n a b k ts).1).2.2)
theorem jll {ts us:List Tl} (h:esT ts=esT us):ts.length=us.length:=by
 have:=congrArg List.length h
 unfold esT at this
 simpa using this
theorem jrd {n a b:Int}:∀(k:Nat) {ts:List Tl},MV n ts a b ((k:Int)-1)→esT (cutR n a b k ts).1=esT ts∧LV n (cutR n a b k ts).1∧((cutR n a b k ts).2.2=true↔Conn (esT ts) a b)∧((abT (cutR n a b k ts).1 0 true).length=(abT ts 0 true).length+if(cutR n a b k ts).2.2 then 1 else 0)∧0≤(cutR n a b k ts).2.1∧(cutR n a b k ts).2.1≤2*ts.length*k
 | 0,ts,h0=>by
  have h:LV n ts:=MV.done h0
  refine⟨rfl,h,Iff.intro (fun q=>by cases q) (fun q=>?_),rfl,Int.le_refl _,by simp[cutR]⟩
  exfalso
  refine h0.nc 0 (Int.le_refl _) (by omega) (h.cn 0 (Int.le_refl _) (by omega) a b ?_)
  rw[jvw fun t ht=>(h.lv t ht).1];exact q
 | k+1,ts,h=>by
  have h:MV n ts a b k:=by
   have e:((k+1:Nat):Int)-1=k:=by omega
   rwa [e] at h
  obtain⟨he,h2⟩:=jev h (by omega)
  have hb:=jp3 (n:=n) (a:=a) (b:=b) (k:=k) (ts:=ts)
  have hm:2*(ts.length:Int)*((k+1:Nat):Int)=2*ts.length*k+2*ts.length:=by rw[Int.natCast_add,Int.mul_add];simp
  have hnn:(0:Int)≤2*ts.length*k:=Int.mul_nonneg (by omega) (by omega)
  rw[cutR]
  rcases h2 with⟨a1,a2,a3⟩ | ⟨a1,a2,a3,a4⟩
  ·rw[if_neg (by rw[a1];simp)]
   obtain⟨b1,b2,b3,b4,b5,b6⟩:=jrd k a2
   rw[he] at b1 b3
   rw[a3] at b4
   rw[jll he] at b6
   exact⟨b1,b2,b3,b4,by simp only;omega,by simp only;omega⟩
  ·rw[if_pos a1]
   exact⟨he,a2,⟨fun _=>a3,fun _=>a1⟩,by rw[a4,a1];rfl,hb.1,by omega⟩
theorem jey {p r:List Tl} {e:Int×Int} {l j:Int} {b f:Bool}:(j≤l∧(f=true→b=true)→(abT (p++(e,l,b)::r) j f).Perm (e::abT (p++r) j f))∧(¬(j≤l∧(f=true→b=true))→abT (p++(e,l,b)::r) j f=abT (p++r) j f):=by
 rw[jhm,j0x]
 constructor
 ·rintro⟨h1,h2⟩
  have:abP j f (e,l,b)=true:=by
   unfold abP
   rw[show decide (j≤(e,l,b).2.1)=true from decide_eq_true h1]
   cases f
   ·rfl
   ·rw[show(e,l,b).2.2=true from h2 rfl];rfl
  rw[if_pos this]
  exact List.perm_middle
 ·intro h
  have:¬abP j f (e,l,b)=true:=fun q=>h (by
   unfold abP at q
   rw[Bool.and_eq_true,decide_eq_true_eq,Bool.or_eq_true] at q
   exact⟨q.1,fun hf=>q.2.resolve_left (by rw[hf];simp)⟩)
  rw[if_neg this,List.nil_append]
theorem j3s {p r:List Tl} {t:Tl}:(esT (p++r)).Sublist (esT (p++t::r)):=by
 unfold esT
 refine List.Sublist.map _ ?_
 exact List.Sublist.append_left (List.sublist_cons_self _ _) _
theorem jvm {n:Int} {es fs:List (Int×Int)} {x:Int} (h:∀e∈es,e∈fs):szC n es x≤szC n fs x:=jqa fun z hz=>hz.mono h
theorem LV.cutF {n:Int} {p r:List Tl} {e:Int×Int} {l:Int} (h:LV n (p++(e,l,false)::r)):LV n (p++r):=by
 have hT:∀j:Int,abT (p++(e,l,false)::r) j true=abT (p++r) j true:=fun j=>jey.2 fun q=>by cases q.2 rfl
 have hA:∀j:Int,∀f∈abT (p++r) j false,f∈abT (p++(e,l,false)::r) j false:=fun j f hf=>by
  obtain⟨l',b,hm,h1,h2⟩:=jbn.1 hf
  exact jbn.2 ⟨l',b,by simp only[List.mem_append,List.mem_cons] at hm ⊢;exact hm.imp id .inr,h1,h2⟩
 refine⟨h.vg.sub j3s,fun t ht=>h.lv t (by simp only[List.mem_append,List.mem_cons] at ht ⊢;exact ht.imp id .inr),fun j j0 j4=>?_,fun j j0 j4 x y hxy=>?_,fun j j0 j4 x hx h1=>?_⟩
 ·rw[←hT];exact h.ac j j0 j4
 ·rw[←hT];exact h.cn j j0 j4 x y (hxy.mono (hA j))
 ·have:=jvm (n:=n) (x:=x) (hA j)
  have:=h.sz j j0 j4 x hx (by omega)
  omega
theorem LV.cutT {n:Int} {p r:List Tl} {e:Int×Int} {l:Int} (h:LV n (p++(e,l,true)::r)):MV n (p++r) e.1 e.2 l∧0≤l:=by
 have hel:=h.lv (e,l,true) (by simp)
 simp only at hel
 have hoe:=h.vg.2.2.2.1 e (by simp[esT])
 unfold okE at hoe
 have hP:∀{j:Int} {f:Bool},j≤l→(abT (p++(e,l,true)::r) j f).Perm (e::abT (p++r) j f):=fun hj=>jey.1 ⟨hj,fun _=>rfl⟩
 have hE:∀{j:Int} {f:Bool},¬j≤l→abT (p++(e,l,true)::r) j f=abT (p++r) j f:=fun hj=>jey.2 fun q=>hj q.1
 have hA:∀{j:Int} {f:Bool},∀g∈abT (p++r) j f,g∈abT (p++(e,l,true)::r) j f:=fun {j f} g hg=>by
  obtain⟨l',b,hm,h1,h2⟩:=jbn.1 hg
  exact jbn.2 ⟨l',b,by simp only[List.mem_append,List.mem_cons] at hm ⊢;exact hm.imp id .inr,h1,h2⟩
 have hcut:∀j:Int,0≤j→j≤4→j≤l→Tree n (abT (p++r) j true)∧¬Conn (abT (p++r) j true) e.1 e.2:=fun j j0 j4 jl=>by
  refine Tree.cut ((h.ac j j0 j4).perm (hP jl)) fun f hf=>h.vg.2.2.2.1 f ?_
  exact jcd f ((hP jl).mem_iff.2 hf)
 refine⟨⟨h.vg.sub j3s,fun t ht=>h.lv t (by simp only[List.mem_append,List.mem_cons] at ht ⊢;exact ht.imp id .inr),fun j j0 j4=>?_,fun j j0 jk j4=>?_,fun j j0 jk x y hxy=>?_,fun j j0 j4 hc=>?_,fun j j0 j4 x hx h1=>?_,fun j j0 jk=>?_,⟨hoe.1,by omega⟩,⟨by omega,hoe.2.2⟩,hel.2⟩,hel.1⟩
 ·by_cases jl:j≤l
  ·exact(hcut j j0 j4 jl).1
  ·rw[←hE jl];exact h.ac j j0 j4
 ·have:=h.cn j j0 j4
  rwa [hE (by omega),hE (by omega)] at this
 ·have:=h.cn j j0 (by omega) x y (hxy.mono hA)
  rw[conn_mem fun f=>(hP jk).mem_iff] at this
  exact this
 ·by_cases jl:j≤l
  ·exact(hcut j j0 j4 jl).2 hc
  ·exact(hcut l hel.1 hel.2 (Int.le_refl _)).2 (hc.mono (jqh (by omega)).subset)
 ·have:=jvm (n:=n) (x:=x) (hA (j:=j) (f:=false))
  have:=h.sz j j0 j4 x hx (by omega)
  omega
 ·have h1:szC n ((e.1,e.2)::abT (p++r) j true) e.1≤szC n (abT (p++(e,l,true)::r) j false) e.1:=jvm fun f hf=>jvv f ((hP jk).mem_iff.2 hf)
  have h2:=j6b (n:=n) (es:=abT (p++(e,l,true)::r) j false) (x:=e.1) (u:=e.1) (v:=e.2) ⟨hoe.1,by omega⟩ ⟨by omega,hoe.2.2⟩ (by omega) (.refl _) (Conn.edge ((hP jk).mem_iff.2 (by simp)))
  have:=h.sz j j0 (by omega) e.1 ⟨hoe.1,by omega⟩ (by omega)
  omega
theorem LV.put {n:Int} {p r:List Tl} {e:Int×Int} (h:LV n (p++r)) (hV:VG n (esT (p++(e,0,true)::r))):LV n (p++(e,0,!decide (Conn (esT (p++r)) e.1 e.2))::r):=by
 have hes:∀b:Bool,esT (p++(e,0,b)::r)=esT (p++(e,0,true)::r):=fun b=>by simp[esT]
 have hoe:=hV.2.2.2.1 e (by simp[esT])
 unfold okE at hoe
 have hz:∀t∈p++r,0≤t.2.1:=fun t ht=>(h.lv t ht).1
 generalize hb:(!decide (Conn (esT (p++r)) e.1 e.2))=b
 have hE:∀{j:Int} {f:Bool},¬j=0→0≤j→abT (p++(e,0,b)::r) j f=abT (p++r) j f:=fun hj h0=>jey.2 fun q=>by omega
 have hA:(abT (p++(e,0,b)::r) 0 false).Perm (e::abT (p++r) 0 false):=jey.1 ⟨Int.le_refl _,fun q=>by cases q⟩
 have h0:=jvw hz
 have hcn0:=h.cn 0 (Int.le_refl _) (by omega)
 refine⟨by rw[hes];exact hV,fun t ht=>?_,fun j j0 j4=>?_,fun j j0 j4 x y hxy=>?_,fun j j0 j4 x hx h1=>?_⟩
 ·rw[List.mem_append,List.mem_cons] at ht
  rcases ht with ht|rfl|ht
  ·exact h.lv t (by simp[ht])
  ·simp
  ·exact h.lv t (by simp[ht])
 ·by_cases j1:j=0
  ·subst j1
   cases b with
   | false=>
    rw[(jey (p:=p) (r:=r) (e:=e) (l:=0) (j:=0) (b:=false) (f:=true)).2 fun q=>by cases q.2 rfl]
    exact h.ac 0 j0 j4
   | true=>
    have hp:=(jey (p:=p) (r:=r) (e:=e) (l:=0) (j:=0) (b:=true) (f:=true)).1 ⟨Int.le_refl _,fun _=>rfl⟩
    refine Tree.perm (es:=e::abT (p++r) 0 true) ?_ hp.symm
    refine Tree.add (a:=e.1) (b:=e.2) (h.ac 0 j0 j4) ⟨hoe.1,by omega⟩ ⟨by omega,hoe.2.2⟩ fun hc=>?_
    have:Conn (esT (p++r)) e.1 e.2:=hc.mono jcd
    rw[decide_eq_true this] at hb;cases hb
  ·rw[hE j1 j0];exact h.ac j j0 j4
 ·by_cases j1:j=0
  ·subst j1
   rw[conn_mem fun f=>hA.mem_iff] at hxy
   cases b with
   | false=>
    rw[(jey (p:=p) (r:=r) (e:=e) (l:=0) (j:=0) (b:=false) (f:=true)).2 fun q=>by cases q.2 rfl]
    have hc:Conn (esT (p++r)) e.1 e.2:=by simpa using hb
    refine Conn.via (fun f hf=>?_) hxy
    rcases List.mem_cons.1 hf with rfl|hf
    ·exact hcn0 _ _ (by rw[h0];exact hc)
    ·exact hcn0 _ _ (Conn.edge hf)
   | true=>
    have hp:=(jey (p:=p) (r:=r) (e:=e) (l:=0) (j:=0) (b:=true) (f:=true)).1 ⟨Int.le_refl _,fun _=>rfl⟩
    rw[conn_mem fun f=>hp.mem_iff]
    refine Conn.via (fun f hf=>?_) hxy
    rcases List.mem_cons.1 hf with rfl|hf
    ·exact Conn.edge (by simp)
    ·exact(hcn0 _ _ (Conn.edge hf)).mono fun g hg=>List.mem_cons_of_mem _ hg
  ·rw[hE j1 j0] at hxy ⊢;exact h.cn j j0 j4 x y hxy
 ·by_cases j1:j=0
  ·subst j1
   have:=kgc (n:=n) (es:=abT (p++(e,0,b)::r) 0 false) (x:=x) (by have:=hV.1;omega)
   simpa using this
  ·rw[hE j1 j0] at h1 ⊢;exact h.sz j j0 j4 x hx h1
theorem LV.nil {n:Int} (h1:1≤n) (h2:n≤16):LV n []:=by
 refine⟨⟨h1,h2,by simp[esT],by simp[esT],by simp[esT,Ord]⟩,by simp,fun j _ _=>kah,fun j _ _ x y h=>h,fun j _ _ x hx h=>?_⟩
 exfalso
 have:szC n (abT [] j false) x≤1:=by
  unfold szC
  have:=jan (l:=(iota n).filter fun y=>decide (Conn (abT [] j false) x y)) (m:=[x]) ((jgk n).sublist List.filter_sublist) fun z hz=>by
   simp only[List.mem_filter,decide_eq_true_eq] at hz
   rw[Conn.nil hz.2];simp
  simp only[List.length_singleton] at this
  omega
 omega
end
noncomputable def lbl (es:List (Int×Int)) (x:Int):Int:=(least es x.toNat:Nat)
theorem jsc {n x:Int} {es:List (Int×Int)} (hx:inN n x):(lab n es).getD x.toNat 0=lbl es x:=jee (by omega)
theorem jie {n x:Int} {es:List (Int×Int)} (hx:inN n x):inN n (lbl es x)∧Conn es x (lbl es x)∧lbl es x≤x:=by
 obtain⟨h1,h2,-⟩:=jaz es x.toNat
 have e:((x.toNat:Nat):Int)=x:=Int.toNat_of_nonneg hx.1
 rw[e] at h2
 unfold lbl
 exact⟨by omega,h2.symm,by omega⟩
theorem j45 {n x y:Int} {es:List (Int×Int)} (hx:inN n x) (hy:inN n y):lbl es x=lbl es y↔Conn es x y:=by
 have:=jfz (es:=es) hx hy
 rwa [jsc hx,jsc hy] at this
noncomputable def upN (n:Int) (es:List (Int×Int)) (x:Int):Int:=if lbl es x=x then -1 else(jb2 n (jai es) x (lbl es x)).getD 1 0
noncomputable def wtN (es:List (Int×Int)) (x:Int):Int:=if lbl es x=x then 0 else 1
noncomputable def upsL (n:Int) (es:List (Int×Int)) (i:Int):List Int:=(iota i).map (upN n es)
noncomputable def wtsL (es:List (Int×Int)) (i:Int):List Int:=(iota i).map (wtN es)
abbrev RP (ps ws:List Int):PV:=.agg [LI ps,LI ws]
def jj3 (xs:List (Int×Int)):List (Int×Int):=xs.mergeSort leE
theorem jij (xs:List (Int×Int)):(jj3 xs).length=xs.length:=List.length_mergeSort _
theorem ji9 {xs:List (Int×Int)} {e:Int×Int}:e∈jj3 xs↔e∈xs:=List.mem_mergeSort
theorem ka6 {a b:Int×Int} (h:leE a b=true) (hn:a≠b):lessE a b=true:=by
 rw[jdv]
 unfold leE at h
 rw[decide_eq_true_eq] at h
 have:¬(a.1=b.1∧a.2=b.2):=fun e=>hn (Prod.ext e.1 e.2)
 omega
theorem j0p {xs:List (Int×Int)} (h:xs.Nodup):Ord (jj3 xs):=by
 have h1:(jj3 xs).Pairwise fun a b=>leE a b=true:=List.pairwise_mergeSort (fun a b c h1 h2=>by unfold leE at *;rw[decide_eq_true_eq] at *;omega) (fun a b=>by unfold leE;rw[Bool.or_eq_true,decide_eq_true_eq,decide_eq_true_eq];omega) xs
 have h2:(jj3 xs).Nodup:=(List.mergeSort_perm xs leE).nodup_iff.2 h
 unfold Ord
 exact(h1.and h2).imp fun h=>ka6 h.1 h.2
theorem jf0 {a:Int×Int}:¬lessE a a=true:=by rw[jdv];omega
theorem j5n:∀{l r:List (Int×Int)},Ord l→Ord r→(∀x,x∈l↔x∈r)→l=r
 | [],[],_,_,_=>rfl
 | [],y::r,_,_,h=>by have:=(h y).2 (by simp);simp at this
 | x::l,[],_,_,h=>by have:=(h x).1 (by simp);simp at this
 | x::l,y::r,hl,hr,h=>by
  unfold Ord at hl hr
  rw[List.pairwise_cons] at hl hr
  have hxy:x=y:=by
   rcases List.mem_cons.1 ((h x).1 (by simp)) with e|e
   ·exact e
   ·rcases List.mem_cons.1 ((h y).2 (by simp)) with e' | e'
    ·exact e'.symm
    ·exact absurd (jdw (hl.1 y e') (hr.1 x e)) jf0
  subst hxy
  rw[j5n (l:=l) (r:=r) hl.2 hr.2 fun z=>?_]
  constructor
  ·intro hz
   rcases List.mem_cons.1 ((h z).1 (by simp[hz])) with e|e
   ·exact absurd (hl.1 z hz) (e▸jf0)
   ·exact e
  ·intro hz
   rcases List.mem_cons.1 ((h z).2 (by simp[hz])) with e|e
   ·exact absurd (hr.1 z hz) (e▸jf0)
   ·exact e
@[go_sem] theorem kfd (xs:List Int) (x:Int) (hl:xs.length≤1048576):KP 217 [LI xs,I x] []=some (B (decide (x∈xs)),[],[]):=by
 refine gc func217 ?_
 have Fz:=fz1 results217
 repeat refine go1 ?_
 refine jaa (fun(i:Int) s=>s.ρ 0=LI xs∧s.ρ 1=I x∧s.ρ 5=I i∧0≤i∧i≤xs.length∧x∉xs.take i.toNat) (fun i=>(xs.length-i).toNat) 0 (by simp[upd,jdk]) ?_
 rintro i ⟨ρ,m⟩ ⟨h0,h1,h5,g0,g1,g2⟩
 simp only at h0 h1 h5 g0 g1 g2
 by_cases hi:i<xs.length
 rotate_left
 ·rw[jac (by omega)] at g2
  rw[decide_eq_false g2]
  have Fz:=fz4 results217 h0 h1 h5
  repeat(first|exact trivial|refine go1 ?_)
 have hm:=jab (d:=0) (show i.toNat<xs.length by omega)
 have htk:=jae 0 g0 hi
 generalize hve:xs.getD i.toNat 0=v at hm htk
 by_cases h:v=x
 ·subst h
  rw[decide_eq_true hm]
  have Fz:=fz5 results217 h0 h1 h5 hve
  repeat(first|exact trivial|refine go1 ?_)
 ·have Fz:=fz5 results217 h0 h1 h5 hve
  repeat refine go1 ?_
  refine⟨by omega,by omega,?_,by omega⟩
  rw[htk,List.mem_append,List.mem_singleton]
  exact fun k=>k.elim g2 fun k=>h k.symm
section
def jh7 (F:Un) (a b:Int):Un:=fun c d=>if c=a∧d=b then false else F c d
def jd2 (F:Un):List Int→Un
 | a::b::r=>jd2 (jh7 F a b) (b::r)
 | _=>F
theorem jws {F:Un} {a b c d:Int} (h:jh7 F a b c d=true):F c d=true:=by
 unfold jh7 at h;split at h
 ·cases h
 ·exact h
theorem jpl:∀{p:List Int} {F:Un} {c d:Int},jd2 F p c d=true→F c d=true
 | [],F,c,d,h=>h
 | [a],F,c,d,h=>h
 | a::b::r,F,c,d,h=>jws (jpl (p:=b::r) h)
theorem jri:∀{p:List Int} {F:Un} {c d:Int},F c d=false→jd2 F p c d=false
 | p,F,c,d,h=>by
  cases k:jd2 F p c d with
  | false=>rfl
  | true=>rw[jpl k] at h;cases h
theorem jnv {a b:Int}:∀{l:List Int} {F:Un},jd2 F (l++[a,b])=jh7 (jd2 F (l++[a])) a b
 | [],F=>rfl
 | [c],F=>rfl
 | c::d::l,F=>by
  have:=jnv (a:=a) (b:=b) (l:=d::l) (F:=jh7 F c d)
  simpa[jd2] using this
theorem jnw {F:Un} {p:List Int} {i:Nat} (h0:0<i) (h1:i<p.length):jd2 F (p.take (i+1))=jh7 (jd2 F (p.take i)) (p.getD (i-1) 0) (p.getD i 0):=by
 obtain⟨k,rfl⟩:∃k,i=k+1:=⟨i-1,by omega⟩
 have e1:p.take (k+1)=p.take k++[p.getD k 0]:=by rw[List.take_add_one];simp[show k<p.length by omega]
 have e2:p.take (k+1+1)=p.take k++[p.getD k 0,p.getD (k+1) 0]:=by
  rw[List.take_add_one,e1];simp[h1]
 rw[e1,e2,jnv];rfl
theorem OKF.sub {es:List (Int×Int)} {F G:Un} (h:OKF es F) (hs:∀a b,G a b=true→F a b=true):OKF es G:=
 ⟨fun a b k=>h.adj a b (hs a b k),fun a b k=>by
  cases q:G b a with
  | false=>rfl
  | true=>have:=h.one a b (hs a b k);rw[hs b a q] at this;cases this⟩
theorem jup {F:Un} {a b:Int} (h:F a b=true):jh7 F a b=jb0 F b a:=by
 funext c d
 unfold jh7 jb0
 rw[if_pos h]
theorem jyj {n:Int} {es:List (Int×Int)} {S:Int→Bool} (ho:∀e∈es,okE n e) (hn:es.Nodup):∀{p:List Int} {F:Un},0<p.length→p.Nodup→OKF es F→Steps (fun a b=>F a b=true) p→
 val S (jd2 F p) es=val S F es+(b2i (S (p.getD (p.length-1) 0))-b2i (S (p.getD 0 0)))
 | [],F,h,_,_,_=>by simp at h
 | [a],F,_,_,_,_=>by simp[jd2]
 | a::b::r,F,_,hp,hF,hs=>by
  rw[List.nodup_cons] at hp
  have hs':Steps (fun c d=>jh7 F a b c d=true) (b::r):=hs.2.mono fun c d hc hd h=>by
   unfold jh7
   rw[if_neg (fun k:c=a∧d=b=>hp.1 (by rw[←k.1];exact hc))];exact h
  rw[jd2,jyj ho hn (p:=b::r) (by simp) hp.2 (hF.sub fun _ _=>jws) hs',jup hs.1,jyk ho hn (hF.adj a b hs.1).symm (hF.one a b hs.1),jgz]
  simp only[List.getD_cons_zero]
  omega
theorem kej {es:List (Int×Int)} {S:Int→Bool} {F:Un} (h:∀a b,Adj es a b→S a=true→S b=false→F a b=false):val S F es≤0:=by
 have:=j6a (f:=jcy S F) (g:=fun _=>0) (es:=es) fun e he=>by
  have h1:=h e.1 e.2 (Or.inl he)
  have h2:=h e.2 e.1 (Or.inr he)
  unfold jcy b2i
  cases a1:S e.1<;>cases a2:S e.2<;>simp_all<;>split<;>omega
 have e0:(es.map fun _:Int×Int=>(0:Int)).sum=0:=by
  clear this h
  induction es with
  | nil=>rfl
  | cons e es ih=>simpa using ih
 unfold val
 omega
def dpF (n:Int) (es:List (Int×Int)) (x y:Int):Nat→Un
 | 0=>flU n es x y
 | k+1=>jd2 (dpF n es x y k) (wayL n (bfs n es (dpF n es x y k) x).1 x y)
def dpP (n:Int) (es:List (Int×Int)) (x y:Int) (k:Nat):List Int:=wayL n (bfs n es (dpF n es x y k) x).1 x y
section
variable {n:Int} {es:List (Int×Int)} {x y:Int}
theorem j3h (ho:∀e∈es,okE n e) (hx:0≤x∧x<n) {F:Un} {k:Int} (hy:0≤y∧y<n) (hk:0<k) (hv:∀S:Int→Bool,S x=true→S y=false→val S F es=k):y∈(bfs n es F x).2:=by
 refine Classical.byContradiction fun hno=>?_
 have hB:=jiy (goes:=F) ho hx
 have hxm:x∈(bfs n es F x).2:=by
  have:=jab (d:=0) hB.pos
  rw[hB.hd] at this;exact this
 have h1:=hv (fun v=>decide (v∈(bfs n es F x).2)) (by simpa using hxm) (by simpa using hno)
 have h2:=kej (es:=es) (S:=fun v=>decide (v∈(bfs n es F x).2)) (F:=F) fun a b hab ha hb=>by
  simp only[decide_eq_true_eq,decide_eq_false_iff_not] at ha hb
  cases q:F a b with
  | false=>rfl
  | true=>exact absurd (jnf ho hx ha hab q) hb
 omega
theorem j3e (ho:∀e∈es,okE n e) (hn:es.Nodup) (hx:0≤x∧x<n) (hy:0≤y∧y<n) (hxy:x≠y):∀k,k≤flN n es x y→OKF es (dpF n es x y k)∧∀S:Int→Bool,S x=true→S y=false→val S (dpF n es x y k) es=(flN n es x y:Int)-k
 | 0,_=>by
  obtain⟨h1,h2⟩:=jls ho hn hx _ (jd4 ho hn hx hxy).2.1
  exact⟨h1,fun S a b=>by rw[dpF,flU,h2 S a b];omega⟩
 | k+1,hk=>by
  obtain⟨h1,h2⟩:=j3e ho hn hx hy hxy k (by omega)
  have hm:=j3h (k:=(flN n es x y:Int)-k) ho hx hy (by omega) h2
  have hw:=jiz ho hx hm
  have hst:Steps (fun a b=>dpF n es x y k a b=true) (wayL n (bfs n es (dpF n es x y k) x).1 x y):=Steps.of fun i hi=>(hw.st i hi).2
  refine⟨h1.sub fun _ _=>jpl,fun S hSx hSy=>?_⟩
  rw[dpF,jyj ho hn hw.pos hw.nd h1 hst,h2 S hSx hSy,hw.hd,hw.la,hSx,hSy]
  simp only[b2i,if_true,Bool.false_eq_true,if_false]
  omega
theorem j3f (ho:∀e∈es,okE n e) (hn:es.Nodup) (hx:0≤x∧x<n) (hy:0≤y∧y<n) (hxy:x≠y) {k:Nat} (hk:k<flN n es x y):y∈(bfs n es (dpF n es x y k) x).2:=
 j3h (k:=(flN n es x y:Int)-k) ho hx hy (by omega) (j3e ho hn hx hy hxy k (by omega)).2
theorem j3g (ho:∀e∈es,okE n e) (hn:es.Nodup) (hx:0≤x∧x<n) (hy:0≤y∧y<n) (hxy:x≠y) {k:Nat} (hk:k<flN n es x y):Way es (dpF n es x y k) x y (dpP n es x y k):=
 jiz ho hx (j3f ho hn hx hy hxy hk)
def keepS (S:Int→Bool) (es:List (Int×Int)):List (Int×Int):=es.filter fun e=>S e.1 == S e.2
end
end
section
section
variable {n:Int} {es:List (Int×Int)} {x y:Int}
theorem j20 {S:Int→Bool}:cutsz (fun v=>!S v) es=cutsz S es:=by
 unfold cutsz
 congr 1
 refine List.filter_congr fun e _=>?_
 show((!S e.1) != (!S e.2))=(S e.1 != S e.2)
 cases S e.1<;>cases S e.2<;>rfl
theorem jju (ho:∀e∈es,okE n e) (hn:es.Nodup) (hx:0≤x∧x<n) (hy:0≤y∧y<n) (hxy:x≠y):flN n es x y≤flN n es y x:=by
 rw[←jwx ho hn hy (fun e=>hxy e.symm),←j20]
 refine juu ho hn hx hxy ?_ ?_
 ·simpa using j50 ho hn hy (fun e=>hxy e.symm)
 ·simpa using j5z ho hy
theorem jrw (ho:∀e∈es,okE n e) (hn:es.Nodup) (hx:0≤x∧x<n) (hy:0≤y∧y<n) (hxy:x≠y):flN n es x y=flN n es y x:=
 Nat.le_antisymm (jju ho hn hx hy hxy) (jju ho hn hy hx fun e=>hxy e.symm)
theorem jgg (ho:∀e∈es,okE n e) (hn:es.Nodup) (hx:0≤x∧x<n) (hy:0≤y∧y<n) (hxy:x≠y):flN n es x y≤(nbS x es).length∧flN n es x y≤(nbS y es).length:=by
 refine⟨(jd4 ho hn hx hxy).2.2,?_⟩
 rw[jrw ho hn hx hy hxy]
 exact(jd4 ho hn hy fun e=>hxy e.symm).2.2
open Classical in
open Classical in
open Classical in
open Classical in
end
def wk (n:Int) (es:List (Int×Int)):Nat→Nat
 | 0=>40
 | k+1=>min (wk n es k) (flN n es 0 ((k:Nat)+1:Int))
theorem kan {n:Int} {es:List (Int×Int)}:∀{k:Nat} {y:Int},1≤y→y≤k→wk n es k≤flN n es 0 y
 | 0,y,h0,h1=>by omega
 | k+1,y,h0,h1=>by
  rw[wk]
  by_cases h:y≤k
  ·have:=kan (n:=n) (es:=es) h0 h;omega
  ·have:y=(k:Nat)+1:=by omega
   rw[this];omega
theorem kgi {n:Int} {es:List (Int×Int)}:∀{k:Nat},wk n es k=40∨∃y:Int,1≤y∧y≤k∧wk n es k=flN n es 0 y
 | 0=>.inl rfl
 | k+1=>by
  rw[wk]
  by_cases h:wk n es k≤flN n es 0 ((k:Nat)+1:Int)
  ·rw[Nat.min_eq_left h]
   rcases kgi (n:=n) (es:=es) (k:=k) with h1 | ⟨y,a,b,c⟩
   ·exact .inl h1
   ·exact .inr ⟨y,a,by omega,c⟩
  ·rw[Nat.min_eq_right (by omega)]
   exact .inr ⟨(k:Nat)+1,by omega,by omega,rfl⟩
def weak (n:Int) (es:List (Int×Int)):Nat:=wk n es (n-1).toNat
theorem kek {n:Int} {es:List (Int×Int)} {x y:Int} (ho:∀e∈es,okE n e) (hn:es.Nodup) (hx:0≤x∧x<n) (hy:0≤y∧y<n) (hxy:x≠y):weak n es≤flN n es x y:=by
 have hc:=jwx ho hn hx hxy
 have h1:=j5z (y:=y) ho hx
 have h2:=j50 ho hn hx hxy
 rw[←hc]
 by_cases h0:(0:Int)∈jvi n es x y
 ·have hy0:y≠0:=fun e=>h2 (e▸h0)
  refine Nat.le_trans (kan (y:=y) (by omega) (by omega)) ?_
  exact juu ho hn (by omega) (fun e=>hy0 e.symm) (by simpa using h0) (by simpa using h2)
 ·have hx0:x≠0:=fun e=>h0 (e▸h1)
  refine Nat.le_trans (kan (y:=x) (by omega) (by omega)) ?_
  rw[jrw ho hn (by omega) hx (fun e=>hx0 e.symm)]
  exact juu ho hn hx hx0 (by simpa using h1) (by simpa using h0)
theorem jqd {n:Int} {es:List (Int×Int)} (ho:∀e∈es,okE n e) (hn:es.Nodup) (h2:2≤n) (h16:n≤16):∃y:Int,1≤y∧y<n∧weak n es=flN n es 0 y:=by
 rcases kgi (n:=n) (es:=es) (k:=(n-1).toNat) with h | ⟨y,a,b,c⟩
 ·have h1:=kan (n:=n) (es:=es) (k:=(n-1).toNat) (y:=1) (by omega) (by omega)
  have h3:=(jd4 (n:=n) (es:=es) (x:=0) (y:=1) ho hn (by omega) (by omega)).2.2
  have h4:=j24 (x:=0) ho hn
  omega
 ·exact⟨y,a,by omega,c⟩
end

section
theorem jfy {g:Int→Int→Bool} {a:Int}:∀{vs:List Int} {st:List Int×List Int},vs.foldl (look g a) st=(vs.filter fun v=>g a v).foldl (look g a) st
 | [],st=>rfl
 | v::vs,st=>by
  rw[List.foldl_cons,List.filter_cons]
  cases h:g a v with
  | true=>simp only[if_true,List.foldl_cons];exact jfy
  | false=>
   have e:look g a st v=st:=by unfold look;rw[if_neg (fun k=>by rw[h] at k;exact absurd k.2 (by decide))]
   rw[e]
   simp only[Bool.false_eq_true,if_false]
   exact jfy
section
variable {n:Int} {es:List (Int×Int)}
theorem j0u {F:Un} (ho:∀e∈es,okE n e) (hn:es.Nodup) (hF:OKF es F) (a:Int):((iota n).filter fun v=>F a v)=(nbS a es).filter fun v=>F a v:=by
 refine jgo ((jd0 n).sublist List.filter_sublist) ((jgp ho hn a).sublist List.filter_sublist) fun v=>?_
 rw[List.mem_filter,List.mem_filter,mem_iota,ja8 ho]
 constructor
 ·rintro⟨_,h⟩;exact⟨hF.adj a v h,h⟩
 ·rintro⟨h1,h⟩
  have:=h1.ok ho
  exact⟨⟨by omega,by omega⟩,h⟩
theorem j0t {F:Un} (ho:∀e∈es,okE n e) (hn:es.Nodup) (hF:OKF es F) (a:Int) (st:List Int×List Int):(iota n).foldl (look F a) st=(nbS a es).foldl (look F a) st:=by
 rw[jfy,j0u ho hn hF,←jfy]
def Free (F:Un) (e:Int×Int):Prop:=F e.1 e.2=false∧F e.2 e.1=false
theorem Free.edge {F:Un} {a b:Int} (h1:F a b=false) (h2:F b a=false):Free F (edgeOf a b):=by
 rcases jbc (x:=a) (y:=b) with h|h
 ·rw[h];exact⟨h1,h2⟩
 ·rw[h];exact⟨h2,h1⟩
theorem Free.drop {F:Un} {p:List Int} {e:Int×Int} (h:Free F e):Free (jd2 F p) e:=⟨jri h.1,jri h.2⟩
end
end
end Go.Proofs.YtnaaceooknghjaaGreatDoor.X
