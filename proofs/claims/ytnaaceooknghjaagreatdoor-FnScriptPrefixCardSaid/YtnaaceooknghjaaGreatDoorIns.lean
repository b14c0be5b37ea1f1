/- What functions answer, and the plain laws behind it. -/
import Derived.Test.YtnaaceooknghjaaGreatDoorKAA
import Derived.Lib.Overlaps
import Derived.Lib.AppendZerosOnto
namespace Go.Proofs.YtnaaceooknghjaaGreatDoor.X
open Go
section
variable {P:Program}
theorem j2p {w:World} {h o q:Nat} {cur:Array Value} {E:TypeId} (hh:w.heap[h]?=some (.cells cur E (0,0))) (j:Nat) (v:Value) (hj:((cur.toList.drop o).take q)[j]?=some v):w.cell? ⟨h,o+j,none⟩=some v:=by
 rw[List.getElem?_take] at hj
 split at hj
 ·rw[List.getElem?_drop] at hj
  simpa[World.cell?,hh] using hj
 ·cases hj
theorem jib {k:Nat} {w:World} {h o q c:Nat} {cur:Array Value} {E:TypeId} (hh:w.heap[h]?=some (.cells cur E (0,0))) (hs:o+q*k≤cur.size) (l:Nat) :
 (Builtin.firstCells k q (.slice (some ⟨h,o,none⟩) l c)).run P w=.ok ((cur.toList.drop o).take (q*k)).toArray w:=by
 have:=jbs (P:=P) (k:=k) (n:=q) (ao:=some ⟨h,o,none⟩) (c:=c) (W:=w) ((cur.toList.drop o).take (q*k)) (by simp;omega) fun _=>⟨h,o,rfl,fun j v hj=>j2p hh j v hj⟩
 exact this
theorem jbq (w:World) (t ty e:TypeId) (hu:P.underlying t=some (.slice e)) (k:Nat) (hz:szOf P e=some k) (g o1 l1 c1 h o2 l2 c2 q:Nat) (hq:Nat.min l2 l1=q)
 (cur scur:Array Value) (E E':TypeId) (hg:w.heap[g]?=some (.cells cur E (0,0))) (hh:w.heap[h]?=some (.cells scur E' (0,0)))
 (hl:o1+q*k≤cur.size) (hs:o2+q*k≤scur.size) (h1:∀v∈(scur.toList.drop o2).take (q*k),v.oneCell'=true) :
 (Builtin.copy_ #[t,t] ty #[.slice (some ⟨g,o1,none⟩) l1 c1,.slice (some ⟨h,o2,none⟩) l2 c2]).run P w=.ok (goInt q) (w.setRow g (splice cur.toList o1 ((scur.toList.drop o2).take (q*k))).toArray):=by
 have hst:=jc3 (P:=P) g o1 E ((scur.toList.drop o2).take (q*k)) cur w hg (by simp;omega) h1
 have hf:=jib (P:=P) (k:=k) (q:=q) (c:=c2) hh hs l2
 simp[Builtin.copy_,run_underlying hu,Builtin.lenOf,jbl hz,hq,hf,hst]
theorem mulk {a b k:Nat} (h:a<b):a*k+k≤b*k:=by
 have:(a+1)*k≤b*k:=Nat.mul_le_mul_right _ h
 rwa [Nat.add_mul,Nat.one_mul] at this
theorem j03 {cur:Array Value} {b k:Nat} {xs:List (List IV)} {R:IV→Value→Prop} (hk:0<k)
 (hc:∀(i:Nat) (e:List IV),xs[i]?=some e→e.length=k∧∀(j:Nat) (p:IV),e[j]?=some p→∃x:Value,cur[(b+i)*k+j]?=some x∧x.oneCell'=true∧R p x) :
 ∀v∈(cur.toList.drop (b*k)).take (xs.length*k),v.oneCell'=true:=by
 intro v hv
 obtain⟨q,hq⟩:=List.mem_iff_getElem?.1 hv
 rw[List.getElem?_take] at hq
 split at hq
 ·rename_i hlt
  rw[List.getElem?_drop] at hq
  have hi:q / k<xs.length:=Nat.div_lt_of_lt_mul (by rw[Nat.mul_comm];exact hlt)
  obtain⟨h1,h2⟩:=hc (q / k) _ (List.getElem?_eq_getElem hi)
  have hj:q % k<(xs[q / k]).length:=by rw[h1];exact Nat.mod_lt _ hk
  obtain⟨x,hx,ho,_⟩:=h2 (q % k) _ (List.getElem?_eq_getElem hj)
  have e:(b+q / k)*k+q % k=b*k+q:=by
   rw[Nat.add_mul,Nat.add_assoc,Nat.mul_comm (q / k) k,Nat.div_add_mod]
  rw[e] at hx
  rw[Array.getElem?_toList,hx] at hq
  cases hq
  exact ho
 ·cases hq
structure InsRow (k i n:Nat) (cur:Array Value) (o:Nat) (vcur:Array Value) (vo:Nat) (L:Array Value) (B:Nat):Prop where
 lo:∀q j,q<i→j<k→L[B+q*k+j]?=cur[o+q*k+j]?
 at_:∀j,j<k→L[B+i*k+j]?=vcur[vo+j]?
 hi:∀q j,i<q→q≤n→j<k→L[B+q*k+j]?=cur[o+(q-1)*k+j]?
theorem InsRow.holds {m':Mem} {γ':Nat→GB} {F:Nat→Prop} {w w':World} {G G1 G':GB} {v' k i:Nat} {xs:List (List IV)} {x:List IV} {cur vcur L:Array Value} {E:TypeId} (hk:0<k) (hi:i<xs.length)
 (hc:∀(i:Nat) (e:List IV),xs[i]?=some e→e.length=k∧∀(j:Nat) (p:IV),e[j]?=some p→∃x:Value,cur[(G.b+i)*k+j]?=some x∧x.oneCell'=true∧RepI F w p x)
 (hvc:∀(i:Nat) (e:List IV),[x][i]?=some e→e.length=k∧∀(j:Nat) (p:IV),e[j]?=some p→∃x:Value,vcur[(G1.b+i)*k+j]?=some x∧x.oneCell'=true∧RepI F w p x)
 (hag:jfi F w w') (hR:InsRow k i xs.length cur (G.b*k) vcur (G1.b*k) L (G'.b*k)) (hb:w'.heap[G'.g]?=some (.cells L E (0,0))) (hs:(G'.b+G'.cap)*k≤L.size) (hn:xs.length+1≤G'.cap) (hm:G'.b+G'.cap≤maxLen) :
 Holds m' γ' F w' G' (.arr v' k (xs.take i++x::xs.drop i)):=by
 refine⟨L,E,hb,hs,by simp;omega,hm,fun q e hq=>?_⟩
 rcases Nat.lt_trichotomy q i with h|h | h
 ·rw[List.getElem?_append_left (by simp;omega),List.getElem?_take_of_lt h] at hq
  obtain⟨h1,h2⟩:=hc q e hq
  refine⟨h1,fun j p hp=>?_⟩
  obtain⟨y,hy,ho,hr⟩:=h2 j p hp
  have hj:j<k:=by rw[←h1];exact(List.getElem?_eq_some_iff.1 hp).1
  refine⟨y,?_,ho,hr.mono (fun _ h=>h) hag⟩
  rw[Nat.add_mul,hR.lo q j h hj,←Nat.add_mul];exact hy
 ·subst h
  rw[List.getElem?_append_right (by simp;omega)] at hq
  rw[List.length_take,Nat.min_eq_left (by omega),Nat.sub_self,List.getElem?_cons_zero] at hq
  obtain⟨h1,h2⟩:=hvc 0 e hq
  refine⟨h1,fun j p hp=>?_⟩
  obtain⟨y,hy,ho,hr⟩:=h2 j p hp
  have hj:j<k:=by rw[←h1];exact(List.getElem?_eq_some_iff.1 hp).1
  refine⟨y,?_,ho,hr.mono (fun _ h=>h) hag⟩
  rw[Nat.add_mul,hR.at_ j hj];exact hy
 ·have hql:q<(xs.take i++x::xs.drop i).length:=(List.getElem?_eq_some_iff.1 hq).1
  simp only[List.length_append,List.length_take,List.length_cons,List.length_drop] at hql
  obtain⟨d,rfl⟩:∃d,q=i+d+1:=⟨q-i-1,by omega⟩
  rw[List.getElem?_append_right (by simp;omega)] at hq
  rw[List.length_take,Nat.min_eq_left (by omega),show i+d+1-i=d+1 by omega,List.getElem?_cons_succ,List.getElem?_drop] at hq
  obtain⟨h1,h2⟩:=hc (i+d) e hq
  refine⟨h1,fun j p hp=>?_⟩
  obtain⟨y,hy,ho,hr⟩:=h2 j p hp
  have hj:j<k:=by rw[←h1];exact(List.getElem?_eq_some_iff.1 hp).1
  refine⟨y,?_,ho,hr.mono (fun _ h=>h) hag⟩
  rw[Nat.add_mul,hR.hi (i+d+1) j h (by omega) hj,←Nat.add_mul];exact hy
theorem juz {k i n o vo:Nat} {cur vcur:Array Value} (hk:0<k) (hi:i<n) (hl:o+(n+1)*k≤cur.size) (hvl:vo+k≤vcur.size) :
 InsRow k i n cur o vcur vo (splice (splice cur.toList (o+(i+1)*k) ((cur.toList.drop (o+i*k)).take ((n-i)*k))) (o+i*k) ((vcur.toList.drop vo).take k)).toArray o:=by
 have hn:(n+1)*k=n*k+k:=by rw[Nat.add_mul,Nat.one_mul]
 have hi1:(i+1)*k=i*k+k:=by rw[Nat.add_mul,Nat.one_mul]
 have hni:(n-i)*k=n*k-i*k:=Nat.sub_mul ..
 have hin:=mulk (k:=k) hi
 have hl1:((cur.toList.drop (o+i*k)).take ((n-i)*k)).length=(n-i)*k:=by simp;omega
 have hl2:((vcur.toList.drop vo).take k).length=k:=by simp;omega
 have f1:o+(i+1)*k+((cur.toList.drop (o+i*k)).take ((n-i)*k)).length≤cur.toList.length:=by rw[hl1];simp;omega
 have f2:o+i*k+((vcur.toList.drop vo).take k).length≤(splice cur.toList (o+(i+1)*k) ((cur.toList.drop (o+i*k)).take ((n-i)*k))).length:=by rw[jad _ _ _ f1,hl2];simp;omega
 have key:∀p,(splice (splice cur.toList (o+(i+1)*k) ((cur.toList.drop (o+i*k)).take ((n-i)*k))) (o+i*k) ((vcur.toList.drop vo).take k)).toArray[p]?=
  if o+i*k≤p∧p<o+i*k+k then vcur[vo+(p-(o+i*k))]? else if o+(i+1)*k≤p∧p<o+(n+1)*k then cur[p-k]? else cur[p]?:=fun p=>by
  rw[List.getElem?_toArray,getElem?_splice _ _ _ _ f2,getElem?_splice _ _ _ _ f1,hl1,hl2]
  split
  ·rw[List.getElem?_take_of_lt (by omega),List.getElem?_drop,Array.getElem?_toList]
  ·rw[show o+(i+1)*k+(n-i)*k=o+(n+1)*k by omega]
   split
   ·rw[List.getElem?_take_of_lt (by omega),List.getElem?_drop,Array.getElem?_toList]
    congr 1;omega
   ·rw[Array.getElem?_toList]
 refine⟨fun q j hq hj=>?_,fun j hj=>?_,fun q j h1 h2 hj=>?_⟩
 ·have:=mulk (k:=k) hq
  rw[key,if_neg (by omega),if_neg (by omega)]
 ·rw[key,if_pos (by omega)]
  congr 1;omega
 ·have a1:=mulk (k:=k) h1
  have a2:q*k≤n*k:=Nat.mul_le_mul_right _ h2
  have a3:(q-1)*k=q*k-k:=by rw[Nat.sub_mul,Nat.one_mul]
  rw[key,if_neg (by omega),if_pos (by omega)]
  congr 1;omega
theorem juy {k i n o vo:Nat} {cur vcur ROW:Array Value} (hk:0<k) (hi:i<n) (hl:o+n*k≤cur.size) (hvl:vo+k≤vcur.size) (hR:(n+1)*k≤ROW.size) (ht:ROW.toList.take (i*k)=(cur.toList.drop o).take (i*k)) :
 InsRow k i n cur o vcur vo (splice (splice ROW.toList (i*k) ((vcur.toList.drop vo).take k)) ((i+1)*k) ((cur.toList.drop (o+i*k)).take ((n-i)*k))).toArray 0:=by
 have hn:(n+1)*k=n*k+k:=by rw[Nat.add_mul,Nat.one_mul]
 have hi1:(i+1)*k=i*k+k:=by rw[Nat.add_mul,Nat.one_mul]
 have hni:(n-i)*k=n*k-i*k:=Nat.sub_mul ..
 have hin:=mulk (k:=k) hi
 have hl1:((cur.toList.drop (o+i*k)).take ((n-i)*k)).length=(n-i)*k:=by simp;omega
 have hl2:((vcur.toList.drop vo).take k).length=k:=by simp;omega
 have f1:i*k+((vcur.toList.drop vo).take k).length≤ROW.toList.length:=by rw[hl2];simp;omega
 have f2:(i+1)*k+((cur.toList.drop (o+i*k)).take ((n-i)*k)).length≤(splice ROW.toList (i*k) ((vcur.toList.drop vo).take k)).length:=by rw[jad _ _ _ f1,hl1];simp;omega
 have key:∀p,(splice (splice ROW.toList (i*k) ((vcur.toList.drop vo).take k)) ((i+1)*k) ((cur.toList.drop (o+i*k)).take ((n-i)*k))).toArray[p]?=
  if(i+1)*k≤p∧p<(n+1)*k then cur[o+p-k]? else if i*k≤p∧p<i*k+k then vcur[vo+(p-i*k)]? else ROW[p]?:=fun p=>by
  rw[List.getElem?_toArray,getElem?_splice _ _ _ _ f2,getElem?_splice _ _ _ _ f1,hl1,hl2]
  rw[show(i+1)*k+(n-i)*k=(n+1)*k by omega]
  split
  ·rw[List.getElem?_take_of_lt (by omega),List.getElem?_drop,Array.getElem?_toList]
   congr 1;omega
  ·split
   ·rw[List.getElem?_take_of_lt (by omega),List.getElem?_drop,Array.getElem?_toList]
   ·rw[Array.getElem?_toList]
 refine⟨fun q j hq hj=>?_,fun j hj=>?_,fun q j h1 h2 hj=>?_⟩
 ·have:=mulk (k:=k) hq
  rw[Nat.zero_add,key,if_neg (by omega),if_neg (by omega)]
  have e:=congrArg (fun l:List Value=>l[q*k+j]?) ht
  rw[List.getElem?_take_of_lt (by omega),List.getElem?_take_of_lt (by omega),List.getElem?_drop,Array.getElem?_toList,Array.getElem?_toList] at e
  rw[e,Nat.add_assoc]
 ·rw[Nat.zero_add,key,if_neg (by omega),if_pos (by omega)]
  congr 1;omega
 ·have a1:=mulk (k:=k) h1
  have a2:q*k≤n*k:=Nat.mul_le_mul_right _ h2
  have a3:(q-1)*k=q*k-k:=by rw[Nat.sub_mul,Nat.one_mul]
  rw[Nat.zero_add,key,if_pos (by omega)]
  congr 1;omega
end
theorem jjy {ps:List Arr} (h:ps.length≤1000):mq ps []=mp ps:=by
 funext s
 unfold mq mp
 by_cases h2:2000≤s
 ·rw[if_pos h2,if_pos (by omega)]
  rw[List.getElem?_eq_none (by simp),List.getElem?_eq_none (by omega)]
 ·rw[if_neg h2]
theorem ka8 {A B C:Arr} {s:Nat} (h:mp [A,B] s=some C):(s=1000∧C=A)∨(s=1001∧C=B):=by
 unfold mp at h
 split at h
 ·have:=(List.getElem?_eq_some_iff.1 h).1
  simp only[List.length_cons,List.length_nil] at this
  have:s=1000∨s=1001:=by omega
  rcases this with rfl|rfl
  ·simp at h;exact .inl ⟨rfl,h.symm⟩
  ·simp at h;exact .inr ⟨rfl,h.symm⟩
 ·cases h
theorem kbg {A A' B:Arr}:upd (mp [A,B]) 1000 (some A')=mp [A',B]:=by
 funext s
 unfold upd mp
 by_cases h:s=1000
 ·subst h;simp
 ·rw[if_neg h]
  split
  ·obtain⟨d,hd⟩:∃d,s-1000=d+1:=⟨s-1001,by omega⟩
   rw[hd];rfl
  ·rfl
theorem Inv.heap_eq {P:Program} {m:Mem} {γ:Nat→GB} {F:Nat→Prop} {w w':World} (h:w'.heap=w.heap) (hi:Inv m γ F w):Inv m γ F w':=by
 have hag:jfi F w w':=fun _ _=>by rw[h]
 exact⟨fun s A hA=>(hi.holds s A hA).step (MemStep.refl m γ) (fun _ h=>h) hag (by rw[h]),hi.notF,hi.dist,fun b hb=>by rw[h];exact hi.bound b hb,hi.glob.mono (fun _ h=>h) hag⟩
theorem j4y {P:Program} {f k:Nat} {t:TypeId} (hk:0<k)
 (h1:∀(g o n c i vb vo vc:Nat) (cur vcur:Array Value) (E E':TypeId) (w:World),w.heap[g]?=some (.cells cur E (0,0))→w.heap[vb]?=some (.cells vcur E' (0,0))→g≠vb→i<n→n+1≤c→c≤9223372036854775807→
   o+c*k≤cur.size→vo+k≤vcur.size→(∀v∈(cur.toList.drop o).take (n*k),v.oneCell'=true)→(∀v∈(vcur.toList.drop vo).take k,v.oneCell'=true)→
   Calls P f #[.slice (some ⟨g,o,none⟩) n c,.int .i64 i,.slice (some ⟨vb,vo,none⟩) 1 vc] w fun e w'=>e=.returned (.slice (some ⟨g,o,none⟩) (n+1) c)∧
    w'=(w.drew).setRow g (splice (splice cur.toList (o+(i+1)*k) ((cur.toList.drop (o+i*k)).take ((n-i)*k))) (o+i*k) ((vcur.toList.drop vo).take k)).toArray)
 (h2:∀(g o n c i vb vo vc:Nat) (cur vcur:Array Value) (E E':TypeId) (w:World),w.heap[g]?=some (.cells cur E (0,0))→w.heap[vb]?=some (.cells vcur E' (0,0))→g≠vb→i<n→n≤c→c<n+1→n≤1000000000→
   o+c*k≤cur.size→vo+k≤vcur.size→(∀v∈(cur.toList.drop o).take (n*k),v.oneCell'=true)→(∀v∈(vcur.toList.drop vo).take k,v.oneCell'=true)→
   Calls P f #[.slice (some ⟨g,o,none⟩) n c,.int .i64 i,.slice (some ⟨vb,vo,none⟩) 1 vc] w fun e w'=>∃ROW:Array Value,e=.returned (.slice (some ⟨w.heap.size,0,none⟩) (n+1) (grownCap w (n+1) c t))∧
    ROW.size=grownCap w (n+1) c t*k∧w'.os=w.os∧w'.tape=w.tape∧w'.output=w.output∧
    w'.heap=w.heap.push (.cells (splice (splice ROW.toList (i*k) ((vcur.toList.drop vo).take k)) ((i+1)*k) ((cur.toList.drop (o+i*k)).take ((n-i)*k))).toArray t)∧ROW.toList.take (i*k)=(cur.toList.drop o).take (i*k))
 {args:List PV} {ps:List Arr} {r:PV} {ps' own:List Arr} (h:insP k args ps=some (r,ps',own)) {γ:Nat→GB} {F:Nat→Prop} {w:World} {vals:List Value} (hi:Inv (mp ps) γ F w) (hl:args.length=vals.length)
 (hv:∀(j:Nat) (p:PV) (v:Value),args[j]?=some p→vals[j]?=some v→RepP (mp ps) γ F w p v):Calls P f vals.toArray w (jbi ps ps' own r γ F w):=by
 unfold insP at h
 split at h
 rotate_left
 ·cases h
 rename_i n i kA xs kB x
 split at h
 rotate_left
 ·cases h
 rename_i hc
 obtain⟨⟨rfl,rfl,rfl,hi0,hin,hnl⟩,hxk⟩:=hc
 cases h
 obtain⟨i,rfl⟩:=Int.eq_ofNat_of_zero_le hi0
 have hin':i<xs.length:=by omega
 simp only[Int.toNat_natCast]
 match vals,hl with
 | [v0,v1,v2],_=>
 have r0:=hv 0 _ _ rfl rfl
 have r1:=hv 1 _ _ rfl rfl
 have r2:=hv 2 _ _ rfl rfl
 cases r1 with
 | i r1=>
 cases r1
 cases r0 with
 | ref _ _ _ _ ao cap A g1 g2 g3=>
 cases r2 with
 | ref _ _ _ _ ao' cap' A' q1 q2 q3=>
 obtain⟨-,rfl⟩:=(ka8 g1).resolve_right (fun h=>by cases h.1)
 obtain⟨-,rfl⟩:=(ka8 q1).resolve_left (fun h=>by cases h.1)
 obtain⟨a1,a2,rfl,a4⟩:=g3 rfl
 obtain⟨b1,b2,rfl,b4⟩:=q3 rfl
 obtain⟨cur,E,hb,hsz,hxc,hmx,hcell⟩:=hi.holds 1000 _ g1
 obtain⟨vcur,E',hvb,hvsz,hvxc,hvmx,hvcell⟩:=hi.holds 1001 _ q1
 simp only[List.length_singleton] at hvxc
 rw[a4 (by omega),b4 (by omega)]
 simp only[Nat.add_zero,Nat.sub_zero] at *
 have hne:(γ 1000).g≠(γ 1001).g:=fun e=>by have:=hi.dist 1000 1001 _ _ g1 q1 trivial trivial e;omega
 have hbk:((γ 1000).b+(γ 1000).cap)*kB=(γ 1000).b*kB+(γ 1000).cap*kB:=Nat.add_mul ..
 have hvk:((γ 1001).b+(γ 1001).cap)*kB=(γ 1001).b*kB+(γ 1001).cap*kB:=Nat.add_mul ..
 have hvk1:1*kB≤(γ 1001).cap*kB:=Nat.mul_le_mul_right _ hvxc
 have hck1:xs.length*kB≤(γ 1000).cap*kB:=Nat.mul_le_mul_right _ hxc
 rw[Nat.one_mul] at hvk1
 have hone:=j03 hk hcell
 have hvone:=j03 hk hvcell
 simp only[List.length_singleton,Nat.one_mul] at hvone
 have hmax:maxLen≤9223372036854775807:=by decide
 have hlt:=(Array.getElem?_eq_some_iff.1 hb).1
 by_cases hroom:xs.length+1≤(γ 1000).cap
 ·have hck2:(xs.length+1)*kB≤(γ 1000).cap*kB:=Nat.mul_le_mul_right _ hroom
  refine(h1 (γ 1000).g _ xs.length _ i (γ 1001).g _ _ cur vcur E E' w hb hvb hne hin' hroom (by omega) (by omega) (by omega) hone hvone).mono fun e w' he=>?_
  obtain⟨rfl,rfl⟩:=he
  have hR:=juz (k:=kB) (i:=i) (n:=xs.length) (o:=(γ 1000).b*kB) (vo:=(γ 1001).b*kB) (cur:=cur) (vcur:=vcur) hk hin' (by omega) (by omega)
  have hCl:(splice (splice cur.toList ((γ 1000).b*kB+(i+1)*kB) ((cur.toList.drop ((γ 1000).b*kB+i*kB)).take ((xs.length-i)*kB))) ((γ 1000).b*kB+i*kB) ((vcur.toList.drop ((γ 1001).b*kB)).take kB)).length=cur.size:=by
   have hn:(xs.length+1)*kB=xs.length*kB+kB:=by rw[Nat.add_mul,Nat.one_mul]
   have hi1:(i+1)*kB=i*kB+kB:=by rw[Nat.add_mul,Nat.one_mul]
   have hni:(xs.length-i)*kB=xs.length*kB-i*kB:=Nat.sub_mul ..
   have hmk:=mulk (k:=kB) hin'
   rw[jad,jad]
   ·simp
   ·simp;omega
   ·rw[jad _ _ _ (by simp;omega)];simp;omega
  generalize splice (splice cur.toList ((γ 1000).b*kB+(i+1)*kB) ((cur.toList.drop ((γ 1000).b*kB+i*kB)).take ((xs.length-i)*kB))) ((γ 1000).b*kB+i*kB) ((vcur.toList.drop ((γ 1001).b*kB)).take kB)=C at *
  obtain⟨f1,f2,f3,f4,f5,f6⟩:=jbz (γ 1000).g cur C.toArray E w.drew hb
  obtain⟨t1,t2,t3⟩:=jbt hi (A':=.arr 1 kB (xs.take i++x::xs.drop i)) (G:=γ 1000) (w':=w.drew.setRow (γ 1000).g C.toArray) g1 trivial rfl (Nat.zero_le _) (fun e=>absurd e (by simp[Arr.ver])) f1 f2 f3 f4 f5 (fun hms hag=>
   InsRow.holds hk hin' hcell hvcell hag hR f6 (by simp;omega) hroom hmx)
  rw[kbg] at t1 t2 t3
  have hu:upd γ 1000 (γ 1000)=γ:=by funext s;by_cases h:s=1000<;>simp[upd,h]
  rw[hu] at t1 t2 t3
  refine⟨_,γ,F,rfl,rfl,?_,?_,fun _ h=>h,fun _ h=>.inl h,?_,?_⟩
  ·rw[jjy (by show 2≤1000;omega)];exact t1
  ·rw[jjy (by show 2≤1000;omega)];exact t2
  ·rw[jjy (by show 2≤1000;omega)];exact t3
  ·rw[jjy (by show 2≤1000;omega)]
   refine .ref 1000 1 0 _ _ _ _ rfl (Nat.le_refl _) fun _=>⟨by simp;omega,Nat.zero_le _,by simp,fun _=>by simp⟩
 ·have hcn:(γ 1000).cap=xs.length:=by omega
  refine(h2 (γ 1000).g _ xs.length _ i (γ 1001).g _ _ cur vcur E E' w hb hvb hne hin' hxc (by omega) (by omega) (by omega) (by omega) hone hvone).mono fun e w' he=>?_
  obtain⟨ROW,rfl,hrs,hos,htp,hou,hhp,hrt⟩:=he
  have hge:=grownCap_ge w (xs.length+1) (γ 1000).cap t
  have hle:=grownCap_le_maxLen w (xs.length+1) (γ 1000).cap t (by unfold maxLen;omega)
  generalize grownCap w (xs.length+1) (γ 1000).cap t=Gc at *
  have hgk:(xs.length+1)*kB≤Gc*kB:=Nat.mul_le_mul_right _ hge
  have hR:=juy (k:=kB) (i:=i) (n:=xs.length) (o:=(γ 1000).b*kB) (vo:=(γ 1001).b*kB) (cur:=cur) (vcur:=vcur) (ROW:=ROW) hk hin' (by omega) (by omega) (by omega) hrt
  have hCl:(splice (splice ROW.toList (i*kB) ((vcur.toList.drop ((γ 1001).b*kB)).take kB)) ((i+1)*kB) ((cur.toList.drop ((γ 1000).b*kB+i*kB)).take ((xs.length-i)*kB))).length=ROW.size:=by
   have hn:(xs.length+1)*kB=xs.length*kB+kB:=by rw[Nat.add_mul,Nat.one_mul]
   have hi1:(i+1)*kB=i*kB+kB:=by rw[Nat.add_mul,Nat.one_mul]
   have hni:(xs.length-i)*kB=xs.length*kB-i*kB:=Nat.sub_mul ..
   have hmk:=mulk (k:=kB) hin'
   rw[jad,jad]
   ·simp
   ·simp;omega
   ·rw[jad _ _ _ (by simp;omega)];simp;omega
  generalize splice (splice ROW.toList (i*kB) ((vcur.toList.drop ((γ 1001).b*kB)).take kB)) ((i+1)*kB) ((cur.toList.drop ((γ 1000).b*kB+i*kB)).take ((xs.length-i)*kB))=C at *
  obtain⟨t1,t2,t3,-⟩:=je8 hi (d:=1000) (A:=.arr 1 kB (xs.take i++x::xs.drop i)) (fun A0 h0=>by rw[g1] at h0;cases h0;exact Nat.zero_lt_one) trivial C.toArray t Gc
   (fun hms hag=>InsRow.holds (G':=⟨w.heap.size,0,Gc⟩) hk hin' hcell hvcell hag (by simpa using hR) (by rw[jc0];exact Array.getElem?_push_size) (by simp;omega) hge (by simpa using hle))
  rw[kbg] at t1 t2 t3
  have hh:w'.heap=(w.alloc (.cells C.toArray t)).heap:=hhp
  refine⟨_,upd γ 1000 ⟨w.heap.size,0,Gc⟩,F,rfl,rfl,?_,?_,fun _ h=>h,fun _ h=>.inl h,?_,?_⟩
  ·rw[jjy (by show 2≤1000;omega)];exact Inv.heap_eq (P:=P) hh t1
  ·rw[jjy (by show 2≤1000;omega)];exact t2
  ·rw[jjy (by show 2≤1000;omega)]
   exact⟨hos,htp,hou,by rw[hh];exact t3.size,fun b hb' hn=>by rw[hh];exact t3.frame b hb' hn,t3.blocks⟩
  ·rw[jjy (by show 2≤1000;omega)]
   refine .ref 1000 1 0 _ _ _ _ rfl (Nat.le_refl _) fun _=>?_
   rw[jal]
   exact⟨by simp;omega,Nat.zero_le _,by simp,fun _=>by simp⟩
end Go.Proofs.YtnaaceooknghjaaGreatDoor.X
