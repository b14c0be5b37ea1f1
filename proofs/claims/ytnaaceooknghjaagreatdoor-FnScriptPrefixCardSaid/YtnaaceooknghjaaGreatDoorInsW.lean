/- What functions answer, and the plain laws behind it. -/
import Derived.Test.YtnaaceooknghjaaGreatDoorIns
import Derived.Test.YtnaaceooknghjaaGreatDoorKAA
import Derived.WalkKit
import Derived.ProofKit
import Derived.OwnWalk
import Derived.Shelf.RegionOpenPlain
import Derived.Laws.Externs
set_option linter.unusedVariables false
namespace Go.Proofs.YtnaaceooknghjaaGreatDoor.X
open Go Go.Proofs Go.RowKit Tryz
theorem jdo {P:Program} {ops:Array Oper} {o:Oper} {a:Act} {w:World} {K:Act→World→Prop} {Q:Exit→Act→World→Prop} {E:Prop}
 (hg:o.guard=none) (d x:Operand) (t:TypeId) (hop:o.op=Op.call { callee:=Callee.builtin Builtin.copy,args:=#[d,x],argTypes:=#[t,t] })
 (v u:Value) (hd:a.eval d=v) (hx:a.eval x=u) {v':Value} {w':World} (hr:(Builtin.copy_ #[t,t] o.type #[v,u]).run P w=.ok v' w') (hK:K (a.put o.dst v') w') :
 if Region.wanted o (yielded ops a.tmps)=true then Oper.wp P o a w K Q else E:=by
 have hw:Region.wanted o (yielded ops a.tmps)=true:=by simp[Region.wanted,hg]
 rw[if_pos hw]
 unfold Oper.wp
 simp[execOp,hop,resolve,invoke,builtin,hd,hx,hr,Result.andThen]
 exact hK
theorem jch {P:Program} (w:World) {ops:Array Oper} {rest:List Oper} {o:Oper} {a:Act} {Q:Exit→Act→World→Prop} (hgd:o.guard=none) (d s:Operand) (t:TypeId)
 (ho:o.op=.call { callee:=.builtin .copy,args:=#[d,s],argTypes:=#[t,t] }) (v u:Value) (hd:a.eval d=v) (hs:a.eval s=u) {v':Value} {w':World}
 (hr:(Builtin.copy_ #[t,t] o.type #[v,u]).run P w=.ok v' w') (h:wpList P ops Q rest (a.put o.dst v') w'):wpList P ops Q (o::rest) a w:=by
 refine wpList_plain hgd fun K hK=>?_
 unfold Oper.wp
 simp only[execOp,ho,resolve,invoke,builtin,Sem.run_bind,Sem.run_pure,Result.andThen_ok,List.map_toArray,List.map_cons,List.map_nil,hd,hs,hr]
 exact hK _ _ h
theorem ken (w:World) (X:Obj):(w.alloc X).heap=w.heap.push X:=rfl
set_option maxHeartbeats 4000000 in
set_option maxRecDepth 100000 in
theorem jr7 (g o n c i vb vo vc:Nat) (cur vcur:Array Value) (E E':TypeId) (w:World) (hg:w.heap[g]?=some (.cells cur E (0,0))) (hvb:w.heap[vb]?=some (.cells vcur E' (0,0))) (hne:g≠vb) (hi:i<n) (hroom:n+1≤c) (hc:c≤9223372036854775807)
 (hl:o+c*1≤cur.size) (hvl:vo+1≤vcur.size) (h1:∀v∈(cur.toList.drop o).take (n*1),v.oneCell'=true) (h1v:∀v∈(vcur.toList.drop vo).take 1,v.oneCell'=true) :
 Calls prog 132 #[.slice (some ⟨g,o,none⟩) n c,.int .i64 i,.slice (some ⟨vb,vo,none⟩) 1 vc] w fun e w'=>e=.returned (.slice (some ⟨g,o,none⟩) (n+1) c)∧
  w'=(w.drew).setRow g (splice (splice cur.toList (o+(i+1)*1) ((cur.toList.drop (o+i*1)).take ((n-i)*1))) (o+i*1) ((vcur.toList.drop vo).take 1)).toArray:=by
 simp only[Nat.mul_one] at *
 have mixed:prog.follows .mixedOrders=true:=by kernel_rfl
 have hz2:¬((i:Int)=(n:Int)):=by omega
 have hb1:(0:Int)≤(i:Int)+1:=by omega
 have hin:i≤n:=by omega
 have hb2:¬(c=i+1):=by omega
 have hb3:(i:Int)≤(n:Int)+1:=by omega
 have hb4:¬(c=i):=by omega
 have hw1:IntKind.i64.wrap ((i:Int)+1)=(i:Int)+1:=by rw[IntKind.wrap_i64];omega
 have hw2:IntKind.i64.wrap ((n:Int)+1)=(n:Int)+1:=by rw[IntKind.wrap_i64];omega
 have hov:∀lb cb,(callFunc 199 #[.slice (some ⟨vb,vo,none⟩) 1 vc,.slice (some ⟨g,o+(i+1),none⟩) lb cb]).run prog w=.ok (.value (.bool false)) w:=fun lb cb=>by
  rw[run_callFunc_extern func199 (by kernel_rfl) (by kernel_rfl) (by kernel_rfl) (e:=Extern.SlicesOverlaps.overlaps #[30,30] #[4]) (by kernel_rfl),
   Lib.run_overlaps_apart w 30 4 3 underlying30 1 (fun w=>jbl sz_3 w) ⟨vb,vo,none⟩ ⟨g,o+(i+1),none⟩ 1 vc lb cb (fun h=>hne h.symm) E' E vcur.size cur.size (by simp[World.shape?,hvb]) (by simp[World.shape?,hg]) (by omega) (by simp[World.frozen?,hvb]) (by simp[World.frozen?,hvb])]
  rfl
 have hg1:w.drew.heap[g]?=some (.cells cur E (0,0)):=hg
 have hcp1:∀ty dc sc,(Builtin.copy_ #[30,30] ty #[.slice (some ⟨g,o+(i+1),none⟩) (n-i) dc,.slice (some ⟨g,o+i,none⟩) (n+1-i) sc]).run prog w.drew=.ok (goInt (n-i:Nat)) _:=fun ty dc sc=>by
  have:=jbq w.drew 30 ty 3 underlying30 1 sz_3 g (o+(i+1)) (n-i) dc g (o+i) (n+1-i) sc (n-i) (by simp only[Nat.min_def];split<;>omega) cur cur E E hg1 hg1 (by omega) (by omega) (fun v hv=>h1 v (by
   obtain⟨j,hj,he⟩:=List.mem_iff_getElem.1 hv
   simp only[List.length_take,List.length_drop] at hj
   refine List.mem_iff_getElem.2 ⟨i+j,by simp only[List.length_take,List.length_drop];omega,?_⟩
   rw[←he]
   simp only[List.getElem_take,List.getElem_drop]
   congr 1;omega))
  simpa only[Nat.mul_one] using this
 generalize hC1:(splice cur.toList (o+(i+1)) ((cur.toList.drop (o+i)).take (n-i)))=C1 at *
 have hC1l:C1.length=cur.size:=by rw[←hC1,jad _ _ _ (by simp;omega)];simp
 have hvb2:∀cs,(w.drew.setRow g cs).heap[vb]?=some (.cells vcur E' (0,0)):=fun cs=>by rw[setRow_other _ _ _ _ (fun h=>hne h.symm)];exact hvb
 have hg2:(w.drew.setRow g C1.toArray).heap[g]?=some (.cells C1.toArray E (0,0)):=setRow_heap w.drew g cur _ E _ hg1
 have hcp2:∀(W:World),W.heap=(w.drew.setRow g C1.toArray).heap→∀ty dc,(Builtin.copy_ #[30,30] ty #[.slice (some ⟨g,o+i,none⟩) (n+1-i) dc,.slice (some ⟨vb,vo,none⟩) 1 vc]).run prog W=.ok (goInt 1) (W.setRow g (splice C1 (o+i) ((vcur.toList.drop vo).take 1)).toArray):=fun W hW ty dc=>by
  have:=jbq (P:=prog) W 30 ty 3 underlying30 1 sz_3 g (o+i) (n+1-i) dc vb vo 1 vc 1 (by simp only[Nat.min_def];split<;>omega) C1.toArray vcur E E' (by rw[hW];exact hg2) (by rw[hW];exact hvb2 _) (by simp;omega) (by omega) (by simpa using h1v)
  simpa using this
 generalize splice C1 (o+i) ((vcur.toList.drop vo).take 1)=C2 at *
 go_enter func132,Tryz.ntmps132
 go_wp2_with (simp only[hov])
 go_region_law_o (refine jdo rfl _ _ 30 rfl _ _ (by simp[Act.eval,Act.put]) (by simp[Act.eval,Act.put]) (hcp1 _ _ _) ?_)
 go_wp2_with (at_builtin;refine jch _ rfl _ _ 30 rfl _ _ rfl rfl (hcp2 _ rfl _ _) ?_)
 go_ret
 exact⟨rfl,by rw[setRow_setRow]⟩
set_option maxHeartbeats 4000000 in
set_option maxRecDepth 100000 in
theorem jr4 (g o n c i vb vo vc:Nat) (cur vcur:Array Value) (E E':TypeId) (w:World) (hg:w.heap[g]?=some (.cells cur E (0,0))) (hvb:w.heap[vb]?=some (.cells vcur E' (0,0))) (hne:g≠vb) (hi:i<n) (hnc:n≤c) (hroom:c<n+1) (hc:n≤1000000000)
 (hl:o+c*1≤cur.size) (hvl:vo+1≤vcur.size) (h1:∀v∈(cur.toList.drop o).take (n*1),v.oneCell'=true) (h1v:∀v∈(vcur.toList.drop vo).take 1,v.oneCell'=true) :
 Calls prog 132 #[.slice (some ⟨g,o,none⟩) n c,.int .i64 i,.slice (some ⟨vb,vo,none⟩) 1 vc] w fun e w'=>∃ROW:Array Value,e=.returned (.slice (some ⟨w.heap.size,0,none⟩) (n+1) (grownCap w (n+1) c 3))∧
  ROW.size=grownCap w (n+1) c 3*1∧w'.os=w.os∧w'.tape=w.tape∧w'.output=w.output∧
  w'.heap=w.heap.push (.cells (splice (splice ROW.toList (i*1) ((vcur.toList.drop vo).take 1)) ((i+1)*1) ((cur.toList.drop (o+i*1)).take ((n-i)*1))).toArray 3)∧ROW.toList.take (i*1)=(cur.toList.drop o).take (i*1):=by
 simp only[Nat.mul_one] at *
 have mixed:prog.follows .mixedOrders=true:=by kernel_rfl
 have hz2:¬((i:Int)=(n:Int)):=by omega
 have hz3:(c:Int)<(n:Int)+1:=by omega
 have hw1:IntKind.i64.wrap ((i:Int)+1)=(i:Int)+1:=by rw[IntKind.wrap_i64];omega
 have hw2:IntKind.i64.wrap ((n:Int)+1)=(n:Int)+1:=by rw[IntKind.wrap_i64];omega
 have hw3:IntKind.i64.wrap ((n:Int)+1-(i:Int))=(n:Int)+1-(i:Int):=by rw[IntKind.wrap_i64];omega
 have hik:i+(n+1-i)=n+1:=by omega
 have hfo:=jib (P:=prog) (k:=1) (w:=w.drew) (h:=g) (o:=o) (q:=i) (c:=c) (cur:=cur) (E:=E) hg (by omega) i
 simp only[Nat.mul_one] at hfo
 obtain⟨z,hz,hzs⟩:∃z,Tryz.t3.zero=some z∧z.cells.size=1:=⟨_,rfl,rfl⟩
 have hge:=grownCap_ge w (n+1) c 3
 obtain⟨ROW,hrl,hrt,hrz⟩:∃ROW:Array Value,ROW.size=grownCap w (n+1) c 3∧ROW.toList.take i=(cur.toList.drop o).take i∧
  ∀ty,(Builtin.append_ #[30,3] ty #[.slice (some ⟨g,o,none⟩) i c,.int .i64 ((n:Int)+1-(i:Int))]).run prog w=.ok (.slice (some ⟨w.heap.size,0,none⟩) (n+1) (grownCap w (n+1) c 3)) (w.drew.alloc (.cells ROW 3)):=by
  refine⟨((cur.toList.drop o).take i).toArray++Builtin.zeroCells z.cells (n+1-i)++Builtin.zeroCells z.cells (grownCap w (n+1) c 3-(n+1)),?_,?_,fun ty=>?_⟩
  ·simp only[Array.size_append,List.size_toArray,size_zeroCells,hzs,List.length_take,List.length_drop,Array.length_toList,Nat.mul_one]
   omega
  ·simp only[Array.toList_append,List.append_assoc]
   rw[List.take_append_of_le_length (by simp;omega),List.take_take,Nat.min_self]
  ·have h:=Lib.run_append_grow_zeros (P:=prog) w 30 3 ty 3 Tryz.t3 z .i64 .i64 underlying30 underlying3 j4n hz (some ⟨g,o,none⟩) i c ((cur.toList.drop o).take i) hfo (n+1-i) (by omega) (by decide) (by omega) (by omega)
    (by have:Tryz.t3.bytes≤16:=by decide
        exact Nat.le_trans (Nat.mul_le_mul_left _ this) (by omega)) (by rw[hik];exact jh0 (by omega) (by omega) (by decide))
   rw[hik,show(((n+1-i:Nat)):Int)=(n:Int)+1-(i:Int) by omega] at h
   exact h
 generalize grownCap w (n+1) c 3=G at *
 have hgw:g<w.heap.size:=(Array.getElem?_eq_some_iff.1 hg).1
 have hvw:vb<w.heap.size:=(Array.getElem?_eq_some_iff.1 hvb).1
 have hR:∀W:World,W.heap=w.heap.push (.cells ROW 3)→W.heap[w.heap.size]?=some (.cells ROW 3 (0,0)):=fun W hW=>by rw[hW];simp
 have hcp1:∀W:World,W.heap=w.heap.push (.cells ROW 3)→∀ty dc,(Builtin.copy_ #[30,30] ty #[.slice (some ⟨w.heap.size,i,none⟩) (n+1-i) dc,.slice (some ⟨vb,vo,none⟩) 1 vc]).run prog W=.ok (goInt 1) (W.setRow w.heap.size (splice ROW.toList i ((vcur.toList.drop vo).take 1)).toArray):=fun W hW ty dc=>by
  have:=jbq (P:=prog) W 30 ty 3 underlying30 1 sz_3 w.heap.size i (n+1-i) dc vb vo 1 vc 1 (by simp only[Nat.min_def];split<;>omega) ROW vcur 3 E' (hR W hW) (by rw[hW,Array.getElem?_push,if_neg (by omega)];exact hvb) (by omega) (by omega) (by simpa using h1v)
  simpa using this
 generalize hC1:splice ROW.toList i ((vcur.toList.drop vo).take 1)=C1 at *
 have hC1l:C1.length=ROW.size:=by rw[←hC1,jad _ _ _ (by simp;omega)];simp
 have hset:∀(A B:Array Value) (W:World),W.heap=w.heap.push (.cells A 3)→(W.setRow w.heap.size B).heap=w.heap.push (.cells B 3):=fun A B W hW=>by
  apply Array.ext_getElem?
  intro b
  by_cases hb:b=w.heap.size
  ·subst hb
   rw[setRow_heap W w.heap.size A _ 3 (0,0) (by rw[hW];simp)]
   simp
  ·rw[setRow_other _ _ _ _ hb,hW]
   simp[Array.getElem?_push,hb]
 have hcp2:∀(W:World),W.heap=w.heap.push (.cells C1.toArray 3)→∀ty dc sc,(Builtin.copy_ #[30,30] ty #[.slice (some ⟨w.heap.size,(i+1),none⟩) (n-i) dc,.slice (some ⟨g,o+i,none⟩) (n-i) sc]).run prog W=.ok (goInt (n-i:Nat)) (W.setRow w.heap.size (splice C1 (i+1) ((cur.toList.drop (o+i)).take (n-i))).toArray):=fun W hW ty dc sc=>by
  have:=jbq (P:=prog) W 30 ty 3 underlying30 1 sz_3 w.heap.size (i+1) (n-i) dc g (o+i) (n-i) sc (n-i) (Nat.min_self _) C1.toArray cur 3 E (by rw[hW];simp) (by rw[hW,Array.getElem?_push,if_neg (by omega)];exact hg) (by simp;omega) (by omega) (fun v hv=>h1 v (by
   obtain⟨j,hj,he⟩:=List.mem_iff_getElem.1 hv
   simp only[List.length_take,List.length_drop] at hj
   refine List.mem_iff_getElem.2 ⟨i+j,by simp only[List.length_take,List.length_drop];omega,?_⟩
   rw[←he]
   simp only[List.getElem_take,List.getElem_drop]
   congr 1;omega))
  simpa using this
 generalize hC2e:splice C1 (i+1) ((cur.toList.drop (o+i)).take (n-i))=C2 at *
 have hb1:(0:Int)≤(i:Int)+1:=by omega
 have hin:i≤n:=by omega
 have hin':i≤c:=by omega
 have hb3:(i:Int)≤(n:Int)+1:=by omega
 have hb4:¬(c=i):=by omega
 have hb5:¬(G=i):=by omega
 have hb6:¬(G=i+1):=by omega
 go_enter func132,Tryz.ntmps132
 go_wp2_with (first | (at_builtin;refine Lib.wpList_append_run _ rfl _ _ _ _ rfl _ _ rfl rfl _ _ (hrz _) ?_)|refine jch _ rfl _ _ 30 rfl _ _ rfl rfl (hcp1 _ (by rfl) _ _) ?_)
 have hh2:(((w.alloc (Obj.cells ROW 3)).drew.setRow w.heap.size C1.toArray).drew).heap=w.heap.push (.cells C1.toArray 3):=hset ROW C1.toArray ((w.alloc (Obj.cells ROW 3)).drew) rfl
 go_region_law_o (refine jdo rfl _ _ 30 rfl _ _ (by simp[Act.eval,Act.put]) (by simp[Act.eval,Act.put]) (hcp2 _ hh2 _ _ _) ?_)
 go_wp2
 go_ret
 exact⟨ROW,rfl,hrl,rfl,rfl,rfl,by rw[hC1,hC2e];exact hset C1.toArray C2.toArray _ hh2,hrt⟩
set_option maxHeartbeats 4000000 in
set_option maxRecDepth 100000 in
theorem jr8 (g o n c i vb vo vc:Nat) (cur vcur:Array Value) (E E':TypeId) (w:World) (hg:w.heap[g]?=some (.cells cur E (0,0))) (hvb:w.heap[vb]?=some (.cells vcur E' (0,0))) (hne:g≠vb) (hi:i<n) (hroom:n+1≤c) (hc:c≤9223372036854775807)
 (hl:o+c*1≤cur.size) (hvl:vo+1≤vcur.size) (h1:∀v∈(cur.toList.drop o).take (n*1),v.oneCell'=true) (h1v:∀v∈(vcur.toList.drop vo).take 1,v.oneCell'=true) :
 Calls prog 134 #[.slice (some ⟨g,o,none⟩) n c,.int .i64 i,.slice (some ⟨vb,vo,none⟩) 1 vc] w fun e w'=>e=.returned (.slice (some ⟨g,o,none⟩) (n+1) c)∧
  w'=(w.drew).setRow g (splice (splice cur.toList (o+(i+1)*1) ((cur.toList.drop (o+i*1)).take ((n-i)*1))) (o+i*1) ((vcur.toList.drop vo).take 1)).toArray:=by
 simp only[Nat.mul_one] at *
 have mixed:prog.follows .mixedOrders=true:=by kernel_rfl
 have hz2:¬((i:Int)=(n:Int)):=by omega
 have hb1:(0:Int)≤(i:Int)+1:=by omega
 have hin:i≤n:=by omega
 have hb2:¬(c=i+1):=by omega
 have hb3:(i:Int)≤(n:Int)+1:=by omega
 have hb4:¬(c=i):=by omega
 have hw1:IntKind.i64.wrap ((i:Int)+1)=(i:Int)+1:=by rw[IntKind.wrap_i64];omega
 have hw2:IntKind.i64.wrap ((n:Int)+1)=(n:Int)+1:=by rw[IntKind.wrap_i64];omega
 have hov:∀lb cb,(callFunc 201 #[.slice (some ⟨vb,vo,none⟩) 1 vc,.slice (some ⟨g,o+(i+1),none⟩) lb cb]).run prog w=.ok (.value (.bool false)) w:=fun lb cb=>by
  rw[run_callFunc_extern func201 (by kernel_rfl) (by kernel_rfl) (by kernel_rfl) (e:=Extern.SlicesOverlaps.overlaps #[31,31] #[4]) (by kernel_rfl),
   Lib.run_overlaps_apart w 31 4 4 underlying31 1 (fun w=>jbl sz_4 w) ⟨vb,vo,none⟩ ⟨g,o+(i+1),none⟩ 1 vc lb cb (fun h=>hne h.symm) E' E vcur.size cur.size (by simp[World.shape?,hvb]) (by simp[World.shape?,hg]) (by omega) (by simp[World.frozen?,hvb]) (by simp[World.frozen?,hvb])]
  rfl
 have hg1:w.drew.heap[g]?=some (.cells cur E (0,0)):=hg
 have hcp1:∀ty dc sc,(Builtin.copy_ #[31,31] ty #[.slice (some ⟨g,o+(i+1),none⟩) (n-i) dc,.slice (some ⟨g,o+i,none⟩) (n+1-i) sc]).run prog w.drew=.ok (goInt (n-i:Nat)) _:=fun ty dc sc=>by
  have:=jbq w.drew 31 ty 4 underlying31 1 sz_4 g (o+(i+1)) (n-i) dc g (o+i) (n+1-i) sc (n-i) (by simp only[Nat.min_def];split<;>omega) cur cur E E hg1 hg1 (by omega) (by omega) (fun v hv=>h1 v (by
   obtain⟨j,hj,he⟩:=List.mem_iff_getElem.1 hv
   simp only[List.length_take,List.length_drop] at hj
   refine List.mem_iff_getElem.2 ⟨i+j,by simp only[List.length_take,List.length_drop];omega,?_⟩
   rw[←he]
   simp only[List.getElem_take,List.getElem_drop]
   congr 1;omega))
  simpa only[Nat.mul_one] using this
 generalize hC1:(splice cur.toList (o+(i+1)) ((cur.toList.drop (o+i)).take (n-i)))=C1 at *
 have hC1l:C1.length=cur.size:=by rw[←hC1,jad _ _ _ (by simp;omega)];simp
 have hvb2:∀cs,(w.drew.setRow g cs).heap[vb]?=some (.cells vcur E' (0,0)):=fun cs=>by rw[setRow_other _ _ _ _ (fun h=>hne h.symm)];exact hvb
 have hg2:(w.drew.setRow g C1.toArray).heap[g]?=some (.cells C1.toArray E (0,0)):=setRow_heap w.drew g cur _ E _ hg1
 have hcp2:∀(W:World),W.heap=(w.drew.setRow g C1.toArray).heap→∀ty dc,(Builtin.copy_ #[31,31] ty #[.slice (some ⟨g,o+i,none⟩) (n+1-i) dc,.slice (some ⟨vb,vo,none⟩) 1 vc]).run prog W=.ok (goInt 1) (W.setRow g (splice C1 (o+i) ((vcur.toList.drop vo).take 1)).toArray):=fun W hW ty dc=>by
  have:=jbq (P:=prog) W 31 ty 4 underlying31 1 sz_4 g (o+i) (n+1-i) dc vb vo 1 vc 1 (by simp only[Nat.min_def];split<;>omega) C1.toArray vcur E E' (by rw[hW];exact hg2) (by rw[hW];exact hvb2 _) (by simp;omega) (by omega) (by simpa using h1v)
  simpa using this
 generalize splice C1 (o+i) ((vcur.toList.drop vo).take 1)=C2 at *
 go_enter func134,Tryz.ntmps134
 go_wp2_with (simp only[hov])
 go_region_law_o (refine jdo rfl _ _ 31 rfl _ _ (by simp[Act.eval,Act.put]) (by simp[Act.eval,Act.put]) (hcp1 _ _ _) ?_)
 go_wp2_with (at_builtin;refine jch _ rfl _ _ 31 rfl _ _ rfl rfl (hcp2 _ rfl _ _) ?_)
 go_ret
 exact⟨rfl,by rw[setRow_setRow]⟩
set_option maxHeartbeats 4000000 in
set_option maxRecDepth 100000 in
theorem jr5 (g o n c i vb vo vc:Nat) (cur vcur:Array Value) (E E':TypeId) (w:World) (hg:w.heap[g]?=some (.cells cur E (0,0))) (hvb:w.heap[vb]?=some (.cells vcur E' (0,0))) (hne:g≠vb) (hi:i<n) (hnc:n≤c) (hroom:c<n+1) (hc:n≤1000000000)
 (hl:o+c*1≤cur.size) (hvl:vo+1≤vcur.size) (h1:∀v∈(cur.toList.drop o).take (n*1),v.oneCell'=true) (h1v:∀v∈(vcur.toList.drop vo).take 1,v.oneCell'=true) :
 Calls prog 134 #[.slice (some ⟨g,o,none⟩) n c,.int .i64 i,.slice (some ⟨vb,vo,none⟩) 1 vc] w fun e w'=>∃ROW:Array Value,e=.returned (.slice (some ⟨w.heap.size,0,none⟩) (n+1) (grownCap w (n+1) c 4))∧
  ROW.size=grownCap w (n+1) c 4*1∧w'.os=w.os∧w'.tape=w.tape∧w'.output=w.output∧
  w'.heap=w.heap.push (.cells (splice (splice ROW.toList (i*1) ((vcur.toList.drop vo).take 1)) ((i+1)*1) ((cur.toList.drop (o+i*1)).take ((n-i)*1))).toArray 4)∧ROW.toList.take (i*1)=(cur.toList.drop o).take (i*1):=by
 simp only[Nat.mul_one] at *
 have mixed:prog.follows .mixedOrders=true:=by kernel_rfl
 have hz2:¬((i:Int)=(n:Int)):=by omega
 have hz3:(c:Int)<(n:Int)+1:=by omega
 have hw1:IntKind.i64.wrap ((i:Int)+1)=(i:Int)+1:=by rw[IntKind.wrap_i64];omega
 have hw2:IntKind.i64.wrap ((n:Int)+1)=(n:Int)+1:=by rw[IntKind.wrap_i64];omega
 have hw3:IntKind.i64.wrap ((n:Int)+1-(i:Int))=(n:Int)+1-(i:Int):=by rw[IntKind.wrap_i64];omega
 have hik:i+(n+1-i)=n+1:=by omega
 have hfo:=jib (P:=prog) (k:=1) (w:=w.drew) (h:=g) (o:=o) (q:=i) (c:=c) (cur:=cur) (E:=E) hg (by omega) i
 simp only[Nat.mul_one] at hfo
 obtain⟨z,hz,hzs⟩:∃z,Tryz.t4.zero=some z∧z.cells.size=1:=⟨_,rfl,rfl⟩
 have hge:=grownCap_ge w (n+1) c 4
 obtain⟨ROW,hrl,hrt,hrz⟩:∃ROW:Array Value,ROW.size=grownCap w (n+1) c 4∧ROW.toList.take i=(cur.toList.drop o).take i∧
  ∀ty,(Builtin.append_ #[31,3] ty #[.slice (some ⟨g,o,none⟩) i c,.int .i64 ((n:Int)+1-(i:Int))]).run prog w=.ok (.slice (some ⟨w.heap.size,0,none⟩) (n+1) (grownCap w (n+1) c 4)) (w.drew.alloc (.cells ROW 4)):=by
  refine⟨((cur.toList.drop o).take i).toArray++Builtin.zeroCells z.cells (n+1-i)++Builtin.zeroCells z.cells (grownCap w (n+1) c 4-(n+1)),?_,?_,fun ty=>?_⟩
  ·simp only[Array.size_append,List.size_toArray,size_zeroCells,hzs,List.length_take,List.length_drop,Array.length_toList,Nat.mul_one]
   omega
  ·simp only[Array.toList_append,List.append_assoc]
   rw[List.take_append_of_le_length (by simp;omega),List.take_take,Nat.min_self]
  ·have h:=Lib.run_append_grow_zeros (P:=prog) w 31 3 ty 4 Tryz.t4 z .i64 .i64 underlying31 underlying3 j4s hz (some ⟨g,o,none⟩) i c ((cur.toList.drop o).take i) hfo (n+1-i) (by omega) (by decide) (by omega) (by omega)
    (by have:Tryz.t4.bytes≤16:=by decide
        exact Nat.le_trans (Nat.mul_le_mul_left _ this) (by omega)) (by rw[hik];exact jh0 (by omega) (by omega) (by decide))
   rw[hik,show(((n+1-i:Nat)):Int)=(n:Int)+1-(i:Int) by omega] at h
   exact h
 generalize grownCap w (n+1) c 4=G at *
 have hgw:g<w.heap.size:=(Array.getElem?_eq_some_iff.1 hg).1
 have hvw:vb<w.heap.size:=(Array.getElem?_eq_some_iff.1 hvb).1
 have hR:∀W:World,W.heap=w.heap.push (.cells ROW 4)→W.heap[w.heap.size]?=some (.cells ROW 4 (0,0)):=fun W hW=>by rw[hW];simp
 have hcp1:∀W:World,W.heap=w.heap.push (.cells ROW 4)→∀ty dc,(Builtin.copy_ #[31,31] ty #[.slice (some ⟨w.heap.size,i,none⟩) (n+1-i) dc,.slice (some ⟨vb,vo,none⟩) 1 vc]).run prog W=.ok (goInt 1) (W.setRow w.heap.size (splice ROW.toList i ((vcur.toList.drop vo).take 1)).toArray):=fun W hW ty dc=>by
  have:=jbq (P:=prog) W 31 ty 4 underlying31 1 sz_4 w.heap.size i (n+1-i) dc vb vo 1 vc 1 (by simp only[Nat.min_def];split<;>omega) ROW vcur 4 E' (hR W hW) (by rw[hW,Array.getElem?_push,if_neg (by omega)];exact hvb) (by omega) (by omega) (by simpa using h1v)
  simpa using this
 generalize hC1:splice ROW.toList i ((vcur.toList.drop vo).take 1)=C1 at *
 have hC1l:C1.length=ROW.size:=by rw[←hC1,jad _ _ _ (by simp;omega)];simp
 have hset:∀(A B:Array Value) (W:World),W.heap=w.heap.push (.cells A 4)→(W.setRow w.heap.size B).heap=w.heap.push (.cells B 4):=fun A B W hW=>by
  apply Array.ext_getElem?
  intro b
  by_cases hb:b=w.heap.size
  ·subst hb
   rw[setRow_heap W w.heap.size A _ 4 (0,0) (by rw[hW];simp)]
   simp
  ·rw[setRow_other _ _ _ _ hb,hW]
   simp[Array.getElem?_push,hb]
 have hcp2:∀(W:World),W.heap=w.heap.push (.cells C1.toArray 4)→∀ty dc sc,(Builtin.copy_ #[31,31] ty #[.slice (some ⟨w.heap.size,(i+1),none⟩) (n-i) dc,.slice (some ⟨g,o+i,none⟩) (n-i) sc]).run prog W=.ok (goInt (n-i:Nat)) (W.setRow w.heap.size (splice C1 (i+1) ((cur.toList.drop (o+i)).take (n-i))).toArray):=fun W hW ty dc sc=>by
  have:=jbq (P:=prog) W 31 ty 4 underlying31 1 sz_4 w.heap.size (i+1) (n-i) dc g (o+i) (n-i) sc (n-i) (Nat.min_self _) C1.toArray cur 4 E (by rw[hW];simp) (by rw[hW,Array.getElem?_push,if_neg (by omega)];exact hg) (by simp;omega) (by omega) (fun v hv=>h1 v (by
   obtain⟨j,hj,he⟩:=List.mem_iff_getElem.1 hv
   simp only[List.length_take,List.length_drop] at hj
   refine List.mem_iff_getElem.2 ⟨i+j,by simp only[List.length_take,List.length_drop];omega,?_⟩
   rw[←he]
   simp only[List.getElem_take,List.getElem_drop]
   congr 1;omega))
  simpa using this
 generalize hC2e:splice C1 (i+1) ((cur.toList.drop (o+i)).take (n-i))=C2 at *
 have hb1:(0:Int)≤(i:Int)+1:=by omega
 have hin:i≤n:=by omega
 have hin':i≤c:=by omega
 have hb3:(i:Int)≤(n:Int)+1:=by omega
 have hb4:¬(c=i):=by omega
 have hb5:¬(G=i):=by omega
 have hb6:¬(G=i+1):=by omega
 go_enter func134,Tryz.ntmps134
 go_wp2_with (first | (at_builtin;refine Lib.wpList_append_run _ rfl _ _ _ _ rfl _ _ rfl rfl _ _ (hrz _) ?_)|refine jch _ rfl _ _ 31 rfl _ _ rfl rfl (hcp1 _ (by rfl) _ _) ?_)
 have hh2:(((w.alloc (Obj.cells ROW 4)).drew.setRow w.heap.size C1.toArray).drew).heap=w.heap.push (.cells C1.toArray 4):=hset ROW C1.toArray ((w.alloc (Obj.cells ROW 4)).drew) rfl
 go_region_law_o (refine jdo rfl _ _ 31 rfl _ _ (by simp[Act.eval,Act.put]) (by simp[Act.eval,Act.put]) (hcp2 _ hh2 _ _ _) ?_)
 go_wp2
 go_ret
 exact⟨ROW,rfl,hrl,rfl,rfl,rfl,by rw[hC1,hC2e];exact hset C1.toArray C2.toArray _ hh2,hrt⟩
set_option maxHeartbeats 4000000 in
set_option maxRecDepth 100000 in
theorem jr9 (g o n c i vb vo vc:Nat) (cur vcur:Array Value) (E E':TypeId) (w:World) (hg:w.heap[g]?=some (.cells cur E (0,0))) (hvb:w.heap[vb]?=some (.cells vcur E' (0,0))) (hne:g≠vb) (hi:i<n) (hroom:n+1≤c) (hc:c≤9223372036854775807)
 (hl:o+c*2≤cur.size) (hvl:vo+2≤vcur.size) (h1:∀v∈(cur.toList.drop o).take (n*2),v.oneCell'=true) (h1v:∀v∈(vcur.toList.drop vo).take 2,v.oneCell'=true) :
 Calls prog 197 #[.slice (some ⟨g,o,none⟩) n c,.int .i64 i,.slice (some ⟨vb,vo,none⟩) 1 vc] w fun e w'=>e=.returned (.slice (some ⟨g,o,none⟩) (n+1) c)∧
  w'=(w.drew).setRow g (splice (splice cur.toList (o+(i+1)*2) ((cur.toList.drop (o+i*2)).take ((n-i)*2))) (o+i*2) ((vcur.toList.drop vo).take 2)).toArray:=by
 have mixed:prog.follows .mixedOrders=true:=by kernel_rfl
 have hz2:¬((i:Int)=(n:Int)):=by omega
 have hb1:(0:Int)≤(i:Int)+1:=by omega
 have hin:i≤n:=by omega
 have hb2:¬(c=i+1):=by omega
 have hb3:(i:Int)≤(n:Int)+1:=by omega
 have hb4:¬(c=i):=by omega
 have hw1:IntKind.i64.wrap ((i:Int)+1)=(i:Int)+1:=by rw[IntKind.wrap_i64];omega
 have hw2:IntKind.i64.wrap ((n:Int)+1)=(n:Int)+1:=by rw[IntKind.wrap_i64];omega
 have hov:∀lb cb,(callFunc 232 #[.slice (some ⟨vb,vo,none⟩) 1 vc,.slice (some ⟨g,o+(i+1)*2,none⟩) lb cb]).run prog w=.ok (.value (.bool false)) w:=fun lb cb=>by
  rw[run_callFunc_extern func232 (by kernel_rfl) (by kernel_rfl) (by kernel_rfl) (e:=Extern.SlicesOverlaps.overlaps #[27,27] #[4]) (by kernel_rfl),
   Lib.run_overlaps_apart w 27 4 63 underlying27 2 (fun w=>jbl j6c w) ⟨vb,vo,none⟩ ⟨g,o+(i+1)*2,none⟩ 1 vc lb cb (fun h=>hne h.symm) E' E vcur.size cur.size (by simp[World.shape?,hvb]) (by simp[World.shape?,hg]) (by omega) (by simp[World.frozen?,hvb]) (by simp[World.frozen?,hvb])]
  rfl
 have hg1:w.drew.heap[g]?=some (.cells cur E (0,0)):=hg
 have hcp1:∀ty dc sc,(Builtin.copy_ #[27,27] ty #[.slice (some ⟨g,o+(i+1)*2,none⟩) (n-i) dc,.slice (some ⟨g,o+i*2,none⟩) (n+1-i) sc]).run prog w.drew=.ok (goInt (n-i:Nat)) _:=fun ty dc sc=>
  jbq w.drew 27 ty 63 underlying27 2 j6c g _ _ dc g _ _ sc (n-i) (by simp only[Nat.min_def];split<;>omega) cur cur E E hg1 hg1 (by omega) (by omega) (fun v hv=>h1 v (by
   obtain⟨j,hj,he⟩:=List.mem_iff_getElem.1 hv
   simp only[List.length_take,List.length_drop] at hj
   refine List.mem_iff_getElem.2 ⟨i*2+j,by simp only[List.length_take,List.length_drop];omega,?_⟩
   rw[←he]
   simp only[List.getElem_take,List.getElem_drop]
   congr 1;omega))
 generalize hC1:(splice cur.toList (o+(i+1)*2) ((cur.toList.drop (o+i*2)).take ((n-i)*2)))=C1 at *
 have hC1l:C1.length=cur.size:=by rw[←hC1,jad _ _ _ (by simp;omega)];simp
 have hvb2:∀cs,(w.drew.setRow g cs).heap[vb]?=some (.cells vcur E' (0,0)):=fun cs=>by rw[setRow_other _ _ _ _ (fun h=>hne h.symm)];exact hvb
 have hg2:(w.drew.setRow g C1.toArray).heap[g]?=some (.cells C1.toArray E (0,0)):=setRow_heap w.drew g cur _ E _ hg1
 have hcp2:∀(W:World),W.heap=(w.drew.setRow g C1.toArray).heap→∀ty dc,(Builtin.copy_ #[27,27] ty #[.slice (some ⟨g,o+i*2,none⟩) (n+1-i) dc,.slice (some ⟨vb,vo,none⟩) 1 vc]).run prog W=.ok (goInt 1) (W.setRow g (splice C1 (o+i*2) ((vcur.toList.drop vo).take 2)).toArray):=fun W hW ty dc=>by
  have:=jbq (P:=prog) W 27 ty 63 underlying27 2 j6c g (o+i*2) (n+1-i) dc vb vo 1 vc 1 (by simp only[Nat.min_def];split<;>omega) C1.toArray vcur E E' (by rw[hW];exact hg2) (by rw[hW];exact hvb2 _) (by simp;omega) (by omega) (by simpa using h1v)
  simpa using this
 generalize splice C1 (o+i*2) ((vcur.toList.drop vo).take 2)=C2 at *
 go_enter func197,Tryz.ntmps197
 go_wp2_with (simp only[hov])
 go_region_law_o (refine jdo rfl _ _ 27 rfl _ _ (by simp[Act.eval,Act.put]) (by simp[Act.eval,Act.put]) (hcp1 _ _ _) ?_)
 go_wp2_with (at_builtin;refine jch _ rfl _ _ 27 rfl _ _ rfl rfl (hcp2 _ rfl _ _) ?_)
 go_ret
 exact⟨rfl,by rw[setRow_setRow]⟩
set_option maxHeartbeats 4000000 in
set_option maxRecDepth 100000 in
theorem jr6 (g o n c i vb vo vc:Nat) (cur vcur:Array Value) (E E':TypeId) (w:World) (hg:w.heap[g]?=some (.cells cur E (0,0))) (hvb:w.heap[vb]?=some (.cells vcur E' (0,0))) (hne:g≠vb) (hi:i<n) (hnc:n≤c) (hroom:c<n+1) (hc:n≤1000000000)
 (hl:o+c*2≤cur.size) (hvl:vo+2≤vcur.size) (h1:∀v∈(cur.toList.drop o).take (n*2),v.oneCell'=true) (h1v:∀v∈(vcur.toList.drop vo).take 2,v.oneCell'=true) :
 Calls prog 197 #[.slice (some ⟨g,o,none⟩) n c,.int .i64 i,.slice (some ⟨vb,vo,none⟩) 1 vc] w fun e w'=>∃ROW:Array Value,e=.returned (.slice (some ⟨w.heap.size,0,none⟩) (n+1) (grownCap w (n+1) c 63))∧
  ROW.size=grownCap w (n+1) c 63*2∧w'.os=w.os∧w'.tape=w.tape∧w'.output=w.output∧
  w'.heap=w.heap.push (.cells (splice (splice ROW.toList (i*2) ((vcur.toList.drop vo).take 2)) ((i+1)*2) ((cur.toList.drop (o+i*2)).take ((n-i)*2))).toArray 63)∧ROW.toList.take (i*2)=(cur.toList.drop o).take (i*2):=by
 have mixed:prog.follows .mixedOrders=true:=by kernel_rfl
 have hz2:¬((i:Int)=(n:Int)):=by omega
 have hz3:(c:Int)<(n:Int)+1:=by omega
 have hw1:IntKind.i64.wrap ((i:Int)+1)=(i:Int)+1:=by rw[IntKind.wrap_i64];omega
 have hw2:IntKind.i64.wrap ((n:Int)+1)=(n:Int)+1:=by rw[IntKind.wrap_i64];omega
 have hw3:IntKind.i64.wrap ((n:Int)+1-(i:Int))=(n:Int)+1-(i:Int):=by rw[IntKind.wrap_i64];omega
 have hik:i+(n+1-i)=n+1:=by omega
 have hfo:=jib (P:=prog) (k:=2) (w:=w.drew) (h:=g) (o:=o) (q:=i) (c:=c) (cur:=cur) (E:=E) hg (by omega) i
 obtain⟨z,hz,hzs⟩:∃z,Tryz.t63.zero=some z∧z.cells.size=2:=⟨_,rfl,rfl⟩
 have hge:=grownCap_ge w (n+1) c 63
 obtain⟨ROW,hrl,hrt,hrz⟩:∃ROW:Array Value,ROW.size=grownCap w (n+1) c 63*2∧ROW.toList.take (i*2)=(cur.toList.drop o).take (i*2)∧
  ∀ty,(Builtin.append_ #[27,3] ty #[.slice (some ⟨g,o,none⟩) i c,.int .i64 ((n:Int)+1-(i:Int))]).run prog w=.ok (.slice (some ⟨w.heap.size,0,none⟩) (n+1) (grownCap w (n+1) c 63)) (w.drew.alloc (.cells ROW 63)):=by
  refine⟨((cur.toList.drop o).take (i*2)).toArray++Builtin.zeroCells z.cells (n+1-i)++Builtin.zeroCells z.cells (grownCap w (n+1) c 63-(n+1)),?_,?_,fun ty=>?_⟩
  ·simp only[Array.size_append,List.size_toArray,size_zeroCells,hzs,List.length_take,List.length_drop,Array.length_toList]
   rw[Nat.min_eq_left (by omega),←Nat.add_mul,←Nat.add_mul]
   congr 1;omega
  ·simp only[Array.toList_append,List.append_assoc]
   rw[List.take_append_of_le_length (by simp;omega),List.take_take,Nat.min_self]
  ·have h:=Lib.run_append_grow_zeros (P:=prog) w 27 3 ty 63 Tryz.t63 z .i64 .i64 underlying27 underlying3 jux hz (some ⟨g,o,none⟩) i c ((cur.toList.drop o).take (i*2)) hfo (n+1-i) (by omega) (by decide) (by omega) (by omega)
    (by have:Tryz.t63.bytes=16:=rfl
        rw[this];omega) (by rw[hik];exact jh0 (by omega) (by omega) (by decide))
   rw[hik,show(((n+1-i:Nat)):Int)=(n:Int)+1-(i:Int) by omega] at h
   exact h
 generalize grownCap w (n+1) c 63=G at *
 have hgw:g<w.heap.size:=(Array.getElem?_eq_some_iff.1 hg).1
 have hvw:vb<w.heap.size:=(Array.getElem?_eq_some_iff.1 hvb).1
 have hR:∀W:World,W.heap=w.heap.push (.cells ROW 63)→W.heap[w.heap.size]?=some (.cells ROW 63 (0,0)):=fun W hW=>by rw[hW];simp
 have hcp1:∀W:World,W.heap=w.heap.push (.cells ROW 63)→∀ty dc,(Builtin.copy_ #[27,27] ty #[.slice (some ⟨w.heap.size,i*2,none⟩) (n+1-i) dc,.slice (some ⟨vb,vo,none⟩) 1 vc]).run prog W=.ok (goInt 1) (W.setRow w.heap.size (splice ROW.toList (i*2) ((vcur.toList.drop vo).take 2)).toArray):=fun W hW ty dc=>by
  have:=jbq (P:=prog) W 27 ty 63 underlying27 2 j6c w.heap.size (i*2) (n+1-i) dc vb vo 1 vc 1 (by simp only[Nat.min_def];split<;>omega) ROW vcur 63 E' (hR W hW) (by rw[hW,Array.getElem?_push,if_neg (by omega)];exact hvb) (by omega) (by omega) (by simpa using h1v)
  simpa using this
 generalize hC1:splice ROW.toList (i*2) ((vcur.toList.drop vo).take 2)=C1 at *
 have hC1l:C1.length=ROW.size:=by rw[←hC1,jad _ _ _ (by simp;omega)];simp
 have hset:∀(A B:Array Value) (W:World),W.heap=w.heap.push (.cells A 63)→(W.setRow w.heap.size B).heap=w.heap.push (.cells B 63):=fun A B W hW=>by
  apply Array.ext_getElem?
  intro b
  by_cases hb:b=w.heap.size
  ·subst hb
   rw[setRow_heap W w.heap.size A _ 63 (0,0) (by rw[hW];simp)]
   simp
  ·rw[setRow_other _ _ _ _ hb,hW]
   simp[Array.getElem?_push,hb]
 have hcp2:∀(W:World),W.heap=w.heap.push (.cells C1.toArray 63)→∀ty dc sc,(Builtin.copy_ #[27,27] ty #[.slice (some ⟨w.heap.size,(i+1)*2,none⟩) (n-i) dc,.slice (some ⟨g,o+i*2,none⟩) (n-i) sc]).run prog W=.ok (goInt (n-i:Nat)) (W.setRow w.heap.size (splice C1 ((i+1)*2) ((cur.toList.drop (o+i*2)).take ((n-i)*2))).toArray):=fun W hW ty dc sc=>by
  have:=jbq (P:=prog) W 27 ty 63 underlying27 2 j6c w.heap.size ((i+1)*2) (n-i) dc g (o+i*2) (n-i) sc (n-i) (Nat.min_self _) C1.toArray cur 63 E (by rw[hW];simp) (by rw[hW,Array.getElem?_push,if_neg (by omega)];exact hg) (by simp;omega) (by omega) (fun v hv=>h1 v (by
   obtain⟨j,hj,he⟩:=List.mem_iff_getElem.1 hv
   simp only[List.length_take,List.length_drop] at hj
   refine List.mem_iff_getElem.2 ⟨i*2+j,by simp only[List.length_take,List.length_drop];omega,?_⟩
   rw[←he]
   simp only[List.getElem_take,List.getElem_drop]
   congr 1;omega))
  simpa using this
 generalize hC2e:splice C1 ((i+1)*2) ((cur.toList.drop (o+i*2)).take ((n-i)*2))=C2 at *
 have hb1:(0:Int)≤(i:Int)+1:=by omega
 have hin:i≤n:=by omega
 have hin':i≤c:=by omega
 have hb3:(i:Int)≤(n:Int)+1:=by omega
 have hb4:¬(c=i):=by omega
 have hb5:¬(G=i):=by omega
 have hb6:¬(G=i+1):=by omega
 go_enter func197,Tryz.ntmps197
 go_wp2_with (first | (at_builtin;refine Lib.wpList_append_run _ rfl _ _ _ _ rfl _ _ rfl rfl _ _ (hrz _) ?_)|refine jch _ rfl _ _ 27 rfl _ _ rfl rfl (hcp1 _ (by rfl) _ _) ?_)
 have hh2:(((w.alloc (Obj.cells ROW 63)).drew.setRow w.heap.size C1.toArray).drew).heap=w.heap.push (.cells C1.toArray 63):=hset ROW C1.toArray ((w.alloc (Obj.cells ROW 63)).drew) rfl
 go_region_law_o (refine jdo rfl _ _ 27 rfl _ _ (by simp[Act.eval,Act.put]) (by simp[Act.eval,Act.put]) (hcp2 _ hh2 _ _ _) ?_)
 go_wp2
 go_ret
 exact⟨ROW,rfl,hrl,rfl,rfl,rfl,by rw[hC1,hC2e];exact hset C1.toArray C2.toArray _ hh2,hrt⟩
end Go.Proofs.YtnaaceooknghjaaGreatDoor.X
