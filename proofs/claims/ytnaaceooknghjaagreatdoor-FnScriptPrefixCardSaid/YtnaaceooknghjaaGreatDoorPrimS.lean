/- What functions answer, and the plain laws behind it. -/
import Derived.Test.YtnaaceooknghjaaGreatDoorKAB
import Derived.Shelf.Sort.Plain
import Derived.Lib.ItoaNum
import Derived.Lib.AtoiErrMem
set_option linter.unusedVariables false
namespace Go.Proofs.YtnaaceooknghjaaGreatDoor.X
open Go Go.RowKit Tryz
theorem j40 {xs:List (List IV)} (h:xs.all j4z=true):xs=(xs.map j86).map encI:=by
 induction xs with
 | nil=>rfl
 | cons x r ih=>
  simp only[List.all_cons,Bool.and_eq_true] at h
  rw[List.map_cons,List.map_cons,←ih h.2]
  congr 1
  have h1:=h.1
  unfold j4z at h1
  split at h1
  ·rfl
  ·cases h1
theorem jsk {A:Arr}:mq [A] []=mp [A]:=by
 funext s
 unfold mq mp
 by_cases h2:2000≤s
 ·rw[if_pos h2,if_pos (by omega)]
  rw[List.getElem?_eq_none (by simp),List.getElem?_eq_none (by simp;omega)]
 ·rw[if_neg h2]
theorem jfh:mq [] []=mp []:=by
 funext s
 unfold mq mp
 split
 ·rw[if_pos (by omega)];simp
 ·rfl
theorem jl6 {A B:Arr} {s:Nat} (h:mp [A] s=some B):s=1000∧B=A:=by
 unfold mp at h
 split at h
 ·have:=(List.getElem?_eq_some_iff.1 h).1
  simp only[List.length_cons,List.length_nil] at this
  obtain rfl:s=1000:=by omega
  simp at h
  exact⟨rfl,h.symm⟩
 ·cases h
theorem jcr {B:Arr} {s:Nat} (h:mp [] s=some B):False:=by
 unfold mp at h
 split at h<;>simp at h
theorem j0q {ps:List Arr} {γ:Nat→GB} {F:Nat→Prop} {w:World} {r:PV} {v:Value} (hm:mq ps []=mp ps) (hi:Inv (mp ps) γ F w) (hr:RepP (mp ps) γ F w r v):jbi ps ps [] r γ F w (.returned v) w:=
 ⟨v,γ,F,rfl,rfl,by rw[hm];exact hi,by rw[hm];exact MemStep.refl _ _,fun _ h=>h,fun _ h=>.inl h,by rw[hm];exact Stp.refl _ _ _,by rw[hm];exact hr⟩
theorem jpb {P:Program} {f:FuncId} (h1:∀(ao:Option Addr) (cap:Nat) (w:World),Calls P f #[.slice ao 0 cap] w fun e w'=>∃a',e=.returned (.slice a' 0 0)∧Below w.heap.size w w')
 {args:List PV} {ps:List Arr} {r:PV} {ps' own:List Arr} (h:jrb args ps=some (r,ps',own)) {γ:Nat→GB} {F:Nat→Prop} {w:World} {vals:List Value} (hi:Inv (mp ps) γ F w) (hl:args.length=vals.length)
 (hv:∀(j:Nat) (p:PV) (v:Value),args[j]?=some p→vals[j]?=some v→RepP (mp ps) γ F w p v):Calls P f vals.toArray w (jbi ps ps' own r γ F w):=by
 have key:∀v,vals=[v]→ps=[]→ps'=[]→own=[]→r=.i .emp→(∃ao cap,v=.slice ao 0 cap)→Calls P f vals.toArray w (jbi ps ps' own r γ F w):=by
  rintro v rfl rfl rfl rfl rfl ⟨ao,cap,rfl⟩
  refine(h1 ao cap w).mono fun e w' he=>?_
  obtain⟨a',rfl,hb⟩:=he
  refine⟨_,γ,F,rfl,rfl,?_,?_,fun _ h=>h,fun _ h=>.inl h,?_,.i (.emp a')⟩
  ·rw[jfh]
   exact⟨fun s A h=>(jcr h).elim,fun s A h=>(jcr h).elim,fun s s' A A' h=>(jcr h).elim,fun b h=>Nat.lt_of_lt_of_le (hi.bound b h) hb.size,hi.glob.mono (fun _ h=>h) fun b h=>hb.block b (hi.bound b h)⟩
  ·rw[jfh];exact fun s A h=>(jcr h).elim
  ·rw[jfh]
   exact⟨hb.os,hb.tape,hb.output,hb.size,fun b hb' _=>hb.block b hb',fun s A h=>(jcr h).elim⟩
 unfold jrb at h
 split at h
 ·cases h
  match vals,hl with
  | [v],_=>
   refine key v rfl rfl rfl rfl rfl ?_
   have:=hv 0 _ _ rfl rfl
   cases this with
   | i h=>cases h with
    | lst xs ao cap k c=>exact⟨_,_,rfl⟩
 ·cases h
  match vals,hl with
  | [v],_=>
   refine key v rfl rfl rfl rfl rfl ?_
   have:=hv 0 _ _ rfl rfl
   cases this with
   | i h=>cases h with
    | emp ao=>exact⟨_,_,rfl⟩
 ·cases h
theorem kf2 {P:Program} {f:FuncId} (h1:∀(x y:Nat) (hx:x<18446744073709551616) (hy:y<18446744073709551616) (w:World),Calls P f #[.int .u64 x,.int .u64 y] w fun e w'=>
 e=.returned (.tuple #[.int .u64 ((x*y / 18446744073709551616:Nat):Int),.int .u64 ((x*y % 18446744073709551616:Nat):Int)])∧w'=w)
 {args:List PV} {ps:List Arr} {r:PV} {ps' own:List Arr} (h:mulP args ps=some (r,ps',own)) {γ:Nat→GB} {F:Nat→Prop} {w:World} {vals:List Value} (hi:Inv (mp ps) γ F w) (hl:args.length=vals.length)
 (hv:∀(j:Nat) (p:PV) (v:Value),args[j]?=some p→vals[j]?=some v→RepP (mp ps) γ F w p v):Calls P f vals.toArray w (jbi ps ps' own r γ F w):=by
 unfold mulP at h
 split at h
 ·rename_i a b
  split at h
  ·rename_i hc
   cases h
   match vals,hl with
   | [v,u],_=>
    have hv1:=hv 0 _ _ rfl rfl
    have hv2:=hv 1 _ _ rfl rfl
    cases hv1 with
    | i hv1=>
    cases hv1
    cases hv2 with
    | i hv2=>
    cases hv2
    obtain⟨x,rfl⟩:=Int.eq_ofNat_of_zero_le hc.1
    obtain⟨y,rfl⟩:=Int.eq_ofNat_of_zero_le hc.2.2.1
    refine(h1 x y (by omega) (by omega) w).mono fun e w' he=>?_
    obtain⟨rfl,rfl⟩:=he
    refine j0q jfh hi (.tup _ [_,_] rfl fun j p v h1 h2=>?_)
    match j,h1,h2 with
    | 0,h1,h2=>cases h1;cases h2;exact .i (.v _)
    | 1,h1,h2=>cases h1;cases h2;exact .i (.v _)
    | j+2,h1,h2=>simp at h1
  ·cases h
 ·cases h
theorem jm3 {i:Nat} (h:i<100):Lib.decDigits i=dec2 i:=by
 unfold dec2
 split
 ·rename_i h1;exact Lib.decDigits_one h1
 ·rename_i h1;exact Lib.decDigits_two h1 h
theorem kh3 {P:Program} {f:FuncId} (h1:∀(i:Nat) (hi:i<100) (w:World),Calls P f #[.int .i64 i] w fun e w'=>e=.returned (.string ⟨(Lib.decDigits i).toArray⟩)∧w'=w)
 {args:List PV} {ps:List Arr} {r:PV} {ps' own:List Arr} (h:kfy args ps=some (r,ps',own)) {γ:Nat→GB} {F:Nat→Prop} {w:World} {vals:List Value} (hi:Inv (mp ps) γ F w) (hl:args.length=vals.length)
 (hv:∀(j:Nat) (p:PV) (v:Value),args[j]?=some p→vals[j]?=some v→RepP (mp ps) γ F w p v):Calls P f vals.toArray w (jbi ps ps' own r γ F w):=by
 unfold kfy at h
 split at h
 ·rename_i n
  split at h
  ·rename_i hc
   cases h
   match vals,hl with
   | [v],_=>
    have hv1:=hv 0 _ _ rfl rfl
    cases hv1 with
    | i hv1=>
    cases hv1
    obtain⟨x,rfl⟩:=Int.eq_ofNat_of_zero_le hc.1
    refine(h1 x (by omega) w).mono fun e w' he=>?_
    obtain⟨rfl,rfl⟩:=he
    refine j0q jfh hi ?_
    rw[jm3 (by omega)]
    exact .i (.v _)
  ·cases h
 ·cases h
theorem jej {γ:Nat→GB} {F:Nat→Prop} {w w':World} {r:PV} {v:Value} (hi:Inv (mp []) γ F w) (hb:Below w.heap.size w w') (hr:RepP (mp []) γ F w' r v):jbi [] [] [] r γ F w (.returned v) w':=by
 refine⟨v,γ,F,rfl,rfl,?_,?_,fun _ h=>h,fun _ h=>.inl h,?_,by rw[jfh];exact hr⟩
 ·rw[jfh]
  exact⟨fun s A h=>(jcr h).elim,fun s A h=>(jcr h).elim,fun s s' A A' h=>(jcr h).elim,fun b h=>Nat.lt_of_lt_of_le (hi.bound b h) hb.size,hi.glob.mono (fun _ h=>h) fun b h=>hb.block b (hi.bound b h)⟩
 ·rw[jfh];exact fun s A h=>(jcr h).elim
 ·rw[jfh]
  exact⟨hb.os,hb.tape,hb.output,hb.size,fun b hb' _=>hb.block b hb',fun s A h=>(jcr h).elim⟩
theorem kg7 {P:Program} {f:FuncId} (h1:∀(s:ByteArray) (n:Int) (hl:s.size≤18) (h:Lib.atoi s.data.toList=some n) (w:World),Calls P f #[.string s] w fun e w'=>e=.returned (.tuple #[.int .i64 n,.nilIface])∧Below w.heap.size w w')
 {args:List PV} {ps:List Arr} {r:PV} {ps' own:List Arr} (h:keu args ps=some (r,ps',own)) {γ:Nat→GB} {F:Nat→Prop} {w:World} {vals:List Value} (hi:Inv (mp ps) γ F w) (hl:args.length=vals.length)
 (hv:∀(j:Nat) (p:PV) (v:Value),args[j]?=some p→vals[j]?=some v→RepP (mp ps) γ F w p v):Calls P f vals.toArray w (jbi ps ps' own r γ F w):=by
 unfold keu at h
 split at h
 ·rename_i s
  split at h
  ·rename_i hc
   simp only[Option.map_eq_some_iff] at h
   obtain⟨n,hn,h⟩:=h
   cases h
   match vals,hl with
   | [v],_=>
    have hv1:=hv 0 _ _ rfl rfl
    cases hv1 with
    | i hv1=>
    cases hv1
    refine(h1 s n hc hn w).mono fun e w' he=>?_
    obtain⟨rfl,hb⟩:=he
    refine jej hi hb (.tup _ [_,_] rfl fun j p v h1 h2=>?_)
    match j,h1,h2 with
    | 0,h1,h2=>cases h1;cases h2;exact .i (.v _)
    | 1,h1,h2=>cases h1;cases h2;exact .i (.v _)
    | j+2,h1,h2=>simp at h1
  ·cases h
 ·cases h
theorem j6q (w:World) (k:Nat) (os:Array Obj):Below w.heap.size w (Sort.grow (w.drewN k) os):=
 ⟨rfl,rfl,rfl,by simp[Sort.grow,World.drewN],fun b hb=>by
  show(w.heap++os)[b]?=_
  rw[Array.getElem?_append_left hb]⟩
theorem j6o {f:FuncId}
 (h1:∀(s:ByteArray) (v:Int) (hl:s.size≤1048576) (h:Lib.atoiAll s.data.toList=.ok v) (w:World),Calls prog f #[.string s] w fun e w'=>e=.returned (.tuple #[.int .i64 v,.nilIface])∧Below w.heap.size w w')
 (h2:∀(s:ByteArray) (hl:s.size≤1048576),(∀v,Lib.atoiAll s.data.toList≠.ok v)→Lib.atoiAll s.data.toList≠.range→∀(w:World),VW w→Calls prog f #[.string s] w fun e w'=>(∃t x,e=.returned (.tuple #[.int .i64 0,.iface t x]))∧Below w.heap.size w w')
 (h3:∀(s:ByteArray) (hl:s.size≤1048576),Lib.atoiAll s.data.toList=.range→∀(w:World),VW w→Calls prog f #[.string s] w fun e w'=>(∃t x,e=.returned (.tuple #[.int .i64 (Lib.atoiSat s.data.toList),.iface t x]))∧Below w.heap.size w w')
 {args:List PV} {ps:List Arr} {r:PV} {ps' own:List Arr} (h:kbm args ps=some (r,ps',own)) {γ:Nat→GB} {F:Nat→Prop} {w:World} {vals:List Value} (hi:Inv (mp ps) γ F w) (hl:args.length=vals.length)
 (hv:∀(j:Nat) (p:PV) (v:Value),args[j]?=some p→vals[j]?=some v→RepP (mp ps) γ F w p v):Calls prog f vals.toArray w (jbi ps ps' own r γ F w):=by
 unfold kbm at h
 split at h
 ·rename_i s
  split at h
  ·rename_i hc
   cases h
   match vals,hl with
   | [v],_=>
    have hv1:=hv 0 _ _ rfl rfl
    cases hv1 with
    | i hv1=>
    cases hv1
    unfold jiw
    cases hq:Lib.atoiAll s.data.toList with
    | ok n=>
     refine(h1 s n hc hq w).mono fun e w' he=>?_
     obtain⟨rfl,hb⟩:=he
     refine jej hi hb (.tup _ [_,_] rfl fun j p v h1 h2=>?_)
     match j,h1,h2 with
     | 0,h1,h2=>cases h1;cases h2;exact .i (.v _)
     | 1,h1,h2=>cases h1;cases h2;exact .i (.v _)
     | j+2,h1,h2=>simp at h1
    | range=>
     refine(h3 s hc hq w hi.glob.holds).mono fun e w' he=>?_
     obtain⟨⟨t,x,rfl⟩,hb⟩:=he
     refine jej hi hb (.tup _ [_,_] rfl fun j p v h1 h2=>?_)
     match j,h1,h2 with
     | 0,h1,h2=>cases h1;cases h2;exact .i (.v _)
     | 1,h1,h2=>cases h1;cases h2;exact .i (.err _ _)
     | j+2,h1,h2=>simp at h1
    | _=>
     refine(h2 s hc (fun v e=>by rw[hq] at e;cases e) (fun e=>by rw[hq] at e;cases e) w hi.glob.holds).mono fun e w' he=>?_
     obtain⟨⟨t,x,rfl⟩,hb⟩:=he
     refine jej hi hb (.tup _ [_,_] rfl fun j p v h1 h2=>?_)
     match j,h1,h2 with
     | 0,h1,h2=>cases h1;cases h2;exact .i (.v _)
     | 1,h1,h2=>cases h1;cases h2;exact .i (.err _ _)
     | j+2,h1,h2=>simp at h1
  ·cases h
 ·cases h
theorem j83 {f:FuncId} (h1:∀(n:Int),-9223372036854775808≤n→n≤9223372036854775807→∀(w:World),VW w→Calls prog f #[.int .i64 n] w fun e w'=>e=.returned (.string ⟨(Lib.itoa n).toArray⟩)∧Below w.heap.size w w')
 {args:List PV} {ps:List Arr} {r:PV} {ps' own:List Arr} (h:j82 args ps=some (r,ps',own)) {γ:Nat→GB} {F:Nat→Prop} {w:World} {vals:List Value} (hi:Inv (mp ps) γ F w) (hl:args.length=vals.length)
 (hv:∀(j:Nat) (p:PV) (v:Value),args[j]?=some p→vals[j]?=some v→RepP (mp ps) γ F w p v):Calls prog f vals.toArray w (jbi ps ps' own r γ F w):=by
 unfold j82 at h
 split at h
 ·rename_i n
  split at h
  ·rename_i hc
   cases h
   match vals,hl with
   | [v],_=>
    have hv1:=hv 0 _ _ rfl rfl
    cases hv1 with
    | i hv1=>
    cases hv1
    refine(h1 n hc.1 hc.2 w hi.glob.holds).mono fun e w' he=>?_
    obtain⟨rfl,hb⟩:=he
    exact jej hi hb (.i (.v _))
  ·cases h
 ·cases h
theorem kfw {P:Program} {f:FuncId} (h1:∀(s:ByteArray) (c:Int) (w:World),Calls P f #[.string s,.int .u8 c] w fun e w'=>e=.returned (.int .i64 (Lib.indexByte s.data.toList c.toNat.toUInt8))∧w'=w)
 {args:List PV} {ps:List Arr} {r:PV} {ps' own:List Arr} (h:idxP args ps=some (r,ps',own)) {γ:Nat→GB} {F:Nat→Prop} {w:World} {vals:List Value} (hi:Inv (mp ps) γ F w) (hl:args.length=vals.length)
 (hv:∀(j:Nat) (p:PV) (v:Value),args[j]?=some p→vals[j]?=some v→RepP (mp ps) γ F w p v):Calls P f vals.toArray w (jbi ps ps' own r γ F w):=by
 unfold idxP at h
 split at h
 ·rename_i s c
  cases h
  match vals,hl with
  | [v,u],_=>
   have hv1:=hv 0 _ _ rfl rfl
   have hv2:=hv 1 _ _ rfl rfl
   cases hv1 with
   | i hv1=>
   cases hv1
   cases hv2 with
   | i hv2=>
   cases hv2
   refine(h1 s c w).mono fun e w' he=>?_
   obtain⟨rfl,rfl⟩:=he
   exact j0q jfh hi (.i (.v _))
 ·cases h
theorem kfk {P:Program} {f:FuncId} (h1:∀(s:ByteArray) (c:UInt8) (w:World),Calls P f #[.string s,.string ⟨#[c]⟩] w fun e w'=>e=.returned (.int .i64 (Lib.countByte s.data.toList c))∧w'=w)
 {args:List PV} {ps:List Arr} {r:PV} {ps' own:List Arr} (h:cntP args ps=some (r,ps',own)) {γ:Nat→GB} {F:Nat→Prop} {w:World} {vals:List Value} (hi:Inv (mp ps) γ F w) (hl:args.length=vals.length)
 (hv:∀(j:Nat) (p:PV) (v:Value),args[j]?=some p→vals[j]?=some v→RepP (mp ps) γ F w p v):Calls P f vals.toArray w (jbi ps ps' own r γ F w):=by
 unfold cntP at h
 split at h
 ·rename_i s c
  cases h
  match vals,hl with
  | [v,u],_=>
   have hv1:=hv 0 _ _ rfl rfl
   have hv2:=hv 1 _ _ rfl rfl
   cases hv1 with
   | i hv1=>
   cases hv1
   cases hv2 with
   | i hv2=>
   cases hv2
   refine(h1 s c w).mono fun e w' he=>?_
   obtain⟨rfl,rfl⟩:=he
   exact j0q jfh hi (.i (.v _))
 ·cases h
open Go.Sort in
theorem kd7 {P:Program} {f:FuncId}
 (h1:∀(blk off cap:Nat) (zs:List Int) (w:World),Go.Sort.Holds (Value.int .i64) w blk off zs.toArray→blk<w.heap.size→zs.length<4611686018427387904→
   Calls P f #[.slice (some ⟨blk,off,none⟩) zs.length cap] w fun e w'=>e=.returned (.tuple #[])∧∃n os,w'=grow (putRow (Value.int .i64) (Sort.ahead w n) blk off (zs.mergeSort fun x y=>decide (x≤y)).toArray) os)
 (h2:∀(p:Option Addr) (cap:Nat) (w:World),Calls P f #[.slice p 0 cap] w fun e w'=>e=.returned (.tuple #[])∧w'=w)
 {args:List PV} {ps:List Arr} {r:PV} {ps' own:List Arr} (h:kab args ps=some (r,ps',own)) {γ:Nat→GB} {F:Nat→Prop} {w:World} {vals:List Value} (hi:Inv (mp ps) γ F w) (hl:args.length=vals.length)
 (hv:∀(j:Nat) (p:PV) (v:Value),args[j]?=some p→vals[j]?=some v→RepP (mp ps) γ F w p v):Calls P f vals.toArray w (jbi ps ps' own r γ F w):=by
 have ht:∀(ps:List Arr) (γ:Nat→GB) (F:Nat→Prop) (w:World),RepP (mp ps) γ F w (.tup []) (.tuple #[]):=fun ps γ F w=>.tup [] [] rfl fun j p v h=>by simp at h
 unfold kab at h
 split at h
 ·rename_i n xs
  split at h
  ·rename_i hc
   obtain⟨rfl,hlim,hall⟩:=hc
   cases h
   match vals,hl with
   | [v],_=>
    have hr:=hv 0 _ _ rfl rfl
    cases hr with
    | ref s ver off len ao cap A g1 g2 g3=>
     obtain⟨-,rfl⟩:=jl6 g1
     obtain⟨q1,q2,q3,q4⟩:=g3 rfl
     obtain⟨cur,E,hb,hsz,hxc,hmx,hcell⟩:=hi.holds 1000 _ g1
     generalize hzs:xs.map j86=zs
     have hx:xs=zs.map encI:=by rw[←hzs];exact j40 hall
     subst hx
     have hlen:(zs.map encI).length=zs.length:=by simp
     rw[hlen]
     rw[hlen] at hxc q1
     rw[joi]
     cases hz:zs with
     | nil=>
      refine(h2 ao cap w).mono fun e w' he=>?_
      obtain⟨rfl,rfl⟩:=he
      subst hz
      have e0:jje []=[]:=by simp[jje]
      rw[e0]
      exact j0q jsk hi (ht _ _ _ _)
     | cons z0 zr=>
      have hpos:0<zs.length:=by rw[hz];simp
      rw[←hz]
      have hao:=q4 (by omega)
      rw[Nat.add_zero,Nat.mul_one] at hao
      subst hao
      have hget:∀i,(hi':i<zs.length)→cur[(γ 1000).b+i]?=some (.int .i64 zs[i]):=by
       intro i hi'
       obtain⟨_,hc⟩:=hcell i (encI zs[i]) (by simp[hi'])
       obtain⟨x,hx,_,hrep⟩:=hc 0 (.v (.int .i64 zs[i])) rfl
       cases hrep
       simpa using hx
      have hH:Go.Sort.Holds (Value.int .i64) w (γ 1000).g (γ 1000).b zs.toArray:=by
       intro j hj
       simp only[List.size_toArray] at hj
       refine⟨?_,?_⟩
       ·simp only[World.cell?,hb,Option.isSome_none,Bool.false_eq_true,if_false]
        rw[hget j hj]
        simp[hj]
       ·simp[World.frozen?,hb]
      have hmax:maxLen<9223372036854775808:=by decide
      have hglt:(γ 1000).g<w.heap.size:=(Array.getElem?_eq_some_iff.1 hb).1
      refine(h1 (γ 1000).g (γ 1000).b cap zs w hH hglt ?_).mono fun e w' he=>?_
      ·rw[hlen] at hlim;omega
      obtain⟨rfl,k,os,rfl⟩:=he
      have hss:(jje zs).length=zs.length:=jf6 zs
      generalize hS:jje zs=S at hss
      have hS':(zs.mergeSort fun x y=>decide (x≤y))=S:=hS
      rw[hS']
      have hblk:∀b,b<w.heap.size→b≠(γ 1000).g→(grow (putRow (Value.int .i64) (Sort.ahead w k) (γ 1000).g (γ 1000).b S.toArray) os).heap[b]?=w.heap[b]?:=by
       intro b hb' hne
       simp only[grow,putRow,mapBlock,Sort.ahead,Array.getElem?_append,Array.size_modify,hb',if_true,Array.getElem?_modify]
       rw[if_neg (fun h=>hne h.symm)]
      have hown:(grow (putRow (Value.int .i64) (Sort.ahead w k) (γ 1000).g (γ 1000).b S.toArray) os).heap[(γ 1000).g]?=some (.cells (putCells (Value.int .i64) (γ 1000).b S.toArray cur) E (0,0)):=by
       simp only[grow,putRow,mapBlock,Sort.ahead,Array.getElem?_append,Array.size_modify,hglt,if_true,Array.getElem?_modify,hb,Option.map_some,onCells]
      have hsize:w.heap.size≤(grow (putRow (Value.int .i64) (Sort.ahead w k) (γ 1000).g (γ 1000).b S.toArray) os).heap.size:=by
       simp[grow,putRow,mapBlock,Sort.ahead]
      have hos:(grow (putRow (Value.int .i64) (Sort.ahead w k) (γ 1000).g (γ 1000).b S.toArray) os).os=w.os:=rfl
      have htape:(grow (putRow (Value.int .i64) (Sort.ahead w k) (γ 1000).g (γ 1000).b S.toArray) os).tape=w.tape:=rfl
      have hout:(grow (putRow (Value.int .i64) (Sort.ahead w k) (γ 1000).g (γ 1000).b S.toArray) os).output=w.output:=rfl
      generalize grow (putRow (Value.int .i64) (Sort.ahead w k) (γ 1000).g (γ 1000).b S.toArray) os=w' at *
      refine⟨_,γ,F,rfl,rfl,?_,?_,fun _ h=>h,fun _ h=>.inl h,?_,by rw[jsk];exact ht _ _ _ _⟩
      ·rw[jsk]
       refine⟨fun s A h=>?_,fun s A h=>?_,fun s s' A A' h h' _ _ _=>?_,fun b h=>Nat.lt_of_lt_of_le (hi.bound b h) hsize,hi.glob.mono (fun _ h=>h) fun b h=>hblk b (hi.bound b h) fun e=>hi.notF 1000 _ rfl trivial (e▸h)⟩
       ·obtain⟨rfl,rfl⟩:=jl6 h
        refine⟨_,E,hown,by simpa[putCells] using hsz,by simp;omega,hmx,fun i e he=>?_⟩
        rw[List.getElem?_map] at he
        cases hSi:S[i]? with
        | none=>rw[hSi] at he;cases he
        | some z=>
         rw[hSi] at he
         cases he
         refine⟨rfl,fun j p hj=>?_⟩
         have hil:i<S.length:=(List.getElem?_eq_some_iff.1 hSi).1
         match j,hj with
         | 0,hj=>
          cases hj
          refine⟨.int .i64 z,?_,rfl,.v _⟩
          have hcur:=hget i (by omega)
          simp only[putCells,Array.getElem?_mapIdx,Nat.mul_one,Nat.add_zero,hcur,Option.map_some,List.size_toArray]
          rw[if_pos ⟨by omega,by omega⟩,show(γ 1000).b+i-(γ 1000).b=i by omega]
          have:S.toArray[i]! =z:=by
           have:=(List.getElem?_eq_some_iff.1 hSi).2
           simp[hil,this]
          rw[this]
         | j+1,hj=>cases hj
       ·obtain⟨rfl,rfl⟩:=jl6 h
        exact fun _=>hi.notF 1000 _ g1 trivial
       ·rw[(jl6 h).1,(jl6 h').1]
      ·rw[jsk]
       intro s A h
       obtain⟨rfl,rfl⟩:=jl6 h
       exact⟨_,rfl,Nat.le_refl _,fun _=>⟨⟨rfl,by simp[hss]⟩,rfl⟩⟩
      ·rw[jsk]
       refine⟨hos,htape,hout,hsize,fun b hb' hn=>hblk b hb' fun he=>hn 1000 _ g1 trivial he.symm,fun s A h _=>?_⟩
       obtain⟨rfl,rfl⟩:=jl6 h
       exact .inl ⟨_,g1,trivial,rfl⟩
  ·cases h
 ·cases h
  match vals,hl with
  | [v],_=>
   have:=hv 0 _ _ rfl rfl
   cases this with
   | i h=>cases h with
    | emp ao=>
     refine(h2 ao 0 w).mono fun e w' he=>?_
     obtain⟨rfl,rfl⟩:=he
     exact j0q jfh hi (ht _ _ _ _)
 ·cases h
end Go.Proofs.YtnaaceooknghjaaGreatDoor.X
