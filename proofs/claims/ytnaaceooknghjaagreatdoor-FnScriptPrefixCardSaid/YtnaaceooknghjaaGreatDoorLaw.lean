/- From what the interpreter says of a law to the statement's own walk: a law over bytes. -/
import Derived.Test.YtnaaceooknghjaaGreatDoorPrims
import Derived.OpenShut
import GoSem.ClaimJoined
import Derived.KernelRfl
set_option linter.unusedVariables false
namespace Go.Proofs.YtnaaceooknghjaaGreatDoor.X
open Go Go.Proofs Go.RowKit
def IsRow (k:IntKind) (w:World) (a:Option Addr) (len cap:Nat) (zs:List Int):Prop:=
 (a=none∧len=0∧cap=0∧zs=[])∨
 ∃x,a=some x∧len≤cap∧cap≤maxLen∧zs.length=cap∧(∀i,i<zs.length→w.cell? (x.add i)=some (.int k (zs.getD i 0)))∧∀n∈zs,(Lit.int k n).wf=true
theorem j6h {P:Program} {n:String} {w:World} {x:Array Value} {b:Nat} (h:w.var? P n=some x) (hb:P.globalNamed n=some b):b<w.heap.size:=by
 unfold World.var? at h
 rw[hb] at h
 simp only[Option.bind_some] at h
 split at h
 ·rename_i hh;exact(Array.getElem?_eq_some_iff.1 hh).1
 ·cases h
theorem VW.lt {w:World} (h:VW w) {b:Nat} (hb:VB b):b<w.heap.size:=by
 obtain⟨⟨_,_,h1⟩,⟨_,_,h2⟩,h3⟩:=h
 rcases hb with hb|hb|hb
 ·exact j6h h1 hb
 ·exact j6h h2 hb
 ·exact j6h h3 hb
theorem j8z {γ:Nat→GB} {F:Nat→Prop} {w:World} (hF:∀b,F b→b<w.heap.size) (hW:VW w):Inv (mp []) γ (fun b=>F b∨VB b) w:=
 ⟨fun s A h=>(jcr h).elim,fun s A h=>(jcr h).elim,fun s s' A A' h=>(jcr h).elim,fun b h=>h.elim (hF b) hW.lt,fun _ h=>.inr h,hW⟩
theorem jmh {w:World} {a0:Option Addr} {len0 cap0:Nat} {z0:List Int} (w0:IsRow .u8 w a0 len0 cap0 z0) :
 ∃(bs:List Int) (F:Nat→Prop),(∀b∈bs,0≤b∧b<256)∧(∀b,F b→b<w.heap.size)∧RepI F w (.lst (bs.map encB)) (.slice a0 len0 cap0):=by
 rcases w0 with⟨rfl,rfl,rfl,rfl⟩ | ⟨x,rfl,hle,hm,hz,hcell,hwf⟩
 ·exact⟨[],fun _=>False,by simp,fun _ h=>h.elim,.lst [] none 0 1 (fun _ _=>.int .u8 0) (Nat.le_refl _) (by decide) (fun i e h=>by simp at h) (fun i e h=>by simp at h) (fun i e j p h=>by simp at h) (fun i e j p h=>by simp at h)⟩
 ·refine⟨z0.take len0,fun b=>b=x.block∧0<len0,fun b hb=>by have:=bounds_u8 (hwf b (List.mem_of_mem_take hb));omega,fun b hb=>?_,?_⟩
  ·obtain⟨rfl,hl⟩:=hb
   have:=hcell 0 (by omega)
   simp only[Addr.add,if_true] at this
   unfold World.cell? at this
   split at this
   ·rename_i hh
    exact(Array.getElem?_eq_some_iff.1 hh).1
   ·cases this
  ·have hlen:len0=((z0.take len0).map encB).length:=by simp;omega
   have key:∀(i:Nat) (e:List IV),((z0.take len0).map encB)[i]?=some e→i<len0∧e=encB (z0.getD i 0):=by
    intro i e h
    rw[List.getElem?_map,List.getElem?_take] at h
    split at h
    ·rename_i hi
     have hi':i<z0.length:=by omega
     simp only[List.getElem?_eq_getElem hi',Option.map_some,Option.some.injEq] at h
     exact⟨hi,by rw[←h];simp[hi']⟩
    ·cases h
   have res:RepI (fun b=>b=x.block∧0<len0) w (.lst ((z0.take len0).map encB)) (.slice (some x) ((z0.take len0).map encB).length cap0):=by
    refine .lst _ (some x) cap0 1 (fun i j=>.int .u8 (z0.getD i 0)) (by omega) hm (fun i e h=>by rw[(key i e h).2];rfl) (fun i e h=>?_) (fun i e j p h hp=>?_) (fun i e j p h hp=>rfl)
    ·obtain⟨hi,rfl⟩:=key i e h
     have h0:=hcell 0 (by omega)
     have hsp:x.spot=none:=by
      simp only[Addr.add,if_true] at h0
      unfold World.cell? at h0
      split at h0
      ·cases hs:x.spot with
       | none=>rfl
       | some y=>rw[hs] at h0;simp at h0
      ·cases h0
     refine⟨x,rfl,hsp,⟨rfl,by omega⟩,fun j p hp=>?_⟩
     match j,hp with
     | 0,hp=>
      have:=hcell i (by omega)
      rw[jhn hsp,jbe] at this
      simpa using this
     | j+1,hp=>simp[encB] at hp
    ·obtain⟨hi,rfl⟩:=key i e h
     match j,hp with
     | 0,hp=>simp[encB] at hp;subst hp;exact .v _
     | j+1,hp=>simp[encB] at hp
   rwa [←hlen] at res
theorem jk9 {f:FuncId} {args:List PV} (h:KP f args []=some (B true,[],[])) {F:Nat→Prop} {w:World} {vals:List Value} (hF:∀b,F b→b<w.heap.size) (hW:VW w) (hl:args.length=vals.length)
 (hv:∀(j:Nat) (p:PV) (v:Value),args[j]?=some p→vals[j]?=some v→RepP (mp []) (fun _=>⟨0,0,0⟩) F w p v) :
 Calls Tryz.prog f vals.toArray w fun e w'=>e=.returned (.bool true)∧Below w.heap.size w w':=by
 refine((KP_ok f _ _ _ _ _ h (by simp)).2 (fun _=>⟨0,0,0⟩) _ w vals (j8z hF hW) hl fun j p v h1 h2=>(hv j p v h1 h2).step (MemStep.refl _ _) (fun _ h=>.inl h) (fun _ _=>rfl)).mono fun e w' he=>?_
 obtain⟨v,γ',F',rfl,_,_,_,_,_,hs,hr⟩:=he
 refine⟨?_,hs.os,hs.tape,hs.output,hs.size,fun b hb=>hs.frame b hb fun s A h=>(jcr h).elim⟩
 cases hr with
 | i hr=>cases hr;rfl
theorem law_walk {f:FuncId} (h:∀bs:List Int,(∀b∈bs,0≤b∧b<256)→KP f [LB bs] []=some (B true,[],[])) (a0:Option Addr) (len0 cap0:Nat) (z0:List Int) (w:World) (w0:IsRow .u8 w a0 len0 cap0 z0) (hW:VW w) :
 Calls Tryz.prog f #[.slice a0 len0 cap0] w fun e w'=>e=.returned (.bool true)∧Below w.heap.size w w':=by
 obtain⟨bs,F,hb,hF,hr⟩:=jmh w0
 refine jk9 (vals:=[.slice a0 len0 cap0]) (h bs hb) hF hW rfl fun j p v h1 h2=>?_
 match j,h1,h2 with
 | 0,h1,h2=>cases h1;cases h2;exact .i hr
 | j+1,h1,h2=>simp at h1
theorem law_walk2 {f:FuncId} (h:∀bs cs:List Int,(∀b∈bs,0≤b∧b<256)→(∀b∈cs,0≤b∧b<256)→KP f [LB bs,LB cs] []=some (B true,[],[])) (a0:Option Addr) (len0 cap0:Nat) (z0:List Int) (a1:Option Addr) (len1 cap1:Nat) (z1:List Int) (w:World) (w0:IsRow .u8 w a0 len0 cap0 z0) (w1:IsRow .u8 w a1 len1 cap1 z1) (hW:VW w) :
 Calls Tryz.prog f #[.slice a0 len0 cap0,.slice a1 len1 cap1] w fun e w'=>e=.returned (.bool true)∧Below w.heap.size w w':=by
 obtain⟨bs,F,hb,hF,hr⟩:=jmh w0
 obtain⟨cs,G,hc,hG,hs⟩:=jmh w1
 refine jk9 (F:=fun b=>F b∨G b) (vals:=[.slice a0 len0 cap0,.slice a1 len1 cap1]) (h bs cs hb hc) (fun b hb=>hb.elim (hF b) (hG b)) hW rfl fun j p v h1 h2=>?_
 match j,h1,h2 with
 | 0,h1,h2=>cases h1;cases h2;exact(show RepP (mp []) (fun _=>⟨0,0,0⟩) F w (LB bs) (.slice a0 len0 cap0) from .i hr).step (MemStep.refl _ _) (fun _ h=>.inl h) (fun _ _=>rfl)
 | 1,h1,h2=>cases h1;cases h2;exact(show RepP (mp []) (fun _=>⟨0,0,0⟩) G w (LB cs) (.slice a1 len1 cap1) from .i hs).step (MemStep.refl _ _) (fun _ h=>.inr h) (fun _ _=>rfl)
 | j+2,h1,h2=>simp at h1
theorem law_walkS {f:FuncId} (h:∀T:List UInt8,KP f [S T] []=some (B true,[],[])) (s:ByteArray) (w:World) (hW:VW w) :
 Calls Tryz.prog f #[.string s] w fun e w'=>e=.returned (.bool true)∧Below w.heap.size w w':=by
 have e:(⟨s.data.toList.toArray⟩:ByteArray)=s:=by cases s;simp
 refine jk9 (F:=fun _=>False) (vals:=[.string s]) (h s.data.toList) (fun _ h=>h.elim) hW rfl fun j p v h1 h2=>?_
 match j,h1,h2 with
 | 0,h1,h2=>cases h1;cases h2;show RepP _ _ _ w (.i (.v (.string ⟨s.data.toList.toArray⟩))) _;rw[e];exact .i (.v _)
 | j+1,h1,h2=>simp at h1
theorem jti (ws:List (List Char)):stripLifts liftWords ("cut".toList::ws)=([],"cut".toList::ws):=by
 simp[liftWords,stripLifts]
theorem kf0 {P:Program} (h:∃l,P.initOrder=String.ofList l∧(behindMainWord (wordsSigns l)).head?=some "cut".toList) (h1:P.laysLater=false) (h2:P.bearsReflect=false) (h3:P.doorFits []=true):P.mayEnter=true:=by
 obtain⟨l,hl,hc⟩:=h
 unfold Program.mayEnter
 rw[hl,String.toList_ofList]
 generalize behindMainWord (wordsSigns l)=ws at hc
 cases ws with
 | nil=>cases hc
 | cons c rest=>
  cases hc
  simp only[jti,h1,h2,h3]
  simp
theorem j9f {P:Program} (h:∃l,P.initOrder=String.ofList l∧(behindMainWord (wordsSigns l)).head?=some "cut".toList):P.liftsFinal=false:=by
 obtain⟨l,hl,hc⟩:=h
 unfold Program.liftsFinal Program.headLifts
 rw[hl,String.toList_ofList]
 generalize behindMainWord (wordsSigns l)=ws at hc
 cases ws with
 | nil=>cases hc
 | cons c rest=>
  cases hc
  simp only[jti]
  simp
theorem kc8 {P:Program} (h:∃l,P.initOrder=String.ofList l∧(behindMainWord (wordsSigns l)).head?=some "cut".toList):P.make=some .cut:=by
 obtain⟨l,hl,hc⟩:=h
 unfold Program.make
 rw[hl,String.toList_ofList]
 generalize behindMainWord (wordsSigns l)=ws at hc
 cases ws with
 | nil=>cases hc
 | cons c rest=>
  cases hc
  simp
set_option maxRecDepth 100000 in
theorem jma:∃l,Tryz.prog.initOrder=String.ofList l∧(behindMainWord (wordsSigns l)).head?=some "cut".toList:=⟨_,rfl,by kernel_rfl⟩
theorem may:Tryz.prog.mayEnter=true:=kf0 jma (by kernel_rfl) (by kernel_rfl) (by kernel_rfl)
theorem lifts:Tryz.prog.liftsFinal=false:=j9f jma
theorem made:Tryz.prog.make=some .cut:=kc8 jma
end Go.Proofs.YtnaaceooknghjaaGreatDoor.X
