/- What functions answer, and the plain laws behind it. -/
import Derived.Test.YtnaaceooknghjaaGreatDoorKAO
import Derived.Test.YtnaaceooknghjaaGreatDoorKAN
set_option linter.unusedSimpArgs false
set_option linter.unusedVariables false
set_option maxHeartbeats 8000000
set_option maxRecDepth 100000
namespace Go.Proofs.YtnaaceooknghjaaGreatDoor.X
open Go Go.Proofs Tryz
abbrev twoI (a b:Int):PV:=.i (.lst [[.v (.int .i64 a)],[.v (.int .i64 b)]])
theorem jqy (n a b:Int) (x y z:IV) (ts:List Tl) (h3:LV3 x y z ts) (hl:ts.length≤1000) (hno:¬(VG n (esT ts)∧0≤a∧a<n∧0≤b∧b<n∧Conn (esT ts) a b)) :
 KP 28 [.ptr 1000 0 0 0,S [112,97,116,104],twoI a b] [.box 0 [I n,.i x,.i y,.i z]]=some (S jcc,[.box 0 [I n,.i x,.i y,.i z]],[]):=by
 have hfx:=h3.fx
 have hlx:=h3.lx
 have hly:=h3.ly
 have hlz:=h3.lz
 have l1:=jaq ts
 have hp:=jht n a b (esT ts) (by omega)
 rw[if_neg hno] at hp
 have he:=jc8 a b
 by_cases hE:eOk a b
 ·rw[if_pos hE] at he
  refine gc func28 ?_
  have Fz:=fz7 results28 hfx hlx hly hlz he hp
  repeat(first|exact trivial|refine go1 ?_)
 ·rw[if_neg hE] at he
  refine gc func28 ?_
  have Fz:=fz7 results28 hfx hlx hly hlz he hp
  repeat(first|exact trivial|refine go1 ?_)
theorem jk5 (n a b:Int) (x y z:IV) (ts:List Tl) (h3:LV3 x y z ts) (hl:ts.length≤1000) (hno:¬(VG n (esT ts)∧0≤a∧a<n∧0≤b∧b<n∧Conn (esT ts) a b)) :
 KP 28 [.ptr 1000 0 0 0,S [98,101,116,119,101,101,110],twoI a b] [.box 0 [I n,.i x,.i y,.i z]]=some (S jcc,[.box 0 [I n,.i x,.i y,.i z]],[]):=by
 have hfx:=h3.fx
 have hlx:=h3.lx
 have hly:=h3.ly
 have hlz:=h3.lz
 have l1:=jaq ts
 have hp:=jfe n a b (esT ts) (by omega)
 rw[if_neg hno] at hp
 have he:=jc8 a b
 by_cases hE:eOk a b
 ·rw[if_pos hE] at he
  refine gc func28 ?_
  have Fz:=fz7 results28 hfx hlx hly hlz he hp
  repeat(first|exact trivial|refine go1 ?_)
 ·rw[if_neg hE] at he
  refine gc func28 ?_
  have Fz:=fz7 results28 hfx hlx hly hlz he hp
  repeat(first|exact trivial|refine go1 ?_)
theorem jqx (n a b:Int) (x y z:IV) (ts:List Tl) (h3:LV3 x y z ts) (hl:ts.length≤1000) (hno:¬Pr n a b (esT ts)) :
 KP 28 [.ptr 1000 0 0 0,S [102,108,111,119],twoI a b] [.box 0 [I n,.i x,.i y,.i z]]=some (S jcc,[.box 0 [I n,.i x,.i y,.i z]],[]):=by
 have hfx:=h3.fx
 have hlx:=h3.lx
 have hly:=h3.ly
 have hlz:=h3.lz
 have l1:=jaq ts
 have hp:=jfp n a b (esT ts) (by omega)
 rw[if_neg hno] at hp
 have he:=jc8 a b
 by_cases hE:eOk a b
 ·rw[if_pos hE] at he
  refine gc func28 ?_
  have Fz:=fz7 results28 hfx hlx hly hlz he hp
  repeat(first|exact trivial|refine go1 ?_)
 ·rw[if_neg hE] at he
  refine gc func28 ?_
  have Fz:=fz7 results28 hfx hlx hly hlz he hp
  repeat(first|exact trivial|refine go1 ?_)
theorem jqz (n a:Int) (x y z:IV) (ts:List Tl) (h3:LV3 x y z ts) (hV:VG n (esT ts)) (hno:¬TO n (jai (esT ts)) a) :
 KP 28 [.ptr 1000 0 0 0,S [116,111,117,114],.i (.lst [[.v (.int .i64 a)]])] [.box 0 [I n,.i x,.i y,.i z]]=some (S jcc,[.box 0 [I n,.i x,.i y,.i z]],[]):=by
 have hfx:=h3.fx
 have hlx:=h3.lx
 have hly:=h3.ly
 have hlz:=h3.lz
 have hel:=hV.2.2.1
 have hfl:=(jcz hV.okg.ok).length_le
 have hfo:=jnh n (esT ts) (by omega)
 rw[if_pos hV] at hfo
 have hp:=jv6 n a (jai (esT ts)) (by omega)
 rw[if_neg hno] at hp
 refine gc func28 ?_
 have Fz:=fz7 results28 hfx hlx hly hlz hfo hp
 repeat(first|exact trivial|refine go1 ?_)
def PutL (n:Int) (ts:List Tl) (a b:Int):Prop:=eOk a b∧PlOK n ts (edgeOf a b)
def CutL (ts:List Tl) (a b:Int):Prop:=eOk a b∧edgeOf a b∈esT ts
theorem no00 {n:Int} {ts:List Tl}:¬PlOK n ts (0,0):=fun h=>by
 have:=h.2.2.2.2.2.2.1 (0,0) (jdl.2 (.inl rfl))
 unfold okE at this
 simp only at this
 omega
theorem jt8 (n a b:Int) (x y z:IV) (ts:List Tl) (h3:LV3 x y z ts) (hV:VG n (esT ts)) (hno:¬PutL n ts a b) :
 KP 28 [.ptr 1000 0 0 0,S [112,117,116],twoI a b] [.box 0 [I n,.i x,.i y,.i z]]=some (S jcc,[.box 0 [I n,.i x,.i y,.i z]],[]):=by
 have hfx:=h3.fx
 have hlx:=h3.lx
 have hfy:=h3.fy
 have hly:=h3.ly
 have hfz:=h3.fz
 have hlz:=h3.lz
 have he:=jc8 a b
 by_cases hE:eOk a b
 ·rw[if_pos hE] at he
  have hp:=jhu n (edgeOf a b).1 (edgeOf a b).2 ts hV (fun h=>hno ⟨hE,h⟩)
  generalize edgeOf a b=e at *
  obtain⟨c,d⟩:=e
  refine gc func28 ?_
  have Fz:=fz9 results28 hfx hlx hfy hly hfz hlz he hp
  repeat(first|exact trivial|refine go1 ?_)
 ·rw[if_neg hE] at he
  have hp:=jhu n 0 0 ts hV no00
  refine gc func28 ?_
  have Fz:=fz9 results28 hfx hlx hfy hly hfz hlz he hp
  repeat(first|exact trivial|refine go1 ?_)
theorem jt7 (n a b:Int) (x y z:IV) (ts:List Tl) (h3:LV3 x y z ts) (hV:VG n (esT ts)) (hno:¬CutL ts a b) :
 KP 28 [.ptr 1000 0 0 0,S [99,117,116],twoI a b] [.box 0 [I n,.i x,.i y,.i z]]=some (S jcc,[.box 0 [I n,.i x,.i y,.i z]],[]):=by
 have hfx:=h3.fx
 have hlx:=h3.lx
 have hfy:=h3.fy
 have hly:=h3.ly
 have hfz:=h3.fz
 have hlz:=h3.lz
 have he:=jc8 a b
 by_cases hE:eOk a b
 ·rw[if_pos hE] at he
  have hp:=jhs n (edgeOf a b).1 (edgeOf a b).2 ts hV (fun h=>hno ⟨hE,h.2⟩)
  generalize edgeOf a b=e at *
  obtain⟨c,d⟩:=e
  refine gc func28 ?_
  have Fz:=fz9 results28 hfx hlx hfy hly hfz hlz he hp
  repeat(first|exact trivial|refine go1 ?_)
 ·rw[if_neg hE] at he
  have hp:=jhs n 0 0 ts hV (fun h=>by
   have:=hV.2.2.2.1 _ h.2
   unfold okE at this
   simp only at this
   omega)
  refine gc func28 ?_
  have Fz:=fz9 results28 hfx hlx hfy hly hfz hlz he hp
  repeat(first|exact trivial|refine go1 ?_)
theorem j2b (n a b:Int) (x y z:IV) (ts:List Tl) (h3:LV3 x y z ts) (hP:PutL n ts a b) :
 KP 28 [.ptr 1000 0 0 0,S [112,117,116],twoI a b] [.box 0 [I n,.i x,.i y,.i z]]=
  some (S ([112,97,114,116,115]++jaw [(cnt n (putE (edgeOf a b) (esT ts)):Int)]++[10]),[.box 0 [I n,.i (.lst ((esT (plL ts (edgeOf a b))).map encE)),.i (.lst ((lvT (plL ts (edgeOf a b))).map encI)),.i (.lst ((trT (plL ts (edgeOf a b))).map encT))]],[]):=by
 have hfx:=h3.fx
 have hlx:=h3.lx
 have hfy:=h3.fy
 have hly:=h3.ly
 have hfz:=h3.fz
 have hlz:=h3.lz
 obtain⟨hE,hP⟩:=hP
 have he:=jc8 a b
 rw[if_pos hE] at he
 have hVp:=hP.2.2.2
 have hel:=hVp.2.2.1
 generalize edgeOf a b=e at *
 obtain⟨c,d⟩:=e
 obtain⟨r,own,hpl,him⟩:=jnj n c d ts hP
 have hes:=jfb (c,d) (!decide (Conn (esT ts) c d)) ts
 have hpc:=jtz n (putE (c,d) (esT ts)) (by omega)
 rw[if_pos hVp,←hes] at hpc
 have hc16:=j70 (es:=putE (c,d) (esT ts)) hVp.2.1
 have hnt:KP 61 [S [112,97,114,116,115],.i (.lst [[.v (.int .i64 (cnt n (putE (c,d) (esT ts)):Int))]])] []=_:=ja5 [112,97,114,116,115] [(cnt n (putE (c,d) (esT ts)):Int)] (fun v hv=>by simp at hv;omega) (by simp) (by simp)
 rw[←hes] at hnt ⊢
 generalize hU:plL ts (c,d)=us at *
 have hU':putT (c,d) (!decide (Conn (esT ts) c d)) ts=us:=hU
 rw[hU'] at hpc hnt ⊢
 generalize (cnt n (esT us):Int)=q at *
 generalize hR:([112,97,114,116,115]:List UInt8)++jaw [q]++[10]=R at *
 refine gc func28 ?_
 have Fz:=fz12 results28 hfx hlx hfy hly hfz hlz he hpl him hpc hnt
 repeat(first|exact trivial|refine go1 ?_)
theorem j18 (n a b:Int) (x y z:IV) (ts:List Tl) (h3:LV3 x y z ts) (hL:LV n ts) (hC:CutL ts a b) :
 KP 28 [.ptr 1000 0 0 0,S [99,117,116],twoI a b] [.box 0 [I n,.i x,.i y,.i z]]=
  some (S ((if(ctR n ts (edgeOf a b)).2.2=true then [102,111,117,110,100] else [99,117,116])++32::Lib.itoa (ctR n ts (edgeOf a b)).2.1++[10]),
   [.box 0 [I n,.i (.lst ((esT (ctR n ts (edgeOf a b)).1).map encE)),.i (.lst ((lvT (ctR n ts (edgeOf a b)).1).map encI)),.i (.lst ((trT (ctR n ts (edgeOf a b)).1).map encT))]],[]):=by
 have hfx:=h3.fx
 have hlx:=h3.lx
 have hfy:=h3.fy
 have hly:=h3.ly
 have hfz:=h3.fz
 have hlz:=h3.lz
 obtain⟨hE,hm⟩:=hC
 have he:=jc8 a b
 rw[if_pos hE] at he
 generalize edgeOf a b=e at *
 obtain⟨c,d⟩:=e
 obtain⟨r,own,hcl,him⟩:=jty n c d ts hL hm
 obtain⟨-,-,-,r0,r1⟩:=ct_spec hL hm
 have hn1:=jec [99,117,116] (ctR n ts (c,d)).2.1 (by omega) (by omega) (by simp)
 have hn2:=jec [102,111,117,110,100] (ctR n ts (c,d)).2.1 (by omega) (by omega) (by simp)
 generalize ctR n ts (c,d)=R at *
 obtain⟨us,rs,fd⟩:=R
 simp only at him hn1 hn2 r0 r1 ⊢
 generalize hR1:([99,117,116]:List UInt8)++32::Lib.itoa rs++[10]=R1 at *
 generalize hR2:([102,111,117,110,100]:List UInt8)++32::Lib.itoa rs++[10]=R2 at *
 cases fd with
 | false=>
  rw[if_neg (by simp),hR1]
  refine gc func28 ?_
  have Fz:=fz12 results28 hfx hlx hfy hly hfz hlz he hcl him hn1 hn2
  repeat(first|exact trivial|refine go1 ?_)
 | true=>
  rw[if_pos rfl,hR2]
  refine gc func28 ?_
  have Fz:=fz12 results28 hfx hlx hfy hly hfz hlz he hcl him hn1 hn2
  repeat(first|exact trivial|refine go1 ?_)
end Go.Proofs.YtnaaceooknghjaaGreatDoor.X
