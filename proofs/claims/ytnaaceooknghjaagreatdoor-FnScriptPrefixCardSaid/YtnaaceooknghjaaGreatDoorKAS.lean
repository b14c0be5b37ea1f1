/- What functions answer, and the plain laws behind it. -/
import Derived.Test.YtnaaceooknghjaaGreatDoorKAO
import Derived.Test.YtnaaceooknghjaaGreatDoorKAN
import Derived.Test.YtnaaceooknghjaaGreatDoorKAL
import Derived.Test.YtnaaceooknghjaaGreatDoorKAJ
import Derived.Test.YtnaaceooknghjaaGreatDoorKAR
import Derived.Test.YtnaaceooknghjaaGreatDoorC129
set_option linter.unusedSimpArgs false
set_option linter.unusedVariables false
set_option maxHeartbeats 8000000
set_option maxRecDepth 100000
namespace Go.Proofs.YtnaaceooknghjaaGreatDoor.X
open Go Go.Proofs Tryz
theorem j2c (n a:Int) (x y z:IV) (ts:List Tl) (h3:LV3 x y z ts) (hV:VG n (esT ts)) (hT:TO n (jai (esT ts)) a) (hs:smallL (toL n (jai (esT ts)) a)) (hl:(toL n (jai (esT ts)) a).length≤100) :
 KP 28 [.ptr 1000 0 0 0,S [116,111,117,114],.i (.lst [[.v (.int .i64 a)]])] [.box 0 [I n,.i x,.i y,.i z]]=
  some (S ([116,111,117,114]++jaw (toL n (jai (esT ts)) a)++[10]),[.box 0 [I n,.i x,.i y,.i z]],[]):=by
 have hfx:=h3.fx
 have hlx:=h3.lx
 have hel:=hV.2.2.1
 have hfl:=(jcz hV.okg.ok).length_le
 have hfo:=jnh n (esT ts) (by omega)
 rw[if_pos hV] at hfo
 have hp:=jv6 n a (jai (esT ts)) (by omega)
 rw[if_pos hT] at hp
 have hnt:=ja5 [116,111,117,114] (toL n (jai (esT ts)) a) hs (by simp) (by omega)
 generalize toL n (jai (esT ts)) a=P at *
 generalize hR:([116,111,117,114]:List UInt8)++jaw P++[10]=R at *
 refine gc func28 ?_
 have Fz:=fz6 results28 hfx hlx hfo hp hnt
 repeat(first|exact trivial|refine go1 ?_)
theorem kd9 {n:Int} {es:List (Int×Int)} (hV:VG n es) {l:List Int} {r:Int} (h:TO n es r):∀e∈csL (toL n es r),e∈es:=fun e he=>by
 have h0:0≤n:=by have:=h.1.1;omega
 rw[jvn h.1.okg.ok h.1.nodup h0 h.2.2 h.at'.1 h.at'.2,ji9] at he
 exact jp8 h.1.okg.ok _ he
theorem kaf {n:Int} {es:List (Int×Int)} {r:Int} (h:TO n es r):TV (toL n es r)∧(toL n es r).length+1=2*(ptL n es r).length∧(csL (toL n es r)).length+1=(ptL n es r).length∧(∀v∈ptL n es r,v∈toL n es r)∧(toL n es r).getD 0 0=r∧(∀e∈csL (toL n es r),e∈es)∧∀v∈toL n es r,inN n v:=by
 have hV:=h.1
 have ho:=hV.okg.ok
 have h0:0≤n:=by have:=hV.1;omega
 have ht:=h.2.2
 obtain⟨ha,hf⟩:=h.at'
 have hne:alone (-1) es=es:=by
  unfold alone
  refine List.filter_eq_self.2 fun e he=>?_
  have:=ho e he
  unfold okE at this
  simp only[decide_eq_true_eq]
  omega
 have hm:∀v,v∈subN es n.toNat r (-1)↔Conn es r v:=fun v=>by rw[jeg ho h0 ht _ ha hf,hne]
 have hlen:(subN es n.toNat r (-1)).length=(ptL n es r).length:=Nat.le_antisymm
  (jan (jin ho hV.nodup h0 ht _ ha hf) fun v hv=>jpr.2 ⟨jyd ho h0 ht ha hf hv,(hm v).1 hv⟩)
  (jan (j5s n es r) fun v hv=>(hm v).2 (jpr.1 hv).2)
 have htl:=jkq (es:=es) n.toNat (x:=r) (p:=-1)
 have hsl:=jp7 (es:=es) n.toNat (x:=r) (p:=-1)
 refine⟨kec ho hV.nodup h0 ht hV.2.1 ha hf,by rw[←hlen];exact htl,?_,fun v hv=>(je7 _).2 ((hm v).2 (jpr.1 hv).2),?_,kd9 hV (l:=[]) h,fun v hv=>jyd ho h0 ht ha hf ((je7 _).1 hv)⟩
 ·rw[jvn ho hV.nodup h0 ht ha hf,jij,hsl,hlen]
 ·obtain⟨q,hq⟩:=jmp (es:=es) n.toNat (x:=r) (p:=-1)
  show(tourL es n.toNat r (-1)).getD 0 0=r
  rw[hq];rfl
open Classical in
noncomputable def jed (T:List UInt8):Option (Int×List (Int×Int)):=if h:∃p:Int×List (Int×Int),VG p.1 p.2∧fmtG p.1 p.2=T then some (Classical.choose h) else none
theorem jd7 {T:List UInt8} {n:Int} {es:List (Int×Int)} (h:jed T=some (n,es)):VG n es∧fmtG n es=T:=by
 unfold jed at h
 split at h
 ·rename_i hx
  have:=Classical.choose_spec hx
  rw[Option.some.inj h] at this
  exact this
 ·cases h
theorem jjx {T:List UInt8} (h:jed T=none):¬jym T:=by
 unfold jed at h
 split at h
 ·cases h
 ·rename_i hx
  rintro⟨n,es,h1,h2⟩
  exact hx ⟨(n,es),h1,h2⟩
theorem jsp (T:List UInt8) (hl:T.length≤100000) (many:Int) (hm:1≤many):∃(r:PV) (own:List Arr) (x:IV),(((numsO T).length:Int)=many→x=.lst ((numsO T).map encI))∧imm 2 own r=some (.tup [.i x,B (decide (((numsO T).length:Int)=many))])∧
 KP 27 [S T,I many] []=some (r,[],own):=by
 obtain⟨r,own,x,h1,h2,h3⟩:=jj6 T many hl
 refine⟨r,own,x,?_,?_,h3⟩
 ·intro h
  unfold numsO at h ⊢
  split at h
  ·rename_i ha
   rw[jgr] at h
   rw[if_pos ha]
   exact h1 ⟨ha,h⟩
  ·simp at h;omega
 ·rw[h2]
  unfold numsO
  cases ha:allW (pcs 32 T) with
  | true=>rw[if_pos rfl,jgr,Bool.true_and]
  | false=>
   rw[if_neg (by simp),Bool.false_and,decide_eq_false]
   simp;omega
noncomputable instance decPutL (n:Int) (ts:List Tl) (a b:Int):Decidable (PutL n ts a b):=Classical.propDecidable _
noncomputable instance decCutL (ts:List Tl) (a b:Int):Decidable (CutL ts a b):=Classical.propDecidable _
def BT (n:Int) (ts:List Tl) (a b:Int):Prop:=VG n (esT ts)∧0≤a∧a<n∧0≤b∧b<n∧Conn (esT ts) a b
noncomputable instance decBT (n:Int) (ts:List Tl) (a b:Int):Decidable (BT n ts a b):=Classical.propDecidable _
abbrev OutL:=List UInt8×Int×List Tl
noncomputable def twoF (n:Int) (ts:List Tl) (w:List UInt8) (a b:Int):OutL:=
 if w=[112,117,116] then
  if PutL n ts a b then([112,97,114,116,115]++jaw [(cnt n (putE (edgeOf a b) (esT ts)):Int)]++[10],n,plL ts (edgeOf a b)) else(jcc,n,ts)
 else if w=[99,117,116] then
  if CutL ts a b then((if(ctR n ts (edgeOf a b)).2.2=true then [102,111,117,110,100] else [99,117,116])++32::Lib.itoa (ctR n ts (edgeOf a b)).2.1++[10],n,(ctR n ts (edgeOf a b)).1) else(jcc,n,ts)
 else if w=[112,97,116,104] then(if BT n ts a b then [112,97,116,104]++jaw (jb2 n (esT ts) a b)++[10] else jcc,n,ts)
 else if w=[98,101,116,119,101,101,110] then(if BT n ts a b then [98,114,105,100,103,101,115]++edsT ((esT ts).filter fun e=>!decide (Conn (cutE e (esT ts)) a b))++[10]++([99,117,116,115]++jaw (cutsB n a b (esT ts))++[10]) else jcc,n,ts)
 else(if Pr n a b (esT ts) then [102,108,111,119]++jaw [((dpPs n (esT ts) a b (flN n (esT ts) a b)).length:Int)]++[10]++linesT [112,97,116,104] (dpPs n (esT ts) a b (flN n (esT ts) a b)) else jcc,n,ts)
noncomputable instance decWord2 (w:List UInt8):Decidable (jex w):=Classical.propDecidable _
noncomputable def jdg (n:Int) (ts:List Tl) (w T:List UInt8):OutL:=
 if w=[103,114,97,112,104] then
  match jed T with
  | some p=>([111,107,10],p.1,ldT p.2)
  | none=>(jcc,n,ts)
 else if w=[116,111,117,114] then
  match numsO T with
  | [a]=>(if TO n (jai (esT ts)) a then [116,111,117,114]++jaw (toL n (jai (esT ts)) a)++[10] else jcc,n,ts)
  | _=>(jcc,n,ts)
 else if jex w then
  match numsO T with
  | [a,b]=>twoF n ts w a b
  | _=>(jcc,n,ts)
 else(jcc,n,ts)
noncomputable def jfj (n:Int) (ts:List Tl) (l:List UInt8):OutL:=
 if(32:UInt8)∈l then jdg n ts (l.take (ixB 32 l).toNat) (l.drop ((ixB 32 l).toNat+1)) else(jvr n ts l,n,ts)
theorem khf (w:List UInt8) (hw:jex w) (a b n:Int) (x y z:IV) (ts:List Tl) (h3:LV3 x y z ts) (hL:LV n ts) :
 ∃x' y' z':IV,LV3 x' y' z' (twoF n ts w a b).2.2∧KP 28 [.ptr 1000 0 0 0,S w,twoI a b] [.box 0 [I n,.i x,.i y,.i z]]=some (S (twoF n ts w a b).1,[.box 0 [I (twoF n ts w a b).2.1,.i x',.i y',.i z']],[]):=by
 have hV:=hL.vg
 have hel:=hV.2.2.1
 have l1:=jaq ts
 unfold twoF
 by_cases q1:w=[112,117,116]
 ·subst q1
  rw[if_pos rfl]
  by_cases hP:PutL n ts a b
  ·rw[if_pos hP]
   exact⟨_,_,_,LV3.lst _,j2b n a b x y z ts h3 hP⟩
  ·rw[if_neg hP]
   exact⟨_,_,_,h3,jt8 n a b x y z ts h3 hV hP⟩
 rw[if_neg q1]
 by_cases q2:w=[99,117,116]
 ·subst q2
  rw[if_pos rfl]
  by_cases hC:CutL ts a b
  ·rw[if_pos hC]
   exact⟨_,_,_,LV3.lst _,j18 n a b x y z ts h3 hL hC⟩
  ·rw[if_neg hC]
   exact⟨_,_,_,h3,jt7 n a b x y z ts h3 hV hC⟩
 rw[if_neg q2]
 by_cases q3:w=[112,97,116,104]
 ·subst q3
  rw[if_pos rfl]
  refine⟨_,_,_,h3,?_⟩
  by_cases hB:BT n ts a b
  ·rw[if_pos hB]
   obtain⟨-,a0,a1,b0,b1,hc⟩:=hB
   exact j2a n a b x y z ts h3 hV ⟨a0,a1⟩ ⟨b0,b1⟩ hc
  ·rw[if_neg hB]
   exact jqy n a b x y z ts h3 (by omega) hB
 rw[if_neg q3]
 by_cases q4:w=[98,101,116,119,101,101,110]
 ·subst q4
  rw[if_pos rfl]
  refine⟨_,_,_,h3,?_⟩
  by_cases hB:BT n ts a b
  ·rw[if_pos hB]
   obtain⟨-,a0,a1,b0,b1,hc⟩:=hB
   exact jqw n a b x y z ts h3 hV ⟨a0,a1⟩ ⟨b0,b1⟩ hc
  ·rw[if_neg hB]
   exact jk5 n a b x y z ts h3 (by omega) hB
 rw[if_neg q4]
 obtain rfl:w=[102,108,111,119]:=by
  rcases hw with h|h | h|h | h
  ·exact absurd h q1
  ·exact absurd h q2
  ·exact absurd h q3
  ·exact absurd h q4
  ·exact h
 refine⟨_,_,_,h3,?_⟩
 by_cases hP:Pr n a b (esT ts)
 ·rw[if_pos hP]
  exact j19 n a b x y z ts h3 hP (by omega)
 ·rw[if_neg hP]
  exact jqx n a b x y z ts h3 (by omega) hP
theorem jjg {n r:Int} {es:List (Int×Int)} (hT:TO n es r) (hn:n≤16):smallL (toL n es r)∧(toL n es r).length≤100:=by
 obtain⟨f1,-,-,-,-,-,f7⟩:=kaf hT
 have hl31:=f1.l31
 exact⟨fun v hv=>by obtain⟨h1,h2⟩:=f7 v hv;omega,by omega⟩
theorem j39 (xs:List (List IV)):∀n,frz n (.i (.lst xs))=.ret (.lst xs):=fun n=>by cases n<;>rfl
theorem kff (l w T:List UInt8) (hT:T.length≤100000) (hc:KP 24 [S l,S [32]] []=some (.tup [S w,S T,B true],[],[])) (n:Int) (x y z:IV) (ts:List Tl) (h3:LV3 x y z ts) (hL:LV n ts) :
 ∃x' y' z':IV,LV3 x' y' z' (jdg n ts w T).2.2∧jcu l n x y z (jdg n ts w T).1 (jdg n ts w T).2.1 x' y' z':=by
 have hV:=hL.vg
 unfold jdg
 by_cases q1:w=[103,114,97,112,104]
 ·subst q1
  rw[if_pos rfl]
  cases hg:jed T with
  | some p=>
   obtain⟨m,es⟩:=p
   obtain⟨hVg,hT2⟩:=jd7 hg
   have hgl:=jt3 m es hVg n x y z ts h3
   rw[hT2] at hgl
   exact⟨_,_,_,exyz (fun h=>by rw[List.length_eq_zero_iff.1 h];rfl),jl2 hc hgl⟩
  | none=>exact⟨_,_,_,h3,jl2 hc (jmz T (jjx hg) hT n x y z ts h3)⟩
 rw[if_neg q1]
 by_cases q2:w=[116,111,117,114]
 ·subst q2
  rw[if_pos rfl]
  obtain⟨r,own,q,h1,h2,hn⟩:=jsp T hT 1 (by omega)
  by_cases hl1:((numsO T).length:Int)=1
  rotate_left
  ·rw[decide_eq_false hl1] at h2
   have hno:=jsf (l:=l) (n:=n) ⟨ts,h3⟩ hc hn h2
   split
   ·rename_i a ha;rw[ha] at hl1;simp at hl1
   ·exact⟨_,_,_,h3,hno⟩
  rw[decide_eq_true hl1] at h2
  have hq:=h1 hl1
  obtain⟨a,ha⟩:∃a,numsO T=[a]:=List.length_eq_one_iff.1 (by omega)
  rw[ha] at hq ⊢
  subst hq
  refine⟨_,_,_,h3,?_⟩
  simp only
  refine j0b hc hn h2 rfl (j39 _) ?_
  by_cases hTO:TO n (jai (esT ts)) a
  ·rw[if_pos hTO]
   obtain⟨s1,s2⟩:=jjg hTO hV.2.1
   exact j2c n a x y z ts h3 hV hTO s1 s2
  ·rw[if_neg hTO]
   exact jqz n a x y z ts h3 hV hTO
 rw[if_neg q2]
 by_cases q3:jex w
 ·rw[if_pos q3]
  obtain⟨r,own,q,h1,h2,hn⟩:=jsp T hT 2 (by omega)
  by_cases hl1:((numsO T).length:Int)=2
  rotate_left
  ·rw[decide_eq_false hl1] at h2
   have hno:=ju1 (l:=l) (n:=n) q3 ⟨ts,h3⟩ hc hn h2
   split
   ·rename_i a b ha;rw[ha] at hl1;simp at hl1
   ·exact⟨_,_,_,h3,hno⟩
  rw[decide_eq_true hl1] at h2
  have hq:=h1 hl1
  obtain⟨a,b,ha⟩:∃a b,numsO T=[a,b]:=by
   cases h:numsO T with
   | nil=>rw[h] at hl1;simp at hl1
   | cons a r=>
    cases r with
    | nil=>rw[h] at hl1;simp at hl1
    | cons b r=>
     cases r with
     | nil=>exact⟨a,b,rfl⟩
     | cons c r=>rw[h] at hl1;simp at hl1;omega
  rw[ha] at hq ⊢
  subst hq
  simp only
  obtain⟨x',y',z',k1,k2⟩:=khf w q3 a b n x y z ts h3 hL
  exact⟨x',y',z',k1,j47 q3 hc hn h2 rfl (j39 _) k2⟩
 rw[if_neg q3]
 exact⟨_,_,_,h3,j48 (by rintro(h|h | h);exact q1 h;exact q2 h;exact q3 h) ⟨ts,h3⟩ hc⟩
theorem kb1 (l:List UInt8) (hl:l.length≤100000) (n:Int) (x y z:IV) (ts:List Tl) (h3:LV3 x y z ts) (hL:LV n ts) :
 ∃x' y' z':IV,LV3 x' y' z' (jfj n ts l).2.2∧jcu l n x y z (jfj n ts l).1 (jfj n ts l).2.1 x' y' z':=by
 unfold jfj
 by_cases h32:(32:UInt8)∈l
 ·rw[if_pos h32]
  have hix:0≤ixB 32 l:=by unfold ixB;rw[if_pos h32];omega
  have hc:=j67 l 32 (by omega)
  rw[if_pos hix] at hc
  exact kff l _ _ (by rw[List.length_drop];omega) hc n x y z ts h3 hL
 ·rw[if_neg h32]
  exact⟨_,_,_,h3,j0c l h32 hl (jzk l n x y z ts h3 hL)⟩
theorem j97 (w T:List UInt8) (n:Int) (ts:List Tl) (hL:LV n ts):LV (jdg n ts w T).2.1 (jdg n ts w T).2.2:=by
 unfold jdg
 split
 ·split
  ·rename_i p hg
   exact(ld (jd7 (n:=p.1) (es:=p.2) hg).1).lv
  ·exact hL
 split
 ·split
  ·exact hL
  ·exact hL
 split
 ·split
  ·rename_i a b _
   unfold twoF
   split
   ·split
    ·rename_i hP;exact LV.putT hP.2.1 hP.2.2
    ·exact hL
   split
   ·split
    ·rename_i hC;exact(ct_spec hL hC.2).2.1
    ·exact hL
   split
   ·exact hL
   split
   ·exact hL
   ·exact hL
  ·exact hL
 ·exact hL
theorem jxr (l:List UInt8) (n:Int) (ts:List Tl) (hL:LV n ts):LV (jfj n ts l).2.1 (jfj n ts l).2.2:=by
 unfold jfj
 split
 ·exact j97 _ _ n ts hL
 ·exact hL
theorem j6j (w:List UInt8) (n:Int) (ts:List Tl) (hL:LV n ts):(jvr n ts w).length≤100000:=by
 have hV:=hL.vg
 have hel:=hV.2.2.1
 have h16:=hV.2.1
 have l1:=jaq ts
 have l2:=jax ts
 unfold jvr
 by_cases q0:w=[115,104,111,119]
 ·rw[if_pos q0];have:=je5 n (esT ts);simp only[List.length_append,List.length_cons,List.length_nil];omega
 rw[if_neg q0]
 by_cases q1:w=[112,97,114,116,115]
 ·rw[if_pos q1];have:=jas (lab n (esT ts));have:=jap n (esT ts);simp only[List.length_append,List.length_cons,List.length_nil];omega
 rw[if_neg q1]
 by_cases q2:w=[99,117,116,115]
 ·rw[if_pos q2]
  have h1:=jas (cutL n (esT ts))
  have h2:=List.length_filter_le (fun v=>decide (CutN (esT ts) v)) (iota n)
  have h3:=jat n
  have h4:(cutL n (esT ts)).length≤(iota n).length:=h2
  simp only[List.length_append,List.length_cons,List.length_nil];omega
 rw[if_neg q2]
 by_cases q3:w=[115,97,102,101]
 ·rw[if_pos q3];have:=jas (lab n (bare (esT ts)));have:=jap n (bare (esT ts));simp only[List.length_append,List.length_cons,List.length_nil];omega
 rw[if_neg q3]
 by_cases q4:w=[98,114,105,100,103,101,115]
 ·rw[if_pos q4]
  have h1:=ja6 ((esT ts).filter fun e=>decide (Brg (esT ts) e))
  have h2:=List.length_filter_le (fun e=>decide (Brg (esT ts) e)) (esT ts)
  simp only[List.length_append,List.length_cons,List.length_nil];omega
 rw[if_neg q4]
 by_cases q5:w=[98,108,111,99,107,115]
 ·rw[if_pos q5]
  obtain⟨hs,hk⟩:=jfo hV
  have h1:=jgi [98,108,111,99,107] 40 (blocksL (esT ts)) (fun p hp=>(hs p hp).2)
  have h2:(linesE [98,108,111,99,107] (blocksL (esT ts))).length≤40*246:=Nat.le_trans h1 (Nat.mul_le_mul hk (by simp))
  simp only[List.length_append,List.length_cons,List.length_nil];omega
 rw[if_neg q5]
 by_cases q6:w=[99,104,97,105,110,115]
 ·rw[if_pos q6]
  obtain⟨hs,hk⟩:=jfu hV
  have h1:=jcf [99,104,97,105,110] 18 (chainsL n (esT ts)) (fun p hp=>(hs p hp).2)
  have h2:(linesT [99,104,97,105,110] (chainsL n (esT ts))).length≤640*60:=Nat.le_trans h1 (Nat.mul_le_mul hk (by simp))
  simp only[List.length_append,List.length_cons,List.length_nil];omega
 rw[if_neg q6]
 by_cases q7:w=[102,111,114,101,115,116]
 ·rw[if_pos q7];have:=ja6 (abT ts 0 true);have:=jiu ts 0 true;simp only[List.length_append,List.length_cons,List.length_nil];omega
 rw[if_neg q7]
 by_cases q8:w=[108,101,118,101,108,115]
 ·rw[if_pos q8];have:=jas (lvT ts);simp only[List.length_append,List.length_cons,List.length_nil];omega
 rw[if_neg q8]
 by_cases q9:w=[98,101,115,116]
 ·rw[if_pos q9]
  split
  ·have:=ja6 [(jez n (esT ts)).1];simp only[List.length_append,List.length_cons,List.length_nil] at this ⊢;omega
  ·simp
 rw[if_neg q9]
 by_cases q10:w=[119,101,97,107,101,115,116]
 ·rw[if_pos q10]
  by_cases h2:2≤n
  ·rw[if_pos h2]
   have ho:=hV.okg.ok
   obtain⟨y,y1,y2,e⟩:=jqd ho hV.nodup h2 h16
   have h1:=(jgg ho hV.nodup (show 0≤(0:Int)∧0<n by omega) (show 0≤y∧y<n by omega) (by omega)).1
   have h3:=jak 0 (esT ts)
   have h4:=Lib.itoa_length_le (weak n (esT ts):Int) (by omega) (by omega)
   simp only[List.length_append,List.length_cons,List.length_nil];omega
  ·rw[if_neg h2];simp
 rw[if_neg q10]
 simp
theorem kai (w:List UInt8) (a b n:Int) (ts:List Tl) (hL:LV n ts):(twoF n ts w a b).1.length≤100000:=by
 have hV:=hL.vg
 have hel:=hV.2.2.1
 have h16:=hV.2.1
 unfold twoF
 by_cases q1:w=[112,117,116]
 ·rw[if_pos q1]
  split
  ·have:=jas [(cnt n (putE (edgeOf a b) (esT ts)):Int)]
   simp only[List.length_append,List.length_cons,List.length_nil] at this ⊢;omega
  ·simp
 rw[if_neg q1]
 by_cases q2:w=[99,117,116]
 ·rw[if_pos q2]
  by_cases hC:CutL ts a b
  ·rw[if_pos hC]
   obtain⟨-,-,-,r0,r1⟩:=ct_spec hL hC.2
   have:=Lib.itoa_length_le (ctR n ts (edgeOf a b)).2.1 (by omega) (by omega)
   simp only[List.length_append,List.length_cons,List.length_nil]
   split<;>(simp only[List.length_append,List.length_cons,List.length_nil];omega)
  ·rw[if_neg hC];simp
 rw[if_neg q2]
 by_cases q3:w=[112,97,116,104]
 ·rw[if_pos q3]
  by_cases hB:BT n ts a b
  ·rw[if_pos hB]
   obtain⟨-,a0,a1,b0,b1,hc⟩:=hB
   have h1:=(jjb hV ⟨a0,a1⟩ ⟨b0,b1⟩ hc).2
   have h2:=jas (jb2 n (esT ts) a b)
   simp only[List.length_append,List.length_cons,List.length_nil];omega
  ·rw[if_neg hB];simp
 rw[if_neg q3]
 by_cases q4:w=[98,101,116,119,101,101,110]
 ·rw[if_pos q4]
  by_cases hB:BT n ts a b
  ·rw[if_pos hB]
   have h1:=ja6 ((esT ts).filter fun e=>!decide (Conn (cutE e (esT ts)) a b))
   have h2:=List.length_filter_le (fun e=>!decide (Conn (cutE e (esT ts)) a b)) (esT ts)
   have h3:=jas (cutsB n a b (esT ts))
   have h4:=List.length_filter_le (fun v=>decide (v≠a∧v≠b∧¬Conn (alone v (esT ts)) a b)) (iota n)
   have h5:=jat n
   have h6:(cutsB n a b (esT ts)).length≤(iota n).length:=h4
   simp only[List.length_append,List.length_cons,List.length_nil];omega
  ·rw[if_neg hB];simp
 rw[if_neg q4]
 by_cases hP:Pr n a b (esT ts)
 ·rw[if_pos hP]
  obtain⟨hs,hk⟩:=jlh hP
  have hb1:=jcf [112,97,116,104] 100 (dpPs n (esT ts) a b (flN n (esT ts) a b)) (fun p hp=>(hs p hp).2)
  have hb2:(linesT [112,97,116,104] (dpPs n (esT ts) a b (flN n (esT ts) a b))).length≤40*305:=Nat.le_trans hb1 (Nat.mul_le_mul hk (by simp))
  have hb3:=jas [((dpPs n (esT ts) a b (flN n (esT ts) a b)).length:Int)]
  simp only[List.length_append,List.length_cons,List.length_nil] at hb3 ⊢;omega
 ·rw[if_neg hP];simp
theorem jse (l:List UInt8) (n:Int) (ts:List Tl) (hL:LV n ts):(jfj n ts l).1.length≤100000:=by
 unfold jfj
 split
 ·unfold jdg
  split
  ·split<;>simp
  split
  ·split
   ·by_cases hTO:TO n (jai (esT ts)) ‹Int›
    ·rw[if_pos hTO]
     have h1:=(jjg hTO hL.vg.2.1).2
     have h2:=jas (toL n (jai (esT ts)) ‹Int›)
     simp only[List.length_append,List.length_cons,List.length_nil];omega
    ·rw[if_neg hTO];simp
   ·simp
  split
  ·split
   ·exact kai _ _ _ n ts hL
   ·simp
  ·simp
 ·exact j6j l n ts hL
noncomputable def runF:List (List UInt8)→Nat→Int→List Tl→List UInt8→List UInt8
 | [],_,_,_,o=>o
 | l::r,i,n,ts,o=>
  if l=[] then runF r (i+1) n ts o
  else if 200≤i∨40000<o.length then o++[102,117,108,108,10]
  else runF r (i+1) (jfj n ts l).2.1 (jfj n ts l).2.2 (o++(jfj n ts l).1)
noncomputable def jca (T:List UInt8):List UInt8:=if 20000<T.length then [108,111,110,103,10] else runF (pcs 10 T) 0 1 [] []
theorem LV1:LV 1 []:=(ld (n:=1) (es:=[]) ⟨by omega,by omega,by simp,by simp,by simp[Ord]⟩).lv
theorem jfr (T:List UInt8) (hl:T.length≤1048576):KP 6 [S T] []=some (S (jca T),[],[]):=by
 unfold jca
 by_cases hlong:20000<T.length
 ·rw[if_pos hlong]
  refine gc func6 ?_
  have Fz:=fz1 results6
  repeat(first|exact trivial|refine go1 ?_)
 rw[if_neg hlong]
 have hsp:=j1p T 10 (by omega)
 have hbd:=jdz (c:=10) T
 have hple:=jsv (c:=10) T
 generalize pcs 10 T=ls at *
 have hnl:=jjj 1 (by decide)
 have hlen:(ls.map encS).length=ls.length:=by simp
 generalize hR:runF ls 0 1 [] []=R
 refine gc func6 ?_
 have Fz:=fz4 results6 hsp hnl hlen
 repeat refine go1 ?_
 refine jaa (fun(u:Int×Int×IV×IV×IV×List Tl×List UInt8) s=>s.ρ 16=.i (.lst (ls.map encS))∧s.ρ 17=I ls.length∧s.ρ 18=I u.1∧s.ρ 3=.ptr 3 0 0 0∧s.m 3=some (.box 0 [I u.2.1,.i u.2.2.1,.i u.2.2.2.1,.i u.2.2.2.2.1])∧s.ρ 5=S u.2.2.2.2.2.2∧0≤u.1∧u.1≤ls.length∧
  LV3 u.2.2.1 u.2.2.2.1 u.2.2.2.2.1 u.2.2.2.2.2.1∧LV u.2.1 u.2.2.2.2.2.1∧u.2.2.2.2.2.2.length≤200000∧runF (ls.drop u.1.toNat) u.1.toNat u.2.1 u.2.2.2.2.2.1 u.2.2.2.2.2.2=R) (fun u=>(ls.length-u.1).toNat) (0,1,.emp,.emp,.emp,[],[]) ?_ ?_
 ·refine⟨?_,?_,rfl,rfl,rfl,rfl,by simp,by simp,LV3.emp,LV1,by simp,hR⟩
  all_goals(simp[upd];done)
 clear hR
 rintro⟨i,n,x,y,z,ts,o⟩ ⟨ρ,m⟩ ⟨e16,e17,e18,e3,m3,e5,g0,g1,h3,hL,ho,hr⟩
 simp only at e16 e17 e18 e3 m3 e5 g0 g1 h3 hL ho hr
 by_cases hi:i<ls.length
 rotate_left
 ·rw[List.drop_of_length_le (by omega)] at hr
  have hRo:o=R:=hr
  subst hRo
  have Fz:=fz7 results6 e16 e17 e18 e3 m3 e5
  repeat(first|exact trivial|refine go1 ?_)
 have hgi:=getS ls i.toNat (by omega)
 have hdr:ls.drop i.toNat=ls.getD i.toNat []::ls.drop (i+1).toNat:=by
  have hil:i.toNat<ls.length:=by omega
  rw[show(i+1).toNat=i.toNat+1 by omega,List.drop_eq_getElem_cons hil]
  simp[hil]
 have hi1:i.toNat+1=(i+1).toNat:=by omega
 rw[hdr,runF,hi1] at hr
 have hll:=hbd _ (jab (d:=[]) (show i.toNat<ls.length by omega))
 generalize ls.getD i.toNat []=l at hgi hr hll
 by_cases hz:l=[]
 ·rw[if_pos hz] at hr
  subst hz
  have Fz:=fz8 results6 e16 e17 e18 e3 m3 e5 hgi
  repeat refine go1 ?_
  exact⟨n,x,y,z,rfl,ts,o,rfl,by omega,by omega,h3,hL,ho,hr,by omega⟩
 rw[if_neg hz] at hr
 have hne:=ja2 hz
 by_cases hf:200≤i.toNat∨40000<o.length
 ·rw[if_pos hf] at hr
  subst hr
  by_cases h200:200≤i
  ·have Fz:=fz9 results6 e16 e17 e18 e3 m3 e5 hgi hne
   repeat(first|exact trivial|refine go1 ?_)
  ·have h4:40000<o.length:=by omega
   have Fz:=fz9 results6 e16 e17 e18 e3 m3 e5 hgi hne
   repeat(first|exact trivial|refine go1 ?_)
 rw[if_neg hf] at hr
 simp only[not_or] at hf
 obtain⟨hf1,hf2⟩:=hf
 obtain⟨x',y',z',k1,k2⟩:=kb1 l (by omega) n x y z ts h3 hL
 have hL':=jxr l n ts hL
 have hlen':=jse l n ts hL
 unfold jcu at k2
 generalize jfj n ts l=Q at *
 obtain⟨t,n',ts'⟩:=Q
 simp only at k1 k2 hL' hlen' hr
 have Fz:=fz10 results6 e16 e17 e18 e3 m3 e5 hgi hne k2
 repeat refine go1 ?_
 exact⟨n',x',y',z',rfl,ts',o++t,rfl,by omega,by omega,k1,hL',by rw[List.length_append];omega,hr,by omega⟩
theorem jyy (n a b:Int) (ts:List Tl) (hL:LV n ts):KP 55 [GL n (esT ts),S [112,97,116,104],I a,I b] []=some (S (twoF n ts [112,97,116,104] a b).1,[],[]):=by
 have hV:=hL.vg
 have hel:=hV.2.2.1
 unfold twoF
 rw[if_neg (by simp),if_neg (by simp),if_pos rfl]
 have hp:=jm1 n a b (esT ts) (by omega)
 by_cases hB:BT n ts a b
 ·rw[if_pos hB]
  unfold BT at hB
  rw[if_pos hB] at hp
  obtain⟨-,a0,a1,b0,b1,hc⟩:=hB
  obtain⟨s1,s2⟩:=jjb hV ⟨a0,a1⟩ ⟨b0,b1⟩ hc
  have hnt:=jcl (jb2 n (esT ts) a b) s1 (by omega)
  have hle:=jas (jb2 n (esT ts) a b)
  simp only
  rw[List.append_assoc]
  generalize jb2 n (esT ts) a b=L at *
  generalize hE:jaw L++[10]=E at *
  have hEl:E.length≤1000:=by rw[←hE];simp only[List.length_append,List.length_cons,List.length_nil];omega
  refine gc func55 ?_
  have Fz:=fz3 results55 hp hnt
  repeat(first|exact trivial|refine go1 ?_)
 ·rw[if_neg hB]
  unfold BT at hB
  rw[if_neg hB] at hp
  refine gc func55 ?_
  have Fz:=fz2 results55 hp
  repeat(first|exact trivial|refine go1 ?_)
theorem jou (n a b:Int) (ts:List Tl) (hL:LV n ts):KP 55 [GL n (esT ts),S [98,101,116,119,101,101,110],I a,I b] []=some (S (twoF n ts [98,101,116,119,101,101,110] a b).1,[],[]):=by
 have hV:=hL.vg
 have hel:=hV.2.2.1
 have hn16:=hV.2.1
 unfold twoF
 rw[if_neg (by simp),if_neg (by simp),if_neg (by simp),if_pos rfl]
 have hp:=jel n a b (esT ts) (by omega)
 have hq:=jhx n a b (esT ts) (by omega)
 by_cases hB:BT n ts a b
 ·rw[if_pos hB]
  unfold BT at hB
  rw[if_pos hB] at hp hq
  have hs1:smallE (jgs a b (esT ts)):=fun e he=>hV.small.1 e (List.mem_filter.1 he).1
  have hl1:(jgs a b (esT ts)).length≤(esT ts).length:=List.length_filter_le _ _
  have hs2:smallL (cutsB n a b (esT ts)):=jii hn16 fun v hv=>mem_iota.1 (List.mem_filter.1 hv).1
  have hl2:(cutsB n a b (esT ts)).length≤(iota n).length:=List.length_filter_le _ _
  have hl3:=jat n
  have hnt:=jf9 (jgs a b (esT ts)) hs1 (by omega)
  have hle:=ja6 (jgs a b (esT ts))
  have hnu:=jcl (cutsB n a b (esT ts)) hs2 (by omega)
  have hlf:=jas (cutsB n a b (esT ts))
  have t1:((jgs a b (esT ts)).map encE).take (jgs a b (esT ts)).length=(jgs a b (esT ts)).map encE:=List.take_of_length_le (by simp)
  have t2:((cutsB n a b (esT ts)).map encI).take (cutsB n a b (esT ts)).length=(cutsB n a b (esT ts)).map encI:=List.take_of_length_le (by simp)
  have hre:([98,114,105,100,103,101,115]++edsT ((esT ts).filter fun e=>!decide (Conn (cutE e (esT ts)) a b))++[10]++([99,117,116,115]++jaw (cutsB n a b (esT ts))++[10]):List UInt8)=
   ([98,114,105,100,103,101,115]++(edsT (jgs a b (esT ts))++[10]))++[99,117,116,115]++(jaw (cutsB n a b (esT ts))++[10]):=by
   simp only[List.append_assoc];rfl
  simp only
  rw[hre]
  generalize jgs a b (esT ts)=P at *
  generalize cutsB n a b (esT ts)=Q at *
  generalize hE:edsT P++[10]=E at *
  generalize hD:jaw Q++[10]=D at *
  have hEl:E.length≤1000:=by rw[←hE];simp only[List.length_append,List.length_cons,List.length_nil];omega
  have hDl:D.length≤1000:=by rw[←hD];simp only[List.length_append,List.length_cons,List.length_nil];omega
  refine gc func55 ?_
  have Fz:=fz7 results55 hp hq hnt hnu t1 t2
  repeat(first|exact trivial|refine go1 ?_)
 ·rw[if_neg hB]
  unfold BT at hB
  rw[if_neg hB] at hp hq
  refine gc func55 ?_
  have Fz:=fz3 results55 hp hq
  repeat(first|exact trivial|refine go1 ?_)
theorem jyx (n a b:Int) (ts:List Tl) (hL:LV n ts):KP 55 [GL n (esT ts),S [102,108,111,119],I a,I b] []=some (S (twoF n ts [102,108,111,119] a b).1,[],[]):=by
 have hV:=hL.vg
 have hel:=hV.2.2.1
 unfold twoF
 rw[if_neg (by simp),if_neg (by simp),if_neg (by simp),if_neg (by simp)]
 have hp:=jj5 n a b (esT ts) (by omega)
 by_cases hP:Pr n a b (esT ts)
 ·rw[if_pos hP]
  rw[if_pos hP] at hp
  obtain⟨hs,hk⟩:=jlh hP
  generalize dpPs n (esT ts) a b (flN n (esT ts) a b)=P at *
  have hdec:=jhv P.length (by omega)
  have hit:=Lib.itoa_length_le (P.length:Int) (by omega) (by omega)
  have hre:([102,108,111,119]++jaw [(P.length:Int)]++[10]++linesT [112,97,116,104] P:List UInt8)=[102,108,111,119,32]++Lib.itoa (P.length:Int)++[10]++linesT [112,97,116,104] P:=by
   rw[jkj (by omega) (by omega)];simp[jaw]
  simp only
  rw[hre]
  generalize hH:[102,108,111,119,32]++Lib.itoa (P.length:Int)++[10]=H at *
  have hHl:H.length≤100:=by rw[←hH];simp only[List.length_append,List.length_cons,List.length_nil];omega
  have hb1:=fun k:Nat=>jcf [112,97,116,104] 100 (P.take k) (fun p hp=>(hs p (List.mem_of_mem_take hp)).2)
  have hb2:∀k:Nat,(linesT [112,97,116,104] (P.take k)).length≤40*305:=fun k=>Nat.le_trans (hb1 k) (Nat.mul_le_mul (by rw[List.length_take];omega) (by simp))
  refine gc func55 ?_
  have Fz:=fz4 results55 hp hdec hH
  repeat refine go1 ?_
  refine jaa (fun(i:Int) s=>s.ρ 15=LL P∧s.ρ 17=S (H++linesT [112,97,116,104] (P.take i.toNat))∧s.ρ 18=I i∧0≤i∧i≤P.length) (fun i=>(P.length-i).toNat) 0 ?_ ?_
  ·refine⟨?_,?_,?_,by omega,by omega⟩
   all_goals first|rfl | (simp[upd,linesT,←hH];done)
  rintro i ⟨ρ,m⟩ ⟨e3,e4,e5,g0,g1⟩
  simp only at e3 e4 e5 g0 g1
  have hbi:=hb2 i.toNat
  by_cases hi:i<P.length
  rotate_left
  ·rw[jac (by omega)] at e4 hbi
   have Fz:=fz4 results55 e3 e4 e5
   repeat(first|exact trivial|refine go1 ?_)
  have hm:=jab (d:=[]) (show i.toNat<P.length by omega)
  have hgi:(P.map encL)[i.toNat]?=some [.lst ((P.getD i.toNat []).map encI)]:=by
   have:i.toNat<P.length:=by omega
   simp[encL,this]
  obtain⟨s1,s2⟩:=hs _ hm
  have hnx:linesT [112,97,116,104] (P.take (i+1).toNat)=linesT [112,97,116,104] (P.take i.toNat)++([112,97,116,104]++jaw (P.getD i.toNat [])++[10]):=by
   rw[jae [] g0 hi,jhf]
  generalize linesT [112,97,116,104] (P.take i.toNat)=T at *
  generalize P.getD i.toNat []=p at *
  have hed:=jcl p s1 (by omega)
  have hle:=jas p
  generalize hE:jaw p++[10]=E at *
  have hEl:E.length≤1000:=by rw[←hE];simp only[List.length_append,List.length_cons,List.length_nil];omega
  have hnx2:H++linesT [112,97,116,104] (P.take (i+1).toNat)=H++T++[112,97,116,104]++E:=by rw[hnx,←hE];simp
  have Fz:=fz6 results55 e3 e4 e5 hgi hed
  repeat refine go1 ?_
  exact⟨i+1,by rw[hnx2],rfl,by omega,by omega,by omega⟩
 ·rw[if_neg hP]
  rw[if_neg hP] at hp
  refine gc func55 ?_
  have Fz:=fz2 results55 hp
  repeat(first|exact trivial|refine go1 ?_)
end Go.Proofs.YtnaaceooknghjaaGreatDoor.X
