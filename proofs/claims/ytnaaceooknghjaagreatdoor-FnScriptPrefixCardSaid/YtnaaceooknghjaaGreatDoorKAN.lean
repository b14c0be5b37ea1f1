/- What functions answer, and the plain laws behind it. -/
import Derived.Test.YtnaaceooknghjaaGreatDoorKAK
import Derived.Test.YtnaaceooknghjaaGreatDoorKAI
import Derived.Test.YtnaaceooknghjaaGreatDoorC52
import Derived.Test.YtnaaceooknghjaaGreatDoorKAF
import Derived.Test.YtnaaceooknghjaaGreatDoorKAL
import Derived.Test.YtnaaceooknghjaaGreatDoorKAE
import Derived.Test.YtnaaceooknghjaaGreatDoorC27
import Derived.Test.YtnaaceooknghjaaGreatDoorKAD
import Derived.Test.YtnaaceooknghjaaGreatDoorKAJ
import Derived.Test.YtnaaceooknghjaaGreatDoorC53
import Derived.Test.YtnaaceooknghjaaGreatDoorKAM
set_option linter.unusedSimpArgs false
set_option linter.unusedVariables false
set_option maxHeartbeats 16000000
set_option maxRecDepth 100000
namespace Go.Proofs.YtnaaceooknghjaaGreatDoor.X
open Go Go.Proofs Tryz

def linesE (D:List UInt8) (ps:List (List (Int×Int))):List UInt8:=ps.flatMap fun p=>D++edsT p++[10]
theorem jl3 (D:List UInt8) (ps:List (List (Int×Int))) (p:List (Int×Int)):linesE D (ps++[p])=linesE D ps++(D++edsT p++[10]):=by simp[linesE]
theorem jgi (D:List UInt8) (k:Nat):∀ps:List (List (Int×Int)),(∀p∈ps,p.length≤k)→(linesE D ps).length≤ps.length*(D.length+6*k+1)
 | [],_=>by simp[linesE]
 | p::ps,h=>by
  have h1:=jgi D k ps (fun q hq=>h q (by simp[hq]))
  have h2:=ja6 p
  have h3:=h p (by simp)
  have e:linesE D (p::ps)=D++edsT p++[10]++linesE D ps:=by simp[linesE]
  rw[e,List.length_append,List.length_append,List.length_append,List.length_cons,List.length_cons,Nat.add_mul ps.length 1,Nat.one_mul]
  simp only[List.length_nil]
  omega
theorem jfo {n:Int} {es:List (Int×Int)} (hV:VG n es):(∀b∈blocksL es,smallE b∧b.length≤40)∧(blocksL es).length≤40:=by
 have ho:=hV.okg.ok
 have h16:=hV.2.1
 have hel:=hV.2.2.1
 refine⟨fun b hb=>?_,by have:=jys (es:=es);omega⟩
 obtain⟨h1,h2⟩:=j1k ho hb
 refine⟨fun e he=>?_,by omega⟩
 have:=h1 e he
 unfold okE at this
 omega
theorem juf (n:Int) (x y z:IV) (ts:List Tl) (h3:LV3 x y z ts) (hV:VG n (esT ts)) :
 KP 25 [.ptr 1000 0 0 0,S [98,108,111,99,107,115]] [.box 0 [I n,.i x,.i y,.i z]]=some (S (linesE [98,108,111,99,107] (blocksL (esT ts))++[101,110,100,10]),[.box 0 [I n,.i x,.i y,.i z]],[]):=by
 have hfx:=h3.fx
 have hlx:=h3.lx
 have hel:=hV.2.2.1
 have hc:=jyu n (esT ts) (by omega)
 rw[if_pos hV] at hc
 obtain⟨hs,hk⟩:=jfo hV
 generalize blocksL (esT ts)=ps at *
 have hb1:=fun k:Nat=>jgi [98,108,111,99,107] 40 (ps.take k) (fun p hp=>(hs p (List.mem_of_mem_take hp)).2)
 have hb2:∀k:Nat,(linesE [98,108,111,99,107] (ps.take k)).length≤40*246:=fun k=>Nat.le_trans (hb1 k) (Nat.mul_le_mul (by rw[List.length_take];omega) (by simp))
 refine gc func25 ?_
 have Fz:=fz4 results25 hfx hlx hc
 repeat refine go1 ?_
 refine jaa (fun(i:Int) s=>s.ρ 0=.ptr 1000 0 0 0∧s.m 1000=some (.box 0 [I n,.i x,.i y,.i z])∧s.ρ 53=LLE ps∧s.ρ 54=I ps.length∧s.ρ 55=I i∧s.ρ 6=S (linesE [98,108,111,99,107] (ps.take i.toNat))∧0≤i∧i≤ps.length) (fun i=>(ps.length-i).toNat) 0 ?_ ?_
 ·refine⟨?_,?_,?_,?_,?_,?_,by omega,by omega⟩
  all_goals(simp[upd,linesE];done)
 rintro i ⟨ρ,m⟩ ⟨e0,m1000,e53,e54,e55,e6,g0,g1⟩
 simp only at e0 m1000 e53 e54 e55 e6 g0 g1
 have hbi:=hb2 i.toNat
 by_cases hi:i<ps.length
 rotate_left
 ·rw[jac (by omega)] at e6 hbi
  have Fz:=fz8 results25 e0 m1000 e53 e54 e55 e6 hlx
  repeat(first|exact trivial|refine go1 ?_)
 have hm:=jab (d:=[]) (show i.toNat<ps.length by omega)
 have hgi:(ps.map jhb)[i.toNat]?=some [.lst ((ps.getD i.toNat []).map encE)]:=by
  have:i.toNat<ps.length:=by omega
  simp[jhb,this]
 have hnx:linesE [98,108,111,99,107] (ps.take (i+1).toNat)=linesE [98,108,111,99,107] (ps.take i.toNat)++([98,108,111,99,107]++edsT (ps.getD i.toNat [])++[10]):=by
  rw[jae [] g0 hi,jl3]
 have hl8:=(hs _ hm).2
 have het:=jcx [98,108,111,99,107] (ps.getD i.toNat []) (hs _ hm).1 (by simp) (by omega)
 have hl7:=ja6 (ps.getD i.toNat [])
 generalize linesE [98,108,111,99,107] (ps.take i.toNat)=T at *
 generalize ps.getD i.toNat []=p at *
 generalize hQ:([98,108,111,99,107]:List UInt8)++edsT p=Q at *
 have hQl:Q.length≤300:=by rw[←hQ];simp only[List.length_append,List.length_cons,List.length_nil];omega
 have Fz:=fz10 results25 e0 m1000 e53 e54 e55 e6 hgi het hlx
 repeat refine go1 ?_
 exact⟨by rw[hnx],by omega,by omega,by omega⟩
theorem kfj {n:Int} {es:List (Int×Int)} {S:Sr} (D:Dfs n es S) {u:Int}:∀(f:Nat) (mk:List Bool) (l:Int) (acc:List Int),mk.length=n.toNat→inR n l→inR n u→gB mk u=true→Anc n S.par u l→(∀v∈acc,inR n v)→∀v∈(chW S.par f mk l acc).2,inR n v:=by
 intro f
 induction f with
 | zero=>intro mk l acc _ _ _ _ _ h v hv;exact h v hv
 | succ f ih=>
  intro mk l acc hl hlr hur hu ha h
  by_cases hm:gB mk l=true
  ·rw[jh1 hm];exact h
  ·have hm':gB mk l=false:=by simpa using hm
   have hne:u≠l:=fun e=>hm (e▸hu)
   obtain⟨hp,ha'⟩:=D.above ha hne
   have hset:=fun x (hx:inR n x)=>jjv (b:=true) hl hlr hx
   rw[jwg hm' (by omega),Nat.add_sub_cancel]
   refine ih (mk.set l.toNat true) (gI S.par l) (acc++[gI S.par l]) (by rw[List.length_set];exact hl) hp hur (by rw[hset u hur,if_neg (Ne.symm hne)];exact hu) ha' fun v hv=>?_
   rcases List.mem_append.1 hv with hv|hv
   ·exact h v hv
   ·rw[List.mem_singleton.1 hv];exact hp
theorem jfu {n:Int} {es:List (Int×Int)} (hV:VG n es):(∀p∈chainsL n es,smallL p∧p.length≤18)∧(chainsL n es).length≤640:=by
 have ho:=hV.okg.ok
 have hnd:=hV.nodup
 have h0:0≤n:=by have:=hV.1;omega
 have hn16:=hV.2.1
 have D:=jgn ho hnd h0
 refine⟨fun p hp=>?_,by rw[jnq];exact jnc hV⟩
 obtain⟨i,hi,rfl⟩:=List.getElem_of_mem hp
 have hi':=hi
 rw[jnq] at hi'
 have e:(chainsL n es).getD i []=(chainsL n es)[i]:=by simp[hi]
 have c:=CI.take ho D (fun b hb=>(joo ho hnd h0).1 hb) i (Nat.le_of_lt hi')
 have hb:=(joo ho hnd h0).1 (jab (d:=(0,0)) hi')
 obtain⟨z,z1,z2,z3,z4,z5,z6,z7,z8,z9,z10,z11⟩:=c.spec D hb
 rw[←e,j2q hi']
 refine⟨fun v hv=>?_,by omega⟩
 have:=kfj D n.toNat _ _ _ (by rw[List.length_set];exact c.ln) hb.z hb.a (by rw[jjv (b:=true) c.ln hb.a hb.a,if_pos rfl]) (hb.anc D) (fun v hv=>by
  rcases List.mem_cons.1 hv with rfl|hv
  ·exact hb.a
  ·rw[List.mem_singleton.1 hv];exact hb.z) v hv
 obtain⟨h1,h2⟩:=this
 omega
theorem j2k (n:Int) (x y z:IV) (ts:List Tl) (h3:LV3 x y z ts) (hV:VG n (esT ts)) :
 KP 25 [.ptr 1000 0 0 0,S [115,97,102,101]] [.box 0 [I n,.i x,.i y,.i z]]=some (S ([115,97,102,101]++jaw (lab n (bare (esT ts)))++[10]),[.box 0 [I n,.i x,.i y,.i z]],[]):=by
 have hfx:=h3.fx
 have hlx:=h3.lx
 have hel:=hV.2.2.1
 have hc:=jt0 n (esT ts) (by omega)
 rw[if_pos hV] at hc
 have hin:∀v∈lab n (bare (esT ts)),0≤v∧v<n:=fun v hv=>by
  rw[ju0] at hv
  obtain⟨i,hi,rfl⟩:=List.mem_map.1 hv
  have:=jie (es:=bare (esT ts)) (mem_iota.1 hi)
  exact this.1
 have hcl:(lab n (bare (esT ts))).length≤16:=by
  have h4:=hV.2.1
  rw[jap]
  omega
 have hnt:=ja5 [115,97,102,101] (lab n (bare (esT ts))) (jii hV.2.1 hin) (by simp) (by omega)
 generalize lab n (bare (esT ts))=C at *
 generalize hR:([115,97,102,101]:List UInt8)++jaw C++[10]=R at *
 refine gc func25 ?_
 have Fz:=fz5 results25 hfx hlx hc hnt
 repeat(first|exact trivial|refine go1 ?_)
theorem jug (n:Int) (x y z:IV) (ts:List Tl) (h3:LV3 x y z ts) (hV:VG n (esT ts)) :
 KP 25 [.ptr 1000 0 0 0,S [99,104,97,105,110,115]] [.box 0 [I n,.i x,.i y,.i z]]=
  some (S (linesT [99,104,97,105,110] (chainsL n (esT ts))++[101,110,100,10]),[.box 0 [I n,.i x,.i y,.i z]],[]):=by
 have hfx:=h3.fx
 have hlx:=h3.lx
 have hel:=hV.2.2.1
 have hc:=jyv n (esT ts) (by omega)
 rw[if_pos hV] at hc
 obtain⟨hsk,hl⟩:=jfu hV
 generalize chainsL n (esT ts)=C at *
 have hs:∀p∈C,smallL p:=fun p hp=>(hsk p hp).1
 have hk:∀p∈C,p.length≤100:=fun p hp=>by have:=(hsk p hp).2;omega
 have hnt:=jk4 [99,104,97,105,110] C hs hk (by simp) (by omega)
 have hll:=jcf [99,104,97,105,110] 100 C hk
 have hll2:(linesT [99,104,97,105,110] C).length≤640*306:=Nat.le_trans hll (Nat.mul_le_mul hl (by simp))
 generalize linesT [99,104,97,105,110] C=R at *
 refine gc func25 ?_
 have Fz:=fz5 results25 hfx hlx hc hnt
 repeat(first|exact trivial|refine go1 ?_)
def Pr (n x y:Int) (es:List (Int×Int)):Prop:=VG n es∧(0≤x∧x<n)∧(0≤y∧y<n)∧x≠y
noncomputable instance (n x y:Int) (es:List (Int×Int)):Decidable (Pr n x y es):=by unfold Pr;infer_instance
@[go_sem] theorem kgo (n x y:Int) (es:List (Int×Int)) (hl:es.length≤1048576):KP 152 [GL n es,I x,I y] []=some (B (decide (Pr n x y es)),[],[]):=by
 unfold Pr
 refine gc func152 ?_
 have Fz:=fz1 results152
 repeat'(first|refine go1 ?_|(refine go4 ?_;split<;>first|omega|refine go3 ?_|skip))
 all_goals grind
@[go_sem] theorem keo (n x y:Int) (es:List (Int×Int)) (hl:es.length≤1048576):KP 173 [GL n es,I x,I y] []=some (B (decide (Pr n x y es)),[],[]):=by
 unfold Pr
 refine gc func173 ?_
 have Fz:=fz1 results173
 repeat'(first|refine go1 ?_|(refine go4 ?_;split<;>first|omega|refine go3 ?_|skip))
 all_goals grind
def sideL (n:Int) (es:List (Int×Int)) (x y:Int):List Int:=(iota n).filter fun v=>decide (v∈jvi n es x y)
theorem j8n {l:List Bool} {i j:Nat} {x:Bool} (h:j<l.length):(l.set i x).getD j false=if i=j then x else l.getD j false:=by
 simp only[List.getD_eq_getElem?_getD,List.getElem?_set]
 split
 ·rename_i e;subst e;simp[h]
 ·rfl
def Nds (n:Int) (xs:List Int):Prop:=(∀v∈xs,0≤v∧v<n)∧xs.Nodup
instance (n:Int) (xs:List Int):Decidable (Nds n xs):=by unfold Nds;infer_instance
def inS (xs:List Int):Int→Bool:=fun v=>decide (v∈xs)
theorem jqq (n:Int) (es:List (Int×Int)) (hl:es.length≤1048576):KP 72 [GL n es] []=some (if VG n es∧2≤n then .tup [I (weak n es:Int),B true] else .tup [I 0,B false],[],[]):=by
 by_cases hV:VG n es
 rotate_left
 ·rw[if_neg (fun k=>hV k.1)]
  refine gc func72 ?_
  have Fz:=fz1 results72
  repeat(first|exact trivial|refine go1 ?_)
 by_cases h2:2≤n
 rotate_left
 ·have h1:n=1:=by have:=hV.1;omega
  subst h1
  rw[if_neg (fun k=>h2 k.2)]
  refine gc func72 ?_
  have Fz:=fz1 results72
  repeat(first|exact trivial|refine go1 ?_)
 rw[if_pos ⟨hV,h2⟩]
 have ho:=hV.okg.ok
 have hnd:=hV.nodup
 have hn16:=hV.2.1
 obtain⟨us,hu,hf⟩:=j1w n 0 1 es hV ⟨by omega,by omega⟩ ⟨by omega,by omega⟩ (by omega)
 have hul:=hu.1
 refine gc func72 ?_
 have Fz:=fz3 results72 hf hul
 repeat refine go1 ?_
 refine jaa (fun(u:Int×Nat) s=>s.ρ 1=.ptr 1 0 0 0∧s.m 1=some (.box 0 [I n,LE es])∧s.ρ 24=I n∧s.ρ 25=I u.1∧s.ρ 5=I (u.2:Int)∧0≤u.1∧u.1≤n∧
  (∃a b,(0≤a∧a<n)∧(0≤b∧b<n)∧a≠b∧u.2=flN n es a b)∧∀a b,0≤a→a<b→b<u.1→u.2≤flN n es a b) (fun u=>(n-u.1).toNat) (0,flN n es 0 1) ?_ ?_
 ·refine⟨by simp[upd],by simp[upd],by simp[upd],by simp[upd],by simp[upd],by simp,by simp only;omega,⟨0,1,by omega,by omega,by omega,rfl⟩,fun a b h0 h1 h2=>by simp only at h2;omega⟩
 rintro⟨y,l⟩ ⟨ρ,m⟩ ⟨h1,m1,h24,h25,h5,g0,g1,g2,g3⟩
 simp only at h1 m1 h24 h25 h5 g0 g1 g2 g3
 by_cases hy:y<n
 rotate_left
 ·obtain⟨a,b,ha,hb,hab,rfl⟩:=g2
  have e1:=kek ho hnd ha hb hab
  obtain⟨z,z0,z1,e2⟩:=jqd ho hnd h2 hn16
  have e3:=g3 0 z (by omega) (by omega) (by omega)
  have e4:weak n es=flN n es a b:=by omega
  have Fz:=fz6 results72 h1 m1 h24 h25 h5
  repeat refine go1 ?_
  rw[e4]
 have Fz:=fz6 results72 h1 m1 h24 h25 h5
 repeat refine go1 ?_
 refine jaa (fun(u:Int×Nat) s=>s.ρ 1=.ptr 1 0 0 0∧s.m 1=some (.box 0 [I n,LE es])∧s.ρ 24=I n∧s.ρ 25=I y∧s.ρ 6=I y∧s.ρ 28=I y∧s.ρ 29=I u.1∧s.ρ 5=I (u.2:Int)∧0≤u.1∧u.1≤y∧
  (∃a b,(0≤a∧a<n)∧(0≤b∧b<n)∧a≠b∧u.2=flN n es a b)∧(∀a b,0≤a→a<b→b<y→u.2≤flN n es a b)∧∀a,0≤a→a<u.1→u.2≤flN n es a y) (fun u=>(y-u.1).toNat) (0,l) ?_ ?_
 ·refine⟨by simp[upd,h1],by simp[upd,m1],by simp[upd,h24],by simp[upd,h25],by simp[upd],by simp[upd],by simp[upd],by simp[upd,h5],by simp,g0,g2,g3,fun a h0 h1=>by simp only at h1;omega⟩
 rintro⟨x,l'⟩ ⟨ρ,m⟩ ⟨h1,m1,h24,h25,h6,h28,h29,h5,f0,f1,f2,f3,f4⟩
 simp only at h1 m1 h24 h25 h6 h28 h29 h5 f0 f1 f2 f3 f4
 by_cases hx:x<y
 rotate_left
 ·have Fz:=fz9 results72 h1 m1 h24 h25 h6 h28 h29 h5
  repeat refine go1 ?_
  obtain⟨a,b,ha,hb,hab,rfl⟩:=f2
  refine⟨_,rfl,by omega,by omega,⟨a,ha.1,ha.2,b,hb.1,hb.2,hab,rfl⟩,fun c d h0 h1 h2=>?_,by omega⟩
  by_cases hd:d<y
  ·exact f3 c d h0 h1 hd
  ·have:d=y:=by omega
   subst this
   exact f4 c h0 (by omega)
 obtain⟨us,hu,hf⟩:=j1w n x y es hV ⟨by omega,by omega⟩ ⟨by omega,by omega⟩ (by omega)
 have hul:=hu.1
 have Fz:=fz11 results72 h1 m1 h24 h25 h6 h28 h29 h5 hf hul
 repeat refine go1 ?_
 refine⟨min l' (flN n es x y),by omega,by omega,by omega,?_,fun c d h0 h1 h2=>?_,fun c h0 h1=>?_,by omega⟩
 ·by_cases hle:l'≤flN n es x y
  ·obtain⟨a,b,ha,hb,hab,hl'⟩:=f2
   exact⟨a,ha.1,ha.2,b,hb.1,hb.2,hab,by omega⟩
  ·exact⟨x,by omega,by omega,y,by omega,by omega,by omega,by omega⟩
 ·have:=f3 c d h0 h1 h2;omega
 ·by_cases hc:c<x
  ·have:=f4 c h0 hc;omega
  ·have:c=x:=by omega
   subst this;omega
theorem jo8 (n:Int) (es:List (Int×Int)) (hl:es.length≤1048576):KP 46 [GL n es] []=some (if VG n es∧2≤n then .tup [I (weak n es:Int),B true] else .tup [I 0,B false],[],[]):=by
 by_cases hV:VG n es
 rotate_left
 ·rw[if_neg (fun k=>hV k.1)]
  refine gc func46 ?_
  have Fz:=fz1 results46
  repeat(first|exact trivial|refine go1 ?_)
 by_cases h2:2≤n
 rotate_left
 ·rw[if_neg (fun k=>h2 k.2)]
  refine gc func46 ?_
  have Fz:=fz1 results46
  repeat(first|exact trivial|refine go1 ?_)
 rw[if_pos ⟨hV,h2⟩]
 have hn16:=hV.2.1
 refine gc func46 ?_
 have Fz:=fz1 results46
 repeat refine go1 ?_
 refine jaa (fun(y:Int) s=>s.ρ 1=.ptr 1 0 0 0∧s.m 1=some (.box 0 [I n,LE es])∧s.ρ 5=I y∧s.ρ 4=I (wk n es (y-1).toNat:Int)∧1≤y∧y≤n) (fun y=>(n-y).toNat) 1 (by simp[upd,jdk,wk];omega) ?_
 rintro y ⟨ρ,m⟩ ⟨h1,m1,h5,h4,g0,g1⟩
 simp only at h1 m1 h5 h4 g0 g1
 by_cases hy:y<n
 rotate_left
 ·have hyn:y=n:=by omega
  subst hyn
  have Fz:=fz5 results46 h1 m1 h5 h4
  repeat refine go1 ?_
  rfl
 obtain⟨fs,hu,hfl,hf⟩:=jwb n 0 y es hV ⟨by omega,by omega⟩ ⟨by omega,hy⟩ (by omega)
 unfold FQ at hf
 have hw:wk n es (y+1-1).toNat=min (wk n es (y-1).toNat) (flN n es 0 y):=by
  have e:(y+1-1).toNat=(y-1).toNat+1:=by omega
  have e2:((y-1).toNat:Int)+1=y:=by omega
  rw[e,wk,e2]
 generalize wk n es (y-1).toNat=c at *
 have Fz:=fz6 results46 h1 m1 h5 h4 hf
 repeat'(first|refine go1 ?_|(refine go2 ?_ ?_<;>intro _<;>try omega))
 all_goals exact⟨by omega,by omega,by omega,by omega⟩
theorem j1y (n x y:Int) (es fs:List (Int×Int)) (F:Un) (hV:VG n es) (hx:0≤x∧x<n) (hF:FR fs F) (hO:OKF es F) (hy:y∈(bfs n es F x).2) (hfl:fs.length≤1048576) :
 KP 174 [I n,FL fs,I x,I y] []=some (LI (wayL n (bfs n es F x).1 x y),[],[]):=by
 have ho:=hV.okg.ok
 have hn16:=hV.2.1
 have hn1:=hV.1
 have hnd:=hV.nodup
 have hbk:=fun t h0 h1=>jyl (n:=n) (fr:=(bfs n es F x).1) (x:=x) (y:=y) (t:=t) h0 h1
 have hway:=jiz ho hx hy
 generalize hp:wayL n (bfs n es F x).1 x y=p at hway hbk
 refine gc func174 ?_
 unfold FL
 have Fz:=fz1 results174
 repeat refine go1 ?_
 refine jaa (fun(u:Int×Nat×List Int) s=>s.m 16=some (.arr u.2.1 1 (u.2.2.map encI))∧s.ρ 9=.ref 16 u.2.1 0 u.2.2.length∧s.ρ 10=I u.1∧s.ρ 0=I n∧s.ρ 2=I x∧s.ρ 3=I y∧s.ρ 5=.ptr 5 0 0 0∧s.m 5=some (.box 0 [LI (fsI fs),LI (snI fs)])∧
  0≤u.1∧u.1≤n∧u.2.2.length=u.1.toNat∧u.2.2=List.replicate u.1.toNat (-1)) (fun u=>(n-u.1).toNat) (0,0,[]) ⟨rfl,rfl,rfl,rfl,rfl,rfl,rfl,rfl,by simp,by simp only;omega,rfl,rfl⟩ ?_
 rintro⟨i,v,xs⟩ ⟨ρ,m⟩ ⟨m16,h9,h10,h0,h2,h3,h5,m5,g0,g1,g2,g3⟩
 simp only at m16 h9 h10 h0 h2 h3 h5 m5 g0 g1 g2 g3
 have Fz:=fz9 results174 m16 h9 h10 h0 h2 h3 h5 m5
 repeat'(first|refine go1 ?_|(refine go2 ?_ ?_<;>intro _<;>try omega))
 ·refine⟨by omega,by omega,by omega,?_,by omega⟩
  rw[g3,show(i+1).toNat=i.toNat+1 by omega,List.replicate_succ']
 have hin:i.toNat=n.toNat:=by omega
 rw[hin] at g2 g3
 subst g3
 refine jaa (fun(u:Nat×Nat×List Int×List Int×List Int×List Int) s=>s.m 16=some (.arr v 1 (u.2.2.2.2.1.map encI))∧s.ρ 9=.ref 16 v 0 n.toNat∧s.m 30=some (.arr u.2.1 1 ((u.2.2.1++u.2.2.2.1).map encI))∧s.ρ 11=.ref 30 u.2.1 u.2.2.1.length u.2.2.2.1.length∧s.ρ 0=I n∧s.ρ 2=I x∧s.ρ 3=I y∧s.ρ 5=.ptr 5 0 0 0∧s.m 5=some (.box 0 [LI (fsI fs),LI (snI fs)])∧
  u.1≤u.2.2.2.2.2.length∧u.2.2.2.1=u.2.2.2.2.2.drop u.1∧u.2.2.2.2=bfsS n es F x u.1) (fun u=>n.toNat+1-u.1) (0,nv (m 30),[],[x],bfsS n es F x 0) ?_ ?_
 ·refine⟨by simp[upd,bfsS],by simp[upd,h9],by simp[upd,encI],by simp[upd],by simp[upd,h0],by simp[upd,h2],by simp[upd,h3],by simp[upd,h5],by simp[upd,m5],by simp,by simp[bfsS],rfl⟩
 rintro⟨k,w,pre,q,fr,ord⟩ ⟨ρ,m⟩ ⟨m16,h9,m30,h11,h0,h2,h3,h5,m5,g0,gq,g1⟩
 simp only at m16 h9 m30 h11 h0 h2 h3 h5 m5 g0 gq g1
 obtain⟨hI,-⟩:=je0 (goes:=F) ho hx k
 rw[←g1] at hI
 have hol:=hI.le
 have hfl':=hI.len
 simp only at hol hfl'
 cases q with
 | nil=>
  have hk:ord.length≤k:=List.drop_eq_nil_iff.1 gq.symm
  have hst:=j09 (goes:=F) ho hx (i:=k) (by rw[←g1];simp only;omega)
  rw[←g1] at hst
  rw[←hst] at hbk hp
  simp only at hbk hp
  have hin:∀i,i<p.length→0≤p.getD i 0∧p.getD i 0<n:=fun i hi=>by
   by_cases h0:i+1<p.length
   ·have:=(hway.st i h0).1.ok ho;omega
   ·have e:i=p.length-1:=by omega
    rw[e,hway.la]
    exact hI.rng y (by have h:=hy;rw[←hst] at h;exact h)
  have hpp:=hway.pos
  have hdl:∀t,t<p.length→p.drop t=p.getD t 0::p.drop (t+1):=fun t ht=>by
   rw[List.drop_eq_getElem_cons ht]
   simp[ht]
  have Fz:=fz10 results174 m16 h9 m30 h11 h0 h2 h3 h5 m5
  repeat refine go1 ?_
  refine jaa (fun(t:Nat) s=>s.m 16=some (.arr v 1 (fr.map encI))∧s.ρ 9=.ref 16 v 0 n.toNat∧s.ρ 2=I x∧s.ρ 14=LI (p.drop t)∧s.ρ 15=I (p.getD t 0)∧t<p.length) (fun t=>t) (p.length-1) ?_ ?_
  ·refine⟨by simp[upd,m16],by simp[upd,h9],by simp[upd,h2],?_,by rw[hway.la];simp[upd],by omega⟩
   have e1:p.drop (p.length-1)=[y]:=by
    rw[hdl _ (by omega),hway.la,List.drop_eq_nil_of_le (by omega)]
   rw[e1]
   simp[upd,encI]
  rintro t ⟨ρ,m⟩ ⟨m16,h9,h2,h14,h15,f0⟩
  simp only at m16 h9 h2 h14 h15 f0
  by_cases ht:t=0
  ·subst ht
   rw[List.drop_zero] at h14
   rw[hway.hd] at h15
   have Fz:=fz6 results174 m16 h9 h2 h14 h15
   repeat(first|exact trivial|refine go1 ?_)
  have hne:p.getD t 0≠x:=fun e=>by
   rw[←hway.hd] at e
   simp only[List.getD,List.getElem?_eq_getElem f0,List.getElem?_eq_getElem hpp,Option.getD_some] at e
   exact ht ((List.getElem_inj hway.nd).1 e)
  have hbt:=hbk t (by omega) f0
  have hpt:=hin t f0
  have hdt:=hdl (t-1) (by omega)
  rw[show t-1+1=t by omega] at hdt
  have hpl:p.length≤16:=by
   have:=jan (l:=p) (m:=iota n) hway.nd fun v hv=>by
    obtain⟨i,hi,he⟩:=List.mem_iff_getElem.1 hv
    have:=hin i hi
    simp only[List.getD,List.getElem?_eq_getElem hi,Option.getD_some,he] at this
    exact mem_iota.2 this
   rw[jat] at this
   omega
  have hrl:(p.drop t).length≤16:=by rw[List.length_drop];omega
  generalize hq:p.getD t 0=q at *
  generalize hr:p.drop t=r at *
  have Fz:=fz7 results174 m16 h9 h2 h14 h15 hbt
  repeat refine go1 ?_
  refine⟨t-1,?_,rfl,by omega,by omega⟩
  rw[hdt,List.take_of_length_le (by simp;omega)]
  simp[encI]
 | cons a q=>
  have hk:k<ord.length:=by
   refine Classical.byContradiction fun h=>?_
   rw[List.drop_eq_nil_of_le (by omega)] at gq
   cases gq
  have hae:ord.getD k 0=a∧ord.drop (k+1)=q:=by
   rw[List.drop_eq_getElem_cons hk,List.cons.injEq] at gq
   refine⟨?_,gq.2.symm⟩
   simp only[List.getD,List.getElem?_eq_getElem hk,Option.getD_some]
   exact gq.1.symm
  obtain⟨hae,hqe⟩:=hae
  have hatm:=jab (d:=0) (show k<ord.length by omega)
  have hat:=hI.rng _ hatm
  rw[hae] at hatm hat
  have hg:=jcp pre q a
  have hql:q.length≤n.toNat:=by rw[←hqe,List.length_drop];omega
  simp only[List.length_cons] at h11
  have Fz:=fz11 results174 m16 h9 m30 h11 h0 h2 h3 h5 m5 hg
  repeat refine go1 ?_
  refine jaa (fun(u:Int×Nat×List Int×List Int×List Int×List Int) s=>s.m 16=some (.arr v 1 (u.2.2.2.2.1.map encI))∧s.ρ 9=.ref 16 v 0 n.toNat∧s.m 30=some (.arr u.2.1 1 ((u.2.2.1++u.2.2.2.1).map encI))∧s.ρ 11=.ref 30 u.2.1 u.2.2.1.length u.2.2.2.1.length∧s.ρ 0=I n∧s.ρ 2=I x∧s.ρ 3=I y∧s.ρ 5=.ptr 5 0 0 0∧s.m 5=some (.box 0 [LI (fsI fs),LI (snI fs)])∧
   s.ρ 12=I a∧s.ρ 13=I u.1∧0≤u.1∧u.1≤n∧u.2.2.2.1=u.2.2.2.2.2.drop (k+1)∧BI n es F x u.2.2.2.2∧ord.length≤u.2.2.2.2.2.length∧u.2.2.2.2=(iota u.1).foldl (look F a) (fr,ord)) (fun u=>(n-u.1).toNat) (0,w,pre++[a],q,fr,ord) ?_ ?_
  ·refine⟨by simp[upd,m16],by simp[upd,h9],by simp[upd,m30],by simp[upd],by simp[upd,h0],by simp[upd,h2],by simp[upd,h3],by simp[upd,h5],by simp[upd,m5],by simp[upd],by simp[upd],by simp,by simp only;omega,hqe.symm,hI,Nat.le_refl _,by simp[iota]⟩
  rintro⟨j,w',pr,q',fr',ord'⟩ ⟨ρ,m⟩ ⟨m16,h9,m30,h11,h0,h2,h3,h5,m5,h12,h13,f0,f1,fq,fI,hpl,f2⟩
  simp only at m16 h9 m30 h11 h0 h2 h3 h5 m5 h12 h13 f0 f1 fq fI hpl f2
  have hol':=fI.le
  have hfl2:=fI.len
  simp only at hol' hfl2
  have hql':q'.length≤n.toNat:=by rw[fq,List.length_drop];omega
  by_cases hj:j<n
  rotate_left
  ·have hjn:j=n:=by omega
   subst hjn
   have hb:(fr',ord')=bfsS j es F x (k+1):=by
    rw[f2,j0t ho hnd hO,bfsS,←g1,jtw,if_pos (by simp only;omega)]
    simp only[hae]
   have Fz:=fz12 results174 m16 h9 m30 h11 h0 h2 h3 h5 m5 h12 h13
   repeat refine go1 ?_
   exact⟨k+1,w',pr,q',fr',by assumption,rfl,rfl,rfl,rfl,rfl,ord',by omega,fq,hb,by omega⟩
  have hhas:=joz fs a j hfl
  unfold FL at hhas
  have hlk:(iota (j+1)).foldl (look F a) (fr,ord)=look F a (fr',ord') j:=by
   rw[jby f0,List.foldl_append,←f2];rfl
  have hfa:=hF a j
  rw[jpq] at hlk
  simp only at hlk
  have ham:a∈ord':=by
   have hpre:ord <+: ord':=by
    have:=(hI.fold (vs:=(iota j).filter fun v=>F a v) hatm fun v hv=>⟨by have:=mem_iota.1 (List.mem_filter.1 hv).1;omega,hO.adj a v (List.mem_filter.1 hv).2⟩).2.1
    rw[←jfy,←f2] at this
    exact this
   exact hpre.subset hatm
  by_cases hn0:fr'.getD j.toNat 0<0
  ·by_cases h1:(a,j)∈fs
   ·have hFa:=hfa.1 h1
    have hnew:=(fI.look ham ⟨f0,hj⟩ (hO.adj a j hFa)).1
    rw[jpq] at hnew
    simp only at hnew
    rw[decide_eq_true h1] at hhas
    rw[if_pos ⟨hn0,hFa⟩] at hlk hnew
    have Fz:=fz13 results174 m16 h9 m30 h11 h0 h2 h3 h5 m5 h12 h13 hhas
    repeat refine go1 ?_
    exact⟨j+1,[],q'++[j],by simp,rfl,by simp,rfl,by omega,by omega,ord'++[j],by rw[List.drop_append_of_le_length (by omega),←fq],hnew,by rw[List.length_append];omega,hlk.symm,by omega⟩
   ·rw[decide_eq_false h1] at hhas
    rw[if_neg (fun k=>h1 (hfa.2 k.2))] at hlk
    have Fz:=fz13 results174 m16 h9 m30 h11 h0 h2 h3 h5 m5 h12 h13 hhas
    repeat refine go1 ?_
    exact⟨j+1,pr,q',rfl,rfl,rfl,rfl,by omega,by omega,ord',fq,fI,hpl,hlk.symm,by omega⟩
  ·rw[if_neg (fun k=>hn0 k.1)] at hlk
   have Fz:=fz13 results174 m16 h9 m30 h11 h0 h2 h3 h5 m5 h12 h13 hhas
   repeat refine go1 ?_
   exact⟨j+1,pr,q',rfl,rfl,rfl,rfl,by omega,by omega,ord',fq,fI,hpl,hlk.symm,by omega⟩
def dpPs (n:Int) (es:List (Int×Int)) (x y:Int) (k:Nat):List (List Int):=(List.range k).map fun i=>dpP n es x y i
theorem jpk (n:Int) (es:List (Int×Int)) (x y:Int) (k:Nat):(dpPs n es x y k).length=k:=by simp[dpPs]
theorem jrh (n:Int) (es:List (Int×Int)) (x y:Int) (k:Nat):dpPs n es x y (k+1)=dpPs n es x y k++[dpP n es x y k]:=by simp[dpPs,List.range_succ]
theorem j6i {n:Int} {es:List (Int×Int)} {F:Un} {x y:Int} {p:List Int} (ho:∀e∈es,okE n e) (hw:Way es F x y p) (hy:0≤y∧y<n):∀i,i<p.length→0≤p.getD i 0∧p.getD i 0<n:=fun i hi=>by
 by_cases h0:i+1<p.length
 ·have:=(hw.st i h0).1.ok ho;omega
 ·have e:i=p.length-1:=by omega
  rw[e,hw.la];exact hy
theorem jvq {n:Int} {es:List (Int×Int)} {F:Un} {x y:Int} {p:List Int} (ho:∀e∈es,okE n e) (hw:Way es F x y p) (hy:0≤y∧y<n) (hn:n≤16):p.length≤16:=by
 have:=jan (l:=p) (m:=iota n) hw.nd fun v hv=>by
  obtain⟨i,hi,he⟩:=List.mem_iff_getElem.1 hv
  have:=j6i ho hw hy i hi
  simp only[List.getD,List.getElem?_eq_getElem hi,Option.getD_some,he] at this
  exact mem_iota.2 this
 rw[jat] at this
 omega
theorem jj5 (n x y:Int) (es:List (Int×Int)) (hl:es.length≤1048576):KP 107 [GL n es,I x,I y] []=
 some (if Pr n x y es then(.tup [.ref 2000 0 0 (dpPs n es x y (flN n es x y)).length,B true],[],[.arr 0 1 ((dpPs n es x y (flN n es x y)).map encL)]) else(.tup [.ref 2000 0 0 0,B false],[],[.arr 0 1 []])):=by
 by_cases h:Pr n x y es
 rotate_left
 ·rw[if_neg h]
  refine gc func107 ?_
  have Fz:=fz1 results107
  repeat(first|exact trivial|refine go1 ?_)
 rw[if_pos h]
 obtain⟨hV,hx,hy,hxy⟩:=id h
 have ho:=hV.okg.ok
 have hnd:=hV.nodup
 have hn16:=hV.2.1
 have hle:=hV.okg.len
 obtain⟨fs,hu,hfl,hf⟩:=jwb n x y es hV hx hy hxy
 have hk40:flN n es x y≤40:=by
  have h1:=(jgg ho hnd hx hy hxy).1
  have h2:=jak x es
  omega
 unfold FQ at hf
 refine gc func107 ?_
 have Fz:=fz2 results107 hf
 repeat refine go1 ?_
 refine jaa (fun(u:Nat×Nat×List (Int×Int)) s=>s.m 14=some (.arr u.2.1 1 ((dpPs n es x y u.1).map encL))∧s.ρ 8=.ref 14 u.2.1 0 u.1∧s.ρ 9=.ptr 9 0 0 0∧s.m 9=some (.box 0 [.i (iq (fsI u.2.2)),.i (iq (snI u.2.2))])∧s.ρ 10=I (flN n es x y:Int)∧s.ρ 11=I (u.1:Int)∧s.ρ 1=I x∧s.ρ 2=I y∧s.ρ 3=.ptr 3 0 0 0∧s.m 3=some (.box 0 [I n,LE es])∧
  u.1≤flN n es x y∧FR u.2.2 (dpF n es x y u.1)∧u.2.2.length≤1000) (fun u=>flN n es x y-u.1) (0,0,fs) ?_ ?_
 ·refine⟨by simp[upd,dpPs],by simp[upd],by simp[upd],by simp[upd],by simp[upd],by simp[upd],by simp[upd],by simp[upd],by simp[upd],by simp[upd],Nat.zero_le _,hu,hfl⟩
 rintro⟨i,v,gs⟩ ⟨ρ,m⟩ ⟨m14,h8,h9,m9,h10,h11,h1,h2,h3,m3,g0,g1,g2⟩
 simp only at m14 h8 h9 m9 h10 h11 h1 h2 h3 m3 g0 g1 g2
 have hpsl:=jpk n es x y i
 by_cases hi:i<flN n es x y
 rotate_left
 ·have hie:i=flN n es x y:=by omega
  rw[←hie]
  rw[←hie] at h10
  have Fz:=fz11 results107 m14 h8 h9 m9 h10 h11 h1 h2 h3 m3
  repeat refine go1 ?_
  rw[hpsl]
 have hO:=(j3e ho hnd hx hy hxy i (by omega)).1
 have hw:=j3g ho hnd hx hy hxy hi
 have hlp:=j1y n x y es gs _ hV hx g1 hO (j3f ho hnd hx hy hxy hi) (by omega)
 have hpe:wayL n (bfs n es (dpF n es x y i) x).1 x y=dpP n es x y i:=rfl
 rw[hpe] at hlp
 have hsn:=jrh n es x y i
 have hnx:dpF n es x y (i+1)=jd2 (dpF n es x y i) (dpP n es x y i):=rfl
 have hpl:=jvq ho hw hy hn16
 have hpp:=hw.pos
 generalize hpq:dpP n es x y i=p at *
 unfold FL at hlp
 have Fz:=fz12 results107 m14 h8 h9 m9 h10 h11 h1 h2 h3 m3 hlp
 repeat refine go1 ?_
 refine jaa (fun(u:Int×List (Int×Int)) s=>s.m 14=some (.arr v 1 ((dpPs n es x y i).map encL))∧s.ρ 8=.ref 14 v 0 i∧s.ρ 9=.ptr 9 0 0 0∧s.m 9=some (.box 0 [.i (iq (fsI u.2)),.i (iq (snI u.2))])∧s.ρ 10=I (flN n es x y:Int)∧s.ρ 11=I (i:Int)∧s.ρ 1=I x∧s.ρ 2=I y∧s.ρ 3=.ptr 3 0 0 0∧s.m 3=some (.box 0 [I n,LE es])∧
  s.ρ 12=LI p∧s.ρ 13=I u.1∧1≤u.1∧u.1≤p.length∧FR u.2 (jd2 (dpF n es x y i) (p.take u.1.toNat))∧u.2.length≤1000) (fun u=>(p.length-u.1).toNat) (1,gs) ?_ ?_
 ·have e1:jd2 (dpF n es x y i) (p.take 1)=dpF n es x y i:=by
   cases p with
   | nil=>rfl
   | cons a r=>rfl
  refine⟨by simp[upd,m14],by simp[upd,h8],by simp[upd,h9],by simp[upd,m9],by simp[upd,h10],by simp[upd,h11],by simp[upd,h1],by simp[upd,h2],by simp[upd,h3],by simp[upd,m3],by simp[upd],by simp[upd],by simp,by simp only;omega,?_,g2⟩
  show FR gs (jd2 (dpF n es x y i) (p.take 1))
  rw[e1];exact g1
 rintro⟨k,hs⟩ ⟨ρ,m⟩ ⟨m14,h8,h9,m9,h10,h11,h1,h2,h3,m3,h12,h13,f0,f1,f2,f3⟩
 simp only at m14 h8 h9 m9 h10 h11 h1 h2 h3 m3 h12 h13 f0 f1 f2 f3
 by_cases hk:k<p.length
 ·have hdt:=jnw (F:=dpF n es x y i) (p:=p) (i:=k.toNat) (by omega) (by omega)
  rw[show k.toNat+1=(k+1).toNat by omega,show k.toNat-1=(k-1).toNat by omega] at hdt
  have hd:=f2.drop (p.getD (k-1).toNat 0) (p.getD k.toNat 0)
  rw[←hdt] at hd
  have hwo:=jfs hs (p.getD (k-1).toNat 0) (p.getD k.toNat 0) (by omega)
  have hwl:=jqe hs (p.getD (k-1).toNat 0) (p.getD k.toNat 0)
  unfold FL at hwo
  have Fz:=fz15 results107 m14 h8 h9 m9 h10 h11 h1 h2 h3 m3 h12 h13 hwo @FQ.eq_1
  repeat refine go1 ?_
  exact⟨k+1,_,rfl,rfl,by omega,by omega,hd,by omega,by omega⟩
 ·rw[jac (by omega),←hnx] at f2
  have Fz:=fz14 results107 m14 h8 h9 m9 h10 h11 h1 h2 h3 m3 h12 h13 hpsl
  repeat refine go1 ?_
  exact⟨i+1,by rw[hsn],rfl,hs,rfl,by omega,by omega,f2,f3,by omega⟩
theorem jeo (us:List Bool) (F:Un) (h:UR us F):CloG (.fn 154 [] [.eptr (us.map bI) 0]) (fun v=>0≤v∧v<16) F:=by
 have hl:=h.1
 have k:∀a b:Int,0≤a∧a<16→0≤b∧b<16→KP 154 [I a,I b,.i (.eptr (us.map bI) 0)] []=some (B (F a b),[],[]):=by
  intro a b ha hb
  have hg:=h.2 a b ha.1 ha.2 hb.1 hb.2
  refine gc func154 ?_
  have Fz:=fz2 results154 hg
  repeat refine go1 ?_
  all_goals(rw[Nat.mul_one,hg])
 refine⟨fun n=>by cases n<;>rfl,rfl,fun me d a b ha hb=>?_⟩
 have hx:=k a b ha hb
 simp only[go_sem,↓reduceIte,Int.reduceLE,Int.reduceLT,Int.reduceToNat,Int.reduceNeg,Int.reduceAdd,Int.reduceSub,Int.reduceMul,Int.reduceEq,Int.reduceNe,Nat.reduceEqDiff,Nat.reduceAdd,Nat.reduceSub,Nat.reduceMul,Nat.reduceLT,Nat.reduceLeDiff,Nat.reduceBEq,Nat.reduceBNe,UInt8.reduceToNat,hx,ite_self]
theorem UR.drop {us:List Bool} {F:Un} {a b:Int} (h:UR us F) (ha:0≤a∧a<16) (hb:0≤b∧b<16):UR (us.set (a.toNat*16+b.toNat) false) (jh7 F a b):=by
 refine⟨by simpa using h.1,fun c d h0 h1 h2 h3=>?_⟩
 have hlen:=h.1
 unfold jh7
 rw[j8n (by omega)]
 by_cases he:c=a∧d=b
 ·obtain⟨rfl,rfl⟩:=he
  rw[if_pos rfl,if_pos ⟨rfl,rfl⟩]
 ·rw[if_neg (by omega),if_neg he]
  exact h.2 c d h0 h1 h2 h3
theorem jfp (n x y:Int) (es:List (Int×Int)) (hl:es.length≤1048576):KP 84 [GL n es,I x,I y] []=
 some (if Pr n x y es then(.tup [.ref 2000 0 0 (dpPs n es x y (flN n es x y)).length,B true],[],[.arr 0 1 ((dpPs n es x y (flN n es x y)).map encL)]) else(.tup [.i .emp,B false],[],[])):=by
 by_cases h:Pr n x y es
 rotate_left
 ·rw[if_neg h]
  refine gc func84 ?_
  have Fz:=fz1 results84
  repeat(first|exact trivial|refine go1 ?_)
 rw[if_pos h]
 obtain⟨hV,hx,hy,hxy⟩:=id h
 have ho:=hV.okg.ok
 have hnd:=hV.nodup
 have hn16:=hV.2.1
 have hle:=hV.okg.len
 obtain⟨us,hu,hf⟩:=j1w n x y es hV hx hy hxy
 have hul:=hu.1
 have hk40:flN n es x y≤40:=by
  have h1:=(jgg ho hnd hx hy hxy).1
  have h2:=jak x es
  omega
 refine gc func84 ?_
 have Fz:=fz3 results84 hf hul
 repeat refine go1 ?_
 refine jaa (fun(u:Nat×Nat×List Bool) s=>s.m 28=some (.arr u.2.1 1 ((dpPs n es x y u.1).map encL))∧s.ρ 10=.ref 28 u.2.1 0 u.1∧s.ρ 8=.ptr 8 0 0 0∧s.m 8=some (.box 0 (u.2.2.map bP))∧s.ρ 29=I (flN n es x y:Int)∧s.ρ 30=I (u.1:Int)∧s.ρ 1=I x∧s.ρ 2=I y∧s.ρ 3=.ptr 3 0 0 0∧s.m 3=some (.box 0 [I n,LE es])∧
  u.1≤flN n es x y∧UR u.2.2 (dpF n es x y u.1)) (fun u=>flN n es x y-u.1) (0,0,us) ?_ ?_
 ·refine⟨by simp[upd,dpPs],by simp[upd],by simp[upd],by simp[upd],by simp[upd],by simp[upd],by simp[upd],by simp[upd],by simp[upd],by simp[upd],Nat.zero_le _,hu⟩
 rintro⟨i,v,vs⟩ ⟨ρ,m⟩ ⟨m28,h10,h8,m8,h29,h30,h1,h2,h3,m3,g0,g1⟩
 simp only at m28 h10 h8 m8 h29 h30 h1 h2 h3 m3 g0 g1
 have hpsl:=jpk n es x y i
 have hvl:=g1.1
 by_cases hi:i<flN n es x y
 rotate_left
 ·have hie:i=flN n es x y:=by omega
  rw[←hie]
  rw[←hie] at h29
  have Fz:=fz11 results84 m28 h10 h8 m8 h29 h30 h1 h2 h3 m3
  repeat refine go1 ?_
  rw[hpsl]
 have hm:=j3f ho hnd hx hy hxy hi
 have hr:=j2e (jeo vs _ g1) n x es hV hx fun v h0 h1=>⟨h0,by omega⟩
 have hB:=jiy (goes:=dpF n es x y i) ho hx
 have hcw:=kfi (fr:=(bfs n es (dpF n es x y i) x).1) (ord:=(bfs n es (dpF n es x y i) x).2) hB hn16 hm
 obtain⟨c1,c2,c3⟩:=jeo vs _ g1
 have hw:=j3g ho hnd hx hy hxy hi
 have hpe:wayL n (bfs n es (dpF n es x y i) x).1 x y=dpP n es x y i:=rfl
 rw[hpe] at hcw
 have hsn:=jrh n es x y i
 have hnx:dpF n es x y (i+1)=jd2 (dpF n es x y i) (dpP n es x y i):=rfl
 have hpl:=jvq ho hw hy hn16
 have hpin:=j6i ho hw hy
 have hpp:=hw.pos
 generalize hpq:dpP n es x y i=p at *
 have Fz:=fz16 results84 m28 h10 h8 m8 h29 h30 h1 h2 h3 m3 hr hcw c1 c2 hvl
 repeat refine go1 ?_
 refine jaa (fun(u:Int×List Bool) s=>s.m 28=some (.arr v 1 ((dpPs n es x y i).map encL))∧s.ρ 10=.ref 28 v 0 i∧s.ρ 8=.ptr 8 0 0 0∧s.m 8=some (.box 0 (u.2.map bP))∧s.ρ 29=I (flN n es x y:Int)∧s.ρ 30=I (i:Int)∧s.ρ 1=I x∧s.ρ 2=I y∧s.ρ 3=.ptr 3 0 0 0∧s.m 3=some (.box 0 [I n,LE es])∧
  s.ρ 13=LI p∧s.ρ 15=I u.1∧1≤u.1∧u.1≤p.length∧UR u.2 (jd2 (dpF n es x y i) (p.take u.1.toNat))) (fun u=>(p.length-u.1).toNat) (1,vs) ?_ ?_
 ·have e1:jd2 (dpF n es x y i) (p.take 1)=dpF n es x y i:=by
   cases p with
   | nil=>rfl
   | cons a r=>rfl
  refine⟨by simp[upd,m28],by simp[upd,h10],by simp[upd,h8],by simp[upd,m8],by simp[upd,h29],by simp[upd,h30],by simp[upd,h1],by simp[upd,h2],by simp[upd,h3],by simp[upd,m3],by simp[upd],by simp[upd],by simp,by simp only;omega,?_⟩
  show UR vs (jd2 (dpF n es x y i) (p.take 1))
  rw[e1];exact g1
 rintro⟨k,ws⟩ ⟨ρ,m⟩ ⟨m28,h10,h8,m8,h29,h30,h1,h2,h3,m3,h13,h15,f0,f1,f2⟩
 simp only at m28 h10 h8 m8 h29 h30 h1 h2 h3 m3 h13 h15 f0 f1 f2
 have hwl:=f2.1
 by_cases hk:k<p.length
 ·have hdt:=jnw (F:=dpF n es x y i) (p:=p) (i:=k.toNat) (by omega) (by omega)
  rw[show k.toNat+1=(k+1).toNat by omega,show k.toNat-1=(k-1).toNat by omega] at hdt
  have ha:=hpin (k-1).toNat (by omega)
  have hb:=hpin k.toNat (by omega)
  have hd:=f2.drop (a:=p.getD (k-1).toNat 0) (b:=p.getD k.toNat 0) ⟨ha.1,by omega⟩ ⟨hb.1,by omega⟩
  rw[←hdt] at hd
  generalize hae:p.getD (k-1).toNat 0=a at *
  generalize hbe:p.getD k.toNat 0=b at *
  have Fz:=fz17 results84 m28 h10 h8 m8 h29 h30 h1 h2 h3 m3 h13 h15 hwl @Nat.mul_one hae hbe
  repeat refine go1 ?_
  refine⟨k+1,_,?_,rfl,by omega,by omega,hd,by omega⟩
  rw[List.append_assoc]
  exact congrArg (Arr.box 0) (jv0 ws _ _ (by omega))
 ·rw[jac (by omega),←hnx] at f2
  have Fz:=fz14 results84 m28 h10 h8 m8 h29 h30 h1 h2 h3 m3 h13 h15 hpsl
  repeat refine go1 ?_
  exact⟨i+1,by rw[hsn],rfl,ws,rfl,by omega,by omega,f2,by omega⟩
theorem jmx (n:Int) (ts:List Tl) (hL:LV n ts):KP 70 [LvP n ts,I 0] []=some (.tup [.i (qe (abT ts 0 true)),B true],[],[]):=by
 have hV:=hL.vg
 have hel:=hV.2.2.1
 have l1:=jaq ts
 have hlv:=jck n ts hV
 rw[decide_eq_true hL] at hlv
 have hab:=jot n 0 true ts (by omega)
 unfold qP qA at hab
 unfold qe
 by_cases hz:abT ts 0 true=[]
 ·rw[if_pos hz,if_pos hz] at hab
  rw[if_pos hz]
  refine gc func70 ?_
  have Fz:=fz3 results70 hlv hab
  repeat(first|exact trivial|refine go1 ?_)
 ·rw[if_neg hz,if_neg hz] at hab
  rw[if_neg hz]
  refine gc func70 ?_
  have Fz:=fz3 results70 hlv hab
  repeat(first|exact trivial|refine go1 ?_)
theorem juh (n:Int) (x y z:IV) (ts:List Tl) (h3:LV3 x y z ts) (hL:LV n ts) :
 KP 25 [.ptr 1000 0 0 0,S [102,111,114,101,115,116]] [.box 0 [I n,.i x,.i y,.i z]]=
  some (S ([102,111,114,101,115,116]++edsT (abT ts 0 true)++[10]),[.box 0 [I n,.i x,.i y,.i z]],[]):=by
 have hfx:=h3.fx
 have hlx:=h3.lx
 have hfy:=h3.fy
 have hly:=h3.ly
 have hfz:=h3.fz
 have hlz:=h3.lz
 have hV:=hL.vg
 have hel:=hV.2.2.1
 have l1:=jaq ts
 have hal:=jiu ts 0 true
 have hc:=jmx n ts hL
 have hse:smallE (abT ts 0 true):=fun e he=>hV.small.1 e (jcd e he)
 have hnt:=jcx [102,111,114,101,115,116] (abT ts 0 true) hse (by simp) (by omega)
 have hle:=ja6 (abT ts 0 true)
 generalize abT ts 0 true=F at *
 generalize hR:([102,111,114,101,115,116]:List UInt8)++edsT F=R at *
 have hRl:R.length≤1000:=by rw[←hR];simp only[List.length_append,List.length_cons,List.length_nil];omega
 refine gc func25 ?_
 have Fz:=fz9 results25 hfx hlx hfy hly hfz hlz hc hnt
 repeat(first|exact trivial|refine go1 ?_)
theorem j70 {n:Int} {es:List (Int×Int)} (h:n≤16):cnt n es≤16:=by
 have:=kax (n:=n) (es:=es)
 omega
theorem jt5 (n:Int) (es:List (Int×Int)) (hV:VG n es):KP 42 [GL n es] []=some (S (linesE [98,108,111,99,107] (blocksL es)++[101,110,100,10]),[],[]):=by
 have hel:=hV.2.2.1
 have hc:=jub n es (by omega)
 rw[if_pos hV] at hc
 obtain⟨hs,hk⟩:=jfo hV
 generalize blocksL es=ps at *
 have hb1:=fun k:Nat=>jgi [98,108,111,99,107] 40 (ps.take k) (fun p hp=>(hs p (List.mem_of_mem_take hp)).2)
 have hb2:∀k:Nat,(linesE [98,108,111,99,107] (ps.take k)).length≤40*246:=fun k=>Nat.le_trans (hb1 k) (Nat.mul_le_mul (by rw[List.length_take];omega) (by simp))
 refine gc func42 ?_
 have Fz:=fz2 results42 hc
 repeat refine go1 ?_
 refine jaa (fun(i:Int) s=>s.ρ 3=LLE ps∧s.ρ 4=S (linesE [98,108,111,99,107] (ps.take i.toNat))∧s.ρ 5=I i∧0≤i∧i≤ps.length) (fun i=>(ps.length-i).toNat) 0 ?_ ?_
 ·refine⟨?_,?_,?_,by omega,by omega⟩
  all_goals first|rfl | (simp[upd,linesE];done)
 rintro i ⟨ρ,m⟩ ⟨e3,e4,e5,g0,g1⟩
 simp only at e3 e4 e5 g0 g1
 have hbi:=hb2 i.toNat
 by_cases hi:i<ps.length
 rotate_left
 ·rw[jac (by omega)] at e4 hbi
  have Fz:=fz4 results42 e3 e4 e5
  repeat(first|exact trivial|refine go1 ?_)
 have hm:=jab (d:=[]) (show i.toNat<ps.length by omega)
 have hgi:(ps.map jhb)[i.toNat]?=some [.lst ((ps.getD i.toNat []).map encE)]:=by
  have:i.toNat<ps.length:=by omega
  simp[jhb,this]
 obtain⟨s1,s2⟩:=hs _ hm
 have hnx:linesE [98,108,111,99,107] (ps.take (i+1).toNat)=linesE [98,108,111,99,107] (ps.take i.toNat)++([98,108,111,99,107]++edsT (ps.getD i.toNat [])++[10]):=by
  rw[jae [] g0 hi,jl3]
 generalize linesE [98,108,111,99,107] (ps.take i.toNat)=T at *
 generalize ps.getD i.toNat []=p at *
 have hed:=jf9 p s1 (by omega)
 have hle:=ja6 p
 generalize hE:edsT p++[10]=E at *
 have hEl:E.length≤1000:=by rw[←hE];simp only[List.length_append,List.length_cons,List.length_nil];omega
 have hnx2:linesE [98,108,111,99,107] (ps.take (i+1).toNat)=T++[98,108,111,99,107]++E:=by rw[hnx,←hE];simp
 have Fz:=fz6 results42 e3 e4 e5 hgi hed
 repeat refine go1 ?_
 exact⟨i+1,by rw[hnx2],rfl,by omega,by omega,by omega⟩
theorem jt6 (n:Int) (es:List (Int×Int)) (hV:VG n es):KP 43 [GL n es] []=some (S (linesT [99,104,97,105,110] (chainsL n es)++[101,110,100,10]),[],[]):=by
 have hel:=hV.2.2.1
 have hc:=juc n es (by omega)
 rw[if_pos hV] at hc
 obtain⟨hs,hk⟩:=jfu hV
 generalize chainsL n es=ps at *
 have hb1:=fun k:Nat=>jcf [99,104,97,105,110] 18 (ps.take k) (fun p hp=>(hs p (List.mem_of_mem_take hp)).2)
 have hb2:∀k:Nat,(linesT [99,104,97,105,110] (ps.take k)).length≤640*60:=fun k=>Nat.le_trans (hb1 k) (Nat.mul_le_mul (by rw[List.length_take];omega) (by simp))
 refine gc func43 ?_
 have Fz:=fz2 results43 hc
 repeat refine go1 ?_
 refine jaa (fun(i:Int) s=>s.ρ 3=LL ps∧s.ρ 4=S (linesT [99,104,97,105,110] (ps.take i.toNat))∧s.ρ 5=I i∧0≤i∧i≤ps.length) (fun i=>(ps.length-i).toNat) 0 ?_ ?_
 ·refine⟨?_,?_,?_,by omega,by omega⟩
  all_goals first|rfl | (simp[upd,linesT];done)
 rintro i ⟨ρ,m⟩ ⟨e3,e4,e5,g0,g1⟩
 simp only at e3 e4 e5 g0 g1
 have hbi:=hb2 i.toNat
 by_cases hi:i<ps.length
 rotate_left
 ·rw[jac (by omega)] at e4 hbi
  have Fz:=fz4 results43 e3 e4 e5
  repeat(first|exact trivial|refine go1 ?_)
 have hm:=jab (d:=[]) (show i.toNat<ps.length by omega)
 have hgi:(ps.map encL)[i.toNat]?=some [.lst ((ps.getD i.toNat []).map encI)]:=by
  have:i.toNat<ps.length:=by omega
  simp[encL,this]
 obtain⟨s1,s2⟩:=hs _ hm
 have hnx:linesT [99,104,97,105,110] (ps.take (i+1).toNat)=linesT [99,104,97,105,110] (ps.take i.toNat)++([99,104,97,105,110]++jaw (ps.getD i.toNat [])++[10]):=by
  rw[jae [] g0 hi,jhf]
 generalize linesT [99,104,97,105,110] (ps.take i.toNat)=T at *
 generalize ps.getD i.toNat []=p at *
 have hed:=jcl p s1 (by omega)
 have hle:=jas p
 generalize hE:jaw p++[10]=E at *
 have hEl:E.length≤1000:=by rw[←hE];simp only[List.length_append,List.length_cons,List.length_nil];omega
 have hnx2:linesT [99,104,97,105,110] (ps.take (i+1).toNat)=T++[99,104,97,105,110]++E:=by rw[hnx,←hE];simp
 have Fz:=fz6 results43 e3 e4 e5 hgi hed
 repeat refine go1 ?_
 exact⟨i+1,by rw[hnx2],rfl,by omega,by omega,by omega⟩
theorem j96 {e:Int×Int} {q:Bool} {ts:List Tl} (hn:(esT ts).Nodup) (hm:e∉esT ts) {i:Nat} (hi:i<ts.length+1) :
 (jco (esT ts) ((putT e q ts).getD i dT).1<0∧(putT e q ts).getD i dT=(e,0,q))∨
 ∃k:Nat,k<ts.length∧jco (esT ts) ((putT e q ts).getD i dT).1=k∧(putT e q ts).getD i dT=ts.getD k dT:=by
 have hmem:(putT e q ts).getD i dT∈putT e q ts:=jab (by rw[jp1];exact hi)
 obtain⟨p,r,h1,h2⟩:=jgl e q ts
 rw[h2 q] at hmem ⊢
 generalize (p++(e,0,q)::r).getD i dT=t at *
 by_cases ht:t=(e,0,q)
 ·subst ht
  exact .inl ⟨by unfold jco;rw[if_neg hm];omega,rfl⟩
 ·right
  have htm:t∈ts:=by
   rw[h1]
   simp only[List.mem_append,List.mem_cons] at hmem ⊢
   rcases hmem with h|h | h
   ·exact .inl h
   ·exact absurd h ht
   ·exact .inr h
  obtain⟨k,l,b,hk,hf,hg,-⟩:=jgf (ts:=ts) (e:=t.1) (List.mem_map.2 ⟨t,htm,rfl⟩)
  refine⟨k,hk,hf,?_⟩
  rw[hg]
  obtain⟨j,hj,rfl⟩:=List.getElem_of_mem htm
  have hjk:j=k:=by
   have e1:ts.getD k dT=ts[k]:=by simp[List.getD,hk]
   rw[e1] at hg
   have e2:(esT ts)[j]'(by rw[jaq];exact hj)=(esT ts)[k]'(by rw[jaq];exact hk):=by simp[esT,hg]
   have hpw:=List.pairwise_iff_getElem.1 hn
   rcases Nat.lt_trichotomy j k with h|h | h
   ·exact absurd e2 (hpw j k _ _ h)
   ·exact h
   ·exact absurd e2.symm (hpw k j _ _ h)
  subst hjk
  rw[←hg];simp[List.getD,hj]
abbrev jgu (n:Int) (us:List Tl):PV:=.agg [I n,.ref 2000 0 0 us.length,.ref 2001 0 0 us.length,.ref 2002 0 0 us.length]
abbrev jgt (us:List Tl):List Arr:=[.arr 0 2 ((esT us).map encE),arrL (lvT us),arrT (trT us)]
theorem rkE (us:List Tl):(esT us).take us.length=esT us:=List.take_of_length_le (by rw[jaq];exact Nat.le_refl _)
theorem rkL (us:List Tl):(lvT us).take us.length=lvT us:=List.take_of_length_le (by rw[jax];exact Nat.le_refl _)
theorem rkT (us:List Tl):(trT us).take us.length=trT us:=List.take_of_length_le (by rw[ja9];exact Nat.le_refl _)
end Go.Proofs.YtnaaceooknghjaaGreatDoor.X
