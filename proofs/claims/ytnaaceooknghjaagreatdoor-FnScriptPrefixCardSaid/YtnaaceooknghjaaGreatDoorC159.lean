/- What functions answer, and the plain laws behind it. -/
import Derived.Test.YtnaaceooknghjaaGreatDoorKAQ
set_option linter.unusedSimpArgs false
set_option linter.unusedVariables false
set_option maxHeartbeats 8000000
set_option maxRecDepth 100000
namespace Go.Proofs.YtnaaceooknghjaaGreatDoor.X
open Go Go.Proofs Tryz
theorem c_of (bs:List Int) (p:Int) (ws:List (List UInt8)) (hb:bytes bs) (hp:0≤p∧p≤1000000) (h0:ws≠[]) (hl:ws.length≤1000) :
 ∃w,w∈ws∧KP 18 [.ptr 1000 0 0 0,.ref 1001 0 0 ws.length] [Rd bs p,.arr 0 1 (ws.map encS)]=some (S w,[Rd bs (p+1),.arr 0 1 (ws.map encS)],[]):=by
 have hpos:0<ws.length:=List.length_pos_iff.2 h0
 obtain⟨k,hk,_,hc⟩:=jek bs p ws.length hb hp (by omega)
 have hk':=hk (by omega)
 obtain⟨x,hx⟩:∃x,ws[k.toNat]?=some x:=⟨ws[k.toNat]'(by omega),by simp⟩
 have hx2:(ws.map encS)[k.toNat]?=some [.v (.string ⟨x.toArray⟩)]:=by rw[List.getElem?_map,hx];rfl
 refine⟨x,List.mem_of_getElem? hx,gc func18 ?_⟩
 have Fz:=fz5 results18 hc hk'.1 hk'.2 hx2
 repeat(first|exact trivial|refine go1 ?_)
theorem j7j (bs:List Int) (p:Int) (T:List UInt8) (ws:List (List UInt8)) (hb:bytes bs) (hp:0≤p∧p≤900000) (hT:T.length≤100000) (h0:ws≠[]) (hl:ws.length≤1000) (hw:∀w∈ws,w.length≤10) :
 ∃(T':List UInt8) (p':Int),T'.length≤T.length+10∧p≤p'∧p'≤p+10∧KP 20 [.ptr 1000 0 0 0,S T,.ref 1001 0 0 ws.length] [Rd bs p,.arr 0 1 (ws.map encS)]=some (S T',[Rd bs p',.arr 0 1 (ws.map encS)],[]):=by
 by_cases hz:T=[]
 ·subst hz
  refine⟨[],p,by simp,by omega,by omega,gc func20 ?_⟩
  have Fz:=fz1 results20
  repeat(first|exact trivial|refine go1 ?_)
 have hTl:0<T.length:=List.length_pos_iff.2 hz
 obtain⟨a,ha,-,h1⟩:=jek bs p 2 hb (by omega) (by omega)
 by_cases ha0:a=0
 ·subst ha0
  refine⟨T,p+1,by omega,by omega,by omega,gc func20 ?_⟩
  have Fz:=fz2 results20 h1
  repeat(first|exact trivial|refine go1 ?_)
 obtain⟨k,hk,-,h2⟩:=jek bs (p+1) T.length hb (by omega) (by omega)
 have hk':=hk (by omega)
 obtain⟨w,hwm,h3⟩:=c_of bs (p+1+1) ws hb (by omega) h0 hl
 have hwl:=hw w hwm
 obtain⟨b,hb1,-,h4⟩:=jek bs (p+1+1+1) 2 hb (by omega) (by omega)
 have hb':=hb1 (by omega)
 obtain⟨A,hA,hAl⟩:∃A,T.take k.toNat=A∧A.length=k.toNat:=⟨_,rfl,by rw[List.length_take];omega⟩
 obtain⟨D,hD,hDl⟩:∃D,T.drop (k+b).toNat=D∧D.length=T.length-(k+b).toNat:=⟨_,rfl,by rw[List.length_drop]⟩
 refine⟨A++w++D,p+1+1+1+1,?_,by omega,by omega,gc func20 ?_⟩
 ·simp only[List.length_append];omega
 have hDt:D.take (T.length-(k+b).toNat)=D:=List.take_of_length_le (by omega)
 have Fz:=fz8 results20 h1 h2 h3 h4 hA hD hDt
 repeat(first|exact trivial|refine go1 ?_)
end Go.Proofs.YtnaaceooknghjaaGreatDoor.X
