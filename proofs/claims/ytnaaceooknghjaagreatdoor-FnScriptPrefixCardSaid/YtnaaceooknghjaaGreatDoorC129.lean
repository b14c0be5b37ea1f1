/- What functions answer, and the plain laws behind it. -/
import Derived.Test.YtnaaceooknghjaaGreatDoorKAK
import Derived.Test.YtnaaceooknghjaaGreatDoorC126
set_option linter.unusedSimpArgs false
set_option linter.unusedVariables false
set_option maxHeartbeats 8000000
set_option maxRecDepth 100000
namespace Go.Proofs.YtnaaceooknghjaaGreatDoor.X
open Go Go.Proofs Tryz
theorem jl2 {l T:List UInt8} {R:List UInt8} {n n':Int} {x y z x' y' z':IV} (hc:KP 24 [S l,S [32]] []=some (.tup [S [103,114,97,112,104],S T,B true],[],[]))
 (h:KP 26 [.ptr 1000 0 0 0,S T] [.box 0 [I n,.i x,.i y,.i z]]=some (S R,[.box 0 [I n',.i x',.i y',.i z']],[])):jcu l n x y z R n' x' y' z':=by
 unfold jcu
 refine gc func12 ?_
 have Fz:=fz3 results12 hc h
 repeat(first|exact trivial|refine go1 ?_)
theorem j47 {l w T:List UInt8} (hw:jex w) {R:List UInt8} {n n':Int} {x y z x' y' z':IV} {q:IV} {r:PV} {own:List Arr}
 (hc:KP 24 [S l,S [32]] []=some (.tup [S w,S T,B true],[],[]))
 (hn:KP 27 [S T,I 2] []=some (r,[],own)) (hi:imm 2 own r=some (.tup [.i q,B true])) (hq:q.flat=true) (hqf:∀n,frz n (.i q)=.ret q)
 (h:KP 28 [.ptr 1000 0 0 0,S w,.i q] [.box 0 [I n,.i x,.i y,.i z]]=some (S R,[.box 0 [I n',.i x',.i y',.i z']],[])):jcu l n x y z R n' x' y' z':=by
 unfold jcu
 rcases hw with rfl|rfl|rfl|rfl|rfl
 all_goals
  refine gc func12 ?_
  have Fz:=fz7 results12 hc hn hi hq hqf h
  repeat(first|exact trivial|refine go1 ?_)
theorem ju1 {l w T:List UInt8} (hw:jex w) {n:Int} {x y z:IV} {q:IV} {r:PV} {own:List Arr} (h3:∃ts,LV3 x y z ts)
 (hc:KP 24 [S l,S [32]] []=some (.tup [S w,S T,B true],[],[]))
 (hn:KP 27 [S T,I 2] []=some (r,[],own)) (hi:imm 2 own r=some (.tup [.i q,B false])):jcu l n x y z jcc n x y z:=by
 obtain⟨ts,h3⟩:=h3
 have hlx:=h3.lx
 have hly:=h3.ly
 have hlz:=h3.lz
 unfold jcu
 rcases hw with rfl|rfl|rfl|rfl|rfl
 all_goals
  refine gc func12 ?_
  have Fz:=fz7 results12 hc hn hi hlx hly hlz
  repeat(first|exact trivial|refine go1 ?_)
theorem j0b {l T:List UInt8} {R:List UInt8} {n n':Int} {x y z x' y' z':IV} {q:IV} {r:PV} {own:List Arr}
 (hc:KP 24 [S l,S [32]] []=some (.tup [S [116,111,117,114],S T,B true],[],[]))
 (hn:KP 27 [S T,I 1] []=some (r,[],own)) (hi:imm 2 own r=some (.tup [.i q,B true])) (hq:q.flat=true) (hqf:∀n,frz n (.i q)=.ret q)
 (h:KP 28 [.ptr 1000 0 0 0,S [116,111,117,114],.i q] [.box 0 [I n,.i x,.i y,.i z]]=some (S R,[.box 0 [I n',.i x',.i y',.i z']],[])):jcu l n x y z R n' x' y' z':=by
 unfold jcu
 refine gc func12 ?_
 have Fz:=fz7 results12 hc hn hi hq hqf h
 repeat(first|exact trivial|refine go1 ?_)
theorem jsf {l T:List UInt8} {n:Int} {x y z:IV} {q:IV} {r:PV} {own:List Arr} (h3:∃ts,LV3 x y z ts)
 (hc:KP 24 [S l,S [32]] []=some (.tup [S [116,111,117,114],S T,B true],[],[]))
 (hn:KP 27 [S T,I 1] []=some (r,[],own)) (hi:imm 2 own r=some (.tup [.i q,B false])):jcu l n x y z jcc n x y z:=by
 obtain⟨ts,h3⟩:=h3
 have hlx:=h3.lx
 have hly:=h3.ly
 have hlz:=h3.lz
 unfold jcu
 refine gc func12 ?_
 have Fz:=fz7 results12 hc hn hi hlx hly hlz
 repeat(first|exact trivial|refine go1 ?_)
def jqf (w:List UInt8):Prop:=w=[103,114,97,112,104]∨w=[116,111,117,114]∨jex w
theorem j48 {l w T:List UInt8} (hw:¬jqf w) {n:Int} {x y z:IV} (h3:∃ts,LV3 x y z ts)
 (hc:KP 24 [S l,S [32]] []=some (.tup [S w,S T,B true],[],[])):jcu l n x y z jcc n x y z:=by
 obtain⟨ts,h3⟩:=h3
 have hlx:=h3.lx
 have hly:=h3.ly
 have hlz:=h3.lz
 unfold jqf jex at hw
 simp only[not_or] at hw
 obtain⟨w1,w2,w3,w4,w5,w6,w7⟩:=hw
 have q1:=ja2 w1
 have q2:=ja2 w2
 have q3:=ja2 w3
 have q4:=ja2 w4
 have q5:=ja2 w5
 have q6:=ja2 w6
 have q7:=ja2 w7
 unfold jcu
 refine gc func12 ?_
 have Fz:=fz12 results12 hc q1 q2 q3 q4 q5 q6 q7 hlx hly hlz
 repeat(first|exact trivial|refine go1 ?_)
theorem j0c (w:List UInt8) (hw:(32:UInt8)∉w) (hl:w.length≤100000) {n n':Int} {x y z x' y' z':IV} {R:List UInt8}
 (h:KP 25 [.ptr 1000 0 0 0,S w] [.box 0 [I n,.i x,.i y,.i z]]=some (S R,[.box 0 [I n',.i x',.i y',.i z']],[])):jcu w n x y z R n' x' y' z':=by
 have hc:=j69 w 32 hw (by omega)
 unfold jcu
 refine gc func12 ?_
 have Fz:=fz3 results12 hc h
 repeat(first|exact trivial|refine go1 ?_)
end Go.Proofs.YtnaaceooknghjaaGreatDoor.X
