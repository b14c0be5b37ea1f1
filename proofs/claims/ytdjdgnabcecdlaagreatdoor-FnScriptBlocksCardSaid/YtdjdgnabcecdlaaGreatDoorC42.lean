/- What functions compute: draws of two edges. -/
import Derived.Test.YtdjdgnabcecdlaaGreatDoorC34
set_option linter.unusedSimpArgs false
set_option linter.unusedVariables false
set_option maxHeartbeats 8000000
namespace Go.Proofs.YtdjdgnabcecdlaaGreatDoor.X
open Go Go.Proofs
/-- What is handed back, once the results are read. -/
def outRest (np : Nat) (rs : List PV) : Mm (PV × List Arr × List Arr) :=
  let r : PV := tupR rs
  (Mm.mapL (fun j => .get (1000 + j) fun | some A => .ret A | none => .fail) (List.range np)).bind fun ps =>
  (coll 16 ownSite (r :: ps.flatMap fun | .box _ cs => cs | _ => []) []).bind fun L =>
  (ren (lookBack np L) 3 r).bind fun r' =>
  (Mm.mapL (fun A => renArr (lookBack np L) A.ver A) ps).bind fun ps' =>
  (Mm.mapL (fun s => .get s fun | some A => renArr (lookBack np L) 0 A | none => .fail) L).bind fun own =>
  Mm.chk (decide L.Nodup && L.all ownSite) (.ret (r', ps', own))
end Go.Proofs.YtdjdgnabcecdlaaGreatDoor.X
