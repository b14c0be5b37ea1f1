/- From what the row lists to what the walk asks of the library's variables. -/
import Derived.Test.YtnaaceooknghjaaGreatDoorSD
import Derived.Test.YtnaaceooknghjaaGreatDoorRows
import Derived.Stop.LaidErr
import Derived.Lib.LaidTab
import Derived.LaidSub
import Derived.KernelRfl
namespace Go.Proofs.YtnaaceooknghjaaGreatDoor.X
open Go Go.Proofs Go.RowKit
theorem star: "*"++ "errors.errorString"= "*errors.errorString":=by decide
theorem kbc (u:TypeId) (h:Tryz.prog.typeName? 3 u=some "*errors.errorString"):u=257:=
 typeName_ptr_named (nm:= "errors.errorString") (by rw[star];kernel_rfl) (by kernel_rfl) (by decide) u (by rw[star];exact h)
theorem j94:Rows.laid_internal_strconv_uint64pow10 (H:=Unit)=Lib.tabData .u64 Lib.pow10Tab:=by kernel_rfl
theorem vw_of {W:World} (h:laidMetH Tryz.prog Rows.fnExactRunScriptRow.laid W):VW W:=by
 have e:(Rows.fnExactRunScriptRow.laid.filter fun x=>x.2.handleName?.isSome)=[]:=by kernel_rfl
 unfold laidMetH at h
 rw[e] at h
 have h3:laidMet Tryz.prog (("internal/strconv.uint64pow10",Lib.tabData .u64 Lib.pow10Tab)::Rows.fnExactRunScriptRow.laid.drop 3) W:=by
  have:=laidMet.tail (laidMet.tail h)
  rw[←j94]
  exact this
 have h5:laidMet Tryz.prog (("strconv.ErrRange",Rows.laid_strconv_ErrRange)::Rows.fnExactRunScriptRow.laid.drop 5) W:=laidMet.tail (laidMet.tail (laidMet.tail (laidMet.tail h)))
 have h6:laidMet Tryz.prog (("strconv.ErrSyntax",Rows.laid_strconv_ErrSyntax)::Rows.fnExactRunScriptRow.laid.drop 6) W:=laidMet.tail h5
 obtain⟨a0,s0,hv0,-⟩:=laid_sentinel h6 (by kernel_rfl:Tryz.prog.globalNamed "strconv.ErrSyntax"=some 3) (by kernel_rfl:(Tryz.prog.globals[3]?).map (·.type)=some 143) Tryz.underlying143 kbc Tryz.underlying257 Tryz.underlying259 rfl rfl Tryz.underlying9 (by kernel_rfl) (by kernel_rfl)
 obtain⟨a1,s1,hv1,-⟩:=laid_sentinel h5 (by kernel_rfl:Tryz.prog.globalNamed "strconv.ErrRange"=some 4) (by kernel_rfl:(Tryz.prog.globals[4]?).map (·.type)=some 143) Tryz.underlying143 kbc Tryz.underlying257 Tryz.underlying259 rfl rfl Tryz.underlying9 (by kernel_rfl) (by kernel_rfl)
 exact⟨⟨_,_,hv0⟩,⟨_,_,hv1⟩,Lib.tabIs_of_head (by kernel_rfl:Tryz.prog.globalNamed "internal/strconv.uint64pow10"=some 5) (by kernel_rfl:(Tryz.prog.globals[5]?).map (·.type)=some 253) Tryz.underlying253 Tryz.underlying228 (by kernel_rfl) (by kernel_rfl) h3⟩
end Go.Proofs.YtnaaceooknghjaaGreatDoor.X
