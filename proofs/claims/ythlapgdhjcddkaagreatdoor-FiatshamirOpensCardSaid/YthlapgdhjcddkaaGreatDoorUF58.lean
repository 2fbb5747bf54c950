/- Part of the proof. -/
import Derived.Test.YthlapgdhjcddkaaGreatDoorRows
import Derived.Test.YthlapgdhjcddkaaGreatDoorCards
import Derived.Test.YthlapgdhjcddkaaGreatDoorTie
import Derived.ProofKit
import Derived.ChangeSame
import Derived.SevenTiedAt
import Derived.JoinedOf
set_option linter.all false
set_option maxRecDepth 100000
namespace Go.Proofs.YthlapgdhjcddkaaGreatDoor
open Go Go.RowKit Go.Proofs.Tryz
theorem Ok:(Tryz.f5.resultTypes.all (fun t=>Tryz.pinned.checked.prog.readableRec t&&decide (t<Tryz.pinned.checked.prog.types.size)))=true:=by kernel_rfl
theorem Ol:((Rows.fiatshamirOpensRow.ifacesOut==Tryz.f5.resultTypes.toList.any (Tryz.pinned.checked.prog.ifacesRec ·)))=true:=by kernel_rfl
theorem Om:((Rows.fiatshamirOpensRow.loopsOut==Tryz.f5.resultTypes.toList.any (Tryz.pinned.checked.prog.loopsFrom ·)))=true:=by kernel_rfl
theorem On:((Rows.fiatshamirOpensRow.plainKeys==Tryz.pinned.checked.prog.plainKeys))=true:=by kernel_rfl
theorem Oo:(Rows.fiatshamirOpensRow.shortTexts.isNone)=true:=by kernel_rfl
theorem Oq:(Tryz.pinned.checked.prog.stopsHeard)=true:=by kernel_rfl
theorem Ot:(Tryz.pinned.checked.prog.mayEnter)=true:=by kernel_rfl
theorem Ou:((Rows.fiatshamirOpensRow.lifted==Tryz.pinned.checked.prog.liftsFinal))=true:=by kernel_rfl
theorem Ov:((Tryz.pinned.checked.prog.make==some Rows.fiatshamirOpensRow.make))=true:=by kernel_rfl
theorem Ow:((Rows.fiatshamirOpensRow.kinds==(if Rows.fiatshamirOpensRow.domain.isEmpty then[]else Tryz.f5.params.toList.map fun t=>match Tryz.pinned.checked.prog.underlying t with|some (.int k)=>some k| _=>none)))=true:=by kernel_rfl
theorem Ox:((Rows.fiatshamirOpensRow.pinned==Rows.fiatshamirOpensRow.pinnedBy))=true:=by kernel_rfl
theorem Oy:((Rows.fiatshamirOpensRow.veiled==(Tryz.f5.params.toList++Rows.fiatshamirOpensSpec.plain.varTypes Tryz.pinned.checked.prog++Tryz.f5.resultTypes.toList).any (Tryz.pinned.checked.prog.veiledRec ·)))=true:=by kernel_rfl
theorem Oz:(Rows.fiatshamirOpensRow.veiledFits Tryz.pinned.checked.prog Tryz.f5.params.toList (Tryz.f5.params.toList++Rows.fiatshamirOpensSpec.plain.varTypes Tryz.pinned.checked.prog++Tryz.f5.resultTypes.toList))=true:=by kernel_rfl
