/- Part of the proof. -/
import Derived.Test.YthlapgdhjcddkaaGreatDoorRows
import Derived.Test.YthlapgdhjcddkaaGreatDoorCards
import Derived.Test.YthlapgdhjcddkaaGreatDoorTie
import Derived.ProofKit
import Derived.ChangeSame
import Derived.SevenTiedAt
import Derived.JoinedOf
set_option linter.all false
set_option maxRecDepth 100000
namespace Go.Proofs.YthlapgdhjcddkaaGreatDoor
open Go Go.RowKit Go.Proofs.Tryz
theorem Od:((Rows.fiatshamirChallengesRow.named==Tryz.pinned.checked.prog.varsNamed 3))=true:=by kernel_rfl
theorem Oe:((Rows.fiatshamirChallengesRow.maps==(Tryz.f3.params.toList++Rows.fiatshamirChallengesSpec.plain.varTypes Tryz.pinned.checked.prog).any (Tryz.pinned.checked.prog.mapsRec ·)))=true:=by kernel_rfl
theorem Of:((Rows.fiatshamirChallengesRow.ifaces==(Tryz.f3.params.toList++Rows.fiatshamirChallengesSpec.plain.varTypes Tryz.pinned.checked.prog).any (Tryz.pinned.checked.prog.ifacesRec ·)))=true:=by kernel_rfl
theorem Og:((Rows.fiatshamirChallengesRow.mapsOut==Tryz.pinned.checked.prog.mapsAmong Tryz.f3.resultTypes.toList))=true:=by kernel_rfl
theorem Oh:((Rows.fiatshamirChallengesRow.loops==(Tryz.f3.params.toList++Rows.fiatshamirChallengesSpec.plain.varTypes Tryz.pinned.checked.prog).any (Tryz.pinned.checked.prog.loopsFrom ·)))=true:=by kernel_rfl
theorem Oi:((Rows.fiatshamirChallengesRow.wideKeys==(Tryz.f3.params.toList++Rows.fiatshamirChallengesSpec.plain.varTypes Tryz.pinned.checked.prog++Tryz.f3.resultTypes.toList).any (Tryz.pinned.checked.prog.wideKeysFrom ·)))=true:=by kernel_rfl
theorem Oj:(Rows.fiatshamirChallengesSpec.vars.all (Tryz.pinned.checked.prog.varReadable ·))=true:=by kernel_rfl
