/-
  Part of the proof, part FA52. Own work.
-/
import Derived.Test.YtfdjchnefpefbaaGreatDoorFA1
import Derived.Test.YtfdjchnefpefbaaGreatDoorFA50
import Derived.Test.YtfdjchnefpefbaaGreatDoorFA48
import Derived.Test.YtfdjchnefpefbaaGreatDoorFA49
import Derived.Test.YtfdjchnefpefbaaGreatDoorFA51
set_option linter.all false
namespace Go.Proofs.YtfdjchnefpefbaaGreatDoor
open Go Go.RowKit
set_option maxRecDepth 100000
theorem IG {P:Program} {f:FuncId} {fn:Func} {s:ChangeSpec} {c:OpenClaim} (h1:(c.wf (OpenSpec.ofChange s))=true) (h2:(laidOutB P)=true) (h3:(mapsRowed P)=true) (h4:(fn.params.all (P.readableRec ·))=true) (h5:(namedTie P c.named s.vars)=true) (h6:((c.stops==[]))=true) (h7:((P.stops==[]))=true) (h8:((c.knobs==[]))=true) (h9:((P.stopKnobs==[]))=true) (h10:((c.inPlace==P.inPlace f))=true) (h11:((c.unfollowed==P.unfollowed f))=true) (h12:((c.recurses==P.recurses f))=true) (h13:((c.named==P.varsNamed f))=true) (h14:((c.maps==(fn.params.toList++s.plain.varTypes P).any (P.mapsRec ·)))=true) (h15:((c.ifaces==(fn.params.toList++s.plain.varTypes P).any (P.ifacesRec ·)))=true) (h16:((c.mapsOut==P.mapsAmong fn.resultTypes.toList))=true) (h17:((c.loops==(fn.params.toList++s.plain.varTypes P).any (P.loopsFrom ·)))=true) (h18:((c.wideKeys==(fn.params.toList++s.plain.varTypes P++fn.resultTypes.toList).any (P.wideKeysFrom ·)))=true) (h19:(s.vars.all (P.varReadable ·))=true) (h20:(fn.resultTypes.all (fun t=>P.readableRec t&&decide (t<P.types.size)))=true) (h21:((c.ifacesOut==fn.resultTypes.toList.any (P.ifacesRec ·)))=true) (h22:((c.loopsOut==fn.resultTypes.toList.any (P.loopsFrom ·)))=true) (h23:((c.plainKeys==P.plainKeys))=true) (h24:(c.shortTexts.isNone)=true) (h25:(P.stopsHeard)=true) (h26:(P.mayEnter)=true) (h27:((c.lifted==P.liftsFinal))=true) (h28:((P.make==some c.make))=true) (h29:((c.kinds==(if c.domain.isEmpty then[]else fn.params.toList.map fun t=>match P.underlying t with|some (.int k)=>some k| _=>none)))=true) (h30:((c.pinned==c.pinnedBy))=true) (h31:((c.veiled==(fn.params.toList++s.plain.varTypes P++fn.resultTypes.toList).any (P.veiledRec ·)))=true) (h32:(c.veiledFits P fn.params.toList (fn.params.toList++s.plain.varTypes P++fn.resultTypes.toList))=true):joinedFacts P f fn s c=true:=by
 unfold joinedFacts;simp only[aY];exact⟨⟨⟨⟨⟨⟨⟨⟨⟨⟨⟨⟨⟨⟨⟨⟨⟨⟨⟨⟨⟨⟨⟨⟨⟨⟨⟨⟨⟨⟨⟨h1,h2⟩,h3⟩,h4⟩,h5⟩,h6⟩,h7⟩,h8⟩,h9⟩,h10⟩,h11⟩,h12⟩,h13⟩,h14⟩,h15⟩,h16⟩,h17⟩,h18⟩,h19⟩,h20⟩,h21⟩,h22⟩,h23⟩,h24⟩,h25⟩,h26⟩,h27⟩,h28⟩,h29⟩,h30⟩,h31⟩,h32⟩
theorem Tp:joinedFacts Tryz.pinned.checked.prog 3 Tryz.f3 Rows.courtFoundsSpec Rows.courtFoundsRow=true:=IG jf1 jf2 jf3 jf4 jf5 jf6 jf7 jf8 jf9 Yk Yl Ym Yn Yo Yp Yq Yr Ys Yt Yu Yv Yw Yx Yy Yz YA YC YD YE YF YG YH
end Go.Proofs.YtfdjchnefpefbaaGreatDoor
