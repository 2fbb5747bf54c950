/-
  THE LOGIC IN USE: contracts of functions; small laws for the walk. Own work; generic over the program.
-/
import Derived.Test.YtjigfdhjmfcbpaaDomW
set_option linter.all false
namespace Go.Dom
open Go.RowKit

theorem EvP.mk' {P : Program} {f : FuncId} {fn : Func} {sc : SC} {rs : List SRes} (hm : P.follows .mixedOrders = true) (hent : Enters P f f) (hfn : P.funcs[f]? = some fn) (hb : fn.body.isSome = true) (hc : comp P fn.ntmps (fn.body.getD .skip) = some sc) (hr : compRes P fn.results.toList = some rs)
    {args : List PV} {r : PV} (hlen : args.length ≤ fn.ntmps) (h : aw P sc (RetQ rs r) ⟨args.mapIdx (fun i x => (i, .v x)), [], 1000⟩) : EvP P f args r := by
  obtain ⟨code, hcode⟩ := Option.isSome_iff_exists.1 hb
  rw [hcode] at hc
  exact EvP.of_aw hm hent hfn hcode hc hr hlen h

/-- A pure call in a walk. -/
theorem call_pure {P : Program} {nm : Nat} {h : List (Nat × AObj)} {f : FuncId} {avs : List AV} {pvs : List PV} {r : PV} {K : AO → Prop} (he : EvP P f pvs r) (ha : pvArgs avs = some pvs) (hK : K ⟨.v r, True, [], []⟩) :
    CallW P nm h (.v (.fn (.func f))) avs K := ⟨_, .pure f pvs r rfl ha he, hK⟩

theorem call_view {P : Program} {nm : Nat} {h : List (Nat × AObj)} {f : FuncId} {avs : List AV} {pvs : List PV} {r : PV} {K : AO → Prop} (he : EvP P f pvs r) (ha : mapO (view (hget h) 9) avs = some pvs) (hr : r.flat = true) (hK : K ⟨.v r, True, avs.flatMap (viewN (hget h) 9), []⟩) :
    CallW P nm h (.v (.fn (.func f))) avs K := ⟨_, .view f pvs r rfl ha hr he, hK⟩

end Go.Dom
