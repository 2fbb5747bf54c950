/-
  CONTRACTS WITH EFFECTS OUT OF THE LOGIC. Own work; generic over the program.
-/
import Derived.Test.YtjigfdhjmfcbpaaDomZ4
set_option linter.all false
namespace Go.Dom
open Go.RowKit

section
variable {P : Program}

theorem EvA.of_aw {f : FuncId} {fn : Func} {code : Code} {sc : SC} {rs : List SRes} (hm : P.follows .mixedOrders = true) (hent : Enters P f f) (hfn : P.funcs[f]? = some fn) (hbody : fn.body = some code) (hcomp : comp P fn.ntmps code = some sc) (hres : compRes P fn.results.toList = some rs)
    {obs : List AObj} {args : List AV} {fs : List (Option (Option AObj))} {j : Option Nat} {nw : Option AObj} {v : AV} (hlen : args.length ≤ fn.ntmps) (h : aw P sc (RetA rs obs fs j nw v) ⟨args.mapIdx (fun i x => (i, x)), obs.mapIdx (fun i x => (i, x)), 1000⟩)
    {ns : List Nat} {nm : Nat} {obsA : List AObj} {avs : List AV} {v' : AV} {up : List (Nat × Option AObj)} (hns : ns.length ≤ 1000) (hnd : ns.Nodup) (hln : ns.length = obsA.length) (hob : mapO (AObj.ren (ixOf ns)) obsA = some obs) (hav : mapO (AV.ren (ixOf ns)) avs = some args)
    (hv : v.ren (bkOf ns nm) = some v') (hup : upsOf ns nm fs nw = some up) : EvA P f nm (ns.zip obsA) avs v' up := by
  refine ⟨f, hent, fun C hf wr w base vs hC hwr hbase hhs hnm hargs => ?_⟩
  have hlive : ∀ (i n : Nat) (o : AObj), ns[i]? = some n → obsA[i]? = some o → hf n = some o := by
    intro i n o h1 h2
    exact hhs (n, o) (List.mem_of_getElem? (i := i) (by rw [List.getElem?_zip_eq_some]; exact ⟨h1, h2⟩))
  have hol : obs.length = ns.length := by have := (mapO_some hob).1; omega
  let E : Env := ⟨w, C.rd, wrIn C ns w, fn.ntmps, C.enter ns, [], fun n hn => Nat.lt_of_lt_of_le hn hns⟩
  refine calls_of_wp hfn hbody ?_
  obtain ⟨m1, m2⟩ := mapO_some hav
  have hvl : vs.length = args.length := by rw [← m1]; exact hargs.1.symm
  have har : ∀ {x y : AV} {v : Value}, AR C x v → x.ren (ixOf ns) = some y → AR (C.enter ns) y v := by
    intro x y v hx hy
    refine AR.ren (C := C) (D := C.enter ns) (fun n m hnm _ => ?_) (fun n m hnm d hd => ?_) (fun _ _ _ h => h) hx y hy
    · exact (List.getElem?_eq_some_iff.1 (ixOf_some hnm)).1
    · have hi := ixOf_some hnm
      have gd : ns.getD m 0 = n := by simp [List.getD_eq_getElem?_getD, hi]
      simp only [Cx.enter, hi, Option.bind_some] at hd
      exact ⟨hd, by simp only [Cx.enter, gd], by simp only [Cx.enter, gd]⟩
  have hle1 : (C.enter ns).Le { C.enter ns with al := fun n => n < 1000 } := ⟨fun _ _ _ h => h, fun n hn => Nat.lt_of_lt_of_le hn hns, fun n _ d hd => ⟨d, hd, Nat.le_refl _, fun _ => ⟨rfl, rfl⟩⟩⟩
  have hE := hC.enter hnd hln hlive hob
  have hH1 : HR { C.enter ns with al := fun n => n < 1000 } (Dom.hget (obs.mapIdx fun i x => (i, x))) (wrIn C ns w) w :=
    ⟨hE.rdw, fun n ob hn => ⟨hle1.al n (hE.live n ob hn).1, (hE.live n ob hn).2⟩, hE.dead, hE.sep, hE.inj, hE.wr, fun n ob hn => by
      obtain ⟨cs, el, h1, h2, h3, h4, h5⟩ := hE.obj n ob hn
      exact ⟨cs, el, h1, h2, h3, h4, fun k x v hx hv => (h5 k x v hx hv).mono hle1⟩, hE.typ⟩
  have hs0 : SRs E ⟨args.mapIdx (fun i x => (i, x)), obs.mapIdx (fun i x => (i, x)), 1000⟩ { tmps := vs.toArray ++ Array.replicate (fn.ntmps - vs.toArray.size) undef, defers := [] } w := by
    refine ⟨⟨{ C.enter ns with al := fun n => n < 1000 }, fun _ => Iff.rfl, hH1, fun _ _ => rfl, ⟨Wf.refl _ _, hle1, ?_⟩, rfl, ?_, ?_⟩, ?_⟩
    · intro n ob hn
      rw [hget_mapIdx] at hn
      exact .inl ⟨by have := (List.getElem?_eq_some_iff.1 hn).1; simp only [E, Cx.enter]; omega, rfl⟩
    · show (vs.toArray ++ Array.replicate (fn.ntmps - vs.toArray.size) undef).size = fn.ntmps
      simp; omega
    · intro k
      refine AR.mono hle1 ?_
      show AR (C.enter ns) (tget (args.mapIdx fun i x => (i, x)) k) _
      rw [tget_mapIdx]
      by_cases hk : k < args.length
      · have e1 : args[k]? = some args[k] := by simp [hk]
        have e2 : avs[k]? = some (avs[k]'(by omega)) := List.getElem?_eq_getElem _
        obtain ⟨u, hu, hxu⟩ := hargs.get e2
        rw [List.getD_eq_getElem?_getD, e1, Option.getD_some]
        have e : (vs.toArray ++ Array.replicate (fn.ntmps - vs.toArray.size) undef).getD k undef = u := by
          rw [Array.getD_eq_getD_getElem?, Array.getElem?_append_left (by simpa using (List.getElem?_eq_some_iff.1 hu).1)]
          simp [hu]
        show AR (C.enter ns) args[k] ((vs.toArray ++ Array.replicate (fn.ntmps - vs.toArray.size) undef).getD k undef)
        rw [e]
        exact har hxu (m2 k _ _ e2 e1)
      · rw [List.getD_eq_getElem?_getD, List.getElem?_eq_none (by omega)]; exact .u _
    · intro n hn; simp only [E, Cx.enter] at hn; show n < 1000; omega
  refine wp_mono (aw_ok (E := E) hm (fun b hb => .inl hb) code sc hcomp _ _ _ _ h hs0) ?_
  rintro e a' w' ⟨x, s, hxr, ⟨hx, hq, hfin, hnw⟩, hsr⟩
  obtain ⟨⟨D, hal, hD, hrd', ⟨hwf, hle, hst⟩, hdf, hsz, htm⟩, -⟩ := hsr
  split at hq
  · rename_i l p hl
    obtain ⟨hp, hq⟩ := hq
    split at hq
    · rename_i l' hl'
      have L : Left C D hf (Dom.hget s.h) wr w w' ns nm j := by
        refine ⟨hC, hD, hnd, ?_, hnm, hrd', hwf, hle, hst, ?_⟩
        · intro n hn
          obtain ⟨i, hi, rfl⟩ := List.getElem_of_mem hn
          exact ⟨_, hlive i _ _ (List.getElem?_eq_getElem hi) (List.getElem?_eq_getElem (by omega))⟩
        · intro n hj
          subst hj
          cases nw with
          | none => simp [finN] at hnw
          | some o => rw [← hol]; exact hnw.1
      rw [hol] at hfin hnw hl'
      have H := L.heap2 hln hlive hob hfin hnw hup
      obtain ⟨us, hus, hrel⟩ := res_okA (P := P) hD htm fn.results.toList rs hres l p hl hp
      have hrun : (results fn a'.tmps).run P w' = .ok (if h : us.length = 1 then us[0] else .tuple us.toArray) w' := by
        have key : results fn a'.tmps = (Functor.map List.toArray (fn.results.toList.mapM (fun
            | .tmp t => pure (a'.tmps.getD t undef)
            | .cell q ty => do loadVar ty (← asAddr (a'.tmps.getD q undef)) : ResultVar → Sem Value))) >>= fun vs => pure (if h : vs.size = 1 then vs[0] else .tuple vs) := by
          unfold results; rw [Array.mapM_eq_mapM_toList]; rfl
        have hus2 : (fn.results.toList.mapM (fun
            | .tmp t => pure (a'.tmps.getD t undef)
            | .cell q ty => do loadVar ty (← asAddr (a'.tmps.getD q undef)) : ResultVar → Sem Value)).run P w' = .ok us w' := hus
        rw [key]
        simp only [Sem.run_bind, Sem.run_map, hus2, Result.andThen, Sem.run_pure]
        by_cases h1 : us.length = 1
        · simp [h1]
        · simp [h1]
      obtain ⟨n1, n2⟩ := mapO_some hl'
      have hval : AR (C.leave D ns nm j (Dom.hget s.h) w w') v' (if h : us.length = 1 then us[0] else .tuple us.toArray) := by
        rw [← hq] at hv
        unfold mkResA at hv
        split at hv
        · rename_i y
          have hl1 : l.length = 1 := by simpa using n1
          obtain ⟨x0, rfl⟩ := List.length_eq_one_iff.1 hl1
          obtain ⟨u, us', rfl, hu, hnil⟩ := hrel.uncons
          have := hnil.nil_inv; subst this
          exact L.outV hu (n2 0 x0 y rfl rfl) hv
        · rename_i hne
          have hl1 : us.length ≠ 1 := by
            intro h1
            have := hrel.1
            have h2 : l'.length = 1 := by omega
            obtain ⟨y, rfl⟩ := List.length_eq_one_iff.1 h2
            exact hne y rfl
          rw [dif_neg hl1]
          simp only [AV.ren] at hv
          split at hv
          · rename_i l'' hl''
            simp only [Option.some.injEq] at hv; subst hv
            obtain ⟨r1, r2⟩ := renL_some hl''
            refine .tup l'' us (by have := hrel.1; omega) fun k a u ha hu => ?_
            have hk := (List.getElem?_eq_some_iff.1 ha).1
            have e1 : l[k]? = some (l[k]'(by omega)) := List.getElem?_eq_getElem _
            have e2 : l'[k]? = some (l'[k]'(by omega)) := List.getElem?_eq_getElem _
            exact L.outV (hrel.2 k _ u e1 hu) (n2 k _ _ e1 e2) (r2 k _ a e2 ha)
          · cases hv
      have fin : ∃ val C', Ending.returned (if h : us.length = 1 then us[0] else .tuple us.toArray) = .returned val ∧ AR C' v' val ∧ HR C' (updF hf up) wr w' ∧ C.Le C' ∧ (∀ n, C'.al n ↔ C.al n ∨ n = nm) ∧ Wf wr w w' ∧ (∀ b, b < base → C'.rd b = C.rd b) ∧ Stay base C C' hf (updF hf up) := by
        refine ⟨_, C.leave D ns nm j (Dom.hget s.h) w w', rfl, hval, L.heap (fun b hb => hwr b (Nat.le_trans hbase hb)) H, L.leC, fun _ => Iff.rfl, ⟨hwf.os, hwf.tape, hwf.output, hwf.size, fun b hb hnw => hwf.blk b hb fun hin => hnw (L.wrOf (fun b hb => hwr b (Nat.le_trans hbase hb)) hin)⟩, ?_, L.stay hbase H⟩
        intro b hb
        funext o
        have : b < w.heap.size := Nat.lt_of_lt_of_le hb hbase
        simp [Cx.leave, this]
      cases hxr with
      | normal => exact ⟨hdf, _, hrun, fin⟩
      | ret => exact ⟨hdf, _, hrun, fin⟩
      | exit id => exact hx.elim
    · exact hq.elim
  · exact hq.elim

end
end Go.Dom
